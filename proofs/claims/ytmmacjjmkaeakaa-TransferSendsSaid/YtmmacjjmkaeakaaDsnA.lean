/- The walks of the layer transfer: the document's sender: Ack, and Next where there is none. -/
import Derived.Test.YtmmacjjmkaeakaaDsn
import Derived.Test.YtmmacjjmkaeakaaNextN
namespace Go.Proofs.Ytmmacjjmkaeakaa
open Go.RowKit
set_option linter.unusedVariables false
set_option linter.unusedSimpArgs false
variable {q : Nat} {id win hv sent : Int} {size k : Nat} {t : ByteArray}
set_option maxHeartbeats 4000000 in
theorem rack_ok (i n : Int) (w : World) (H : Blk w q 57 (dsnC id size win hv sent t)) (h0 : 0 < size) (hc : Cut t.size size k) (hs : size ≤ 1000000) (ht : t.size ≤ 1000000000) :
    Calls Try.prog 19 #[.pointer (some ⟨q, 0, none⟩), .int .i64 i, .int .i64 n] w fun e w' => e = .returned (.int .i64 (ackE id k i n)) ∧ Blk w' q 57 (dsnC id size win (ackH id k hv i n) (ackS id k hv sent i n) t) ∧ Upd w w' [q] := by
  have a0 : w.cell? ⟨q, 0, none⟩ = some (.int .i64 id) := by rw [H.cell]; rfl
  have T := hide (fun m => rtotal_ok (k := k) (w.drewN m) (H.drewN m) h0 hc hs ht)
  have HH := hide H
  clear H hc
  by_cases h1 : i = id
  · have b1 : (i == id) = true := by simp [h1]
    have b2 : (i != id) = false := by simp [h1]
    replace h1 := hide h1
    by_cases h2 : n < 0
    · have d2 : decide (n < 0) = true := by simp [h2]
      have e1 := hide (show ackE id k i n = 2 by simp [ackE, h1.out, h2])
      have e2 := hide (show ackH id k hv i n = hv by simp [ackH, e1.out])
      have e3 := hide (show ackS id k hv sent i n = sent by simp [ackS, e1.out])
      clear h2
      go_enter Try.func19, Try.ntmps19
      go_wp2_with fail
      go_ret
      exact ⟨by rw [e1.out]; rfl, by rw [e2.out, e3.out]; exact HH.out, Upd.refl _ _⟩
    · have d2 : decide (n < 0) = false := by simp; omega
      by_cases h3 : (k : Int) < n
      · have d3 : decide ((k : Int) < n) = true := by simp [h3]
        have e1 := hide (show ackE id k i n = 2 by simp [ackE, h1.out, h3])
        have e2 := hide (show ackH id k hv i n = hv by simp [ackH, e1.out])
        have e3 := hide (show ackS id k hv sent i n = sent by simp [ackS, e1.out])
        clear h2 h3
        go_enter Try.func19, Try.ntmps19
        go_wp2_with fail
        refine (T.out 0).mono ?_
        rintro e w' ⟨rfl, m, rfl⟩
        have B2 := hide ((HH.out.drewN 0).drewN m)
        have U2 := hide (((Upd.refl w [q]).drewN 0).drewN m)
        clear T
        generalize (w.drewN 0).drewN m = w2 at *
        go_wp2_with fail
        go_ret
        exact ⟨by rw [e1.out]; rfl, by rw [e2.out, e3.out]; exact B2.out, U2.out⟩
      · have d3 : decide ((k : Int) < n) = false := by simp; omega
        have e1 := hide (show ackE id k i n = 0 by simp [ackE, h1.out]; omega)
        have e2 := hide (show ackH id k hv i n = max hv n by simp [ackH, e1.out])
        have e3 := hide (show ackS id k hv sent i n = max sent (max hv n) by simp [ackS, e1.out])
        clear h2 h3
        go_enter Try.func19, Try.ntmps19
        go_wp2_with fail
        refine (T.out 0).mono ?_
        rintro e w' ⟨rfl, m, rfl⟩
        have B2 := hide ((HH.out.drewN 0).drewN m)
        have U2 := hide (((Upd.refl w [q]).drewN 0).drewN m)
        clear T
        generalize (w.drewN 0).drewN m = w2 at *
        have c3 : w2.cell? ⟨q, 3, none⟩ = some (.int .i64 hv) := by rw [B2.out.cell]; rfl
        have f3 := B2.out.frozen 3
        by_cases h4 : hv < n
        · have d4 : decide (hv < n) = true := by simp [h4]
          have hm := hide (show max hv n = n by omega)
          go_wp2_with fail
          have B3 := hide (show Blk (w2.setCell ⟨q, 3, none⟩ (.int .i64 n)) q 57 (dsnC id size win n sent t) from B2.out.set_ 3 (.int .i64 n))
          have U3 := hide (U2.out.setCell (p := ⟨q, 3, none⟩) (by simp) (.int .i64 n))
          clear B2 U2 c3 f3
          generalize w2.setCell ⟨q, 3, none⟩ (.int .i64 n) = w3 at *
          have z3 : w3.cell? ⟨q, 3, none⟩ = some (.int .i64 n) := by rw [B3.out.cell]; rfl
          have z4 : w3.cell? ⟨q, 4, none⟩ = some (.int .i64 sent) := by rw [B3.out.cell]; rfl
          by_cases h5 : sent < n
          · have d5 : decide (sent < n) = true := by simp [h5]
            have mx := hide (show max sent (max hv n) = n by omega)
            clear h5
            go_quiet (fail)
            have B4 := hide (B3.out.drewN nq)
            have U4 := hide (U3.out.drewN nq)
            clear B3 U3 z3 z4
            generalize w3.drewN nq = w4 at *
            have z3 : w4.cell? ⟨q, 3, none⟩ = some (.int .i64 (n)) := by rw [B4.out.cell]; rfl
            have z4 : w4.cell? ⟨q, 4, none⟩ = some (.int .i64 sent) := by rw [B4.out.cell]; rfl
            have f4 := B4.out.frozen 4
            go_wp2_with fail
            go_ret
            refine ⟨by rw [e1.out]; rfl, ?_, U4.out.setCell (p := ⟨q, 4, none⟩) (by simp) _⟩
            rw [e2.out, e3.out, mx.out, hm.out]
            exact B4.out.set_ 4 (.int .i64 (n))
          · have d5 : decide (sent < n) = false := by simp; omega
            have mx := hide (show max sent (max hv n) = sent by omega)
            clear h5
            go_quiet (fail)
            go_wp2_with fail
            go_ret
            refine ⟨by rw [e1.out]; rfl, ?_, U3.out.drewN _⟩
            rw [e2.out, e3.out, mx.out, hm.out]
            exact B3.out.drewN _
        · have d4 : decide (hv < n) = false := by simp; omega
          have hm := hide (show max hv n = hv by omega)
          have B3 := B2
          have U3 := U2
          have z4 : w2.cell? ⟨q, 4, none⟩ = some (.int .i64 sent) := by rw [B3.out.cell]; rfl
          have z3 := c3
          clear B2 U2 f3 c3
          generalize w2 = w3 at *
          go_wp2_with fail
          by_cases h5 : sent < hv
          · have d5 : decide (sent < hv) = true := by simp [h5]
            have mx := hide (show max sent (max hv n) = hv by omega)
            clear h5
            go_quiet (fail)
            have B4 := hide (B3.out.drewN nq)
            have U4 := hide (U3.out.drewN nq)
            clear B3 U3 z3 z4
            generalize w3.drewN nq = w4 at *
            have z3 : w4.cell? ⟨q, 3, none⟩ = some (.int .i64 (hv)) := by rw [B4.out.cell]; rfl
            have z4 : w4.cell? ⟨q, 4, none⟩ = some (.int .i64 sent) := by rw [B4.out.cell]; rfl
            have f4 := B4.out.frozen 4
            go_wp2_with fail
            go_ret
            refine ⟨by rw [e1.out]; rfl, ?_, U4.out.setCell (p := ⟨q, 4, none⟩) (by simp) _⟩
            rw [e2.out, e3.out, mx.out, hm.out]
            exact B4.out.set_ 4 (.int .i64 (hv))
          · have d5 : decide (sent < hv) = false := by simp; omega
            have mx := hide (show max sent (max hv n) = sent by omega)
            clear h5
            go_quiet (fail)
            go_wp2_with fail
            go_ret
            refine ⟨by rw [e1.out]; rfl, ?_, U3.out.drewN _⟩
            rw [e2.out, e3.out, mx.out, hm.out]
            exact B3.out.drewN _
  · have b1 : (i == id) = false := beq_false_of_ne h1
    have b2 : (i != id) = true := by simp [h1]
    have e1 := hide (show ackE id k i n = 71 by simp [ackE, h1])
    have e2 := hide (show ackH id k hv i n = hv by simp [ackH, e1.out])
    have e3 := hide (show ackS id k hv sent i n = sent by simp [ackS, e1.out])
    replace h1 := hide h1
    go_enter Try.func19, Try.ntmps19
    go_wp2_with fail
    go_ret
    exact ⟨by rw [e1.out]; rfl, by rw [e2.out, e3.out]; exact HH.out, Upd.refl _ _⟩
end Go.Proofs.Ytmmacjjmkaeakaa
