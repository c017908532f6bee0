/- The walks of the layer transfer: Have, Done, Back, Ack. -/
import Derived.Test.YtmmacjjmkaeakaaSWords
import Derived.Test.YtmmacjjmkaeakaaRegF
import Derived.Deep.CutRange
import Derived.Lib.Hide
namespace Go.Proofs.Ytmmacjjmkaeakaa
open Go.RowKit
set_option linter.unusedVariables false
variable {w : World} {base r : Nat} {v : Value} {bb : Nat} {t : ByteArray} {size k : Nat} {id win hv sent : Int}
theorem have_ok (H : Snd w base r v bb t size k id win hv sent) (hk : 0 < k) :
    Calls Try.prog 22 #[.pointer (some ⟨r, 0, none⟩)] w fun e w' => e = .returned (.int .i64 hv) ∧ w' = w := by
  have M := hide (made_ok H hk)
  have a3 := H.a3
  clear H
  go_enter Try.func22, Try.ntmps22
  go_wp2_with fail
  refine M.out.mono ?_
  rintro e w' ⟨rfl, rfl⟩
  go_wp2_with fail
  go_ret
  exact ⟨rfl, rfl⟩
theorem have_none (w : World) : Calls Try.prog 22 #[.pointer none] w fun e w' => e = .returned (.int .i64 0) ∧ w' = w := by
  have M := hide (made_none w)
  go_enter Try.func22, Try.ntmps22
  go_wp2_with fail
  refine M.out.mono ?_
  rintro e w' ⟨rfl, rfl⟩
  go_wp2_with fail
  go_ret
  exact ⟨rfl, rfl⟩
theorem back_ok (H : Snd w base r v bb t size k id win hv sent) (hk : 0 < k) :
    Calls Try.prog 20 #[.pointer (some ⟨r, 0, none⟩)] w fun e w' => e = .returned (.tuple #[]) ∧ Snd w' base r v bb t size k id win hv hv ∧ Upd w w' [r] := by
  have M := hide (made_ok H hk)
  have a3 := H.a3
  have a4 := H.a4
  have g4 := H.head.frozen 4
  replace H := hide H
  go_enter Try.func20, Try.ntmps20
  go_wp2_with fail
  refine M.out.mono ?_
  rintro e w' ⟨rfl, rfl⟩
  go_wp2_with fail
  refine bodyPost_end (results_none rfl _ _ _) rfl ?_
  exact ⟨rfl, H.out.put4 _, (Upd.refl _ _).setCell (p := ⟨r, 4, none⟩) (by simp) _⟩
theorem back_none (w : World) : Calls Try.prog 20 #[.pointer none] w fun e w' => e = .returned (.tuple #[]) ∧ w' = w := by
  have M := hide (made_none w)
  go_enter Try.func20, Try.ntmps20
  go_wp2_with fail
  refine M.out.mono ?_
  rintro e w' ⟨rfl, rfl⟩
  go_wp2_with fail
  refine bodyPost_end (results_none rfl _ _ _) rfl ?_
  exact ⟨rfl, rfl⟩
theorem done_ok (H : Snd w base r v bb t size k id win hv sent) (hk : 0 < k) :
    Calls Try.prog 17 #[.pointer (some ⟨r, 0, none⟩)] w fun e w' => e = .returned (.bool (decide (hv = k))) ∧ ∃ n, w' = w.drewN n := by
  have M := hide (fun n => made_ok (H.upd0 ((Upd.refl w []).drewN n)) hk)
  have a3 := H.a3
  have a1 := H.a1
  obtain ⟨ga, c, hv1, _⟩ := H.form
  subst hv1
  clear H
  go_enter Try.func17, Try.ntmps17
  go_wp2_with fail
  go_quiet ((go_at_call 26; exact Calls.quiet_of_same (M.out _)))
  go_wp2_with fail
  go_ret
  exact ⟨rfl, _, rfl⟩
theorem done_none (w : World) : Calls Try.prog 17 #[.pointer none] w fun e w' => e = .returned (.bool false) ∧ ∃ n, w' = w.drewN n := by
  have M := hide (fun n => made_none (w.drewN n))
  go_enter Try.func17, Try.ntmps17
  go_wp2_with fail
  go_quiet ((go_at_call 26; exact Calls.quiet_of_same (M.out _)))
  go_wp2_with fail
  go_ret
  exact ⟨rfl, _, rfl⟩
theorem ack_none (i n : Int) (w : World) : Calls Try.prog 16 #[.pointer none, .int .i64 i, .int .i64 n] w fun e w' => e = .returned (.int .i64 1) ∧ w' = w := by
  have M := hide (made_none w)
  go_enter Try.func16, Try.ntmps16
  go_wp2_with fail
  refine M.out.mono ?_
  rintro e w' ⟨rfl, rfl⟩
  go_wp2_with fail
  go_ret
  exact ⟨rfl, rfl⟩
/-- what Ack answers -/
def ackE (id : Int) (k : Nat) (i n : Int) : Int := if i ≠ id then 71 else if n < 0 ∨ (k : Int) < n then 2 else 0
/-- what is known to be there, and what is sent, behind it -/
def ackH (id : Int) (k : Nat) (hv i n : Int) : Int := if ackE id k i n = 0 then max hv n else hv
def ackS (id : Int) (k : Nat) (hv sent i n : Int) : Int := if ackE id k i n = 0 then max sent (max hv n) else sent
set_option maxHeartbeats 2000000 in
theorem ack_ok (i n : Int) (H : Snd w base r v bb t size k id win hv sent) (hk : 0 < k) :
    Calls Try.prog 16 #[.pointer (some ⟨r, 0, none⟩), .int .i64 i, .int .i64 n] w fun e w' => e = .returned (.int .i64 (ackE id k i n)) ∧ Snd w' base r v bb t size k id win (ackH id k hv i n) (ackS id k hv sent i n) ∧ Upd w w' [r] := by
  have M := hide (made_ok H hk)
  have a0 := H.a0
  have a1 := H.a1
  have a3 := H.a3
  have a4 := H.a4
  have g3 := H.head.frozen 3
  obtain ⟨ga, c, hv1, _⟩ := H.form
  subst hv1
  replace H := hide H
  by_cases h0 : i = id
  · have b0 : (i == id) = true := by simp [h0]
    by_cases h1 : n < 0
    · have e1 := hide (show ackE id k i n = 2 by simp [ackE, h0, h1])
      replace h0 := hide h0
      go_enter Try.func16, Try.ntmps16
      go_wp2_with fail
      refine M.out.mono ?_
      rintro e w' ⟨rfl, rfl⟩
      go_wp2_with fail
      go_ret
      exact ⟨by rw [e1.out]; rfl, by simpa [ackH, ackS, e1.out] using H.out, Upd.refl _ _⟩
    · by_cases h2 : (k : Int) < n
      · have e1 := hide (show ackE id k i n = 2 by simp [ackE, h0, h2])
        replace h0 := hide h0
        go_enter Try.func16, Try.ntmps16
        go_wp2_with fail
        refine M.out.mono ?_
        rintro e w' ⟨rfl, rfl⟩
        go_wp2_with fail
        go_ret
        exact ⟨by rw [e1.out]; rfl, by simpa [ackH, ackS, e1.out] using H.out, Upd.refl _ _⟩
      · have e1 := hide (show ackE id k i n = 0 by simp [ackE, h0, h1, h2])
        replace h0 := hide h0
        by_cases h3 : hv < n
        · have e2 := hide (show ackH id k hv i n = n by simp [ackH, e1.out]; omega)
          by_cases h4 : sent < n
          · have e3 := hide (show ackS id k hv sent i n = n by simp [ackS, e1.out]; omega)
            go_enter Try.func16, Try.ntmps16
            go_wp2_with fail
            refine M.out.mono ?_
            rintro e w' ⟨rfl, rfl⟩
            go_wp2_with fail
            have H2 := H.out.put3 n
            have U2 : Upd w' (w'.setCell ⟨r, 3, none⟩ (.int .i64 n)) [r] := (Upd.refl _ _).setCell (p := ⟨r, 3, none⟩) (by simp) _
            generalize w'.setCell ⟨r, 3, none⟩ (.int .i64 n) = w2 at *
            have b3 := H2.a3
            have b4 := H2.a4
            have g4 := H2.head.frozen 4
            replace H2 := hide H2
            replace U2 := hide U2
            clear a0 a1 a3 a4 g3
            go_region
            go_wp2_with fail
            go_ret
            have H3 := (H2.out.put4 n).upd0 ((Upd.refl _ _).drew)
            exact ⟨by rw [e1.out]; rfl, by rw [e2.out, e3.out]; exact H3, (U2.out.setCell (p := ⟨r, 4, none⟩) (by simp) _).drew⟩
          · have e3 := hide (show ackS id k hv sent i n = sent by simp [ackS, e1.out]; omega)
            go_enter Try.func16, Try.ntmps16
            go_wp2_with fail
            refine M.out.mono ?_
            rintro e w' ⟨rfl, rfl⟩
            go_wp2_with fail
            have H2 := H.out.put3 n
            have U2 : Upd w' (w'.setCell ⟨r, 3, none⟩ (.int .i64 n)) [r] := (Upd.refl _ _).setCell (p := ⟨r, 3, none⟩) (by simp) _
            generalize w'.setCell ⟨r, 3, none⟩ (.int .i64 n) = w2 at *
            have b3 := H2.a3
            have b4 := H2.a4
            have g4 := H2.head.frozen 4
            replace H2 := hide H2
            replace U2 := hide U2
            clear a0 a1 a3 a4 g3
            go_region
            go_wp2_with fail
            go_ret
            have H3 := (H2.out.put4 sent).upd0 ((Upd.refl _ _).drew)
            exact ⟨by rw [e1.out]; rfl, by rw [e2.out, e3.out]; exact H3, (U2.out.setCell (p := ⟨r, 4, none⟩) (by simp) _).drew⟩
        · have e2 := hide (show ackH id k hv i n = hv by simp [ackH, e1.out]; omega)
          by_cases h4 : sent < hv
          · have e3 := hide (show ackS id k hv sent i n = hv by simp [ackS, e1.out]; omega)
            go_enter Try.func16, Try.ntmps16
            go_wp2_with fail
            refine M.out.mono ?_
            rintro e w' ⟨rfl, rfl⟩
            go_wp2_with fail
            have H2 := H.out.put3 hv
            have U2 : Upd w' (w'.setCell ⟨r, 3, none⟩ (.int .i64 hv)) [r] := (Upd.refl _ _).setCell (p := ⟨r, 3, none⟩) (by simp) _
            generalize w'.setCell ⟨r, 3, none⟩ (.int .i64 hv) = w2 at *
            have b3 := H2.a3
            have b4 := H2.a4
            have g4 := H2.head.frozen 4
            replace H2 := hide H2
            replace U2 := hide U2
            clear a0 a1 a3 a4 g3
            go_region
            go_wp2_with fail
            go_ret
            have H3 := (H2.out.put4 hv).upd0 ((Upd.refl _ _).drew)
            exact ⟨by rw [e1.out]; rfl, by rw [e2.out, e3.out]; exact H3, (U2.out.setCell (p := ⟨r, 4, none⟩) (by simp) _).drew⟩
          · have e3 := hide (show ackS id k hv sent i n = sent by simp [ackS, e1.out]; omega)
            go_enter Try.func16, Try.ntmps16
            go_wp2_with fail
            refine M.out.mono ?_
            rintro e w' ⟨rfl, rfl⟩
            go_wp2_with fail
            have H2 := H.out.put3 hv
            have U2 : Upd w' (w'.setCell ⟨r, 3, none⟩ (.int .i64 hv)) [r] := (Upd.refl _ _).setCell (p := ⟨r, 3, none⟩) (by simp) _
            generalize w'.setCell ⟨r, 3, none⟩ (.int .i64 hv) = w2 at *
            have b3 := H2.a3
            have b4 := H2.a4
            have g4 := H2.head.frozen 4
            replace H2 := hide H2
            replace U2 := hide U2
            clear a0 a1 a3 a4 g3
            go_region
            go_wp2_with fail
            go_ret
            have H3 := (H2.out.put4 sent).upd0 ((Upd.refl _ _).drew)
            exact ⟨by rw [e1.out]; rfl, by rw [e2.out, e3.out]; exact H3, (U2.out.setCell (p := ⟨r, 4, none⟩) (by simp) _).drew⟩
  · have b0 : (i == id) = false := beq_false_of_ne h0
    have e1 := hide (show ackE id k i n = 71 by simp [ackE, h0])
    replace h0 := hide h0
    go_enter Try.func16, Try.ntmps16
    go_wp2_with fail
    refine M.out.mono ?_
    rintro e w' ⟨rfl, rfl⟩
    go_wp2_with fail
    go_ret
    exact ⟨by rw [e1.out]; rfl, by simpa [ackH, ackS, e1.out] using H.out, Upd.refl _ _⟩
end Go.Proofs.Ytmmacjjmkaeakaa
