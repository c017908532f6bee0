/- The walks of the layer transfer: the document's Next, where there is none. (Printed by gen28rnext.py.) -/
import Derived.Test.YtmmacjjmkaeakaaDsnA
namespace Go.Proofs.Ytmmacjjmkaeakaa
open Go.RowKit
set_option linter.unusedVariables false
set_option linter.unusedSimpArgs false
variable {q : Nat} {id win hv sent : Int} {size k : Nat} {t : ByteArray}
/-- the result that lies in a cell of type 35, and the one behind it -/
theorem results_rc {tmps : Array Value} {w : World} {pb : Nat} {F : Array Value} (hB : Blk w pb 35 F) (hF : F.size = 4) (hp : tmps.getD 2 undef = .pointer (some ⟨pb, 0, none⟩)) :
    (results Try.f21 tmps).run Try.prog w = .ok (.tuple #[.agg F, tmps.getD 3 undef]) w := by
  have hp' : tmps[2]?.getD undef = .pointer (some ⟨pb, 0, none⟩) := by simpa using hp
  have hL : (loadVar 35 ⟨pb, 0, none⟩).run Try.prog w = .ok (.agg F) w := by
    rw [run_load_agg (n := 4) Try.underlying35 rfl (by kernel_rfl), hB.agg0 hF]
  rw [results_cell_tmp (fn := Try.f21) (p := 2) (u := 3) (ty := 35) rfl]
  simp [hp', asAddr, hL, Result.andThen]
theorem Blk.put4r {w : World} {pb : Nat} {a b c d a' b' c' d' : Value} (hB : Blk w pb 35 #[a, b, c, d]) :
    Blk ((((w.setCell ⟨pb, 0, none⟩ a').setCell ⟨pb, 1, none⟩ b').setCell ⟨pb, 2, none⟩ c').setCell ⟨pb, 3, none⟩ d') pb 35 #[a', b', c', d'] :=
  (((hB.set_ 0 a').set_ 1 b').set_ 2 c').set_ 3 d'
set_option maxHeartbeats 4000000 in
theorem rnext_no (w : World) (H : Blk w q 57 (dsnC id size win hv sent t)) (h0 : 0 < size) (hc : Cut t.size size k) (hs : size ≤ 1000000) (ht : t.size ≤ 1000000000) (v0 : 0 ≤ hv) (v1 : hv ≤ 100000) (n0 : 0 ≤ win) (n1 : win ≤ 100000) (h4 : sent = k ∨ hv + win ≤ sent) :
    Calls Try.prog 21 #[.pointer (some ⟨q, 0, none⟩)] w fun e w' => e = .returned (.tuple #[.agg #[.int .i64 0, .int .i64 0, .int .i64 0, .string ⟨#[]⟩], .bool false]) ∧ Upd w w' [] := by
  have wr : IntKind.i64.wrap (hv + win) = hv + win := IntWalk.i64_in _ (by omega)
  have B := hide (Blk.new w 35 #[.int .i64 0, .int .i64 0, .int .i64 0, .string ⟨#[]⟩])
  have U := hide ((Upd.refl w []).alloc (.cells #[.int .i64 0, .int .i64 0, .int .i64 0, .string ⟨#[]⟩] 35))
  have H1 := hide (U.out.blk H (by simp))
  have qp : q ≠ w.heap.size := by have := H.lt; omega
  have T := hide (fun n => rtotal_ok (k := k) _ (H1.out.drewN n) h0 hc hs ht)
  have a0 : (w.alloc (.cells #[.int .i64 0, .int .i64 0, .int .i64 0, .string ⟨#[]⟩] 35)).cell? ⟨q, 0, none⟩ = some (.int .i64 id) := by rw [H1.out.cell]; rfl
  have a1 : (w.alloc (.cells #[.int .i64 0, .int .i64 0, .int .i64 0, .string ⟨#[]⟩] 35)).cell? ⟨q, 1, none⟩ = some (.int .i64 size) := by rw [H1.out.cell]; rfl
  have a2 : (w.alloc (.cells #[.int .i64 0, .int .i64 0, .int .i64 0, .string ⟨#[]⟩] 35)).cell? ⟨q, 2, none⟩ = some (.int .i64 win) := by rw [H1.out.cell]; rfl
  have a3 : (w.alloc (.cells #[.int .i64 0, .int .i64 0, .int .i64 0, .string ⟨#[]⟩] 35)).cell? ⟨q, 3, none⟩ = some (.int .i64 hv) := by rw [H1.out.cell]; rfl
  have a4 : (w.alloc (.cells #[.int .i64 0, .int .i64 0, .int .i64 0, .string ⟨#[]⟩] 35)).cell? ⟨q, 4, none⟩ = some (.int .i64 sent) := by rw [H1.out.cell]; rfl
  have a5 : (w.alloc (.cells #[.int .i64 0, .int .i64 0, .int .i64 0, .string ⟨#[]⟩] 35)).cell? ⟨q, 5, none⟩ = some (.string t) := by rw [H1.out.cell]; rfl
  replace qp := hide qp
  clear H hc
  by_cases h5 : sent = (k : Int)
  · have b1 : (sent == (k : Int)) = true := by simp [h5]
    replace h4 := hide h4
    replace h5 := hide h5
    go_enter Try.func21, Try.ntmps21
    go_wp2_with fail
    generalize w.alloc (.cells #[.int .i64 0, .int .i64 0, .int .i64 0, .string ⟨#[]⟩] 35) = w1 at *
    go_quiet ((go_at_call 23; exact Calls.quiet_of (T.out _)))
    have B2 := B.out.drewN nq
    have U2 := hide (U.out.drewN nq)
    clear T B U a0 a1 a2 a3 a4 a5 H1
    generalize w1.drewN nq = w2 at *
    generalize hpb : w.heap.size = pb at *
    replace hpb := hide hpb
    have c0 : w2.cell? ⟨pb, 0, none⟩ = some (.int .i64 0) := by rw [B2.cell]; rfl
    have c1 : w2.cell? ⟨pb, 1, none⟩ = some (.int .i64 0) := by rw [B2.cell]; rfl
    have c2 : w2.cell? ⟨pb, 2, none⟩ = some (.int .i64 0) := by rw [B2.cell]; rfl
    have c3 : w2.cell? ⟨pb, 3, none⟩ = some (.string ⟨#[]⟩) := by rw [B2.cell]; rfl
    have g0 := B2.frozen 0
    have g1 := B2.frozen 1
    have g2 := B2.frozen 2
    have g3 := B2.frozen 3
    replace B2 := hide B2
    go_wp2_with fail
    refine bodyPost_ret (results_rc (Blk.put4r B2.out) rfl rfl) rfl ?_
    exact ⟨rfl, upd_put4 _ _ _ _ U2.out (by have := hpb.out; omega)⟩
  · have b1 : (sent == (k : Int)) = false := beq_false_of_ne h5
    have d1 : decide (hv + win ≤ sent) = true := by simp; omega
    replace h4 := hide h4
    replace h5 := hide h5
    go_enter Try.func21, Try.ntmps21
    go_wp2_with fail
    generalize w.alloc (.cells #[.int .i64 0, .int .i64 0, .int .i64 0, .string ⟨#[]⟩] 35) = w1 at *
    go_quiet ((go_at_call 23; exact Calls.quiet_of (T.out _)))
    have B2 := B.out.drewN nq
    have U2 := hide (U.out.drewN nq)
    clear T B U a0 a1 a2 a3 a4 a5 H1
    generalize w1.drewN nq = w2 at *
    generalize hpb : w.heap.size = pb at *
    replace hpb := hide hpb
    have c0 : w2.cell? ⟨pb, 0, none⟩ = some (.int .i64 0) := by rw [B2.cell]; rfl
    have c1 : w2.cell? ⟨pb, 1, none⟩ = some (.int .i64 0) := by rw [B2.cell]; rfl
    have c2 : w2.cell? ⟨pb, 2, none⟩ = some (.int .i64 0) := by rw [B2.cell]; rfl
    have c3 : w2.cell? ⟨pb, 3, none⟩ = some (.string ⟨#[]⟩) := by rw [B2.cell]; rfl
    have g0 := B2.frozen 0
    have g1 := B2.frozen 1
    have g2 := B2.frozen 2
    have g3 := B2.frozen 3
    replace B2 := hide B2
    go_wp2_with fail
    refine bodyPost_ret (results_rc (Blk.put4r B2.out) rfl rfl) rfl ?_
    exact ⟨rfl, upd_put4 _ _ _ _ U2.out (by have := hpb.out; omega)⟩
end Go.Proofs.Ytmmacjjmkaeakaa
