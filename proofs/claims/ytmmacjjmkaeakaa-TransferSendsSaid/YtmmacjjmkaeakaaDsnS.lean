/- The walks of the layer transfer: the document's Next, where there is one. (Printed by gen28rnext.py.) -/
import Derived.Test.YtmmacjjmkaeakaaDsnN
import Derived.Test.YtmmacjjmkaeakaaRegF
namespace Go.Proofs.Ytmmacjjmkaeakaa
open Go.RowKit
set_option linter.unusedVariables false
set_option linter.unusedSimpArgs false
variable {q : Nat} {id win hv : Int} {size k : Nat} {t : ByteArray}
theorem ext_cut (t : ByteArray) (m hh : Nat) : t.extract m hh = ⟨((t.data.toList.drop m).take (hh - m)).toArray⟩ := by
  have e : (t.extract m hh).data.toList = (t.data.toList.drop m).take (hh - m) := by simp [List.extract]
  generalize hz : t.extract m hh = z at *
  cases z with
  | mk d =>
    congr 1
    rw [← e]
set_option maxHeartbeats 4000000 in
theorem rnext_ok (s : Nat) (w : World) (H : Blk w q 57 (dsnC id size win hv s t)) (h0 : 0 < size) (hc : Cut t.size size k) (hs : size ≤ 1000000) (ht : t.size ≤ 1000000000) (v0 : 0 ≤ hv) (v1 : hv ≤ 100000) (n0 : 0 ≤ win) (n1 : win ≤ 100000) (s1 : s < k) (s2 : (s : Int) < hv + win) :
    Calls Try.prog 21 #[.pointer (some ⟨q, 0, none⟩)] w fun e w' => e = .returned (.tuple #[.agg (⟨id, s, k, cutB t size s⟩ : Pc).cells, .bool true]) ∧ Blk w' q 57 (dsnC id size win hv ((s : Int) + 1) t) ∧ Upd w w' [q] := by
  have wr : IntKind.i64.wrap (hv + win) = hv + win := IntWalk.i64_in _ (by omega)
  have lo : s * size ≤ t.size := by
    obtain ⟨c1, c2, c3⟩ := hc
    rcases c3 with c3 | c3
    · have : s = 0 := by omega
      subst this; simp
    · have : s * size ≤ (k - 1) * size := Nat.mul_le_mul_right _ (by omega)
      omega
  have em : (s : Int) * (size : Int) = ((s * size : Nat) : Int) := by rw [Int.natCast_mul]
  have eB := hide (show cutB t size s = ⟨((t.data.toList.drop (s * size)).take (min (s * size + size) t.size - s * size)).toArray⟩ from rfl)
  generalize hm : s * size = m at *
  replace hm := hide hm
  have wm : IntKind.i64.wrap ((s : Int) * (size : Int)) = (m : Int) := by rw [em]; exact IntWalk.i64_in _ (by omega)
  have w5 : IntKind.i64.wrap ((s : Int) + 1) = (s : Int) + 1 := IntWalk.i64_in _ (by omega)
  have w6 : IntKind.i64.wrap (s : Int) = (s : Int) := IntWalk.i64_in _ (by omega)
  have w7 : IntKind.i64.wrap ((m : Int) + (size : Int)) = (m : Int) + (size : Int) := IntWalk.i64_in _ (by omega)
  replace em := hide em
  have B := hide (Blk.new w 35 #[.int .i64 0, .int .i64 0, .int .i64 0, .string ⟨#[]⟩])
  have U := hide ((Upd.refl w []).alloc (.cells #[.int .i64 0, .int .i64 0, .int .i64 0, .string ⟨#[]⟩] 35))
  have H1 := hide (U.out.blk H (by simp))
  have qp : q ≠ w.heap.size := by have := H.lt; omega
  have T := hide (fun n => rtotal_ok (k := k) _ (H1.out.drewN n) h0 hc hs ht)
  have a0 : (w.alloc (.cells #[.int .i64 0, .int .i64 0, .int .i64 0, .string ⟨#[]⟩] 35)).cell? ⟨q, 0, none⟩ = some (.int .i64 id) := by rw [H1.out.cell]; rfl
  have a1 : (w.alloc (.cells #[.int .i64 0, .int .i64 0, .int .i64 0, .string ⟨#[]⟩] 35)).cell? ⟨q, 1, none⟩ = some (.int .i64 size) := by rw [H1.out.cell]; rfl
  have a2 : (w.alloc (.cells #[.int .i64 0, .int .i64 0, .int .i64 0, .string ⟨#[]⟩] 35)).cell? ⟨q, 2, none⟩ = some (.int .i64 win) := by rw [H1.out.cell]; rfl
  have a3 : (w.alloc (.cells #[.int .i64 0, .int .i64 0, .int .i64 0, .string ⟨#[]⟩] 35)).cell? ⟨q, 3, none⟩ = some (.int .i64 hv) := by rw [H1.out.cell]; rfl
  have a4 : (w.alloc (.cells #[.int .i64 0, .int .i64 0, .int .i64 0, .string ⟨#[]⟩] 35)).cell? ⟨q, 4, none⟩ = some (.int .i64 s) := by rw [H1.out.cell]; rfl
  have a5 : (w.alloc (.cells #[.int .i64 0, .int .i64 0, .int .i64 0, .string ⟨#[]⟩] 35)).cell? ⟨q, 5, none⟩ = some (.string t) := by rw [H1.out.cell]; rfl
  have Q1 := hide (fun (W : World) (u : Blk W q 57 (dsnC id size win hv ((s : Int) + 1) t)) => rtotal_ok (k := k) W u h0 hc hs ht)
  clear H hc
  have b1 : ((s : Int) == (k : Int)) = false := beq_false_of_ne (by omega)
  have d1 : decide (hv + win ≤ (s : Int)) = false := by simp; omega
  go_enter Try.func21, Try.ntmps21
  go_wp2_with fail
  generalize w.alloc (.cells #[.int .i64 0, .int .i64 0, .int .i64 0, .string ⟨#[]⟩] 35) = w1 at *
  go_quiet ((go_at_call 23; exact Calls.quiet_of (T.out _)))
  have B2 := hide (B.out.drewN nq)
  have U2 := hide (U.out.drewN nq)
  have H2 := hide (H1.out.drewN nq)
  clear T B U a0 a1 a2 a3 a4 a5 H1
  generalize w1.drewN nq = w2 at *
  generalize hpb : w.heap.size = pb at *
  replace hpb := hide hpb
  have a0 : w2.cell? ⟨q, 0, none⟩ = some (.int .i64 id) := by rw [H2.out.cell]; rfl
  have a1 : w2.cell? ⟨q, 1, none⟩ = some (.int .i64 size) := by rw [H2.out.cell]; rfl
  have a2 : w2.cell? ⟨q, 2, none⟩ = some (.int .i64 win) := by rw [H2.out.cell]; rfl
  have a3 : w2.cell? ⟨q, 3, none⟩ = some (.int .i64 hv) := by rw [H2.out.cell]; rfl
  have a4 : w2.cell? ⟨q, 4, none⟩ = some (.int .i64 s) := by rw [H2.out.cell]; rfl
  have a5 : w2.cell? ⟨q, 5, none⟩ = some (.string t) := by rw [H2.out.cell]; rfl
  go_wp2_with fail
  go_quiet (fail)
  have B3 := hide (B2.out.drewN nq)
  have U3 := hide (U2.out.drewN nq)
  have H3 := hide (H2.out.drewN nq)
  clear B2 U2 H2 a0 a1 a2 a3 a4 a5
  generalize w2.drewN nq = w3 at *
  have a4 : w3.cell? ⟨q, 4, none⟩ = some (.int .i64 s) := by rw [H3.out.cell]; rfl
  have f4 := H3.out.frozen 4
  go_wp2_with fail
  have H4 := hide (show Blk (w3.setCell ⟨q, 4, none⟩ (.int .i64 ((s : Int) + 1))) q 57 (dsnC id size win hv ((s : Int) + 1) t) from H3.out.set_ 4 _)
  have B4 : Hid (Blk (w3.setCell ⟨q, 4, none⟩ (.int .i64 ((s : Int) + 1))) pb 35 _) := Lib.hid (B3.out.far (p := ⟨q, 4, none⟩) (Ne.symm qp) _)
  have U4 := hide ((U3.out.mono (S' := [q]) (by simp)).setCell (p := ⟨q, 4, none⟩) (by simp) (.int .i64 ((s : Int) + 1)))
  clear B3 U3 H3 a4 f4
  generalize w3.setCell ⟨q, 4, none⟩ (.int .i64 ((s : Int) + 1)) = w4 at *
  have hmin : (if (t.size : Int) < (m : Int) + (size : Int) then (t.size : Int) else (m : Int) + (size : Int)) = ((min (m + size) t.size : Nat) : Int) := by split <;> omega
  have hh0 : (m : Int) ≤ ((min (m + size) t.size : Nat) : Int) := by omega
  have hh1 : ((min (m + size) t.size : Nat) : Int) ≤ (t.size : Int) := by omega
  have hh2 : m ≤ min (m + size) t.size := by omega
  have hh3 : min (m + size) t.size ≤ t.size := by omega
  generalize min (m + size) t.size = hh at *
  refine F_start 31 (fun w' => w'.cell? ⟨q, 0, none⟩ = some (.int .i64 id) ∧ w'.cell? ⟨q, 1, none⟩ = some (.int .i64 size) ∧ w'.cell? ⟨q, 4, none⟩ = some (.int .i64 ((s : Int) + 1)) ∧ w'.cell? ⟨q, 5, none⟩ = some (.string t)) (by kernel_rfl) ?_
  have hS : w4.drew.cell? ⟨q, 0, none⟩ = some (.int .i64 id) ∧ w4.drew.cell? ⟨q, 1, none⟩ = some (.int .i64 size) ∧ w4.drew.cell? ⟨q, 4, none⟩ = some (.int .i64 ((s : Int) + 1)) ∧ w4.drew.cell? ⟨q, 5, none⟩ = some (.string t) :=
    ⟨by rw [H4.out.drew.cell]; rfl, by rw [H4.out.drew.cell]; rfl, by rw [H4.out.drew.cell]; rfl, by rw [H4.out.drew.cell]; rfl⟩
  refine F_take (i := 0) [30, 29, 3, 2, 1] (v := ?_) rfl (by kernel_rfl) (by kernel_rfl) (by kernel_rfl) (by kernel_rfl) (fun _ _ _ h => h) rfl ?_ hS ?_
  rotate_left
  · intro w hSw
    try dsimp only at hSw
    go_simp
    try with_reducible rfl
  try simp only [Act.put, List.setIfInBounds_toArray, List.set_cons_zero, List.set_cons_succ]
  refine F_take (i := 1) [30, 29, 3, 2] (v := ?_) rfl (by kernel_rfl) (by kernel_rfl) (by kernel_rfl) (by kernel_rfl) (fun _ _ _ h => h) rfl ?_ hS ?_
  rotate_left
  · intro w hSw
    try dsimp only at hSw
    go_simp
    try with_reducible rfl
  try simp only [Act.put, List.setIfInBounds_toArray, List.set_cons_zero, List.set_cons_succ]
  refine F_take (i := 2) [30, 29, 3] (v := ?_) rfl (by kernel_rfl) (by kernel_rfl) (by kernel_rfl) (by kernel_rfl) (fun _ _ _ h => h) rfl ?_ hS ?_
  rotate_left
  · intro w hSw
    try dsimp only at hSw
    go_simp
    try with_reducible rfl
  try simp only [Act.put, List.setIfInBounds_toArray, List.set_cons_zero, List.set_cons_succ]
  refine F_take (i := 3) [30, 29] (v := ?_) rfl (by kernel_rfl) (by kernel_rfl) (by kernel_rfl) (by kernel_rfl) (fun _ _ _ h => h) rfl ?_ hS ?_
  rotate_left
  · intro w hSw
    try dsimp only at hSw
    go_simp
    try with_reducible rfl
  try simp only [Act.put, List.setIfInBounds_toArray, List.set_cons_zero, List.set_cons_succ]
  refine F_take (i := 4) [30, 29, 8, 7, 6, 5] (v := ?_) rfl (by kernel_rfl) (by kernel_rfl) (by kernel_rfl) (by kernel_rfl) (fun _ _ _ h => h) rfl ?_ hS ?_
  rotate_left
  · intro w hSw
    try dsimp only at hSw
    go_simp
    try with_reducible rfl
  try simp only [Act.put, List.setIfInBounds_toArray, List.set_cons_zero, List.set_cons_succ]
  refine F_take (i := 5) [30, 29, 8, 7, 6] (v := ?_) rfl (by kernel_rfl) (by kernel_rfl) (by kernel_rfl) (by kernel_rfl) (fun _ _ _ h => h) rfl ?_ hS ?_
  rotate_left
  · intro w hSw
    try dsimp only at hSw
    go_simp
    try with_reducible rfl
  try simp only [Act.put, List.setIfInBounds_toArray, List.set_cons_zero, List.set_cons_succ]
  refine F_take (i := 6) [30, 29, 8, 7] (v := ?_) rfl (by kernel_rfl) (by kernel_rfl) (by kernel_rfl) (by kernel_rfl) (fun _ _ _ h => h) rfl ?_ hS ?_
  rotate_left
  · intro w hSw
    try dsimp only at hSw
    go_simp
    try with_reducible rfl
  try simp only [Act.put, List.setIfInBounds_toArray, List.set_cons_zero, List.set_cons_succ]
  refine F_take (i := 7) [30, 29, 8] (v := ?_) rfl (by kernel_rfl) (by kernel_rfl) (by kernel_rfl) (by kernel_rfl) (fun _ _ _ h => h) rfl ?_ hS ?_
  rotate_left
  · intro w hSw
    try dsimp only at hSw
    go_simp
    try with_reducible rfl
  try simp only [Act.put, List.setIfInBounds_toArray, List.set_cons_zero, List.set_cons_succ]
  refine F_take (i := 8) [30, 29] (v := ?_) rfl (by kernel_rfl) (by kernel_rfl) (by kernel_rfl) (by kernel_rfl) (fun _ _ _ h => h) rfl ?_ hS ?_
  rotate_left
  · intro w hSw
    try dsimp only at hSw
    go_simp
    try with_reducible rfl
  try simp only [Act.put, List.setIfInBounds_toArray, List.set_cons_zero, List.set_cons_succ]
  refine F_take (i := 9) [30, 29, 10] (v := ?_) rfl (by kernel_rfl) (by kernel_rfl) (by kernel_rfl) (by kernel_rfl) (fun _ _ _ h => h) rfl ?_ hS ?_
  rotate_left
  · intro w hSw
    try dsimp only at hSw
    go_simp
    try with_reducible rfl
  try simp only [Act.put, List.setIfInBounds_toArray, List.set_cons_zero, List.set_cons_succ]
  refine F_take (i := 11) [30, 29, 28, 14, 13, 12] (v := ?_) rfl (by kernel_rfl) (by kernel_rfl) (by kernel_rfl) (by kernel_rfl) (fun _ _ _ h => h) rfl ?_ hS ?_
  rotate_left
  · intro w hSw
    try dsimp only at hSw
    go_simp
    try with_reducible rfl
  try simp only [Act.put, List.setIfInBounds_toArray, List.set_cons_zero, List.set_cons_succ]
  refine F_take (i := 12) [30, 29, 28, 14, 13] (v := ?_) rfl (by kernel_rfl) (by kernel_rfl) (by kernel_rfl) (by kernel_rfl) (fun _ _ _ h => h) rfl ?_ hS ?_
  rotate_left
  · intro w hSw
    try dsimp only at hSw
    go_simp
    try with_reducible rfl
  try simp only [Act.put, List.setIfInBounds_toArray, List.set_cons_zero, List.set_cons_succ]
  refine F_take (i := 13) [30, 29, 28, 14] (v := ?_) rfl (by kernel_rfl) (by kernel_rfl) (by kernel_rfl) (by kernel_rfl) (fun _ _ _ h => h) rfl ?_ hS ?_
  rotate_left
  · intro w hSw
    try dsimp only at hSw
    go_simp
    try with_reducible rfl
  try simp only [Act.put, List.setIfInBounds_toArray, List.set_cons_zero, List.set_cons_succ]
  refine F_take (i := 14) [30, 29, 28] (v := ?_) rfl (by kernel_rfl) (by kernel_rfl) (by kernel_rfl) (by kernel_rfl) (fun _ _ _ h => h) rfl ?_ hS ?_
  rotate_left
  · intro w hSw
    try dsimp only at hSw
    go_simp
    try with_reducible rfl
  try simp only [Act.put, List.setIfInBounds_toArray, List.set_cons_zero, List.set_cons_succ]
  refine F_take (i := 15) [30, 29, 28] (v := ?_) rfl (by kernel_rfl) (by kernel_rfl) (by kernel_rfl) (by kernel_rfl) (fun _ _ _ h => h) rfl ?_ hS ?_
  rotate_left
  · intro w hSw
    try dsimp only at hSw
    go_simp
    try with_reducible rfl
  try simp only [Act.put, List.setIfInBounds_toArray, List.set_cons_zero, List.set_cons_succ]
  refine F_take (i := 16) [30, 29, 28, 27, 21] (v := ?_) rfl (by kernel_rfl) (by kernel_rfl) (by kernel_rfl) (by kernel_rfl) (fun _ _ _ h => h) rfl ?_ hS ?_
  rotate_left
  · intro w hSw
    try dsimp only at hSw
    go_simp
    try with_reducible rfl
  try simp only [Act.put, List.setIfInBounds_toArray, List.set_cons_zero, List.set_cons_succ]
  refine F_take (i := 17) [30, 29, 28, 27, 21, 20, 19, 18] (v := ?_) rfl (by kernel_rfl) (by kernel_rfl) (by kernel_rfl) (by kernel_rfl) (fun _ _ _ h => h) rfl ?_ hS ?_
  rotate_left
  · intro w hSw
    try dsimp only at hSw
    go_simp
    try with_reducible rfl
  try simp only [Act.put, List.setIfInBounds_toArray, List.set_cons_zero, List.set_cons_succ]
  refine F_take (i := 18) [30, 29, 28, 27, 21, 20, 19] (v := ?_) rfl (by kernel_rfl) (by kernel_rfl) (by kernel_rfl) (by kernel_rfl) (fun _ _ _ h => h) rfl ?_ hS ?_
  rotate_left
  · intro w hSw
    try dsimp only at hSw
    go_simp
    try with_reducible rfl
  try simp only [Act.put, List.setIfInBounds_toArray, List.set_cons_zero, List.set_cons_succ]
  refine F_take (i := 19) [30, 29, 28, 27, 21, 20] (v := ?_) rfl (by kernel_rfl) (by kernel_rfl) (by kernel_rfl) (by kernel_rfl) (fun _ _ _ h => h) rfl ?_ hS ?_
  rotate_left
  · intro w hSw
    try dsimp only at hSw
    go_simp
    try with_reducible rfl
  try simp only [Act.put, List.setIfInBounds_toArray, List.set_cons_zero, List.set_cons_succ]
  refine F_take (i := 20) [30, 29, 28, 27, 21] (v := ?_) rfl (by kernel_rfl) (by kernel_rfl) (by kernel_rfl) (by kernel_rfl) (fun _ _ _ h => h) rfl ?_ hS ?_
  rotate_left
  · intro w hSw
    try dsimp only at hSw
    go_simp
    try with_reducible rfl
  try simp only [Act.put, List.setIfInBounds_toArray, List.set_cons_zero, List.set_cons_succ]
  refine F_take (i := 21) [30, 29, 28, 27] (v := ?_) rfl (by kernel_rfl) (by kernel_rfl) (by kernel_rfl) (by kernel_rfl) (fun _ _ _ h => h) rfl ?_ hS ?_
  rotate_left
  · intro w hSw
    try dsimp only at hSw
    go_simp
    try with_reducible rfl
  try simp only [Act.put, List.setIfInBounds_toArray, List.set_cons_zero, List.set_cons_succ]
  refine F_take (i := 22) [30, 29, 28, 27, 26, 25, 24, 23] (v := ?_) rfl (by kernel_rfl) (by kernel_rfl) (by kernel_rfl) (by kernel_rfl) (fun _ _ _ h => h) rfl ?_ hS ?_
  rotate_left
  · intro w hSw
    try dsimp only at hSw
    go_simp
    try with_reducible rfl
  try simp only [Act.put, List.setIfInBounds_toArray, List.set_cons_zero, List.set_cons_succ]
  refine F_take (i := 23) [30, 29, 28, 27, 26, 25, 24] (v := ?_) rfl (by kernel_rfl) (by kernel_rfl) (by kernel_rfl) (by kernel_rfl) (fun _ _ _ h => h) rfl ?_ hS ?_
  rotate_left
  · intro w hSw
    try dsimp only at hSw
    go_simp
    try with_reducible rfl
  try simp only [Act.put, List.setIfInBounds_toArray, List.set_cons_zero, List.set_cons_succ]
  refine F_take (i := 24) [30, 29, 28, 27, 26, 25] (v := ?_) rfl (by kernel_rfl) (by kernel_rfl) (by kernel_rfl) (by kernel_rfl) (fun _ _ _ h => h) rfl ?_ hS ?_
  rotate_left
  · intro w hSw
    try dsimp only at hSw
    go_simp
    try with_reducible rfl
  try simp only [Act.put, List.setIfInBounds_toArray, List.set_cons_zero, List.set_cons_succ]
  refine F_take (i := 25) [30, 29, 28, 27, 26] (v := ?_) rfl (by kernel_rfl) (by kernel_rfl) (by kernel_rfl) (by kernel_rfl) (fun _ _ _ h => h) rfl ?_ hS ?_
  rotate_left
  · intro w hSw
    try dsimp only at hSw
    go_simp
    try with_reducible rfl
  try simp only [Act.put, List.setIfInBounds_toArray, List.set_cons_zero, List.set_cons_succ]
  refine F_take (i := 26) [30, 29, 28, 27] (v := ?_) rfl (by kernel_rfl) (by kernel_rfl) (by kernel_rfl) (by kernel_rfl) (fun _ _ _ h => h) rfl ?_ hS ?_
  rotate_left
  · intro w hSw
    try dsimp only at hSw
    go_simp
    try with_reducible rfl
  try simp only [Act.put, List.setIfInBounds_toArray, List.set_cons_zero, List.set_cons_succ]
  refine F_take (i := 27) [30, 29, 28] (v := ?_) rfl (by kernel_rfl) (by kernel_rfl) (by kernel_rfl) (by kernel_rfl) (fun _ _ _ h => h) rfl ?_ hS ?_
  rotate_left
  · intro w hSw
    try dsimp only at hSw
    go_simp
    try with_reducible rfl
  try simp only [Act.put, List.setIfInBounds_toArray, List.set_cons_zero, List.set_cons_succ]
  refine F_take (i := 28) [30, 29] (v := ?_) rfl (by kernel_rfl) (by kernel_rfl) (by kernel_rfl) (by kernel_rfl) (fun _ _ _ h => h) rfl ?_ hS ?_
  rotate_left
  · intro w hSw
    try dsimp only at hSw
    go_simp
    try with_reducible rfl
  try simp only [Act.put, List.setIfInBounds_toArray, List.set_cons_zero, List.set_cons_succ]
  refine F_step (i := 10) rfl (by kernel_rfl) (fun K hK => ?_)
  refine step_call rfl 23 #[.pointer (some ⟨q, 0, none⟩)] (by first | rfl | (go_simp; done) | simp [execOp, resolve, invoke, Act.eval, Result.andThen]) ((Q1.out _ H4.out.drew).mono ?_)
  rintro e wz ⟨rfl, mz, rfl⟩
  refine ⟨_, rfl, ?_⟩
  have H5 := hide (H4.out.drew.drewN mz)
  have B5 := hide (B4.out.drew.drewN mz)
  have U5 := hide (U4.out.drew.drewN mz)
  have hS5 := hS
  clear hS
  have hS : (w4.drew.drewN mz).cell? ⟨q, 0, none⟩ = some (.int .i64 id) ∧ (w4.drew.drewN mz).cell? ⟨q, 1, none⟩ = some (.int .i64 size) ∧ (w4.drew.drewN mz).cell? ⟨q, 4, none⟩ = some (.int .i64 ((s : Int) + 1)) ∧ (w4.drew.drewN mz).cell? ⟨q, 5, none⟩ = some (.string t) := hS5
  clear hS5
  generalize w4.drew.drewN mz = w5 at *
  refine hK.out _ _ (Or.inr hS) ?_
  clear hK K
  try simp only [Act.put, List.setIfInBounds_toArray, List.set_cons_zero, List.set_cons_succ]
  refine F_take (i := 29) [30] (v := ?_) rfl (by kernel_rfl) (by kernel_rfl) (by kernel_rfl) (by kernel_rfl) (fun _ _ _ h => h) rfl ?_ hS ?_
  rotate_left
  · intro w hSw
    try dsimp only at hSw
    go_simp
    try with_reducible rfl
  try simp only [Act.put, List.setIfInBounds_toArray, List.set_cons_zero, List.set_cons_succ]
  have c0 : w5.cell? ⟨pb, 0, none⟩ = some (.int .i64 0) := by rw [B5.out.cell]; rfl
  have c1 : w5.cell? ⟨pb, 1, none⟩ = some (.int .i64 0) := by rw [B5.out.cell]; rfl
  have c2 : w5.cell? ⟨pb, 2, none⟩ = some (.int .i64 0) := by rw [B5.out.cell]; rfl
  have c3 : w5.cell? ⟨pb, 3, none⟩ = some (.string ⟨#[]⟩) := by rw [B5.out.cell]; rfl
  have g0 := B5.out.frozen 0
  have g1 := B5.out.frozen 1
  have g2 := B5.out.frozen 2
  have g3 := B5.out.frozen 3
  refine F_step (i := 30) rfl (by kernel_rfl) (fun K hK => ?_)
  have k6 : Upd w5 ((((w5.setCell ⟨pb, 0, none⟩ (.int .i64 id)).setCell ⟨pb, 1, none⟩ (.int .i64 s)).setCell ⟨pb, 2, none⟩ (.int .i64 k)).setCell ⟨pb, 3, none⟩ (.string (t.extract m hh))) [pb] := ((((Upd.refl w5 [pb]).setCell (p := ⟨pb, 0, none⟩) (by simp) _).setCell (p := ⟨pb, 1, none⟩) (by simp) _).setCell (p := ⟨pb, 2, none⟩) (by simp) _).setCell (p := ⟨pb, 3, none⟩) (by simp) _
  have H6 := hide (k6.blk H5.out (by simpa using qp))
  have B6 := hide (B5.out.put4r (a' := .int .i64 id) (b' := .int .i64 s) (c' := .int .i64 k) (d' := .string (t.extract m hh)))
  have U6 := hide (upd_put4 (.int .i64 id) (.int .i64 s) (.int .i64 k) (.string (t.extract m hh)) U5.out (by have := hpb.out; omega : w.heap.size ≤ pb))
  go_simp
  clear hS c0 c1 c2 c3 g0 g1 g2 g3 k6
  have hS : ((((w5.setCell ⟨pb, 0, none⟩ (.int .i64 id)).setCell ⟨pb, 1, none⟩ (.int .i64 s)).setCell ⟨pb, 2, none⟩ (.int .i64 k)).setCell ⟨pb, 3, none⟩ (.string (t.extract m hh))).cell? ⟨q, 0, none⟩ = some (.int .i64 id) ∧ ((((w5.setCell ⟨pb, 0, none⟩ (.int .i64 id)).setCell ⟨pb, 1, none⟩ (.int .i64 s)).setCell ⟨pb, 2, none⟩ (.int .i64 k)).setCell ⟨pb, 3, none⟩ (.string (t.extract m hh))).cell? ⟨q, 1, none⟩ = some (.int .i64 size) ∧ ((((w5.setCell ⟨pb, 0, none⟩ (.int .i64 id)).setCell ⟨pb, 1, none⟩ (.int .i64 s)).setCell ⟨pb, 2, none⟩ (.int .i64 k)).setCell ⟨pb, 3, none⟩ (.string (t.extract m hh))).cell? ⟨q, 4, none⟩ = some (.int .i64 ((s : Int) + 1)) ∧ ((((w5.setCell ⟨pb, 0, none⟩ (.int .i64 id)).setCell ⟨pb, 1, none⟩ (.int .i64 s)).setCell ⟨pb, 2, none⟩ (.int .i64 k)).setCell ⟨pb, 3, none⟩ (.string (t.extract m hh))).cell? ⟨q, 5, none⟩ = some (.string t) :=
    ⟨by rw [H6.out.cell]; rfl, by rw [H6.out.cell]; rfl, by rw [H6.out.cell]; rfl, by rw [H6.out.cell]; rfl⟩
  refine hK.out _ _ (Or.inr hS) ?_
  clear hK K
  generalize ((((w5.setCell ⟨pb, 0, none⟩ (.int .i64 id)).setCell ⟨pb, 1, none⟩ (.int .i64 s)).setCell ⟨pb, 2, none⟩ (.int .i64 k)).setCell ⟨pb, 3, none⟩ (.string (t.extract m hh))) = w6 at *
  try simp only [Act.put, List.setIfInBounds_toArray, List.set_cons_zero, List.set_cons_succ]
  refine F_step (i := 31) rfl (by kernel_rfl) (fun K hK => ?_)
  go_simp
  refine hK.out _ _ (Or.inl rfl) ?_
  clear hK K
  try simp only [Act.put, List.setIfInBounds_toArray, List.set_cons_zero, List.set_cons_succ]
  refine F_done (by kernel_rfl) ?_ _
  go_wp2_with fail
  refine bodyPost_ret (results_rc B6.out rfl rfl) rfl ?_
  exact ⟨by rw [show (⟨id, s, k, cutB t size s⟩ : Pc).cells = #[.int .i64 id, .int .i64 s, .int .i64 k, .string (t.extract m hh)] by rw [eB.out, ← ext_cut]]; rfl, H6.out, U6.out⟩
end Go.Proofs.Ytmmacjjmkaeakaa
