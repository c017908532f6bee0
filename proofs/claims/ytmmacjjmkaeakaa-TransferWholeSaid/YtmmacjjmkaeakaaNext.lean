/- The walks of the layer transfer: Next, where there is one. (Printed by gen28next.py.) -/
import Derived.Test.YtmmacjjmkaeakaaNextN
namespace Go.Proofs.Ytmmacjjmkaeakaa
open Go.RowKit
set_option linter.unusedVariables false
variable {w : World} {base r : Nat} {v : Value} {bb : Nat} {t : ByteArray} {size k : Nat} {id win hv : Int}
set_option maxHeartbeats 4000000 in
theorem next_ok (s : Nat) (H : Snd w base r v bb t size k id win hv s) (hk : k ≤ 100000) (h0 : 0 ≤ hv) (h1 : hv ≤ 100000) (h2 : s < k) (h3 : (s : Int) - hv < win) :
    Calls Try.prog 15 #[.pointer (some ⟨r, 0, none⟩)] w fun e w' => e = .returned (.tuple #[.agg (⟨id, s, k, cutB t size s⟩ : Pc).cells, .bool true]) ∧ Snd w' base r v bb t size k id win hv ((s : Int) + 1) ∧ Upd w w' [r] := by
  have wr : IntKind.i64.wrap ((s : Int) - hv) = (s : Int) - hv := IntWalk.i64_in _ (by omega)
  have wr2 : IntKind.i64.wrap ((s : Int) + 1) = (s : Int) + 1 := IntWalk.i64_in _ (by omega)
  have B := hide (Blk.new w 31 #[.int .i64 0, .int .i64 0, .int .i64 0, .string ⟨#[]⟩])
  have U := hide ((Upd.refl w []).alloc (.cells #[.int .i64 0, .int .i64 0, .int .i64 0, .string ⟨#[]⟩] 31))
  have H1 := H.upd0 U.out
  have a1 := H1.a1
  have a2 := H1.a2
  have a3 := H1.a3
  have a4 := H1.a4
  have M := hide (fun n => made_ok (H1.upd0 ((Upd.refl _ []).drewN n)) (by omega))
  obtain ⟨ga, c, hv1, hp⟩ := H.form
  obtain ⟨g, rfl⟩ := hp (by omega)
  subst hv1
  clear H
  replace H1 := hide H1
  go_enter Try.func15, Try.ntmps15
  go_wp2_with fail
  generalize w.alloc (.cells #[.int .i64 0, .int .i64 0, .int .i64 0, .string ⟨#[]⟩] 31) = w1 at *
  go_quiet ((go_at_call 26; exact Calls.quiet_of_same (M.out _)))
  have B2 := hide (B.out.drewN nq)
  have U2 := hide (U.out.drewN nq)
  have H2 := hide (H1.out.upd0 ((Upd.refl _ []).drewN nq))
  clear M B U H1 a1 a2 a3 a4
  generalize w1.drewN nq = w2 at *
  generalize hpb : w.heap.size = pb at *
  replace hpb := hide hpb
  go_wp2_with fail
  have a0 := H2.out.a0
  have a1 := H2.out.a1
  have a4 := H2.out.a4
  have ap := H2.out.piece (ga := none) s h2
  have kc : ∀ n, (convert 73 9 (cutV bb size t.size s)).run Try.prog (w2.drewN n) = .ok (.string (cutB t size s)) (w2.drewN n) := fun n => cut_string (H2.out.mem.upd ((Upd.refl _ []).drewN n) (by simp))
  have c0 : w2.cell? ⟨pb, 0, none⟩ = some (.int .i64 0) := by rw [B2.out.cell]; rfl
  have c1 : w2.cell? ⟨pb, 1, none⟩ = some (.int .i64 0) := by rw [B2.out.cell]; rfl
  have c2 : w2.cell? ⟨pb, 2, none⟩ = some (.int .i64 0) := by rw [B2.out.cell]; rfl
  have c3 : w2.cell? ⟨pb, 3, none⟩ = some (.string ⟨#[]⟩) := by rw [B2.out.cell]; rfl
  have g0 := B2.out.frozen 0
  have g1 := B2.out.frozen 1
  have g2 := B2.out.frozen 2
  have g3 := B2.out.frozen 3
  have hi0 : (0 : Int) ≤ (s : Int) := by omega
  have hi1 : (s : Int) < (k : Int) := by omega
  refine F_start 25 (fun w' => ∃ n, w' = w2.drewN n) (by kernel_rfl) ?_
  have hS : ∃ n, w2.drew = w2.drewN n := ⟨1, rfl⟩
  refine F_take (i := 0) [24, 3, 2, 1] (v := ?_) rfl (by kernel_rfl) (by kernel_rfl) (by kernel_rfl) (by kernel_rfl) (fun _ _ _ h => h) rfl ?_ hS ?_
  rotate_left
  · intro w hSw
    obtain ⟨n, rfl⟩ := hSw
    go_simp
    try with_reducible rfl
  try simp only [Act.put, List.setIfInBounds_toArray, List.set_cons_zero, List.set_cons_succ]
  refine F_take (i := 1) [24, 3, 2] (v := ?_) rfl (by kernel_rfl) (by kernel_rfl) (by kernel_rfl) (by kernel_rfl) (fun _ _ _ h => h) rfl ?_ hS ?_
  rotate_left
  · intro w hSw
    obtain ⟨n, rfl⟩ := hSw
    go_simp
    try with_reducible rfl
  try simp only [Act.put, List.setIfInBounds_toArray, List.set_cons_zero, List.set_cons_succ]
  refine F_take (i := 2) [24, 3] (v := ?_) rfl (by kernel_rfl) (by kernel_rfl) (by kernel_rfl) (by kernel_rfl) (fun _ _ _ h => h) rfl ?_ hS ?_
  rotate_left
  · intro w hSw
    obtain ⟨n, rfl⟩ := hSw
    go_simp
    try with_reducible rfl
  try simp only [Act.put, List.setIfInBounds_toArray, List.set_cons_zero, List.set_cons_succ]
  refine F_take (i := 3) [24] (v := ?_) rfl (by kernel_rfl) (by kernel_rfl) (by kernel_rfl) (by kernel_rfl) (fun _ _ _ h => h) rfl ?_ hS ?_
  rotate_left
  · intro w hSw
    obtain ⟨n, rfl⟩ := hSw
    go_simp
    try with_reducible rfl
  try simp only [Act.put, List.setIfInBounds_toArray, List.set_cons_zero, List.set_cons_succ]
  refine F_take (i := 4) [24, 7, 6, 5] (v := ?_) rfl (by kernel_rfl) (by kernel_rfl) (by kernel_rfl) (by kernel_rfl) (fun _ _ _ h => h) rfl ?_ hS ?_
  rotate_left
  · intro w hSw
    obtain ⟨n, rfl⟩ := hSw
    go_simp
    try with_reducible rfl
  try simp only [Act.put, List.setIfInBounds_toArray, List.set_cons_zero, List.set_cons_succ]
  refine F_take (i := 5) [24, 7, 6] (v := ?_) rfl (by kernel_rfl) (by kernel_rfl) (by kernel_rfl) (by kernel_rfl) (fun _ _ _ h => h) rfl ?_ hS ?_
  rotate_left
  · intro w hSw
    obtain ⟨n, rfl⟩ := hSw
    go_simp
    try with_reducible rfl
  try simp only [Act.put, List.setIfInBounds_toArray, List.set_cons_zero, List.set_cons_succ]
  refine F_take (i := 6) [24, 7] (v := ?_) rfl (by kernel_rfl) (by kernel_rfl) (by kernel_rfl) (by kernel_rfl) (fun _ _ _ h => h) rfl ?_ hS ?_
  rotate_left
  · intro w hSw
    obtain ⟨n, rfl⟩ := hSw
    go_simp
    try with_reducible rfl
  try simp only [Act.put, List.setIfInBounds_toArray, List.set_cons_zero, List.set_cons_succ]
  refine F_take (i := 7) [24] (v := ?_) rfl (by kernel_rfl) (by kernel_rfl) (by kernel_rfl) (by kernel_rfl) (fun _ _ _ h => h) rfl ?_ hS ?_
  rotate_left
  · intro w hSw
    obtain ⟨n, rfl⟩ := hSw
    go_simp
    try with_reducible rfl
  try simp only [Act.put, List.setIfInBounds_toArray, List.set_cons_zero, List.set_cons_succ]
  refine F_take (i := 8) [24, 12, 11, 10, 9] (v := ?_) rfl (by kernel_rfl) (by kernel_rfl) (by kernel_rfl) (by kernel_rfl) (fun _ _ _ h => h) rfl ?_ hS ?_
  rotate_left
  · intro w hSw
    obtain ⟨n, rfl⟩ := hSw
    go_simp
    try with_reducible rfl
  try simp only [Act.put, List.setIfInBounds_toArray, List.set_cons_zero, List.set_cons_succ]
  refine F_take (i := 9) [24, 12, 11, 10] (v := ?_) rfl (by kernel_rfl) (by kernel_rfl) (by kernel_rfl) (by kernel_rfl) (fun _ _ _ h => h) rfl ?_ hS ?_
  rotate_left
  · intro w hSw
    obtain ⟨n, rfl⟩ := hSw
    go_simp
    try with_reducible rfl
  try simp only [Act.put, List.setIfInBounds_toArray, List.set_cons_zero, List.set_cons_succ]
  refine F_take (i := 10) [24, 12, 11] (v := ?_) rfl (by kernel_rfl) (by kernel_rfl) (by kernel_rfl) (by kernel_rfl) (fun _ _ _ h => h) rfl ?_ hS ?_
  rotate_left
  · intro w hSw
    obtain ⟨n, rfl⟩ := hSw
    go_simp
    try with_reducible rfl
  try simp only [Act.put, List.setIfInBounds_toArray, List.set_cons_zero, List.set_cons_succ]
  refine F_take (i := 11) [24, 12] (v := ?_) rfl (by kernel_rfl) (by kernel_rfl) (by kernel_rfl) (by kernel_rfl) (fun _ _ _ h => h) rfl ?_ hS ?_
  rotate_left
  · intro w hSw
    obtain ⟨n, rfl⟩ := hSw
    go_simp
    try with_reducible rfl
  try simp only [Act.put, List.setIfInBounds_toArray, List.set_cons_zero, List.set_cons_succ]
  refine F_take (i := 12) [24] (v := ?_) rfl (by kernel_rfl) (by kernel_rfl) (by kernel_rfl) (by kernel_rfl) (fun _ _ _ h => h) rfl ?_ hS ?_
  rotate_left
  · intro w hSw
    obtain ⟨n, rfl⟩ := hSw
    go_simp
    try with_reducible rfl
  try simp only [Act.put, List.setIfInBounds_toArray, List.set_cons_zero, List.set_cons_succ]
  refine F_take (i := 13) [24, 23, 22, 21, 16, 15, 14] (v := ?_) rfl (by kernel_rfl) (by kernel_rfl) (by kernel_rfl) (by kernel_rfl) (fun _ _ _ h => h) rfl ?_ hS ?_
  rotate_left
  · intro w hSw
    obtain ⟨n, rfl⟩ := hSw
    go_simp
    try with_reducible rfl
  try simp only [Act.put, List.setIfInBounds_toArray, List.set_cons_zero, List.set_cons_succ]
  refine F_take (i := 14) [24, 23, 22, 21, 16, 15] (v := ?_) rfl (by kernel_rfl) (by kernel_rfl) (by kernel_rfl) (by kernel_rfl) (fun _ _ _ h => h) rfl ?_ hS ?_
  rotate_left
  · intro w hSw
    obtain ⟨n, rfl⟩ := hSw
    go_simp
    try with_reducible rfl
  try simp only [Act.put, List.setIfInBounds_toArray, List.set_cons_zero, List.set_cons_succ]
  refine F_take (i := 15) [24, 23, 22, 21, 16] (v := ?_) rfl (by kernel_rfl) (by kernel_rfl) (by kernel_rfl) (by kernel_rfl) (fun _ _ _ h => h) rfl ?_ hS ?_
  rotate_left
  · intro w hSw
    obtain ⟨n, rfl⟩ := hSw
    go_simp
    try with_reducible rfl
  try simp only [Act.put, List.setIfInBounds_toArray, List.set_cons_zero, List.set_cons_succ]
  refine F_take (i := 16) [24, 23, 22, 21] (v := ?_) rfl (by kernel_rfl) (by kernel_rfl) (by kernel_rfl) (by kernel_rfl) (fun _ _ _ h => h) rfl ?_ hS ?_
  rotate_left
  · intro w hSw
    obtain ⟨n, rfl⟩ := hSw
    go_simp
    try with_reducible rfl
  try simp only [Act.put, List.setIfInBounds_toArray, List.set_cons_zero, List.set_cons_succ]
  refine F_take (i := 17) [24, 23, 22, 21, 20, 19, 18] (v := ?_) rfl (by kernel_rfl) (by kernel_rfl) (by kernel_rfl) (by kernel_rfl) (fun _ _ _ h => h) rfl ?_ hS ?_
  rotate_left
  · intro w hSw
    obtain ⟨n, rfl⟩ := hSw
    go_simp
    try with_reducible rfl
  try simp only [Act.put, List.setIfInBounds_toArray, List.set_cons_zero, List.set_cons_succ]
  refine F_take (i := 18) [24, 23, 22, 21, 20, 19] (v := ?_) rfl (by kernel_rfl) (by kernel_rfl) (by kernel_rfl) (by kernel_rfl) (fun _ _ _ h => h) rfl ?_ hS ?_
  rotate_left
  · intro w hSw
    obtain ⟨n, rfl⟩ := hSw
    go_simp
    try with_reducible rfl
  try simp only [Act.put, List.setIfInBounds_toArray, List.set_cons_zero, List.set_cons_succ]
  refine F_take (i := 19) [24, 23, 22, 21, 20] (v := ?_) rfl (by kernel_rfl) (by kernel_rfl) (by kernel_rfl) (by kernel_rfl) (fun _ _ _ h => h) rfl ?_ hS ?_
  rotate_left
  · intro w hSw
    obtain ⟨n, rfl⟩ := hSw
    go_simp
    try with_reducible rfl
  try simp only [Act.put, List.setIfInBounds_toArray, List.set_cons_zero, List.set_cons_succ]
  refine F_take (i := 20) [24, 23, 22, 21] (v := ?_) rfl (by kernel_rfl) (by kernel_rfl) (by kernel_rfl) (by kernel_rfl) (fun _ _ _ h => h) rfl ?_ hS ?_
  rotate_left
  · intro w hSw
    obtain ⟨n, rfl⟩ := hSw
    go_simp
    try with_reducible rfl
  try simp only [Act.put, List.setIfInBounds_toArray, List.set_cons_zero, List.set_cons_succ]
  refine F_take (i := 21) [24, 23, 22] (v := ?_) rfl (by kernel_rfl) (by kernel_rfl) (by kernel_rfl) (by kernel_rfl) (fun _ _ _ h => h) rfl ?_ hS ?_
  rotate_left
  · intro w hSw
    obtain ⟨n, rfl⟩ := hSw
    go_simp
    try with_reducible rfl
  try simp only [Act.put, List.setIfInBounds_toArray, List.set_cons_zero, List.set_cons_succ]
  refine F_take (i := 22) [24, 23] (v := ?_) rfl (by kernel_rfl) (by kernel_rfl) (by kernel_rfl) (by kernel_rfl) (fun _ _ _ h => h) rfl ?_ hS ?_
  rotate_left
  · intro w hSw
    obtain ⟨n, rfl⟩ := hSw
    go_simp
    try with_reducible rfl
  try simp only [Act.put, List.setIfInBounds_toArray, List.set_cons_zero, List.set_cons_succ]
  refine F_take (i := 23) [24] (v := ?_) rfl (by kernel_rfl) (by kernel_rfl) (by kernel_rfl) (by kernel_rfl) (fun _ _ _ h => h) rfl ?_ hS ?_
  rotate_left
  · intro w hSw
    obtain ⟨n, rfl⟩ := hSw
    go_simp
    try with_reducible rfl
  try simp only [Act.put, List.setIfInBounds_toArray, List.set_cons_zero, List.set_cons_succ]
  refine F_take (i := 24) [] (v := ?_) rfl (by kernel_rfl) (by kernel_rfl) (by kernel_rfl) (by kernel_rfl) (fun _ _ _ h => h) rfl ?_ hS ?_
  rotate_left
  · intro w hSw
    obtain ⟨n, rfl⟩ := hSw
    go_simp
    try with_reducible rfl
  try simp only [Act.put, List.setIfInBounds_toArray, List.set_cons_zero, List.set_cons_succ]
  refine F_step (i := 25) rfl (by kernel_rfl) (fun K hK => ?_)
  go_simp
  refine hK.out _ _ (Or.inl rfl) ?_
  clear hK K
  try simp only [Act.put, List.setIfInBounds_toArray, List.set_cons_zero, List.set_cons_succ]
  refine F_done (by kernel_rfl) ?_ _
  have rp := H2.out.head.ne_ B2.out (by decide)
  have bp := H2.out.mem.ne B2.out (by decide)
  have np := H2.out.row.ne B2.out (by decide)
  have ph : w.heap.size ≤ pb := by have := hpb.out; omega
  have UP := fun (W : World) (x1 x2 x3 x4 : Value) => (show Upd W ((((W.setCell ⟨pb, 0, none⟩ x1).setCell ⟨pb, 1, none⟩ x2).setCell ⟨pb, 2, none⟩ x3).setCell ⟨pb, 3, none⟩ x4) [pb] from
    ((((Upd.refl W [pb]).setCell (p := ⟨pb, 0, none⟩) (by simp) _).setCell (p := ⟨pb, 1, none⟩) (by simp) _).setCell (p := ⟨pb, 2, none⟩) (by simp) _).setCell (p := ⟨pb, 3, none⟩) (by simp) _)
  have H3 := H2.out.upd (UP w2 (.int .i64 id) (.int .i64 s) (.int .i64 k) (.string (cutB t size s))).drew (by simpa using rp) np (by simpa using bp)
  have B3 := (Blk.put4 (a' := .int .i64 id) (b' := .int .i64 s) (c' := .int .i64 k) (d' := .string (cutB t size s)) B2.out).drew
  have U3 := (upd_put4 (.int .i64 id) (.int .i64 s) (.int .i64 k) (.string (cutB t size s)) (U2.out.mono (S' := [r]) (by simp)) ph).drew
  clear H2 B2 U2 hS kc c0 c1 c2 c3 g0 g1 g2 g3 a0 a1 a4 ap
  generalize ((((w2.setCell ⟨pb, 0, none⟩ (.int .i64 id)).setCell ⟨pb, 1, none⟩ (.int .i64 s)).setCell ⟨pb, 2, none⟩ (.int .i64 k)).setCell ⟨pb, 3, none⟩ (.string (cutB t size s))).drew = w3 at *
  have a4 := H3.a4
  have g4 := H3.head.frozen 4
  have c0 : w3.cell? ⟨pb, 0, none⟩ = some (.int .i64 id) := by rw [B3.cell]; rfl
  have c1 : w3.cell? ⟨pb, 1, none⟩ = some (.int .i64 s) := by rw [B3.cell]; rfl
  have c2 : w3.cell? ⟨pb, 2, none⟩ = some (.int .i64 k) := by rw [B3.cell]; rfl
  have c3 : w3.cell? ⟨pb, 3, none⟩ = some (.string (cutB t size s)) := by rw [B3.cell]; rfl
  have g0 := B3.frozen 0
  have g1 := B3.frozen 1
  have g2 := B3.frozen 2
  have g3 := B3.frozen 3
  replace B3 := hide B3
  replace H3 := hide H3
  replace U3 := hide U3
  replace UP := hide UP
  replace np := hide np
  have pr := Ne.symm rp
  go_wp2_with fail
  have H4 := H3.out.put4 ((s : Int) + 1)
  have B4 : Blk (w3.setCell ⟨r, 4, none⟩ (.int .i64 ((s : Int) + 1))) pb 31 _ := B3.out.far (p := ⟨r, 4, none⟩) pr _
  refine bodyPost_ret (results_pc (Blk.put4 B4) rfl rfl) rfl ?_
  exact ⟨rfl, H4.upd (UP.out _ _ _ _ _) (by simpa using rp) np.out (by simpa using bp), upd_put4 _ _ _ _ (U3.out.setCell (p := ⟨r, 4, none⟩) (by simp) _) ph⟩
end Go.Proofs.Ytmmacjjmkaeakaa
