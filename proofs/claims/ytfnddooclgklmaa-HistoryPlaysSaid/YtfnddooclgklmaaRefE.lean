/- The walks of the layer history: what the document's Call refuses; its first call. -/
import Derived.Test.YtfnddooclgklmaaRefD
namespace Go.Proofs.Ytfnddooclgklmaa
open Go.RowKit
set_option linter.unusedVariables false
attribute [-go_sem] loadVar storeVar
attribute [local go_sem] loadVar_else storeVar_else run_load29 run_load33 run_load35 run_load48 run_load49 run_load61 run_store29 run_store33 run_store35 run_store48 run_store49 aggAt_drew aggAt_drewN aggRoom_drew aggRoom_drewN
theorem rcall_bad (u : Value) (c s : Int) (o : Op4) (w : World) (hx : c < 0 ∨ 5 < c ∨ s < 1) : Calls Try.prog 13 #[u, .int .i64 c, .int .i64 s, .agg o.cells] w fun e w' => e = .returned (.tuple #[u, .int .i64 2]) ∧ Upd w w' [] := by
  have U := hide ((Upd.refl w []).alloc (.cells o.cells 29))
  by_cases h1 : c < 0
  · clear hx
    go_enter Try.func13, Try.ntmps13
    go_wp2_with fail
    go_ret2
    exact ⟨rfl, U.out⟩
  · by_cases h2 : 5 < c
    · clear hx
      go_enter Try.func13, Try.ntmps13
      go_wp2_with fail
      go_ret2
      exact ⟨rfl, U.out⟩
    · have h3 : s < 1 := by omega
      clear hx
      go_enter Try.func13, Try.ntmps13
      go_wp2_with fail
      go_ret2
      exact ⟨rfl, U.out⟩
theorem rcall_chk (u : Value) (c s : Int) (o : Op4) (w : World) (hc0 : ¬ c < 0) (hc : ¬ 5 < c) (hs : ¬ s < 1) (ho : chk o ≠ 0) : Calls Try.prog 13 #[u, .int .i64 c, .int .i64 s, .agg o.cells] w fun e w' => e = .returned (.tuple #[u, .int .i64 2]) ∧ Upd w w' [] := by
  have U := hide ((Upd.refl w []).alloc (.cells o.cells 29))
  have L : aggAt 4 (w.alloc (.cells o.cells 29)) w.heap.size 0 = some o.cells := (Blk.new w 29 o.cells).agg0 rfl
  have HK := hide (check21_ok o (w.alloc (.cells o.cells 29)))
  go_enter Try.func13, Try.ntmps13
  go_wp2_with fail
  refine HK.out.mono ?_
  rintro e w1 ⟨rfl, u1⟩
  replace u1 := hide u1
  go_wp2_with fail
  all_goals (first | (go_ret2; exact ⟨rfl, U.out.trans u1.out (by simp)⟩) | (exfalso; simp_all; done))
theorem rcall_last (u : Value) (es : List Ev) (c s : Int) (o : Op4) (w : World) (base : Nat) (R : RowOf w base 61 12 u (evCells es)) (hn : es.length ≤ 1000) (hc0 : ¬ c < 0) (hc : ¬ 5 < c) (hs : ¬ s < 1) (ho : chk o = 0) (n : Int)
    (hx : ((lastE c es).2 = false ∧ n = 63) ∨ ((lastE c es).2 = true ∧ s ≤ (lastE c es).1 ∧ n = 70)) : Calls Try.prog 13 #[u, .int .i64 c, .int .i64 s, .agg o.cells] w fun e w' => e = .returned (.tuple #[u, .int .i64 n]) ∧ Upd w w' [] := by
  have U := hide ((Upd.refl w []).alloc (.cells o.cells 29))
  have L : aggAt 4 (w.alloc (.cells o.cells 29)) w.heap.size 0 = some o.cells := (Blk.new w 29 o.cells).agg0 rfl
  have HK := hide (check21_ok o (w.alloc (.cells o.cells 29)))
  rw [ho] at HK
  have R1 := hide (R.upd U.out (by simp))
  clear R
  go_enter Try.func13, Try.ntmps13
  go_wp2_with fail
  refine HK.out.mono ?_
  rintro e w1 ⟨rfl, u1⟩
  have L2 := hide (rlast_ok u es c w1 base (R1.out.upd u1 (by simp)) hn)
  replace u1 := hide (U.out.trans u1 (by simp))
  clear L HK U R1
  generalize (lastE c es).1 = a at *
  generalize (lastE c es).2 = b at *
  rcases hx with ⟨rfl, rfl⟩ | ⟨rfl, q, rfl⟩
  · go_wp2_with fail
    refine L2.out.mono ?_
    rintro e w' ⟨rfl, m, rfl⟩
    go_wp2_with fail
    go_ret2
    exact ⟨rfl, u1.out.drewN m⟩
  · go_wp2_with fail
    refine L2.out.mono ?_
    rintro e w' ⟨rfl, m, rfl⟩
    go_wp2_with fail
    go_ret2
    exact ⟨rfl, u1.out.drewN m⟩
set_option maxHeartbeats 4000000 in
theorem rcall_nil (c s : Int) (o : Op4) (w : World) (hc0 : ¬ c < 0) (hc : ¬ 5 < c) (hs : 1 ≤ s) (ho : chk o = 0) :
    Calls Try.prog 13 #[.slice none 0 0, .int .i64 c, .int .i64 s, .agg o.cells] w fun e w' => ∃ u', e = .returned (.tuple #[u', .int .i64 0]) ∧ RowOf w' w.heap.size 61 12 u' (evCells [callEv c s o]) ∧ Upd w w' [] := by
  obtain ⟨i0, hi0, hz0, hz1, hz2⟩ := info_parts info61
  have U := hide ((Upd.refl w []).alloc (.cells o.cells 29))
  have B1 := hide (Blk.new w 29 o.cells)
  have L : aggAt 4 (w.alloc (.cells o.cells 29)) w.heap.size 0 = some o.cells := B1.out.agg0 rfl
  have HK := hide (check21_ok o (w.alloc (.cells o.cells 29)))
  rw [ho] at HK
  have hs0 : ¬ s < 1 := by omega
  have hs1 : ¬ s ≤ 0 := by omega
  go_enter Try.func13, Try.ntmps13
  go_wp2_with fail
  refine HK.out.mono ?_
  rintro e w1 ⟨rfl, u1⟩
  have L2 := hide (show Calls Try.prog 19 #[.slice none 0 0, .int .i64 c] w1 fun e w' => e = .returned (.tuple #[.int .i64 0, .bool true]) ∧ ∃ m, w' = w1.drewN m from rlast_ok (.slice none 0 0) [] c w1 0 (RowOf.nil w1 0 61 12) (by simp))
  have A0 : aggAt 4 w1 w.heap.size 0 = some o.cells := (u1.blk B1.out (by simp)).agg0 rfl
  replace u1 := hide (U.out.trans u1 (by simp))
  clear L HK U B1
  go_wp2_with fail
  refine L2.out.mono ?_
  rintro e w' ⟨rfl, m, rfl⟩
  go_wp2_with fail
  have U1 := hide (u1.out.drewN m)
  have A2 : aggAt 4 (w1.drewN m) w.heap.size 0 = some o.cells := A0
  clear A0 L2 u1
  generalize w1.drewN m = W at *
  have hzW := U1.out.size
  have U2 := hide (U1.out.drew.alloc (.cells (callEv c s o).cells 61))
  have BE := hide (show Blk (W.drew.alloc (.cells (callEv c s o).cells 61)) W.heap.size 61 (callEv c s o).cells from Blk.new W.drew 61 _)
  have NE := hide (show ∀ j u, (callEv c s o).cells.toList[j]? = some u → (W.drew.alloc (.cells (callEv c s o).cells 61)).cell? ((⟨W.heap.size, 0, none⟩ : Addr).add j) = some u from fun j u hu => by
    rw [Addr.add_mid, Nat.zero_add, BE.out.cell, ← Array.getElem?_toList]; exact hu)
  have HE := hide (show ∀ u ∈ (callEv c s o).cells.toList, u.oneCell' = true from fun u hu => ev_one _ u (by simpa using hu))
  go_region_law (refine step_append_own rfl (.tmp 42) (.tmp 47) 27 rfl w.heap.size 61 i0 (.agg zeroEv) 12 120 Try.underlying27 hi0 hz0 hz1 hz2 rfl (by decide) (.slice none 0 0) 0 [] (by first | (simp [Act.eval]; done) | simp [Act.eval, Act.put]) (World.ownsRow_nil _ _ _ _) ⟨W.heap.size, 0, none⟩ 1 1 (callEv c s o).cells.toList (by first | (simp [Act.eval]; done) | simp [Act.eval, Act.put]) rfl NE.out HE.out (by unfold maxLen; omega) (by omega) U2.out.size ?_; intro v2 w2 hown2 hgr2 hnil2; have F1 := hide (ev_push (es := []) (fun _ h => by simp [evCells] at h) (fun _ h => by simp [evCells] at h) hown2); have F2 := hide (Upd.own U2.out (Nat.le_refl _) (World.ownsRow_nil _ w.heap.size 61 12) hgr2); clear hown2 hgr2 hnil2)
  all_goals
    go_wp2_with fail
    go_ret2
    exact ⟨_, rfl, F1.out, F2.out⟩
end Go.Proofs.Ytfnddooclgklmaa
