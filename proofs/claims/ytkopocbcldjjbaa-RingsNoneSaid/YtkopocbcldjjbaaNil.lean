/- The walks of the layer rings: a ring that is none. -/
import Derived.Test.YtkopocbcldjjbaaRingH
namespace Go.Proofs.Ytkopocbcldjjbaa
open Go.RowKit
set_option linter.unusedVariables false
attribute [-go_sem] loadVar storeVar
attribute [local go_sem] loadVar_else storeVar_else run_load40 run_store40 frameAt_drew frameAt_drewN roomAt_drew roomAt_drewN
/-- a ring that is none: no pointer, or one without places -/
def NoRing (w : World) (v : Value) : Prop := v = .pointer none ∨ ∃ r, v = .pointer (some ⟨r, 0, none⟩) ∧ Blk w r 62 #[.slice none 0 0, .int .i64 0, .int .i64 0]
theorem NoRing.upd {w w' : World} {v : Value} (h : NoRing w v) (u : Upd w w' []) : NoRing w' v := by
  rcases h with h | ⟨r, h, hb⟩
  · exact .inl h
  · exact .inr ⟨r, h, u.blk hb (by simp)⟩
theorem none_yes (v : Value) (w : World) (h : NoRing w v) : Calls Try.prog 23 #[v] w fun e w' => e = .returned (.bool true) ∧ w = w' := by
  rcases h with rfl | ⟨r, rfl, hb⟩
  · exact none_nil w
  · exact none_empty r w (by rw [hb.cell]; rfl)
theorem len_none (v : Value) (w : World) (h : NoRing w v) : Calls Try.prog 11 #[v] w fun e w' => e = .returned (.int .i64 0) ∧ w = w' := by
  have H := hide (none_yes v w h)
  clear h
  go_enter Try.func11, Try.ntmps11
  go_wp2_with fail
  refine H.out.mono ?_
  rintro e w' ⟨rfl, rfl⟩
  go_wp2_with fail
  go_ret
  exact ⟨rfl, rfl⟩
theorem cap_none (v : Value) (w : World) (h : NoRing w v) : Calls Try.prog 8 #[v] w fun e w' => e = .returned (.int .i64 0) ∧ w = w' := by
  have H := hide (none_yes v w h)
  clear h
  go_enter Try.func8, Try.ntmps8
  go_wp2_with fail
  refine H.out.mono ?_
  rintro e w' ⟨rfl, rfl⟩
  go_wp2_with fail
  go_ret
  exact ⟨rfl, rfl⟩
theorem clear_none (v : Value) (w : World) (h : NoRing w v) : Calls Try.prog 18 #[v] w fun e w' => e = .returned (.tuple #[]) ∧ w = w' := by
  have H := hide (none_yes v w h)
  clear h
  go_enter Try.func18, Try.ntmps18
  go_wp2_with fail
  refine H.out.mono ?_
  rintro e w' ⟨rfl, rfl⟩
  go_wp2_with fail
  refine bodyPost_ret (results_none rfl _ _ _) rfl ?_
  exact ⟨rfl, rfl⟩
theorem copy_none (v : Value) (w : World) (h : NoRing w v) : Calls Try.prog 19 #[v] w fun e w' => e = .returned (.pointer none) ∧ w = w' := by
  have H := hide (none_yes v w h)
  clear h
  go_enter Try.func19, Try.ntmps19
  go_wp2_with fail
  refine H.out.mono ?_
  rintro e w' ⟨rfl, rfl⟩
  go_wp2_with fail
  go_ret
  exact ⟨rfl, rfl⟩
theorem at_nil (v : Value) (i : Int) (w : World) (hv : NoRing w v) :
    Calls Try.prog 17 #[v, .int .i64 i] w fun e w' => ∃ F, e = .returned (.tuple #[.agg F, .bool false]) ∧ IsF w' 0 F zeroFr ∧ Upd w w' [] := by
  have H := hide (none_yes v _ (hv.upd ((Upd.refl w []).alloc (.cells zeroF 40))))
  obtain ⟨l1, l2, l3, l4⟩ := (zero_isF (w.alloc (.cells zeroF 40)) 0).lay (Blk.new w 40 zeroF) rfl
  have U0 := hide (Upd.setCells (b := w.heap.size) (by simp) zeroF.toList 0 ((Upd.refl w []).alloc (.cells zeroF 40)))
  have HL := hide l2
  clear l2 l3 l4 hv
  go_enter Try.func17, Try.ntmps17
  go_wp2_with fail
  refine H.out.mono ?_
  rintro e w' ⟨rfl, rfl⟩
  go_wp2_with (refine wpList_zero rfl rfl ?_)
  refine bodyPost_ret (results_frame2 rfl rfl HL.out) rfl ?_
  exact ⟨_, rfl, zero_isF _ _, U0.out⟩
theorem front_nil (v : Value) (w : World) (hv : NoRing w v) :
    Calls Try.prog 15 #[v] w fun e w' => ∃ F, e = .returned (.tuple #[.agg F, .bool false]) ∧ IsF w' 0 F zeroFr ∧ Upd w w' [] := by
  have U0 := hide ((Upd.refl w []).alloc (.cells zeroF 40))
  have B0 := hide (Blk.new w 40 zeroF)
  have HA := hide (at_nil v 0 _ (hv.upd U0.out))
  clear hv
  go_enter Try.func15, Try.ntmps15
  go_wp2_with fail
  refine HA.out.mono ?_
  rintro e w1 ⟨F, rfl, hF, hu⟩
  obtain ⟨l1, l2, l3, l4⟩ := hF.lay (hu.blk B0.out (by simp)) rfl
  replace hF := hide l4
  replace hu := hide (Upd.setCells (b := w.heap.size) (by simp) F.toList 0 (U0.out.trans hu (by simp)))
  clear l3 l4
  replace l2 := hide l2
  go_wp2_with fail
  refine bodyPost_ret (results_frame2 rfl rfl l2.out) rfl ?_
  exact ⟨_, rfl, hF.out, hu.out⟩
theorem pop_nil (v : Value) (w : World) (hv : NoRing w v) :
    Calls Try.prog 10 #[v] w fun e w' => ∃ F, e = .returned (.tuple #[.agg F, .bool false]) ∧ IsF w' 0 F zeroFr ∧ Upd w w' [] := by
  have U0 := hide ((Upd.refl w []).alloc (.cells zeroF 40))
  have B0 := hide (Blk.new w 40 zeroF)
  have HA := hide (front_nil v _ (hv.upd U0.out))
  clear hv
  go_enter Try.func10, Try.ntmps10
  go_wp2_with fail
  refine HA.out.mono ?_
  rintro e w1 ⟨F, rfl, hF, hu⟩
  obtain ⟨l1, l2, l3, l4⟩ := hF.lay (hu.blk B0.out (by simp)) rfl
  obtain ⟨k1, k2, k3, k4⟩ := (zero_isF (w1.setCells w.heap.size 0 F.toList) 0).lay l3 hF.size
  replace hu := hide (Upd.setCells (b := w.heap.size) (by simp) zeroF.toList 0 (Upd.setCells (b := w.heap.size) (by simp) F.toList 0 (U0.out.trans hu (by simp))))
  clear l2 l3 l4 k3 k4 hF
  replace k2 := hide k2
  go_wp2_with (refine wpList_zero rfl rfl ?_)
  refine bodyPost_ret (results_frame2 rfl rfl k2.out) rfl ?_
  exact ⟨_, rfl, zero_isF _ _, hu.out⟩
theorem push_nil (v : Value) (F : Array Value) (w : World) (hv : NoRing w v) :
    Calls Try.prog 9 #[v, .agg F] w fun e w' => e = .returned (.bool false) ∧ Upd w w' [] := by
  have U0 := hide ((Upd.refl w []).alloc (.cells F 40))
  have H := hide fun (n : Nat) => none_yes v ((w.alloc (.cells F 40)).drewN n) (hv.upd (U0.out.drewN n))
  clear hv
  go_enter Try.func9, Try.ntmps9
  go_wp2_with fail
  go_quiet ((first | (go_at_call 23; exact quiet_left (H.out _))))
  go_wp2_with fail
  go_ret
  exact ⟨rfl, U0.out.drewN _⟩
end Go.Proofs.Ytkopocbcldjjbaa
