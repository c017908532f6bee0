/- The walks of the layer rings: a frame of one's own. -/
import Derived.Test.YtkopocbcldjjbaaWords
import Derived.OwnWalk
namespace Go.Proofs.Ytkopocbcldjjbaa
open Go.RowKit
set_option linter.unusedVariables false
attribute [-go_sem] loadVar storeVar
attribute [local go_sem] loadVar_else storeVar_else run_load40 run_store40
theorem info57 : (Try.prog.info? 57).map (fun i => (i.zero, i.size, i.bytes)) = some (some (.agg #[.int .i64 0, .int .i64 0]), 2, 16) := by kernel_rfl
theorem clone_none (w : World) (n c : Nat) :
    Calls Try.prog 26 #[.slice none n c] w fun e w' => e = .returned (.slice none 0 0) ∧ w = w' := by
  have hs := fun (a : Option Addr) (n c : Nat) (w : World) => Lib.run_eql_slice_nil (P := Try.prog) w 36 57 a n c 0 0 Try.underlying36
  go_enter Try.func26, Try.ntmps26
  go_wp2
  go_ret
  exact ⟨rfl, rfl⟩
theorem clone_some (w : World) (ad : Addr) (n c : Nat) (ms : List Value) (hl : ms.length = n * 2) (hn : n ≤ 10) (hc : ∀ j u, ms[j]? = some u → w.cell? (ad.add j) = some u) (h1 : ∀ u ∈ ms, u.oneCell' = true) :
    Calls Try.prog 26 #[.slice (some ad) n c] w fun e w' => ∃ v, e = .returned v ∧ Own w' w.heap.size v ms ∧ Upd w w' [] := by
  have hs := fun (a : Option Addr) (n c : Nat) (w : World) => Lib.run_eql_slice_nil (P := Try.prog) w 36 57 a n c 0 0 Try.underlying36
  obtain ⟨i0, hi0, hz0, hz1, hz2⟩ := info_parts info57
  have HC := hide hc
  have H1 := hide h1
  have HN : Hid ((w.alloc (.cells #[] 57)).ownsRow w.heap.size 57 2 (.slice (some ⟨w.heap.size, 0, none⟩) 0 0) 0 []) := hide ⟨by simp, .inr ⟨w.heap.size, 0, #[], rfl, Nat.le_refl _, heap_alloc_new w _, Nat.le_refl _, by unfold maxLen; omega, rfl, rfl⟩⟩
  have HC' : Hid (∀ j u, ms[j]? = some u → (w.alloc (.cells #[] 57)).cell? (ad.add j) = some u) := hide fun j u hu => by
    have h := hc j u hu
    rw [World.cell?_alloc_lt _ _ _ (World.block_lt_of_cell? w _ h)]; exact h
  have HU := hide ((Upd.refl w []).alloc (.cells #[] 57))
  clear hc h1
  go_enter Try.func26, Try.ntmps26
  go_wp2_with (at_builtin; refine wpList_append_own _ rfl (.tmp 5) (.tmp 6) 36 rfl w.heap.size 57 i0 (.agg #[.int .i64 0, .int .i64 0]) 2 16 Try.underlying36 hi0 hz0 hz1 hz2 rfl (by decide) (.slice (some ⟨w.heap.size, 0, none⟩) 0 0) 0 [] rfl HN.out ad n c ms rfl hl HC'.out H1.out (by unfold maxLen; omega) (by omega) (by simp) ?_; intro v1 w1 hown hgr hnil)
  rw [Nat.zero_add, List.nil_append] at hown
  have K := hide hown
  have K2 := hide (HU.out.trans (Upd.of_grown (S := [w.heap.size]) hgr (by simp [Value.ownBlock])) (by simp))
  clear hown hgr hnil
  go_wp2_with fail
  go_ret
  exact ⟨_, rfl, ⟨_, K.out⟩, K2.out⟩
theorem clone_ok (w : World) (v : Value) (ms : List Value) (hv : Src w v ms) (hn : ms.length ≤ 20) (h1 : ∀ u ∈ ms, u.oneCell' = true) :
    Calls Try.prog 26 #[v] w fun e w' => ∃ v', e = .returned v' ∧ Own w' w.heap.size v' ms ∧ Upd w w' [] := by
  obtain ⟨a, n, c, rfl, hl, ⟨rfl, rfl⟩ | ⟨ad, rfl, hc⟩⟩ := hv
  · refine (clone_none w 0 c).mono ?_
    rintro e w' ⟨rfl, rfl⟩
    exact ⟨_, rfl, ⟨0, hl, .inl ⟨rfl, rfl⟩⟩, Upd.refl _ _⟩
  · exact clone_some w ad n c ms hl (by omega) hc h1
theorem own_ok (w : World) (x : Fr) (v : Value) (hg : Good x) (hv : Src w v x.2) (hv1 : v.oneCell' = true) :
    Calls Try.prog 24 #[.agg (cut x v)] w fun e w' => ∃ F, e = .returned (.agg F) ∧ IsF w' w.heap.size F x ∧ Upd w w' [] := by
  have hF : (cut x v).size = 29 := by rw [cut_size, hg.size]
  have h24 : (cut x v)[24]'(by omega) = v := by
    have := cut_at hg.size v
    rw [Array.getElem?_eq_getElem (by omega)] at this
    exact Option.some.inj this
  have B1 := hide ((Blk.new w 40 (cut x v)))
  have U1 := hide ((Upd.refl w []).alloc (.cells (cut x v) 40))
  have HG := hide hg
  have HV := hide hv
  clear hg hv
  go_enter Try.func24, Try.ntmps24
  go_wp2_with fail
  refine (clone_ok _ v x.2 ((HV.out.upd U1.out).upd ((Upd.refl _ []).alloc _)) HG.out.few HG.out.mem).mono ?_
  rintro e w1 ⟨v', rfl, ho, hu⟩
  obtain ⟨a', n', c', rfl⟩ := ho.slice
  have bF := hu.blk (B1.out.alloc _) (by simp)
  have bZ := hu.blk (Blk.new (w.alloc (.cells (cut x v) 40)) 40 _) (by simp)
  rw [World.size_alloc] at bZ
  have h0 : w1.cell? ⟨w.heap.size, 24, none⟩ = some v := by rw [bF.cell]; exact cut_at HG.out.size v
  have f0 := bF.frozen 24
  have bF1 := (bF.set_ 24 (.slice a' n' c')).congr (cut_cut v _)
  have bZ1 := bZ.far (p := ⟨w.heap.size, 24, none⟩) (by simp) (.slice a' n' c')
  have hs' : (cut x (.slice a' n' c')).size = 29 := by rw [cut_size, HG.out.size]
  have ho' : Off w1 [w.heap.size] := Off.one bF (by decide)
  have ho1 := ho.upd ((Upd.refl w1 [w.heap.size]).setCell (p := ⟨w.heap.size, 24, none⟩) (by simp) (.slice a' n' c')) ho'
  have L1 := bF1.frame0 hs'
  have S1 := bZ1.room 0 (by simp) hs' (cut_one HG.out.one ho.one)
  have bZ2 := (bZ1.setCells (cut x (.slice a' n' c')).toList 0).congr (putAt_all (by rw [hs']; rfl))
  have L2 := bZ2.frame0 hs'
  have ho2 := hide ((ho1.upd (Upd.setCells (b := w.heap.size + 1) (by simp) (cut x (.slice a' n' c')).toList 0 (Upd.refl _ [w.heap.size + 1])) (Off.one bZ1 (by decide))).mono (b' := w.heap.size) (by simp; omega))
  have hu2 := hide (Upd.setCells (b := w.heap.size + 1) (by simp) (cut x (.slice a' n' c')).toList 0 (((U1.out.alloc _).trans hu (by simp)).setCell (p := ⟨w.heap.size, 24, none⟩) (by simp) (.slice a' n' c')))
  have HO := hide ho.one
  clear bF bZ bF1 bZ1 ho' ho1 bZ2 ho hu
  have hF' := hs'
  go_wp2_with fail
  refine bodyPost_ret (results_frame rfl rfl L2) rfl ?_
  exact ⟨_, rfl, ⟨HG.out, _, rfl, ho2.out⟩, hu2.out⟩
end Go.Proofs.Ytkopocbcldjjbaa
