/- The walks of the layer reads: a frame of one's own. -/
import Derived.Test.YtdnablmlkkkdhaaWalkA
namespace Go.Proofs.Ytdnablmlkkkdhaa
open Go.RowKit
set_option linter.unusedVariables false
attribute [-go_sem] loadVar storeVar
attribute [local go_sem] loadVar_else storeVar_else run_load33 run_load35 run_load42 run_load44 run_load49 run_load72 run_store35 run_store42 run_store44 run_store49 aggAt_drew aggAt_drewN aggRoom_drew aggRoom_drewN
theorem info78 : (Try.prog.info? 78).map (fun i => (i.zero, i.size, i.bytes)) = some (some (.agg #[.int .i64 0, .int .i64 0]), 2, 16) := by kernel_rfl
theorem own_zero {w : World} {base : Nat} {e : TypeId} {k : Nat} {v : Value} {xs : List Value} (h : w.ownsRow base e k v 0 xs) : ∃ a c, v = .slice a 0 c := by
  obtain ⟨_, ⟨rfl, _⟩ | ⟨g, cap, cur, rfl, _⟩⟩ := h
  · exact ⟨_, _, rfl⟩
  · exact ⟨_, _, rfl⟩
theorem clone0 (a : Option Addr) (c : Nat) (w : World) :
    Calls Try.prog 31 #[.slice a 0 c] w fun e w' => ∃ a' c', e = .returned (.slice a' 0 c') ∧ Upd w w' [] := by
  have hs := fun (a : Option Addr) (n c : Nat) (w : World) => Lib.run_eql_slice_nil (P := Try.prog) w 38 78 a n c 0 0 Try.underlying38
  obtain ⟨i0, hi0, hz0, hz1, hz2⟩ := info_parts info78
  cases a with
  | none =>
    go_enter Try.func31, Try.ntmps31
    go_wp2
    go_ret
    exact ⟨_, _, rfl, Upd.refl _ _⟩
  | some ad =>
    have HN : Hid ((w.alloc (.cells #[] 78)).ownsRow w.heap.size 78 2 (.slice (some ⟨w.heap.size, 0, none⟩) 0 0) 0 []) := hide ⟨by simp, .inr ⟨w.heap.size, 0, #[], rfl, Nat.le_refl _, heap_alloc_new w _, Nat.le_refl _, by unfold maxLen; omega, rfl, rfl⟩⟩
    have HU := hide ((Upd.refl w []).alloc (.cells #[] 78))
    go_enter Try.func31, Try.ntmps31
    go_wp2_with (at_builtin; refine wpList_append_own _ rfl (.tmp 5) (.tmp 6) 38 rfl w.heap.size 78 i0 (.agg #[.int .i64 0, .int .i64 0]) 2 16 Try.underlying38 hi0 hz0 hz1 hz2 rfl (by decide) (.slice (some ⟨w.heap.size, 0, none⟩) 0 0) 0 [] rfl HN.out ad 0 c [] rfl rfl (fun j u h => by simp at h) (fun u h => by simp at h) (by unfold maxLen; omega) (by omega) (by simp) ?_; intro v1 w1 hown hgr hnil)
    obtain ⟨a1, c1, rfl⟩ := own_zero hown
    have K2 := hide (HU.out.trans (Upd.of_grown (S := [w.heap.size]) hgr (by simp [Value.ownBlock])) (by simp))
    clear hown hgr hnil
    go_wp2_with fail
    go_ret
    exact ⟨⟨_, _, rfl⟩, K2.out⟩
theorem results_frame {fn : Func} {p : Tmp} (h : fn.results = #[.cell p 42]) {tmps : Array Value} {w : World} {g : Nat} {F : Array Value} (hp : tmps.getD p undef = .pointer (some ⟨g, 0, none⟩)) (hL : aggAt 29 w g 0 = some F) :
    (results fn tmps).run Try.prog w = .ok (.agg F) w := by
  have hp' : tmps[p]?.getD undef = .pointer (some ⟨g, 0, none⟩) := by simpa using hp
  have hl : (loadVar 42 ⟨g, 0, none⟩).run Try.prog w = .ok (.agg F) w := by rw [run_load42, hL]
  simp [results, h, hp', asAddr, hl]
theorem own0 (F : Array Value) (d : Fd) (w : World) (hf : Fit F d) :
    Calls Try.prog 29 #[.agg F] w fun e w' => ∃ F', e = .returned (.agg F') ∧ Fit F' d ∧ Upd w w' [] := by
  have hF : F.size = 29 := hf.size
  obtain ⟨a, c, hm⟩ := hf.mem
  have B1 := hide (Blk.new w 42 F)
  have U1 := hide ((Upd.refl w []).alloc (.cells F 42))
  have HG := hide hf
  have h24 : ((w.alloc (.cells F 42)).alloc (.cells zeroF 42)).cell? ⟨w.heap.size, 24, none⟩ = some (.slice a 0 c) := by rw [(B1.out.alloc _).cell]; exact hm
  unfold zeroF at h24
  clear hf hm
  go_enter Try.func29, Try.ntmps29
  go_wp2_with fail
  refine (clone0 a c _).mono ?_
  rintro e w1 ⟨a', c', rfl, hu⟩
  have bF := hu.blk (B1.out.alloc _) (by simp)
  have bZ := hu.blk (Blk.new (w.alloc (.cells F 42)) 42 _) (by simp)
  rw [World.size_alloc] at bZ
  have h0 : (w1.cell? ⟨w.heap.size, 24, none⟩).isSome = true := by rw [bF.cell, Array.getElem?_eq_getElem (by omega)]; rfl
  obtain ⟨y, h0⟩ := Option.isSome_iff_exists.1 h0
  have f0 := bF.frozen 24
  have fit := HG.out.set_ a' c'
  have bF1 := bF.set_ 24 (.slice a' 0 c')
  generalize F.setIfInBounds 24 (.slice a' 0 c') = G at *
  have bZ1 := bZ.far (p := ⟨w.heap.size, 24, none⟩) (by simp) (.slice a' 0 c')
  have L1 : aggAt 29 (w1.setCell ⟨w.heap.size, 24, none⟩ (.slice a' 0 c')) w.heap.size 0 = some G := bF1.agg0 fit.size
  have S1 : aggRoom 29 (w1.setCell ⟨w.heap.size, 24, none⟩ (.slice a' 0 c')) (w.heap.size + 1) 0 G = true := bZ1.aggRoom 0 (by simp) fit.size fit.all
  have L2 : aggAt 29 ((w1.setCell ⟨w.heap.size, 24, none⟩ (.slice a' 0 c')).setCells (w.heap.size + 1) 0 G.toList) (w.heap.size + 1) 0 = some G := (bZ1.laid (cs' := G) (by rw [fit.size]; rfl)).agg0 fit.size
  have hu2 := hide (Upd.setCells (b := w.heap.size + 1) (by simp) G.toList 0 (((U1.out.alloc _).trans hu (by simp)).setCell (p := ⟨w.heap.size, 24, none⟩) (by simp) (.slice a' 0 c')))
  replace fit := hide fit
  clear bF bZ bF1 bZ1 hu hF
  go_wp2_with fail
  refine bodyPost_ret (results_frame rfl rfl L2) rfl ?_
  exact ⟨_, rfl, fit.out, hu2.out⟩
end Go.Proofs.Ytdnablmlkkkdhaa
