/- The walks of the layer rings, 3: At, Front. -/
import Derived.Test.YtkopocbcldjjbaaRingB
namespace Go.Proofs.Ytkopocbcldjjbaa
open Go.RowKit
set_option linter.unusedVariables false
attribute [-go_sem] loadVar storeVar
attribute [local go_sem] loadVar_else storeVar_else run_load40 run_store40 frameAt_drew frameAt_drewN roomAt_drew roomAt_drewN
/-- the frame at a place -/
theorem Places.get {w : World} {pb cap : Nat} {fs : Nat → Fr} (h : Places w pb cap fs) (i : Nat) (hi : i < cap) : ∃ F, frameAt w pb (i * 29) = some F ∧ IsF w 0 F (fs i) := by
  obtain ⟨cs, hb, hs, hf⟩ := h
  obtain ⟨F, h1, h2, h3⟩ := hf i hi
  exact ⟨F, hb.frame _ h1 h2, h3⟩
theorem IsF.mono {w : World} {b b' : Nat} {F : Array Value} {x : Fr} (h : IsF w b F x) (hb : b' ≤ b) : IsF w b' F x := by
  obtain ⟨hg, v, hv, h⟩ := h
  exact ⟨hg, v, hv, h.mono hb⟩
/-- own, of a frame that is at hand, in a world that has drawn -/
theorem own_drew {w : World} {F : Array Value} {x : Fr} {b : Nat} (hI : IsF w b F x) (n : Nat) :
    Calls Try.prog 24 #[.agg F] (w.drewN n) fun e w' => ∃ F', e = .returned (.agg F') ∧ IsF w' w.heap.size F' x ∧ Upd w w' [] := by
  obtain ⟨hg, v, rfl, ho⟩ := hI
  refine (own_ok (w.drewN n) x v hg ho.src ho.one).mono ?_
  rintro e w' ⟨F', rfl, hF, hu⟩
  exact ⟨F', rfl, hF, hu.os, hu.tape, hu.output, hu.size, hu.block⟩
/-- a frame is laid into a block of its own -/
theorem IsF.lay {w : World} {b H : Nat} {F Z : Array Value} {x : Fr} (h : IsF w b F x) (hZ : Blk w H 40 Z) (hz : Z.size = 29) :
    roomAt w H 0 F = true ∧ frameAt (w.setCells H 0 F.toList) H 0 = some F ∧ Blk (w.setCells H 0 F.toList) H 40 F ∧ IsF (w.setCells H 0 F.toList) b F x := by
  have hb := (hZ.setCells F.toList 0).congr (putAt_all (by rw [h.size, hz]))
  exact ⟨hZ.room 0 (by rw [hz]; omega) h.size h.one, hb.frame0 h.size, hb, h.upd (Upd.setCells (b := H) (S := [H]) (by simp) F.toList 0 (Upd.refl _ _)) (Off.one hZ (by decide))⟩
theorem at_ok (r pb cap first cnt : Nat) (fs : Nat → Fr) (w : World) (h : Ring w r pb cap first cnt fs) (i : Nat) (hi : i < cnt) :
    Calls Try.prog 17 #[.pointer (some ⟨r, 0, none⟩), .int .i64 i] w fun e w' => ∃ F, e = .returned (.tuple #[.agg F, .bool true]) ∧ IsF w' w.heap.size F (fs ((first + i) % cap)) ∧ Upd w w' [] := by
  have R0 := h.upd ((Upd.refl w []).alloc (.cells zeroF 40)) (by simp) (by simp) (Off.nil _)
  have e1 := h.hf
  have e2 := h.h64
  have e3 := h.hc
  have B0 := hide (Blk.new w 40 zeroF)
  have U0 := hide ((Upd.refl w []).alloc (.cells zeroF 40))
  clear h
  have h0 := R0.c0
  have h2 := R0.c2
  have hp : (first + i) % cap < cap := Nat.mod_lt _ (by omega)
  obtain ⟨F, hF, hI⟩ := R0.row.get _ hp
  have HP := hide fun (n : Nat) => place_ok r pb cap first cnt fs i (w := (w.alloc (.cells zeroF 40)).drewN n) ⟨R0.head, R0.row, R0.hf, R0.hc, R0.h64⟩ (by omega)
  have HI := hide hI
  have HO := hide fun (n : Nat) => own_drew hI n
  clear R0 hI
  generalize (first + i) % cap = p at *
  go_enter Try.func17, Try.ntmps17
  go_wp2_with fail
  refine (none_no _ _ _ _ h0).mono ?_
  rintro e w' ⟨rfl, rfl⟩
  go_wp2_with fail
  go_region_with ((first | (go_at_call 25; refine (HP.out _).mono ?_; rintro e w' ⟨rfl, m, rfl⟩) | (go_at_call 24; refine (HO.out _).mono ?_; rintro e w1 ⟨F', rfl, hF', hu⟩; obtain ⟨l1, l2, l3, l4⟩ := hF'.lay (hu.blk B0.out (by simp)) rfl; replace hF' := hide l4; replace hu := hide (Upd.setCells (b := w.heap.size) (by simp) F'.toList 0 (U0.out.trans hu (by simp))); clear l3 l4)))
  all_goals (go_wp2_with fail; refine bodyPost_ret (results_frame2 rfl rfl l2) rfl ?_; exact ⟨_, rfl, hF'.out.mono (by simp), hu.out⟩)
end Go.Proofs.Ytkopocbcldjjbaa
