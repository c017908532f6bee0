/- The walks of the layer rings: Clear. -/
import Derived.Test.YtkopocbcldjjbaaRingH
namespace Go.Proofs.Ytkopocbcldjjbaa
open Go.RowKit
set_option linter.unusedVariables false
attribute [-go_sem] loadVar storeVar
attribute [local go_sem] loadVar_else storeVar_else run_load40 run_store40 frameAt_drew frameAt_drewN roomAt_drew roomAt_drewN
theorem clear_ok (r pb cap first cnt : Nat) (fs : Nat → Fr) (w : World) (h : Ring w r pb cap first cnt fs) :
    Calls Try.prog 18 #[.pointer (some ⟨r, 0, none⟩)] w fun e w' => e = .returned (.tuple #[]) ∧ Ring w' r pb cap 0 0 (fun _ => zeroFr) ∧ Upd w w' [r, pb] := by
  have h0 := h.c0
  have hf := h.hf
  have hcl : ∀ ty, (Builtin.clear_ #[52] ty #[.slice (some ⟨pb, 0, none⟩) cap cap]).run Try.prog w = .ok (.tuple #[]) (w.setCells pb 0 (zRow cap).toList) := by
    obtain ⟨cs, hb, hs, _⟩ := h.row
    exact fun ty => run_clear52 _ pb 0 cap cap ty cs (by omega) hb (by omega)
  have N := hide (none_no r pb cap w h0)
  have R1 := h.clear 0 cap (by omega)
  rw [Nat.zero_mul] at R1
  have U1 := hide (show Upd w (w.setCells pb 0 (zRow cap).toList) [r, pb] from Upd.setCells (b := pb) (by simp) _ _ (Upd.refl _ _))
  have k1 := R1.c1
  have f1 := R1.head.frozen 1
  have k2 : ((w.setCells pb 0 (zRow cap).toList).setCell ⟨r, 1, none⟩ (.int .i64 0)).cell? ⟨r, 2, none⟩ = some (.int .i64 cnt) := by rw [(R1.head.set_ 1 _).cell]; simp [headOf]
  have f2 := (R1.head.set_ 1 (.int .i64 0)).frozen 2
  have hb5 := ((R1.head.set_ 1 (.int .i64 0)).set_ 2 (.int .i64 0)).congr (cs' := headOf pb cap 0 0) (by simp [headOf])
  have u5 : Upd (w.setCells pb 0 (zRow cap).toList) (((w.setCells pb 0 (zRow cap).toList).setCell ⟨r, 1, none⟩ (.int .i64 0)).setCell ⟨r, 2, none⟩ (.int .i64 0)) [r] := ((Upd.refl _ _).setCell (by simp) _).setCell (by simp) _
  have R5 := hide (R1.turn u5 hb5 (by omega) (by omega))
  have U5 := hide (U1.out.trans u5 (by simp))
  clear R1 hb5 u5 h U1
  go_enter Try.func18, Try.ntmps18
  go_wp2_with fail
  refine N.out.mono ?_
  rintro e w' ⟨rfl, rfl⟩
  go_wp2_with fail
  refine bodyPost_end (results_none rfl _ _ _) rfl ?_
  exact ⟨rfl, R5.out.congr (fun i hi => by simp [hi]), U5.out⟩
end Go.Proofs.Ytkopocbcldjjbaa
