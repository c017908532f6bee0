/- The walks of the layer rings, 5: clear. -/
import Derived.Test.YtkopocbcldjjbaaRingC
namespace Go.Proofs.Ytkopocbcldjjbaa
open Go.RowKit
set_option linter.unusedVariables false
def zRow (n : Nat) : Array Value := Builtin.zeroCells zeroF n
theorem zRow_size (n : Nat) : (zRow n).size = n * 29 := size_zeroCells zeroF n
theorem zRow_get (n i j : Nat) (hi : i < n) (hj : j < 29) : (zRow n)[i * 29 + j]? = zeroF[j]? := by
  have h29 : zeroF.size = 29 := rfl
  have hlt : i * 29 + j < n * 29 := by omega
  have hm : (i * 29 + j) % 29 = j := by omega
  rw [Array.getElem?_eq_getElem (by rw [zRow_size]; omega), Array.getElem?_eq_getElem (by omega)]
  simp only [zRow, Builtin.zeroCells, Array.getElem_map, Array.getElem_range, h29, hm]
  rw [Array.getElem!_eq_getD, Array.getD, dif_pos (by omega)]
  rfl
theorem zRow_one (n : Nat) : ∀ v ∈ zRow n, v.oneCell' = true := by
  intro v hv
  obtain ⟨k, hk⟩ := Array.mem_iff_getElem?.1 hv
  have hlt : k < n * 29 := by rw [← zRow_size n]; exact (Array.getElem?_eq_some_iff.1 hk).1
  have := zRow_get n (k / 29) (k % 29) (by omega) (by omega)
  rw [show k / 29 * 29 + k % 29 = k by omega, hk] at this
  exact zero_good.one v (Array.mem_iff_getElem?.2 ⟨_, this.symm⟩)
/-- so many empty frames are laid at a place -/
theorem run_clear52 (w : World) (g o n c : Nat) (ty : TypeId) (cs : Array Value) (hn : 0 < n) (hb : Blk w g 40 cs) (hs : o + n * 29 ≤ cs.size) :
    (Builtin.clear_ #[52] ty #[.slice (some ⟨g, o, none⟩) n c]).run Try.prog w = .ok (.tuple #[]) (w.setCells g o (zRow n).toList) := by
  have hth := hb.there o (n * 29) hs
  have hst := run_storeCells_cells (P := Try.prog) g o (zRow n).toList 0 w
    (fun j hj => by simpa using (hth j (by simpa [zRow_size] using hj)).1) (fun j hj => by simpa using (hth j (by simpa [zRow_size] using hj)).2)
    (fun v hv => zRow_one n v (by simpa using hv))
  obtain ⟨i0, hi0, hz0, _, _⟩ := info_parts info40z
  have hne : n ≠ 0 := by omega
  obtain ⟨n, rfl⟩ : ∃ m, n = m + 1 := ⟨n - 1, by omega⟩
  simp only [Nat.add_zero] at hst
  simp [Builtin.clear_, run_underlying Try.underlying52, zeroValue, typeInfo, hi0, hz0, Value.cells, Sem.run_bind, Result.andThen]
  rw [show Builtin.zeroCells zeroF (n + 1) = zRow (n + 1) from rfl, hst]
end Go.Proofs.Ytkopocbcldjjbaa
