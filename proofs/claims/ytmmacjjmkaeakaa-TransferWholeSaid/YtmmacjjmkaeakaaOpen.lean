/- How the arguments of the layer transfer are read. (Printed by tpl/openstruct.py.) -/
import Derived.Test.YtmmacjjmkaeakaaWords
import Derived.Test.YtmmacjjmkaeakaaRead
namespace Go.Proofs.Ytmmacjjmkaeakaa
open Go.ChangeShapes Go.WideShapes Go.ChangeAt Go.RowKit Go.Deep
set_option linter.unusedVariables false
theorem list_of {cs L : List Value} (hl : cs.length = L.length) (h : ∀ i, i < L.length → cs[i]? = L[i]?) : cs = L := by
  apply List.ext_getElem?
  intro i
  by_cases hi : i < L.length
  · exact h i hi
  · rw [List.getElem?_eq_none (by omega), List.getElem?_eq_none (by omega)]
theorem slice_form {H : Type} {enc : TypeId × Value → H} {P : Program} {w : World} {base : Nat} {spare : Nat → Bool} {held : Bool} {t e : TypeId} {fuel : Nat} {cs : List Value} {x : DataW H × List MemPlace} (ht : P.underlying t = some (.slice e))
    (h : DataW.trod enc P w base spare held fuel t cs = some x) : ∃ a n c, cs = [.slice a n c] := by
  rcases DataW.trod_slice ht h with ⟨h, _⟩ | ⟨a, n, c, _, _, _, _, h, _⟩
  · exact ⟨_, _, _, h⟩
  · exact ⟨_, _, _, h⟩
theorem open_s31 {H : Type} {enc : TypeId × Value → H} {w : World} {base : Nat} {spare : Nat → Bool} {held : Bool} {fuel : Nat} {cs : List Value} {x : DataW H × List MemPlace} (h : DataW.trod enc Try.prog w base spare held fuel 31 cs = some x) :
    ∃ x0 : Int, ∃ x1 : Int, ∃ x2 : Int, ∃ x3 : ByteArray, cs = [.int .i64 x0, .int .i64 x1, .int .i64 x2, .string x3] ∧ ((Lit.int .i64 x0).wf = true) ∧ ((Lit.int .i64 x1).wf = true) ∧ ((Lit.int .i64 x2).wf = true) := by
  obtain ⟨x0, h0, wx0⟩ := fld_int Try.underlying31 h 0 0 3 .i64 rfl (by kernel_rfl) Try.underlying3
  obtain ⟨x1, h1, wx1⟩ := fld_int Try.underlying31 h 1 1 3 .i64 rfl (by kernel_rfl) Try.underlying3
  obtain ⟨x2, h2, wx2⟩ := fld_int Try.underlying31 h 2 2 3 .i64 rfl (by kernel_rfl) Try.underlying3
  obtain ⟨x3, h3⟩ := fld_string Try.underlying31 h 3 3 9 rfl (by kernel_rfl) Try.underlying9
  refine ⟨x0, x1, x2, x3, list_of ((len_of_trod Try.underlying31 h).trans (by kernel_rfl)) ?_, wx0, wx1, wx2⟩
  intro i hi
  match i, hi with
  | 0, _ => exact h0
  | 1, _ => exact h1
  | 2, _ => exact h2
  | 3, _ => exact h3
  | i + 4, hi => exact absurd hi (by simp)
theorem open_s55 {H : Type} {enc : TypeId × Value → H} {w : World} {base : Nat} {spare : Nat → Bool} {held : Bool} {fuel : Nat} {cs : List Value} {x : DataW H × List MemPlace} (h : DataW.trod enc Try.prog w base spare held fuel 55 cs = some x) :
    ∃ x0 : Int, ∃ x1 : Int, ∃ x2 : Int, cs = [.int .u8 x0, .int .i64 x1, .int .i64 x2] ∧ ((Lit.int .u8 x0).wf = true) ∧ ((Lit.int .i64 x1).wf = true) ∧ ((Lit.int .i64 x2).wf = true) := by
  obtain ⟨x0, h0, wx0⟩ := fld_int Try.underlying55 h 0 0 5 .u8 rfl (by kernel_rfl) Try.underlying5
  obtain ⟨x1, h1, wx1⟩ := fld_int Try.underlying55 h 1 1 3 .i64 rfl (by kernel_rfl) Try.underlying3
  obtain ⟨x2, h2, wx2⟩ := fld_int Try.underlying55 h 2 2 3 .i64 rfl (by kernel_rfl) Try.underlying3
  refine ⟨x0, x1, x2, list_of ((len_of_trod Try.underlying55 h).trans (by kernel_rfl)) ?_, wx0, wx1, wx2⟩
  intro i hi
  match i, hi with
  | 0, _ => exact h0
  | 1, _ => exact h1
  | 2, _ => exact h2
  | i + 3, hi => exact absurd hi (by simp)
end Go.Proofs.Ytmmacjjmkaeakaa
