/- Acts of the layer history, as they are read; HistoryNone. -/
import Derived.Test.YtfnddooclgklmaaNone
import Derived.Test.YtfnddooclgklmaaRead
namespace Go.Proofs.Ytfnddooclgklmaa
open Go.ChangeShapes Go.WideShapes Go.ChangeAt Go.RowKit Go.Deep
set_option linter.unusedVariables false
theorem list_of {cs L : List Value} (hl : cs.length = L.length) (h : ∀ i, i < L.length → cs[i]? = L[i]?) : cs = L := by
  apply List.ext_getElem?
  intro i
  by_cases hi : i < L.length
  · exact h i hi
  · rw [List.getElem?_eq_none (by omega), List.getElem?_eq_none (by omega)]
theorem slice_form {H : Type} {enc : TypeId × Value → H} {P : Program} {w : World} {base : Nat} {spare : Nat → Bool} {held : Bool} {t e : TypeId} {fuel : Nat} {cs : List Value} {x : DataW H × List MemPlace} (ht : P.underlying t = some (.slice e))
    (h : DataW.trod enc P w base spare held fuel t cs = some x) : ∃ a n c, cs = [.slice a n c] := by
  rcases DataW.trod_slice ht h with ⟨h, _⟩ | ⟨a, n, c, _, _, _, _, h, _⟩
  · exact ⟨_, _, _, h⟩
  · exact ⟨_, _, _, h⟩
theorem open_s29 {H : Type} {enc : TypeId × Value → H} {w : World} {base : Nat} {spare : Nat → Bool} {held : Bool} {fuel : Nat} {cs : List Value} {x : DataW H × List MemPlace} (h : DataW.trod enc Try.prog w base spare held fuel 29 cs = some x) :
    ∃ x0 : Int, ∃ x1 : ByteArray, ∃ x2 : ByteArray, ∃ x3 : Int, cs = [.int .i64 x0, .string x1, .string x2, .int .i64 x3] ∧ ((Lit.int .i64 x0).wf = true) ∧ ((Lit.int .i64 x3).wf = true) := by
  obtain ⟨x0, h0, wx0⟩ := fld_int Try.underlying29 h 0 0 3 .i64 rfl (by kernel_rfl) Try.underlying3
  obtain ⟨x1, h1⟩ := fld_string Try.underlying29 h 1 1 9 rfl (by kernel_rfl) Try.underlying9
  obtain ⟨x2, h2⟩ := fld_string Try.underlying29 h 2 2 9 rfl (by kernel_rfl) Try.underlying9
  obtain ⟨x3, h3, wx3⟩ := fld_int Try.underlying29 h 3 3 3 .i64 rfl (by kernel_rfl) Try.underlying3
  refine ⟨x0, x1, x2, x3, list_of ((len_of_trod Try.underlying29 h).trans (by kernel_rfl)) ?_, wx0, wx3⟩
  intro i hi
  match i, hi with
  | 0, _ => exact h0
  | 1, _ => exact h1
  | 2, _ => exact h2
  | 3, _ => exact h3
  | i + 4, hi => exact absurd hi (by simp)
theorem open_s31 {H : Type} {enc : TypeId × Value → H} {w : World} {base : Nat} {spare : Nat → Bool} {held : Bool} {fuel : Nat} {cs : List Value} {x : DataW H × List MemPlace} (h : DataW.trod enc Try.prog w base spare held fuel 31 cs = some x) :
    ∃ x0 : Int, ∃ x1 : ByteArray, ∃ x2 : Int, ∃ x3 : Int, cs = [.int .i64 x0, .string x1, .int .i64 x2, .int .i64 x3] ∧ ((Lit.int .i64 x0).wf = true) ∧ ((Lit.int .i64 x2).wf = true) ∧ ((Lit.int .i64 x3).wf = true) := by
  obtain ⟨x0, h0, wx0⟩ := fld_int Try.underlying31 h 0 0 3 .i64 rfl (by kernel_rfl) Try.underlying3
  obtain ⟨x1, h1⟩ := fld_string Try.underlying31 h 1 1 9 rfl (by kernel_rfl) Try.underlying9
  obtain ⟨x2, h2, wx2⟩ := fld_int Try.underlying31 h 2 2 3 .i64 rfl (by kernel_rfl) Try.underlying3
  obtain ⟨x3, h3, wx3⟩ := fld_int Try.underlying31 h 3 3 3 .i64 rfl (by kernel_rfl) Try.underlying3
  refine ⟨x0, x1, x2, x3, list_of ((len_of_trod Try.underlying31 h).trans (by kernel_rfl)) ?_, wx0, wx2, wx3⟩
  intro i hi
  match i, hi with
  | 0, _ => exact h0
  | 1, _ => exact h1
  | 2, _ => exact h2
  | 3, _ => exact h3
  | i + 4, hi => exact absurd hi (by simp)
theorem open_s33 {H : Type} {enc : TypeId × Value → H} {w : World} {base : Nat} {spare : Nat → Bool} {held : Bool} {fuel : Nat} {cs : List Value} {x : DataW H × List MemPlace} (h : DataW.trod enc Try.prog w base spare held fuel 33 cs = some x) :
    ∃ x0 : Int, ∃ x1 : Int, ∃ x2_0 : Int, ∃ x2_1 : ByteArray, ∃ x2_2 : Int, ∃ x2_3 : Int, cs = [.int .i64 x0, .int .i64 x1, .int .i64 x2_0, .string x2_1, .int .i64 x2_2, .int .i64 x2_3] ∧ ((Lit.int .i64 x0).wf = true) ∧ ((Lit.int .i64 x1).wf = true) ∧ ((Lit.int .i64 x2_0).wf = true) ∧ ((Lit.int .i64 x2_2).wf = true) ∧ ((Lit.int .i64 x2_3).wf = true) := by
  obtain ⟨x0, h0, wx0⟩ := fld_int Try.underlying33 h 0 0 3 .i64 rfl (by kernel_rfl) Try.underlying3
  obtain ⟨x1, h1, wx1⟩ := fld_int Try.underlying33 h 1 1 3 .i64 rfl (by kernel_rfl) Try.underlying3
  obtain ⟨m2, y2, z2⟩ := fld Try.underlying33 h 2 2 4 31 rfl (by kernel_rfl)
  obtain ⟨x2_0, x2_1, x2_2, x2_3, e2, w2_0, w2_2, w2_3⟩ := open_s31 z2
  have h2 := at_of_take (cs := cs) (o := 2) (n := 4) (j := 0) (v := .int .i64 x2_0) (by rw [e2]; rfl)
  have h3 := at_of_take (cs := cs) (o := 2) (n := 4) (j := 1) (v := .string x2_1) (by rw [e2]; rfl)
  have h4 := at_of_take (cs := cs) (o := 2) (n := 4) (j := 2) (v := .int .i64 x2_2) (by rw [e2]; rfl)
  have h5 := at_of_take (cs := cs) (o := 2) (n := 4) (j := 3) (v := .int .i64 x2_3) (by rw [e2]; rfl)
  refine ⟨x0, x1, x2_0, x2_1, x2_2, x2_3, list_of ((len_of_trod Try.underlying33 h).trans (by kernel_rfl)) ?_, wx0, wx1, w2_0, w2_2, w2_3⟩
  intro i hi
  match i, hi with
  | 0, _ => exact h0
  | 1, _ => exact h1
  | 2, _ => exact h2
  | 3, _ => exact h3
  | 4, _ => exact h4
  | 5, _ => exact h5
  | i + 6, hi => exact absurd hi (by simp)
theorem open_s35 {H : Type} {enc : TypeId × Value → H} {w : World} {base : Nat} {spare : Nat → Bool} {held : Bool} {fuel : Nat} {cs : List Value} {x : DataW H × List MemPlace} (h : DataW.trod enc Try.prog w base spare held fuel 35 cs = some x) :
    ∃ x0 : Bool, ∃ x1 : Int, ∃ x2 : Int, ∃ x3_0 : Int, ∃ x3_1 : ByteArray, ∃ x3_2 : ByteArray, ∃ x3_3 : Int, ∃ x4_0 : Int, ∃ x4_1 : Int, ∃ x4_2_0 : Int, ∃ x4_2_1 : ByteArray, ∃ x4_2_2 : Int, ∃ x4_2_3 : Int, cs = [.bool x0, .int .i64 x1, .int .i64 x2, .int .i64 x3_0, .string x3_1, .string x3_2, .int .i64 x3_3, .int .i64 x4_0, .int .i64 x4_1, .int .i64 x4_2_0, .string x4_2_1, .int .i64 x4_2_2, .int .i64 x4_2_3] ∧ ((Lit.int .i64 x1).wf = true) ∧ ((Lit.int .i64 x2).wf = true) ∧ ((Lit.int .i64 x3_0).wf = true) ∧ ((Lit.int .i64 x3_3).wf = true) ∧ ((Lit.int .i64 x4_0).wf = true) ∧ ((Lit.int .i64 x4_1).wf = true) ∧ ((Lit.int .i64 x4_2_0).wf = true) ∧ ((Lit.int .i64 x4_2_2).wf = true) ∧ ((Lit.int .i64 x4_2_3).wf = true) := by
  obtain ⟨x0, h0⟩ := fld_bool Try.underlying35 h 0 0 4 rfl (by kernel_rfl) Try.underlying4
  obtain ⟨x1, h1, wx1⟩ := fld_int Try.underlying35 h 1 1 3 .i64 rfl (by kernel_rfl) Try.underlying3
  obtain ⟨x2, h2, wx2⟩ := fld_int Try.underlying35 h 2 2 3 .i64 rfl (by kernel_rfl) Try.underlying3
  obtain ⟨m3, y3, z3⟩ := fld Try.underlying35 h 3 3 4 29 rfl (by kernel_rfl)
  obtain ⟨x3_0, x3_1, x3_2, x3_3, e3, w3_0, w3_3⟩ := open_s29 z3
  have h3 := at_of_take (cs := cs) (o := 3) (n := 4) (j := 0) (v := .int .i64 x3_0) (by rw [e3]; rfl)
  have h4 := at_of_take (cs := cs) (o := 3) (n := 4) (j := 1) (v := .string x3_1) (by rw [e3]; rfl)
  have h5 := at_of_take (cs := cs) (o := 3) (n := 4) (j := 2) (v := .string x3_2) (by rw [e3]; rfl)
  have h6 := at_of_take (cs := cs) (o := 3) (n := 4) (j := 3) (v := .int .i64 x3_3) (by rw [e3]; rfl)
  obtain ⟨m4, y4, z4⟩ := fld Try.underlying35 h 4 7 6 33 rfl (by kernel_rfl)
  obtain ⟨x4_0, x4_1, x4_2_0, x4_2_1, x4_2_2, x4_2_3, e4, w4_0, w4_1, w4_2, w4_4, w4_5⟩ := open_s33 z4
  have h7 := at_of_take (cs := cs) (o := 7) (n := 6) (j := 0) (v := .int .i64 x4_0) (by rw [e4]; rfl)
  have h8 := at_of_take (cs := cs) (o := 7) (n := 6) (j := 1) (v := .int .i64 x4_1) (by rw [e4]; rfl)
  have h9 := at_of_take (cs := cs) (o := 7) (n := 6) (j := 2) (v := .int .i64 x4_2_0) (by rw [e4]; rfl)
  have h10 := at_of_take (cs := cs) (o := 7) (n := 6) (j := 3) (v := .string x4_2_1) (by rw [e4]; rfl)
  have h11 := at_of_take (cs := cs) (o := 7) (n := 6) (j := 4) (v := .int .i64 x4_2_2) (by rw [e4]; rfl)
  have h12 := at_of_take (cs := cs) (o := 7) (n := 6) (j := 5) (v := .int .i64 x4_2_3) (by rw [e4]; rfl)
  refine ⟨x0, x1, x2, x3_0, x3_1, x3_2, x3_3, x4_0, x4_1, x4_2_0, x4_2_1, x4_2_2, x4_2_3, list_of ((len_of_trod Try.underlying35 h).trans (by kernel_rfl)) ?_, wx1, wx2, w3_0, w3_3, w4_0, w4_1, w4_2, w4_4, w4_5⟩
  intro i hi
  match i, hi with
  | 0, _ => exact h0
  | 1, _ => exact h1
  | 2, _ => exact h2
  | 3, _ => exact h3
  | 4, _ => exact h4
  | 5, _ => exact h5
  | 6, _ => exact h6
  | 7, _ => exact h7
  | 8, _ => exact h8
  | 9, _ => exact h9
  | 10, _ => exact h10
  | 11, _ => exact h11
  | 12, _ => exact h12
  | i + 13, hi => exact absurd hi (by simp)
/-- one act, as it is read -/
theorem open_act {H : Type} {enc : TypeId × Value → H} {w : World} {base : Nat} {spare : Nat → Bool} {held : Bool} {fuel : Nat} {cs : List Value} {x : DataW H × List MemPlace} (h : DataW.trod enc Try.prog w base spare held fuel 35 cs = some x) :
    ∃ a : Ac, cs = a.cells.toList := by
  obtain ⟨x0, x1, x2, x3_0, x3_1, x3_2, x3_3, x4_0, x4_1, x4_2_0, x4_2_1, x4_2_2, x4_2_3, e, _⟩ := open_s35 h
  exact ⟨⟨x0, x1, x2, ⟨x3_0, x3_1, x3_2, x3_3⟩, ⟨x4_0, x4_1, x4_2_0, x4_2_1, x4_2_2, x4_2_3⟩⟩, e⟩
theorem open_acts {H : Type} {enc : TypeId × Value → H} {w : World} {base : Nat} {spare : Nat → Bool} {held : Bool} {fuel : Nat} {a : Option Addr} {len cap : Nat} {x : DataW H × List MemPlace} (h : DataW.trod enc Try.prog w base spare held fuel 22 [.slice a len cap] = some x) :
    len ≤ maxLen ∧ ∃ (b off : Nat) (xs : List Ac), xs.length = len ∧ (0 < len → a = some ⟨b, off, none⟩) ∧ Acts w b off xs := by
  obtain ⟨⟨hl1, hl2⟩, b, off, row, ha, hr⟩ := open_rows (C := 13) Try.underlying22 (by kernel_rfl) (by decide) h
  have key : ∀ i, ∃ p : Ac, i < len → row i = p.cells.toList := by
    intro i
    by_cases hi : i < len
    · obtain ⟨_, _, m, y, hy⟩ := hr i hi
      obtain ⟨p, hp⟩ := open_act hy
      exact ⟨p, fun _ => hp⟩
    · exact ⟨⟨false, 0, 0, zeroOp, zeroOut⟩, fun h => absurd h hi⟩
  refine ⟨Nat.le_trans hl1 hl2, b, off, (List.range len).map fun i => Classical.choose (key i), by simp, ha, fun i hi => ?_⟩
  have hi : i < len := by simpa using hi
  obtain ⟨_, hc, _⟩ := hr i hi
  have k1 := Classical.choose_spec (key i) hi
  have hg : ((List.range len).map fun i => Classical.choose (key i))[i]'(by simpa using hi) = Classical.choose (key i) := by simp
  rw [hg]
  refine aggAt_of rfl fun j hj => ?_
  have := hc j hj
  rw [k1] at this
  rw [Nat.add_assoc, this, Array.getElem?_toList]
theorem HistoryNone_walk {H : Type} (enc : TypeId × Value → H) (W : World) (cs : Array Value) {sp : Nat → Bool} {hd : Bool} {fuel : Nat} {x : DataW H × List MemPlace}
    (h : DataW.trod enc Try.prog W 0 sp hd fuel 35 cs.toList = some x) :
    Calls Try.prog 4 #[.agg cs] W fun e w' => e = .returned (.bool true) ∧ Below W.heap.size W w' := by
  obtain ⟨a, ha⟩ := open_act h
  rw [show cs = a.cells from Array.ext' ha]
  exact (hnone_walk a W).mono fun e w' ⟨he, u⟩ => ⟨he, u.below (Nat.le_refl _) (by simp)⟩
end Go.Proofs.Ytfnddooclgklmaa
