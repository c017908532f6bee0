/- Acts of the layer rings, as they are read, cell by cell. -/
import Derived.Test.YtkopocbcldjjbaaWordsB
import Derived.Test.YtkopocbcldjjbaaRead
namespace Go.Proofs.Ytkopocbcldjjbaa
open Go.ChangeShapes Go.WideShapes Go.ChangeAt Go.RowKit Go.Deep
set_option linter.unusedVariables false
theorem list_of {cs L : List Value} (hl : cs.length = L.length) (h : ∀ i, i < L.length → cs[i]? = L[i]?) : cs = L := by
  apply List.ext_getElem?
  intro i
  by_cases hi : i < L.length
  · exact h i hi
  · rw [List.getElem?_eq_none (by omega), List.getElem?_eq_none (by omega)]
theorem slice_form {H : Type} {enc : TypeId × Value → H} {P : Program} {w : World} {base : Nat} {spare : Nat → Bool} {held : Bool} {t e : TypeId} {fuel : Nat} {cs : List Value} {x : DataW H × List MemPlace} (ht : P.underlying t = some (.slice e))
    (h : DataW.trod enc P w base spare held fuel t cs = some x) : ∃ a n c, cs = [.slice a n c] := by
  rcases DataW.trod_slice ht h with ⟨h, _⟩ | ⟨a, n, c, _, _, _, _, h, _⟩
  · exact ⟨_, _, _, h⟩
  · exact ⟨_, _, _, h⟩
theorem open_s31 {H : Type} {enc : TypeId × Value → H} {w : World} {base : Nat} {spare : Nat → Bool} {held : Bool} {fuel : Nat} {cs : List Value} {x : DataW H × List MemPlace} (h : DataW.trod enc Try.prog w base spare held fuel 31 cs = some x) :
    ∃ x0 : Int, ∃ x1 : ByteArray, ∃ x2 : ByteArray, ∃ x3 : Int, cs = [.int .i64 x0, .string x1, .string x2, .int .i64 x3] ∧ ((Lit.int .i64 x0).wf = true) ∧ ((Lit.int .i64 x3).wf = true) := by
  obtain ⟨x0, h0, wx0⟩ := fld_int Try.underlying31 h 0 0 3 .i64 rfl (by kernel_rfl) Try.underlying3
  obtain ⟨x1, h1⟩ := fld_string Try.underlying31 h 1 1 9 rfl (by kernel_rfl) Try.underlying9
  obtain ⟨x2, h2⟩ := fld_string Try.underlying31 h 2 2 9 rfl (by kernel_rfl) Try.underlying9
  obtain ⟨x3, h3, wx3⟩ := fld_int Try.underlying31 h 3 3 3 .i64 rfl (by kernel_rfl) Try.underlying3
  refine ⟨x0, x1, x2, x3, list_of ((len_of_trod Try.underlying31 h).trans (by kernel_rfl)) ?_, wx0, wx3⟩
  intro i hi
  match i, hi with
  | 0, _ => exact h0
  | 1, _ => exact h1
  | 2, _ => exact h2
  | 3, _ => exact h3
  | i + 4, hi => exact absurd hi (by simp)
theorem open_s33 {H : Type} {enc : TypeId × Value → H} {w : World} {base : Nat} {spare : Nat → Bool} {held : Bool} {fuel : Nat} {cs : List Value} {x : DataW H × List MemPlace} (h : DataW.trod enc Try.prog w base spare held fuel 33 cs = some x) :
    ∃ x0 : Int, ∃ x1 : ByteArray, ∃ x2 : Int, ∃ x3 : Int, cs = [.int .i64 x0, .string x1, .int .i64 x2, .int .i64 x3] ∧ ((Lit.int .i64 x0).wf = true) ∧ ((Lit.int .i64 x2).wf = true) ∧ ((Lit.int .i64 x3).wf = true) := by
  obtain ⟨x0, h0, wx0⟩ := fld_int Try.underlying33 h 0 0 3 .i64 rfl (by kernel_rfl) Try.underlying3
  obtain ⟨x1, h1⟩ := fld_string Try.underlying33 h 1 1 9 rfl (by kernel_rfl) Try.underlying9
  obtain ⟨x2, h2, wx2⟩ := fld_int Try.underlying33 h 2 2 3 .i64 rfl (by kernel_rfl) Try.underlying3
  obtain ⟨x3, h3, wx3⟩ := fld_int Try.underlying33 h 3 3 3 .i64 rfl (by kernel_rfl) Try.underlying3
  refine ⟨x0, x1, x2, x3, list_of ((len_of_trod Try.underlying33 h).trans (by kernel_rfl)) ?_, wx0, wx2, wx3⟩
  intro i hi
  match i, hi with
  | 0, _ => exact h0
  | 1, _ => exact h1
  | 2, _ => exact h2
  | 3, _ => exact h3
  | i + 4, hi => exact absurd hi (by simp)
theorem open_s35 {H : Type} {enc : TypeId × Value → H} {w : World} {base : Nat} {spare : Nat → Bool} {held : Bool} {fuel : Nat} {cs : List Value} {x : DataW H × List MemPlace} (h : DataW.trod enc Try.prog w base spare held fuel 35 cs = some x) :
    ∃ x0 : Int, ∃ x1 : Int, ∃ x2 : Int, ∃ x3_0 : Int, ∃ x3_1 : ByteArray, ∃ x3_2 : ByteArray, ∃ x3_3 : Int, cs = [.int .i64 x0, .int .i64 x1, .int .i64 x2, .int .i64 x3_0, .string x3_1, .string x3_2, .int .i64 x3_3] ∧ ((Lit.int .i64 x0).wf = true) ∧ ((Lit.int .i64 x1).wf = true) ∧ ((Lit.int .i64 x2).wf = true) ∧ ((Lit.int .i64 x3_0).wf = true) ∧ ((Lit.int .i64 x3_3).wf = true) := by
  obtain ⟨x0, h0, wx0⟩ := fld_int Try.underlying35 h 0 0 3 .i64 rfl (by kernel_rfl) Try.underlying3
  obtain ⟨x1, h1, wx1⟩ := fld_int Try.underlying35 h 1 1 3 .i64 rfl (by kernel_rfl) Try.underlying3
  obtain ⟨x2, h2, wx2⟩ := fld_int Try.underlying35 h 2 2 3 .i64 rfl (by kernel_rfl) Try.underlying3
  obtain ⟨m3, y3, z3⟩ := fld Try.underlying35 h 3 3 4 31 rfl (by kernel_rfl)
  obtain ⟨x3_0, x3_1, x3_2, x3_3, e3, w3_0, w3_3⟩ := open_s31 z3
  have h3 := at_of_take (cs := cs) (o := 3) (n := 4) (j := 0) (v := .int .i64 x3_0) (by rw [e3]; rfl)
  have h4 := at_of_take (cs := cs) (o := 3) (n := 4) (j := 1) (v := .string x3_1) (by rw [e3]; rfl)
  have h5 := at_of_take (cs := cs) (o := 3) (n := 4) (j := 2) (v := .string x3_2) (by rw [e3]; rfl)
  have h6 := at_of_take (cs := cs) (o := 3) (n := 4) (j := 3) (v := .int .i64 x3_3) (by rw [e3]; rfl)
  refine ⟨x0, x1, x2, x3_0, x3_1, x3_2, x3_3, list_of ((len_of_trod Try.underlying35 h).trans (by kernel_rfl)) ?_, wx0, wx1, wx2, w3_0, w3_3⟩
  intro i hi
  match i, hi with
  | 0, _ => exact h0
  | 1, _ => exact h1
  | 2, _ => exact h2
  | 3, _ => exact h3
  | 4, _ => exact h4
  | 5, _ => exact h5
  | 6, _ => exact h6
  | i + 7, hi => exact absurd hi (by simp)
theorem open_s38 {H : Type} {enc : TypeId × Value → H} {w : World} {base : Nat} {spare : Nat → Bool} {held : Bool} {fuel : Nat} {cs : List Value} {x : DataW H × List MemPlace} (h : DataW.trod enc Try.prog w base spare held fuel 38 cs = some x) :
    ∃ x0 : Int, ∃ (x1a : Option Addr) (x1n x1c : Nat), ∃ x2 : Int, cs = [.int .i64 x0, .slice x1a x1n x1c, .int .i64 x2] ∧ ((Lit.int .i64 x0).wf = true) ∧ (∃ m y, DataW.trod enc Try.prog w base spare held m 36 [.slice x1a x1n x1c] = some y) ∧ ((Lit.int .i64 x2).wf = true) := by
  obtain ⟨x0, h0, wx0⟩ := fld_int Try.underlying38 h 0 0 3 .i64 rfl (by kernel_rfl) Try.underlying3
  obtain ⟨m1, y1, z1⟩ := fld Try.underlying38 h 1 1 1 36 rfl (by kernel_rfl)
  obtain ⟨x1a, x1n, x1c, e1⟩ := slice_form Try.underlying36 z1
  have h1 := at_of_take (cs := cs) (o := 1) (n := 1) (j := 0) (v := .slice x1a x1n x1c) (by rw [e1]; rfl)
  rw [e1] at z1
  obtain ⟨x2, h2, wx2⟩ := fld_int Try.underlying38 h 2 2 3 .i64 rfl (by kernel_rfl) Try.underlying3
  refine ⟨x0, x1a, x1n, x1c, x2, list_of ((len_of_trod Try.underlying38 h).trans (by kernel_rfl)) ?_, wx0, ⟨m1, y1, z1⟩, wx2⟩
  intro i hi
  match i, hi with
  | 0, _ => exact h0
  | 1, _ => exact h1
  | 2, _ => exact h2
  | i + 3, hi => exact absurd hi (by simp)
theorem open_s40 {H : Type} {enc : TypeId × Value → H} {w : World} {base : Nat} {spare : Nat → Bool} {held : Bool} {fuel : Nat} {cs : List Value} {x : DataW H × List MemPlace} (h : DataW.trod enc Try.prog w base spare held fuel 40 cs = some x) :
    ∃ x0 : Int, ∃ x1 : Int, ∃ x2 : Int, ∃ x3 : Int, ∃ x4 : Int, ∃ x5 : Int, ∃ x6 : Int, ∃ x7_0 : Int, ∃ x7_1 : ByteArray, ∃ x7_2 : ByteArray, ∃ x7_3 : Int, ∃ x8_0 : Int, ∃ x8_1 : ByteArray, ∃ x8_2 : Int, ∃ x8_3 : Int, ∃ x9 : Int, ∃ x10_0 : Int, ∃ x10_1 : Int, ∃ x10_2 : Int, ∃ x10_3_0 : Int, ∃ x10_3_1 : ByteArray, ∃ x10_3_2 : ByteArray, ∃ x10_3_3 : Int, ∃ x11_0 : Int, ∃ (x11_1a : Option Addr) (x11_1n x11_1c : Nat), ∃ x11_2 : Int, ∃ x12 : Int, ∃ x13 : Int, ∃ x14 : Int, cs = [.int .i64 x0, .int .i64 x1, .int .i64 x2, .int .i64 x3, .int .i64 x4, .int .i64 x5, .int .i64 x6, .int .i64 x7_0, .string x7_1, .string x7_2, .int .i64 x7_3, .int .i64 x8_0, .string x8_1, .int .i64 x8_2, .int .i64 x8_3, .int .i64 x9, .int .i64 x10_0, .int .i64 x10_1, .int .i64 x10_2, .int .i64 x10_3_0, .string x10_3_1, .string x10_3_2, .int .i64 x10_3_3, .int .i64 x11_0, .slice x11_1a x11_1n x11_1c, .int .i64 x11_2, .int .i64 x12, .int .i64 x13, .int .i64 x14] ∧ ((Lit.int .i64 x0).wf = true) ∧ ((Lit.int .i64 x1).wf = true) ∧ ((Lit.int .i64 x2).wf = true) ∧ ((Lit.int .i64 x3).wf = true) ∧ ((Lit.int .i64 x4).wf = true) ∧ ((Lit.int .i64 x5).wf = true) ∧ ((Lit.int .i64 x6).wf = true) ∧ ((Lit.int .i64 x7_0).wf = true) ∧ ((Lit.int .i64 x7_3).wf = true) ∧ ((Lit.int .i64 x8_0).wf = true) ∧ ((Lit.int .i64 x8_2).wf = true) ∧ ((Lit.int .i64 x8_3).wf = true) ∧ ((Lit.int .i64 x9).wf = true) ∧ ((Lit.int .i64 x10_0).wf = true) ∧ ((Lit.int .i64 x10_1).wf = true) ∧ ((Lit.int .i64 x10_2).wf = true) ∧ ((Lit.int .i64 x10_3_0).wf = true) ∧ ((Lit.int .i64 x10_3_3).wf = true) ∧ ((Lit.int .i64 x11_0).wf = true) ∧ (∃ m y, DataW.trod enc Try.prog w base spare held m 36 [.slice x11_1a x11_1n x11_1c] = some y) ∧ ((Lit.int .i64 x11_2).wf = true) ∧ ((Lit.int .i64 x12).wf = true) ∧ ((Lit.int .i64 x13).wf = true) ∧ ((Lit.int .i64 x14).wf = true) := by
  obtain ⟨x0, h0, wx0⟩ := fld_int Try.underlying40 h 0 0 3 .i64 rfl (by kernel_rfl) Try.underlying3
  obtain ⟨x1, h1, wx1⟩ := fld_int Try.underlying40 h 1 1 3 .i64 rfl (by kernel_rfl) Try.underlying3
  obtain ⟨x2, h2, wx2⟩ := fld_int Try.underlying40 h 2 2 3 .i64 rfl (by kernel_rfl) Try.underlying3
  obtain ⟨x3, h3, wx3⟩ := fld_int Try.underlying40 h 3 3 3 .i64 rfl (by kernel_rfl) Try.underlying3
  obtain ⟨x4, h4, wx4⟩ := fld_int Try.underlying40 h 4 4 3 .i64 rfl (by kernel_rfl) Try.underlying3
  obtain ⟨x5, h5, wx5⟩ := fld_int Try.underlying40 h 5 5 3 .i64 rfl (by kernel_rfl) Try.underlying3
  obtain ⟨x6, h6, wx6⟩ := fld_int Try.underlying40 h 6 6 3 .i64 rfl (by kernel_rfl) Try.underlying3
  obtain ⟨m7, y7, z7⟩ := fld Try.underlying40 h 7 7 4 31 rfl (by kernel_rfl)
  obtain ⟨x7_0, x7_1, x7_2, x7_3, e7, w7_0, w7_3⟩ := open_s31 z7
  have h7 := at_of_take (cs := cs) (o := 7) (n := 4) (j := 0) (v := .int .i64 x7_0) (by rw [e7]; rfl)
  have h8 := at_of_take (cs := cs) (o := 7) (n := 4) (j := 1) (v := .string x7_1) (by rw [e7]; rfl)
  have h9 := at_of_take (cs := cs) (o := 7) (n := 4) (j := 2) (v := .string x7_2) (by rw [e7]; rfl)
  have h10 := at_of_take (cs := cs) (o := 7) (n := 4) (j := 3) (v := .int .i64 x7_3) (by rw [e7]; rfl)
  obtain ⟨m8, y8, z8⟩ := fld Try.underlying40 h 8 11 4 33 rfl (by kernel_rfl)
  obtain ⟨x8_0, x8_1, x8_2, x8_3, e8, w8_0, w8_2, w8_3⟩ := open_s33 z8
  have h11 := at_of_take (cs := cs) (o := 11) (n := 4) (j := 0) (v := .int .i64 x8_0) (by rw [e8]; rfl)
  have h12 := at_of_take (cs := cs) (o := 11) (n := 4) (j := 1) (v := .string x8_1) (by rw [e8]; rfl)
  have h13 := at_of_take (cs := cs) (o := 11) (n := 4) (j := 2) (v := .int .i64 x8_2) (by rw [e8]; rfl)
  have h14 := at_of_take (cs := cs) (o := 11) (n := 4) (j := 3) (v := .int .i64 x8_3) (by rw [e8]; rfl)
  obtain ⟨x9, h15, wx9⟩ := fld_int Try.underlying40 h 9 15 3 .i64 rfl (by kernel_rfl) Try.underlying3
  obtain ⟨m10, y10, z10⟩ := fld Try.underlying40 h 10 16 7 35 rfl (by kernel_rfl)
  obtain ⟨x10_0, x10_1, x10_2, x10_3_0, x10_3_1, x10_3_2, x10_3_3, e10, w10_0, w10_1, w10_2, w10_3, w10_6⟩ := open_s35 z10
  have h16 := at_of_take (cs := cs) (o := 16) (n := 7) (j := 0) (v := .int .i64 x10_0) (by rw [e10]; rfl)
  have h17 := at_of_take (cs := cs) (o := 16) (n := 7) (j := 1) (v := .int .i64 x10_1) (by rw [e10]; rfl)
  have h18 := at_of_take (cs := cs) (o := 16) (n := 7) (j := 2) (v := .int .i64 x10_2) (by rw [e10]; rfl)
  have h19 := at_of_take (cs := cs) (o := 16) (n := 7) (j := 3) (v := .int .i64 x10_3_0) (by rw [e10]; rfl)
  have h20 := at_of_take (cs := cs) (o := 16) (n := 7) (j := 4) (v := .string x10_3_1) (by rw [e10]; rfl)
  have h21 := at_of_take (cs := cs) (o := 16) (n := 7) (j := 5) (v := .string x10_3_2) (by rw [e10]; rfl)
  have h22 := at_of_take (cs := cs) (o := 16) (n := 7) (j := 6) (v := .int .i64 x10_3_3) (by rw [e10]; rfl)
  obtain ⟨m11, y11, z11⟩ := fld Try.underlying40 h 11 23 3 38 rfl (by kernel_rfl)
  obtain ⟨x11_0, x11_1a, x11_1n, x11_1c, x11_2, e11, w11_0, w11_1, w11_2⟩ := open_s38 z11
  have h23 := at_of_take (cs := cs) (o := 23) (n := 3) (j := 0) (v := .int .i64 x11_0) (by rw [e11]; rfl)
  have h24 := at_of_take (cs := cs) (o := 23) (n := 3) (j := 1) (v := .slice x11_1a x11_1n x11_1c) (by rw [e11]; rfl)
  have h25 := at_of_take (cs := cs) (o := 23) (n := 3) (j := 2) (v := .int .i64 x11_2) (by rw [e11]; rfl)
  obtain ⟨x12, h26, wx12⟩ := fld_int Try.underlying40 h 12 26 3 .i64 rfl (by kernel_rfl) Try.underlying3
  obtain ⟨x13, h27, wx13⟩ := fld_int Try.underlying40 h 13 27 3 .i64 rfl (by kernel_rfl) Try.underlying3
  obtain ⟨x14, h28, wx14⟩ := fld_int Try.underlying40 h 14 28 3 .i64 rfl (by kernel_rfl) Try.underlying3
  refine ⟨x0, x1, x2, x3, x4, x5, x6, x7_0, x7_1, x7_2, x7_3, x8_0, x8_1, x8_2, x8_3, x9, x10_0, x10_1, x10_2, x10_3_0, x10_3_1, x10_3_2, x10_3_3, x11_0, x11_1a, x11_1n, x11_1c, x11_2, x12, x13, x14, list_of ((len_of_trod Try.underlying40 h).trans (by kernel_rfl)) ?_, wx0, wx1, wx2, wx3, wx4, wx5, wx6, w7_0, w7_3, w8_0, w8_2, w8_3, wx9, w10_0, w10_1, w10_2, w10_3, w10_6, w11_0, w11_1, w11_2, wx12, wx13, wx14⟩
  intro i hi
  match i, hi with
  | 0, _ => exact h0
  | 1, _ => exact h1
  | 2, _ => exact h2
  | 3, _ => exact h3
  | 4, _ => exact h4
  | 5, _ => exact h5
  | 6, _ => exact h6
  | 7, _ => exact h7
  | 8, _ => exact h8
  | 9, _ => exact h9
  | 10, _ => exact h10
  | 11, _ => exact h11
  | 12, _ => exact h12
  | 13, _ => exact h13
  | 14, _ => exact h14
  | 15, _ => exact h15
  | 16, _ => exact h16
  | 17, _ => exact h17
  | 18, _ => exact h18
  | 19, _ => exact h19
  | 20, _ => exact h20
  | 21, _ => exact h21
  | 22, _ => exact h22
  | 23, _ => exact h23
  | 24, _ => exact h24
  | 25, _ => exact h25
  | 26, _ => exact h26
  | 27, _ => exact h27
  | 28, _ => exact h28
  | i + 29, hi => exact absurd hi (by simp)
theorem open_s50 {H : Type} {enc : TypeId × Value → H} {w : World} {base : Nat} {spare : Nat → Bool} {held : Bool} {fuel : Nat} {cs : List Value} {x : DataW H × List MemPlace} (h : DataW.trod enc Try.prog w base spare held fuel 50 cs = some x) :
    ∃ x0 : Int, ∃ x1_0 : Int, ∃ x1_1 : Int, ∃ x1_2 : Int, ∃ x1_3 : Int, ∃ x1_4 : Int, ∃ x1_5 : Int, ∃ x1_6 : Int, ∃ x1_7_0 : Int, ∃ x1_7_1 : ByteArray, ∃ x1_7_2 : ByteArray, ∃ x1_7_3 : Int, ∃ x1_8_0 : Int, ∃ x1_8_1 : ByteArray, ∃ x1_8_2 : Int, ∃ x1_8_3 : Int, ∃ x1_9 : Int, ∃ x1_10_0 : Int, ∃ x1_10_1 : Int, ∃ x1_10_2 : Int, ∃ x1_10_3_0 : Int, ∃ x1_10_3_1 : ByteArray, ∃ x1_10_3_2 : ByteArray, ∃ x1_10_3_3 : Int, ∃ x1_11_0 : Int, ∃ (x1_11_1a : Option Addr) (x1_11_1n x1_11_1c : Nat), ∃ x1_11_2 : Int, ∃ x1_12 : Int, ∃ x1_13 : Int, ∃ x1_14 : Int, ∃ x2 : Int, cs = [.int .u8 x0, .int .i64 x1_0, .int .i64 x1_1, .int .i64 x1_2, .int .i64 x1_3, .int .i64 x1_4, .int .i64 x1_5, .int .i64 x1_6, .int .i64 x1_7_0, .string x1_7_1, .string x1_7_2, .int .i64 x1_7_3, .int .i64 x1_8_0, .string x1_8_1, .int .i64 x1_8_2, .int .i64 x1_8_3, .int .i64 x1_9, .int .i64 x1_10_0, .int .i64 x1_10_1, .int .i64 x1_10_2, .int .i64 x1_10_3_0, .string x1_10_3_1, .string x1_10_3_2, .int .i64 x1_10_3_3, .int .i64 x1_11_0, .slice x1_11_1a x1_11_1n x1_11_1c, .int .i64 x1_11_2, .int .i64 x1_12, .int .i64 x1_13, .int .i64 x1_14, .int .i64 x2] ∧ ((Lit.int .u8 x0).wf = true) ∧ ((Lit.int .i64 x1_0).wf = true) ∧ ((Lit.int .i64 x1_1).wf = true) ∧ ((Lit.int .i64 x1_2).wf = true) ∧ ((Lit.int .i64 x1_3).wf = true) ∧ ((Lit.int .i64 x1_4).wf = true) ∧ ((Lit.int .i64 x1_5).wf = true) ∧ ((Lit.int .i64 x1_6).wf = true) ∧ ((Lit.int .i64 x1_7_0).wf = true) ∧ ((Lit.int .i64 x1_7_3).wf = true) ∧ ((Lit.int .i64 x1_8_0).wf = true) ∧ ((Lit.int .i64 x1_8_2).wf = true) ∧ ((Lit.int .i64 x1_8_3).wf = true) ∧ ((Lit.int .i64 x1_9).wf = true) ∧ ((Lit.int .i64 x1_10_0).wf = true) ∧ ((Lit.int .i64 x1_10_1).wf = true) ∧ ((Lit.int .i64 x1_10_2).wf = true) ∧ ((Lit.int .i64 x1_10_3_0).wf = true) ∧ ((Lit.int .i64 x1_10_3_3).wf = true) ∧ ((Lit.int .i64 x1_11_0).wf = true) ∧ (∃ m y, DataW.trod enc Try.prog w base spare held m 36 [.slice x1_11_1a x1_11_1n x1_11_1c] = some y) ∧ ((Lit.int .i64 x1_11_2).wf = true) ∧ ((Lit.int .i64 x1_12).wf = true) ∧ ((Lit.int .i64 x1_13).wf = true) ∧ ((Lit.int .i64 x1_14).wf = true) ∧ ((Lit.int .i64 x2).wf = true) := by
  obtain ⟨x0, h0, wx0⟩ := fld_int Try.underlying50 h 0 0 5 .u8 rfl (by kernel_rfl) Try.underlying5
  obtain ⟨m1, y1, z1⟩ := fld Try.underlying50 h 1 1 29 40 rfl (by kernel_rfl)
  obtain ⟨x1_0, x1_1, x1_2, x1_3, x1_4, x1_5, x1_6, x1_7_0, x1_7_1, x1_7_2, x1_7_3, x1_8_0, x1_8_1, x1_8_2, x1_8_3, x1_9, x1_10_0, x1_10_1, x1_10_2, x1_10_3_0, x1_10_3_1, x1_10_3_2, x1_10_3_3, x1_11_0, x1_11_1a, x1_11_1n, x1_11_1c, x1_11_2, x1_12, x1_13, x1_14, e1, w1_0, w1_1, w1_2, w1_3, w1_4, w1_5, w1_6, w1_7, w1_10, w1_11, w1_13, w1_14, w1_15, w1_16, w1_17, w1_18, w1_19, w1_22, w1_23, w1_24, w1_25, w1_26, w1_27, w1_28⟩ := open_s40 z1
  have h1 := at_of_take (cs := cs) (o := 1) (n := 29) (j := 0) (v := .int .i64 x1_0) (by rw [e1]; rfl)
  have h2 := at_of_take (cs := cs) (o := 1) (n := 29) (j := 1) (v := .int .i64 x1_1) (by rw [e1]; rfl)
  have h3 := at_of_take (cs := cs) (o := 1) (n := 29) (j := 2) (v := .int .i64 x1_2) (by rw [e1]; rfl)
  have h4 := at_of_take (cs := cs) (o := 1) (n := 29) (j := 3) (v := .int .i64 x1_3) (by rw [e1]; rfl)
  have h5 := at_of_take (cs := cs) (o := 1) (n := 29) (j := 4) (v := .int .i64 x1_4) (by rw [e1]; rfl)
  have h6 := at_of_take (cs := cs) (o := 1) (n := 29) (j := 5) (v := .int .i64 x1_5) (by rw [e1]; rfl)
  have h7 := at_of_take (cs := cs) (o := 1) (n := 29) (j := 6) (v := .int .i64 x1_6) (by rw [e1]; rfl)
  have h8 := at_of_take (cs := cs) (o := 1) (n := 29) (j := 7) (v := .int .i64 x1_7_0) (by rw [e1]; rfl)
  have h9 := at_of_take (cs := cs) (o := 1) (n := 29) (j := 8) (v := .string x1_7_1) (by rw [e1]; rfl)
  have h10 := at_of_take (cs := cs) (o := 1) (n := 29) (j := 9) (v := .string x1_7_2) (by rw [e1]; rfl)
  have h11 := at_of_take (cs := cs) (o := 1) (n := 29) (j := 10) (v := .int .i64 x1_7_3) (by rw [e1]; rfl)
  have h12 := at_of_take (cs := cs) (o := 1) (n := 29) (j := 11) (v := .int .i64 x1_8_0) (by rw [e1]; rfl)
  have h13 := at_of_take (cs := cs) (o := 1) (n := 29) (j := 12) (v := .string x1_8_1) (by rw [e1]; rfl)
  have h14 := at_of_take (cs := cs) (o := 1) (n := 29) (j := 13) (v := .int .i64 x1_8_2) (by rw [e1]; rfl)
  have h15 := at_of_take (cs := cs) (o := 1) (n := 29) (j := 14) (v := .int .i64 x1_8_3) (by rw [e1]; rfl)
  have h16 := at_of_take (cs := cs) (o := 1) (n := 29) (j := 15) (v := .int .i64 x1_9) (by rw [e1]; rfl)
  have h17 := at_of_take (cs := cs) (o := 1) (n := 29) (j := 16) (v := .int .i64 x1_10_0) (by rw [e1]; rfl)
  have h18 := at_of_take (cs := cs) (o := 1) (n := 29) (j := 17) (v := .int .i64 x1_10_1) (by rw [e1]; rfl)
  have h19 := at_of_take (cs := cs) (o := 1) (n := 29) (j := 18) (v := .int .i64 x1_10_2) (by rw [e1]; rfl)
  have h20 := at_of_take (cs := cs) (o := 1) (n := 29) (j := 19) (v := .int .i64 x1_10_3_0) (by rw [e1]; rfl)
  have h21 := at_of_take (cs := cs) (o := 1) (n := 29) (j := 20) (v := .string x1_10_3_1) (by rw [e1]; rfl)
  have h22 := at_of_take (cs := cs) (o := 1) (n := 29) (j := 21) (v := .string x1_10_3_2) (by rw [e1]; rfl)
  have h23 := at_of_take (cs := cs) (o := 1) (n := 29) (j := 22) (v := .int .i64 x1_10_3_3) (by rw [e1]; rfl)
  have h24 := at_of_take (cs := cs) (o := 1) (n := 29) (j := 23) (v := .int .i64 x1_11_0) (by rw [e1]; rfl)
  have h25 := at_of_take (cs := cs) (o := 1) (n := 29) (j := 24) (v := .slice x1_11_1a x1_11_1n x1_11_1c) (by rw [e1]; rfl)
  have h26 := at_of_take (cs := cs) (o := 1) (n := 29) (j := 25) (v := .int .i64 x1_11_2) (by rw [e1]; rfl)
  have h27 := at_of_take (cs := cs) (o := 1) (n := 29) (j := 26) (v := .int .i64 x1_12) (by rw [e1]; rfl)
  have h28 := at_of_take (cs := cs) (o := 1) (n := 29) (j := 27) (v := .int .i64 x1_13) (by rw [e1]; rfl)
  have h29 := at_of_take (cs := cs) (o := 1) (n := 29) (j := 28) (v := .int .i64 x1_14) (by rw [e1]; rfl)
  obtain ⟨x2, h30, wx2⟩ := fld_int Try.underlying50 h 2 30 3 .i64 rfl (by kernel_rfl) Try.underlying3
  refine ⟨x0, x1_0, x1_1, x1_2, x1_3, x1_4, x1_5, x1_6, x1_7_0, x1_7_1, x1_7_2, x1_7_3, x1_8_0, x1_8_1, x1_8_2, x1_8_3, x1_9, x1_10_0, x1_10_1, x1_10_2, x1_10_3_0, x1_10_3_1, x1_10_3_2, x1_10_3_3, x1_11_0, x1_11_1a, x1_11_1n, x1_11_1c, x1_11_2, x1_12, x1_13, x1_14, x2, list_of ((len_of_trod Try.underlying50 h).trans (by kernel_rfl)) ?_, wx0, w1_0, w1_1, w1_2, w1_3, w1_4, w1_5, w1_6, w1_7, w1_10, w1_11, w1_13, w1_14, w1_15, w1_16, w1_17, w1_18, w1_19, w1_22, w1_23, w1_24, w1_25, w1_26, w1_27, w1_28, wx2⟩
  intro i hi
  match i, hi with
  | 0, _ => exact h0
  | 1, _ => exact h1
  | 2, _ => exact h2
  | 3, _ => exact h3
  | 4, _ => exact h4
  | 5, _ => exact h5
  | 6, _ => exact h6
  | 7, _ => exact h7
  | 8, _ => exact h8
  | 9, _ => exact h9
  | 10, _ => exact h10
  | 11, _ => exact h11
  | 12, _ => exact h12
  | 13, _ => exact h13
  | 14, _ => exact h14
  | 15, _ => exact h15
  | 16, _ => exact h16
  | 17, _ => exact h17
  | 18, _ => exact h18
  | 19, _ => exact h19
  | 20, _ => exact h20
  | 21, _ => exact h21
  | 22, _ => exact h22
  | 23, _ => exact h23
  | 24, _ => exact h24
  | 25, _ => exact h25
  | 26, _ => exact h26
  | 27, _ => exact h27
  | 28, _ => exact h28
  | 29, _ => exact h29
  | 30, _ => exact h30
  | i + 31, hi => exact absurd hi (by simp)
end Go.Proofs.Ytkopocbcldjjbaa
