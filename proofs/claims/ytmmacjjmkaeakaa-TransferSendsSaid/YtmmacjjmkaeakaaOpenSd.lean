/- TransferSends, at arguments as they are read. -/
import Derived.Test.YtmmacjjmkaeakaaSends
import Derived.Test.YtmmacjjmkaeakaaOpen
namespace Go.Proofs.Ytmmacjjmkaeakaa
open Go.ChangeShapes Go.WideShapes Go.ChangeAt Go.RowKit Go.Deep
set_option linter.unusedVariables false
theorem bounds_u8 {n : Int} (h : (Lit.int .u8 n).wf = true) : 0 ≤ n ∧ n ≤ 255 := by
  simp [Lit.wf, IntKind.min, IntKind.max, IntKind.signed, IntKind.bits] at h
  omega
theorem three_of {cs : Array Value} {a b c : Value} (hl : cs.toList.length = 3) (h0 : cs.toList[0]? = some a) (h1 : cs.toList[1]? = some b) (h2 : cs.toList[2]? = some c) : cs = #[a, b, c] := by
  apply Array.ext'
  refine list_of hl fun i hi => ?_
  have hi : i < 3 := hi
  match i, hi with
  | 0, _ => exact h0
  | 1, _ => exact h1
  | 2, _ => exact h2
theorem open_acts {H : Type} {enc : TypeId × Value → H} {w : World} {base : Nat} {spare : Nat → Bool} {held : Bool} {fuel : Nat} {a : Option Addr} {len cap : Nat} {x : DataW H × List MemPlace} (h : DataW.trod enc Try.prog w base spare held fuel 50 [.slice a len cap] = some x) :
    len ≤ maxLen ∧ ∃ (b off : Nat) (xs : List Ac), xs.length = len ∧ (0 < len → a = some ⟨b, off, none⟩) ∧ Acts w b off xs := by
  obtain ⟨⟨hl1, hl2⟩, b, off, row, ha, hr⟩ := open_rows (C := 3) Try.underlying50 (by kernel_rfl) (by decide) h
  have key : ∀ i, ∃ p : Ac, i < len → (row i = p.cells.toList ∧ 0 ≤ p.o ∧ p.o ≤ 255) := by
    intro i
    by_cases hi : i < len
    · obtain ⟨_, _, m, y, hy⟩ := hr i hi
      obtain ⟨x0, x1, x2, hp, hw, _⟩ := open_s55 hy
      exact ⟨⟨x0, x1, x2⟩, fun _ => ⟨hp, bounds_u8 hw⟩⟩
    · exact ⟨⟨0, 0, 0⟩, fun h => absurd h hi⟩
  refine ⟨Nat.le_trans hl1 hl2, b, off, (List.range len).map fun i => Classical.choose (key i), by simp, ha, fun p hp => ?_, fun i hi => ?_⟩
  · obtain ⟨i, hi, rfl⟩ := List.mem_map.1 hp
    exact (Classical.choose_spec (key i) (List.mem_range.1 hi)).2
  · have hi : i < len := by simpa using hi
    obtain ⟨_, hc, _⟩ := hr i hi
    have k1 := (Classical.choose_spec (key i) hi).1
    have hg : ((List.range len).map fun i => Classical.choose (key i))[i]'(by simpa using hi) = Classical.choose (key i) := by simp
    rw [hg]
    intro j hj
    have := hc j hj
    rw [k1] at this
    rw [Nat.add_assoc, this, Array.getElem?_toList]
theorem TransferSends_walk {H : Type} (enc : TypeId × Value → H) (W : World) (t : ByteArray) (wt : t.size ≤ maxLen) (cs : Array Value) {sp1 : Nat → Bool} {hd1 : Bool} {fuel1 : Nat} {x1 : DataW H × List MemPlace}
    (h1 : DataW.trod enc Try.prog W 0 sp1 hd1 fuel1 49 cs.toList = some x1) (a : Option Addr) (len cap : Nat) {sp : Nat → Bool} {hd : Bool} {fuel : Nat} {x : DataW H × List MemPlace}
    (h : DataW.trod enc Try.prog W 0 sp hd fuel 50 [.slice a len cap] = some x) :
    Calls Try.prog 5 #[.string t, .agg cs, .slice a len cap] W fun e w' => e = .returned (.bool true) ∧ Below W.heap.size W w' := by
  obtain ⟨hmx, b, off, xs, rfl, ha, hx⟩ := open_acts h
  obtain ⟨n0, e0, _⟩ := elt_int Try.underlying49 h1 .i64 (by kernel_rfl) Try.underlying3 0 (by decide)
  obtain ⟨n1, e1, _⟩ := elt_int Try.underlying49 h1 .i64 (by kernel_rfl) Try.underlying3 1 (by decide)
  obtain ⟨n2, e2, _⟩ := elt_int Try.underlying49 h1 .i64 (by kernel_rfl) Try.underlying3 2 (by decide)
  rw [three_of ((arr_len Try.underlying49 h1).trans (by kernel_rfl)) e0 e1 e2]
  exact (sends_walk t n0 n1 n2 a b off cap xs W ha hx (by unfold maxLen at hmx; omega)).mono fun e w' ⟨he, u⟩ => ⟨he, u.below (Nat.le_refl _) (by simp)⟩
end Go.Proofs.Ytmmacjjmkaeakaa
