/- TransferWhole, at arguments as they are read. -/
import Derived.Test.YtmmacjjmkaeakaaWhole
import Derived.Test.YtmmacjjmkaeakaaOpenE
namespace Go.Proofs.Ytmmacjjmkaeakaa
open Go.ChangeShapes Go.WideShapes Go.ChangeAt Go.RowKit Go.Deep
set_option linter.unusedVariables false
theorem nat_of {n : Int} (h : 0 ≤ n ∧ n ≤ 255) : ∃ m : Nat, n = (m : Int) ∧ m ≤ 255 := ⟨n.toNat, by omega, by omega⟩
theorem open_twos {H : Type} {enc : TypeId × Value → H} {w : World} {base : Nat} {spare : Nat → Bool} {held : Bool} {fuel : Nat} {a : Option Addr} {len cap : Nat} {x : DataW H × List MemPlace} (h : DataW.trod enc Try.prog w base spare held fuel 68 [.slice a len cap] = some x) :
    len ≤ maxLen ∧ ∃ (b off : Nat) (xs : List (Nat × Nat)), xs.length = len ∧ (0 < len → a = some ⟨b, off, none⟩) ∧ Twos w b off xs := by
  obtain ⟨⟨hl1, hl2⟩, b, off, row, ha, hr⟩ := open_rows (C := 2) Try.underlying68 (by kernel_rfl) (by decide) h
  have key : ∀ i, ∃ p : Nat × Nat, i < len → ((row i)[0]? = some (.int .u8 (p.1 : Int)) ∧ (row i)[1]? = some (.int .u8 (p.2 : Int)) ∧ p.1 ≤ 255 ∧ p.2 ≤ 255) := by
    intro i
    by_cases hi : i < len
    · obtain ⟨_, _, m, y, hy⟩ := hr i hi
      obtain ⟨n0, e0, f0⟩ := elt_int Try.underlying39 hy .u8 (by kernel_rfl) Try.underlying5 0 (by decide)
      obtain ⟨n1, e1, f1⟩ := elt_int Try.underlying39 hy .u8 (by kernel_rfl) Try.underlying5 1 (by decide)
      obtain ⟨m0, rfl, h0⟩ := nat_of (bounds_b f0)
      obtain ⟨m1, rfl, h1⟩ := nat_of (bounds_b f1)
      exact ⟨(m0, m1), fun _ => ⟨e0, e1, h0, h1⟩⟩
    · exact ⟨(0, 0), fun h => absurd h hi⟩
  refine ⟨Nat.le_trans hl1 hl2, b, off, (List.range len).map fun i => Classical.choose (key i), by simp, ha, fun p hp => ?_, fun i hi => ?_⟩
  · obtain ⟨i, hi, rfl⟩ := List.mem_map.1 hp
    exact (Classical.choose_spec (key i) (List.mem_range.1 hi)).2.2
  · have hi : i < len := by simpa using hi
    obtain ⟨_, hc, _⟩ := hr i hi
    obtain ⟨k1, k2, _⟩ := Classical.choose_spec (key i) hi
    have hg : ((List.range len).map fun i => Classical.choose (key i))[i]'(by simpa using hi) = Classical.choose (key i) := by simp
    rw [hg]
    refine ⟨?_, ?_⟩
    · have := hc 0 (by decide); rw [k1] at this; exact this
    · have := hc 1 (by decide); rw [k2] at this; rw [Nat.add_assoc]; exact this
theorem TransferWhole_walk {H : Type} (enc : TypeId × Value → H) (W : World) (t : ByteArray) (wt : t.size ≤ maxLen) (cs : Array Value) {sp1 : Nat → Bool} {hd1 : Bool} {fuel1 : Nat} {x1 : DataW H × List MemPlace}
    (h1 : DataW.trod enc Try.prog W 0 sp1 hd1 fuel1 39 cs.toList = some x1) (a : Option Addr) (len cap : Nat) {sp : Nat → Bool} {hd : Bool} {fuel : Nat} {x : DataW H × List MemPlace}
    (h : DataW.trod enc Try.prog W 0 sp hd fuel 68 [.slice a len cap] = some x) :
    Calls Try.prog 7 #[.string t, .agg cs, .slice a len cap] W fun e w' => e = .returned (.bool true) ∧ Below W.heap.size W w' := by
  obtain ⟨hmx, b, off, xs, rfl, ha, hx⟩ := open_twos h
  obtain ⟨n0, e0, f0⟩ := elt_int Try.underlying39 h1 .u8 (by kernel_rfl) Try.underlying5 0 (by decide)
  obtain ⟨n1, e1, f1⟩ := elt_int Try.underlying39 h1 .u8 (by kernel_rfl) Try.underlying5 1 (by decide)
  rw [two_of ((arr_len Try.underlying39 h1).trans (by kernel_rfl)) e0 e1]
  obtain ⟨b0, b1⟩ := bounds_b f0
  obtain ⟨b2, b3⟩ := bounds_b f1
  exact (whole_walk t n0 n1 b0 b1 b2 b3 a b off cap xs W ha hx (by unfold maxLen at hmx; omega)).mono fun e w' ⟨he, u⟩ => ⟨he, u.below (Nat.le_refl _) (by simp)⟩
end Go.Proofs.Ytmmacjjmkaeakaa
