/- TransferTakes, at arguments as they are read. -/
import Derived.Test.YtmmacjjmkaeakaaTakes
import Derived.Test.YtmmacjjmkaeakaaOpen
namespace Go.Proofs.Ytmmacjjmkaeakaa
open Go.ChangeShapes Go.WideShapes Go.ChangeAt Go.RowKit Go.Deep
set_option linter.unusedVariables false
theorem open_pcs {H : Type} {enc : TypeId × Value → H} {w : World} {base : Nat} {spare : Nat → Bool} {held : Bool} {fuel : Nat} {a : Option Addr} {len cap : Nat} {x : DataW H × List MemPlace} (h : DataW.trod enc Try.prog w base spare held fuel 22 [.slice a len cap] = some x) :
    len ≤ maxLen ∧ ∃ (b off : Nat) (xs : List Pc), xs.length = len ∧ (0 < len → a = some ⟨b, off, none⟩) ∧ Pcs w b off xs := by
  obtain ⟨⟨hl1, hl2⟩, b, off, row, ha, hr⟩ := open_rows (C := 4) Try.underlying22 (by kernel_rfl) (by decide) h
  have key : ∀ i, ∃ p : Pc, i < len → row i = p.cells.toList := by
    intro i
    by_cases hi : i < len
    · obtain ⟨_, _, m, y, hy⟩ := hr i hi
      obtain ⟨x0, x1, x2, x3, hp, _⟩ := open_s31 hy
      exact ⟨⟨x0, x1, x2, x3⟩, fun _ => hp⟩
    · exact ⟨⟨0, 0, 0, ⟨#[]⟩⟩, fun h => absurd h hi⟩
  refine ⟨Nat.le_trans hl1 hl2, b, off, (List.range len).map fun i => Classical.choose (key i), by simp, ha, fun i hi => ?_⟩
  have hi : i < len := by simpa using hi
  obtain ⟨_, hc, _⟩ := hr i hi
  have k1 := Classical.choose_spec (key i) hi
  have hg : ((List.range len).map fun i => Classical.choose (key i))[i]'(by simpa using hi) = Classical.choose (key i) := by simp
  rw [hg]
  intro j hj
  have := hc j hj
  rw [k1] at this
  rw [Nat.add_assoc, this, Array.getElem?_toList]
theorem TransferTakes_walk {H : Type} (enc : TypeId × Value → H) (W : World) (a : Option Addr) (len cap : Nat) {sp : Nat → Bool} {hd : Bool} {fuel : Nat} {x : DataW H × List MemPlace}
    (h : DataW.trod enc Try.prog W 0 sp hd fuel 22 [.slice a len cap] = some x) :
    Calls Try.prog 3 #[.slice a len cap] W fun e w' => e = .returned (.bool true) ∧ Below W.heap.size W w' := by
  obtain ⟨hmx, b, off, xs, rfl, ha, hx⟩ := open_pcs h
  exact (takes_walk a b off cap xs W ha hx (by unfold maxLen at hmx; omega)).mono fun e w' ⟨he, u⟩ => ⟨he, u.below (Nat.le_refl _) (by simp)⟩
end Go.Proofs.Ytmmacjjmkaeakaa
