/- ReadsNone, at arguments as they are read. -/
import Derived.Test.YtdnablmlkkkdhaaNone
import Derived.Test.YtdnablmlkkkdhaaOpen
namespace Go.Proofs.Ytdnablmlkkkdhaa
open Go.ChangeShapes Go.WideShapes Go.ChangeAt Go.RowKit Go.Deep
set_option linter.unusedVariables false
theorem ReadsNone_walk {H : Type} (enc : TypeId × Value → H) (W : World) (cs : Array Value) {sp : Nat → Bool} {hd : Bool} {fuel : Nat} {x : DataW H × List MemPlace}
    (h : DataW.trod enc Try.prog W 0 sp hd fuel 44 cs.toList = some x) :
    Calls Try.prog 5 #[.agg cs] W fun e w' => e = .returned (.bool true) ∧ Below W.heap.size W w' := by
  obtain ⟨a, ok, ha⟩ := open_act h
  rw [show cs = a.cells from Array.ext' ha]
  exact (rnone_walk a ok W).mono fun e w' ⟨he, u⟩ => ⟨he, u.below (Nat.le_refl _) (by simp)⟩
end Go.Proofs.Ytdnablmlkkkdhaa
