/- TransferNone, at arguments as they are read. -/
import Derived.Test.YtmmacjjmkaeakaaNone
import Derived.Test.YtmmacjjmkaeakaaOpen
namespace Go.Proofs.Ytmmacjjmkaeakaa
open Go.ChangeShapes Go.WideShapes Go.ChangeAt Go.RowKit Go.Deep
set_option linter.unusedVariables false
theorem TransferNone_walk {H : Type} (enc : TypeId × Value → H) (W : World) (cs0 : Array Value) {sp0 : Nat → Bool} {hd0 : Bool} {f0 : Nat} {x0 : DataW H × List MemPlace}
    (h0 : DataW.trod enc Try.prog W 0 sp0 hd0 f0 31 cs0.toList = some x0) (cs1 : Array Value) {sp1 : Nat → Bool} {hd1 : Bool} {f1 : Nat} {x1 : DataW H × List MemPlace}
    (h1 : DataW.trod enc Try.prog W 0 sp1 hd1 f1 55 cs1.toList = some x1) :
    Calls Try.prog 6 #[.agg cs0, .agg cs1] W fun e w' => e = .returned (.bool true) ∧ Below W.heap.size W w' := by
  obtain ⟨a, b, c, s, e0, _, _, _⟩ := open_s31 h0
  obtain ⟨k, i, n, e1, _, _, _⟩ := open_s55 h1
  rw [show cs0 = (⟨a, b, c, s⟩ : Pc).cells from Array.ext' e0, show cs1 = #[.int .u8 k, .int .i64 i, .int .i64 n] from Array.ext' e1]
  exact (none_walk ⟨a, b, c, s⟩ k i n W).mono fun e w' ⟨he, u⟩ => ⟨he, u.below (Nat.le_refl _) (by simp)⟩
end Go.Proofs.Ytmmacjjmkaeakaa
