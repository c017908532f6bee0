/- TransferEnds, at arguments as they are read. -/
import Derived.Test.YtmmacjjmkaeakaaEnds
import Derived.Test.YtmmacjjmkaeakaaOpen
namespace Go.Proofs.Ytmmacjjmkaeakaa
open Go.ChangeShapes Go.WideShapes Go.ChangeAt Go.RowKit Go.Deep
set_option linter.unusedVariables false
theorem bounds_b {n : Int} (h : (Lit.int .u8 n).wf = true) : 0 ≤ n ∧ n ≤ 255 := by
  simp [Lit.wf, IntKind.min, IntKind.max, IntKind.signed, IntKind.bits] at h
  omega
theorem TransferEnds_walk {H : Type} (enc : TypeId × Value → H) (W : World) (ta : ByteArray) (wa : ta.size ≤ maxLen) (tb : ByteArray) (wb : tb.size ≤ maxLen) (cs : Array Value) {sp1 : Nat → Bool} {hd1 : Bool} {fuel1 : Nat} {x1 : DataW H × List MemPlace}
    (h1 : DataW.trod enc Try.prog W 0 sp1 hd1 fuel1 39 cs.toList = some x1) :
    Calls Try.prog 4 #[.string ta, .string tb, .agg cs] W fun e w' => e = .returned (.bool true) ∧ Below W.heap.size W w' := by
  obtain ⟨n0, e0, f0⟩ := elt_int Try.underlying39 h1 .u8 (by kernel_rfl) Try.underlying5 0 (by decide)
  obtain ⟨n1, e1, f1⟩ := elt_int Try.underlying39 h1 .u8 (by kernel_rfl) Try.underlying5 1 (by decide)
  rw [two_of ((arr_len Try.underlying39 h1).trans (by kernel_rfl)) e0 e1]
  obtain ⟨b0, b1⟩ := bounds_b f0
  obtain ⟨b2, b3⟩ := bounds_b f1
  exact (ends_walk ta tb n0 n1 b0 b1 b2 b3 W).mono fun e w' ⟨he, u⟩ => ⟨he, u.below (Nat.le_refl _) (by simp)⟩
end Go.Proofs.Ytmmacjjmkaeakaa
