/- ReadsOnce, at arguments as they are read. -/
import Derived.Test.YtdnablmlkkkdhaaOnce
import Derived.Test.YtdnablmlkkkdhaaOpen
namespace Go.Proofs.Ytdnablmlkkkdhaa
open Go.ChangeShapes Go.WideShapes Go.ChangeAt Go.RowKit Go.Deep
set_option linter.unusedVariables false
theorem bounds_u8 {n : Int} (h : (Lit.int .u8 n).wf = true) : 0 ≤ n ∧ n ≤ 255 := by
  simp [Lit.wf, IntKind.min, IntKind.max, IntKind.signed, IntKind.bits] at h
  omega
theorem ReadsOnce_walk {H : Type} (enc : TypeId × Value → H) (W : World) (t : Int) (wt : (Lit.int .u8 t).wf = true) (a : Option Addr) (len cap : Nat) {sp : Nat → Bool} {hd : Bool} {fuel : Nat} {x : DataW H × List MemPlace}
    (h : DataW.trod enc Try.prog W 0 sp hd fuel 22 [.slice a len cap] = some x) :
    Calls Try.prog 3 #[.int .u8 t, .slice a len cap] W fun e w' => e = .returned (.bool true) ∧ Below W.heap.size W w' := by
  obtain ⟨hmx, b, off, xs, rfl, ha, hx⟩ := open_acts h
  obtain ⟨t1, t2⟩ := bounds_u8 wt
  have fin : ∀ {e : Ending} {w' : World}, e = .returned (.bool true) ∧ Upd W w' [] → e = .returned (.bool true) ∧ Below W.heap.size W w' := fun ⟨he, u⟩ => ⟨he, u.below (Nat.le_refl _) (by simp)⟩
  rcases Bool.eq_false_or_eq_true (great xs 100) with hg | hg
  · exact (once_long t a b off cap xs W ha hx (by unfold maxLen at hmx; omega) hg).mono fun e w' h => fin h
  · exact (once_walk t t1 t2 a b off cap xs W ha hx hg).mono fun e w' h => fin h
end Go.Proofs.Ytdnablmlkkkdhaa
