/- CountsPlay and CountsNone, at arguments as they are read. -/
import Derived.Test.YtibpbnhchlojmaaOpen
import Derived.Test.YtibpbnhchlojmaaPlay
import Derived.Test.YtibpbnhchlojmaaNone
namespace Go.Proofs.Ytibpbnhchlojmaa
open Go.ChangeShapes Go.WideShapes Go.ChangeAt Go.RowKit Go.Deep
set_option linter.unusedVariables false
theorem CountsPlay_walk {H : Type} (enc : TypeId × Value → H) (W : World) (n : Int) (wn : (Lit.int .i64 n).wf = true) (a : Option Addr) (len cap : Nat) {sp : Nat → Bool} {hd : Bool} {fuel : Nat} {x : DataW H × List MemPlace}
    (h : DataW.trod enc Try.prog W 0 sp hd fuel 22 [.slice a len cap] = some x) :
    Calls Try.prog 4 #[.int .i64 n, .slice a len cap] W fun e w' => e = .returned (.bool true) ∧ Below W.heap.size W w' := by
  by_cases hl : 100 < len
  · exact (play_long a len cap n W hl).mono fun e w' ⟨he, u⟩ => ⟨he, u.below (Nat.le_refl _) (by simp)⟩
  · by_cases hn : n < 1 ∨ 64 < n
    · exact (play_bad a len cap n W (by omega) hn).mono fun e w' ⟨he, u⟩ => ⟨he, u.below (Nat.le_refl _) (by simp)⟩
    · obtain ⟨b, off, xs, rfl, ha, hx, hf⟩ := open_acts h
      obtain ⟨n, rfl⟩ := Int.eq_ofNat_of_zero_le (a := n) (by omega)
      exact (play_walk a b off cap xs n W ha hx hf (by omega) (by omega) (by omega)).mono fun e w' ⟨he, u⟩ => ⟨he, u.below (Nat.le_refl _) (by simp)⟩
theorem CountsNone_walk {H : Type} (enc : TypeId × Value → H) (W : World) (cs : Array Value) {sp : Nat → Bool} {hd : Bool} {fuel : Nat} {x : DataW H × List MemPlace}
    (h : DataW.trod enc Try.prog W 0 sp hd fuel 29 cs.toList = some x) :
    Calls Try.prog 5 #[.agg cs] W fun e w' => e = .returned (.bool true) ∧ Below W.heap.size W w' := by
  obtain ⟨I, Y, h0, h1, _⟩ := open_act h
  have hl : cs.toList.length = 2 := (len_of_trod Try.underlying29 h).trans (by kernel_rfl)
  have hc : cs = #[.int .i64 I, .int .i64 Y] := by
    apply Array.ext'
    apply List.ext_getElem?
    intro i
    match i with
    | 0 => exact h0
    | 1 => exact h1
    | i + 2 => rw [List.getElem?_eq_none (by omega)]; rfl
  rw [hc]
  exact (none_walk I Y W).mono fun e w' ⟨he, u⟩ => ⟨he, u.below (Nat.le_refl _) (by simp)⟩
end Go.Proofs.Ytibpbnhchlojmaa
