/- ReadsPlay, at arguments as they are read. -/
import Derived.Test.YtdnablmlkkkdhaaPlay
import Derived.Test.YtdnablmlkkkdhaaOpen
namespace Go.Proofs.Ytdnablmlkkkdhaa
open Go.ChangeShapes Go.WideShapes Go.ChangeAt Go.RowKit Go.Deep
set_option linter.unusedVariables false
set_option maxRecDepth 100000 in
theorem play_long (c : Int) (a0 : Option Addr) (b off cap : Nat) (xs : List Ac) (w : World) (ha : 0 < xs.length → a0 = some ⟨b, off, none⟩) (hx : Acts w b off xs) (hm : xs.length ≤ 9223372036854775807) (hg : great xs 120 = true) :
    Calls Try.prog 4 #[.int .i64 c, .slice a0 xs.length cap] w fun e w' => e = .returned (.bool true) ∧ Upd w w' [] := by
  have G := hide (great_walk a0 b off cap xs 120 w ha hx hm)
  rw [hg] at G
  go_enter Try.func4, Try.ntmps4
  go_wp2_with fail
  refine G.out.mono ?_
  rintro e w' ⟨rfl, rfl⟩
  go_wp2_with fail
  refine (waited_any _).mono ?_
  rintro e w2 ⟨rfl, u2⟩
  replace u2 := hide u2
  go_wp2_with fail
  go_ret
  exact ⟨rfl, u2.out⟩
set_option maxRecDepth 100000 in
theorem play_bad (c : Int) (hc : c < 1 ∨ 16 < c) (a0 : Option Addr) (b off cap : Nat) (xs : List Ac) (w : World) (ha : 0 < xs.length → a0 = some ⟨b, off, none⟩) (hx : Acts w b off xs) (hm : xs.length ≤ 9223372036854775807) (hg : great xs 120 = false) :
    Calls Try.prog 4 #[.int .i64 c, .slice a0 xs.length cap] w fun e w' => e = .returned (.bool true) ∧ Upd w w' [] := by
  have G := hide (great_walk a0 b off cap xs 120 w ha hx hm)
  rw [hg] at G
  have N := hide (new_bad c w hc)
  have N2 := hide (rnew_bad c w hc)
  clear hc
  go_enter Try.func4, Try.ntmps4
  go_wp2_with fail
  refine G.out.mono ?_
  rintro e w' ⟨rfl, rfl⟩
  go_wp2_with fail
  refine N.out.mono ?_
  rintro e w' ⟨rfl, rfl⟩
  go_wp2_with fail
  refine N2.out.mono ?_
  rintro e w' ⟨rfl, rfl⟩
  go_wp2_with fail
  refine (waited_any _).mono ?_
  rintro e w2 ⟨rfl, u2⟩
  replace u2 := hide u2
  go_wp2_with fail
  go_ret
  exact ⟨rfl, u2.out⟩
theorem ReadsPlay_walk {H : Type} (enc : TypeId × Value → H) (W : World) (t : Int) (wt : (Lit.int .i64 t).wf = true) (a : Option Addr) (len cap : Nat) {sp : Nat → Bool} {hd : Bool} {fuel : Nat} {x : DataW H × List MemPlace}
    (h : DataW.trod enc Try.prog W 0 sp hd fuel 22 [.slice a len cap] = some x) :
    Calls Try.prog 4 #[.int .i64 t, .slice a len cap] W fun e w' => e = .returned (.bool true) ∧ Below W.heap.size W w' := by
  obtain ⟨hmx, b, off, xs, rfl, ha, hx⟩ := open_acts h
  have fin : ∀ {e : Ending} {w' : World}, e = .returned (.bool true) ∧ Upd W w' [] → e = .returned (.bool true) ∧ Below W.heap.size W w' := fun ⟨he, u⟩ => ⟨he, u.below (Nat.le_refl _) (by simp)⟩
  rcases Bool.eq_false_or_eq_true (great xs 120) with hg | hg
  · exact (play_long t a b off cap xs W ha hx (by unfold maxLen at hmx; omega) hg).mono fun e w' h => fin h
  · by_cases ht : t < 1 ∨ 16 < t
    · exact (play_bad t ht a b off cap xs W ha hx (by unfold maxLen at hmx; omega) hg).mono fun e w' h => fin h
    · obtain ⟨n, rfl⟩ : ∃ n : Nat, t = (n : Int) := ⟨t.toNat, by omega⟩
      exact (play_walk n (by omega) (by omega) a b off cap xs W ha hx hg).mono fun e w' h => fin h
end Go.Proofs.Ytdnablmlkkkdhaa
