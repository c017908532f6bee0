/- RingsOrder, at arguments as they are read. -/
import Derived.Test.YtkopocbcldjjbaaOrder
import Derived.Test.YtkopocbcldjjbaaRinged
import Derived.Test.YtkopocbcldjjbaaRead
namespace Go.Proofs.Ytkopocbcldjjbaa
open Go.ChangeShapes Go.WideShapes Go.ChangeAt Go.RowKit Go.Deep
set_option linter.unusedVariables false
section
variable {H : Type} {enc : TypeId × Value → H} {w : World} {base : Nat} {spare : Nat → Bool} {held : Bool}
theorem open_turns {fuel : Nat} {a : Option Addr} {len cap : Nat} {x : DataW H × List MemPlace} (h : DataW.trod enc Try.prog w base spare held fuel 22 [.slice a len cap] = some x) :
    ∃ (b off : Nat) (ts : List Bool), ts.length = len ∧ (0 < len → a = some ⟨b, off, none⟩) ∧ Turns w b off ts := by
  obtain ⟨_, b, off, row, ha, hr⟩ := open_rows (C := 1) Try.underlying22 (by kernel_rfl) (by decide) h
  have key : ∀ i, ∃ p : Bool, i < len → (row i)[0]? = some (.bool p) := by
    intro i
    by_cases hi : i < len
    · obtain ⟨_, _, m, y, hy⟩ := hr i hi
      obtain ⟨p, hp, _⟩ := DataW.trod_bool Try.underlying4 hy
      exact ⟨p, fun _ => by rw [hp]; rfl⟩
    · exact ⟨false, fun h => absurd h hi⟩
  have hg : ∀ i, i < len → ((List.range len).map fun i => Classical.choose (key i))[i]?.getD false = Classical.choose (key i) := by
    intro i hi; simp [hi]
  refine ⟨b, off, (List.range len).map fun i => Classical.choose (key i), by simp, ha, fun i hi => ?_⟩
  have hi : i < len := by simpa using hi
  obtain ⟨_, hc, _⟩ := hr i hi
  have k1 := Classical.choose_spec (key i) hi
  rw [hg i hi, ← k1]
  have := hc 0 (by decide)
  simpa using this
end
set_option maxRecDepth 100000 in
theorem order_long (a : Option Addr) (m cap : Nat) (t : Int) (w : World) (hn : 300 < m) :
    Calls Try.prog 3 #[.int .u8 t, .slice a m cap] w fun e w' => e = .returned (.bool true) ∧ Upd w w' [] := by
  go_enter Try.func3, Try.ntmps3
  go_wp2_with fail
  refine (ringed_any _).mono ?_
  rintro e w' ⟨rfl, u'⟩
  replace u' := hide u'
  go_wp2_with fail
  go_ret
  exact ⟨rfl, u'.out⟩
theorem RingsOrder_walk {H : Type} (enc : TypeId × Value → H) (W : World) (t : Int) (wt : (Lit.int .u8 t).wf = true) (a : Option Addr) (len cap : Nat) {sp : Nat → Bool} {hd : Bool} {fuel : Nat} {x : DataW H × List MemPlace}
    (h : DataW.trod enc Try.prog W 0 sp hd fuel 22 [.slice a len cap] = some x) :
    Calls Try.prog 3 #[.int .u8 t, .slice a len cap] W fun e w' => e = .returned (.bool true) ∧ Below W.heap.size W w' := by
  by_cases hn : 300 < len
  · exact (order_long a len cap t W hn).mono fun e w' ⟨he, u⟩ => ⟨he, u.below (Nat.le_refl _) (by simp)⟩
  · obtain ⟨b, off, ts, rfl, ha, hx⟩ := open_turns h
    obtain ⟨t1, t2⟩ := bounds_u8 wt
    exact (order_walk ringed_any a b off cap ts t W ha hx (by omega) t1 t2).mono fun e w' ⟨he, u⟩ => ⟨he, u.below (Nat.le_refl _) (by simp)⟩
end Go.Proofs.Ytkopocbcldjjbaa
