/- How an argument of acts is read. -/
import Derived.Test.YtibpbnhchlojmaaOrder
import Derived.Test.YtibpbnhchlojmaaRead
namespace Go.Proofs.Ytibpbnhchlojmaa
open Go.ChangeShapes Go.WideShapes Go.ChangeAt Go.RowKit Go.Deep
set_option linter.unusedVariables false
section
variable {H : Type} {enc : TypeId × Value → H} {w : World} {base : Nat} {spare : Nat → Bool} {held : Bool}
/-- one act, as it is read -/
theorem open_act {fuel : Nat} {cs : List Value} {x : DataW H × List MemPlace} (h : DataW.trod enc Try.prog w base spare held fuel 29 cs = some x) :
    ∃ I Y, cs[0]? = some (.int .i64 I) ∧ cs[1]? = some (.int .i64 Y) ∧ -9223372036854775808 ≤ I ∧ I ≤ 9223372036854775807 ∧ -9223372036854775808 ≤ Y ∧ Y ≤ 9223372036854775807 := by
  obtain ⟨I, hI, wI⟩ := fld_int Try.underlying29 h 0 0 3 .i64 rfl (by kernel_rfl) Try.underlying3
  obtain ⟨Y, hY, wY⟩ := fld_int Try.underlying29 h 1 1 2 .i64 rfl (by kernel_rfl) Try.underlying2
  exact ⟨I, Y, hI, hY, (bounds_i64 wI).1, (bounds_i64 wI).2, (bounds_i64 wY).1, (bounds_i64 wY).2⟩
theorem open_acts {fuel : Nat} {a : Option Addr} {len cap : Nat} {x : DataW H × List MemPlace} (h : DataW.trod enc Try.prog w base spare held fuel 22 [.slice a len cap] = some x) :
    ∃ (b off : Nat) (xs : List (Int × Int)), xs.length = len ∧ (0 < len → a = some ⟨b, off, none⟩) ∧ Acts w b off xs ∧ Fit xs := by
  obtain ⟨_, b, off, row, ha, hr⟩ := open_rows (C := 2) Try.underlying22 (by kernel_rfl) (by decide) h
  have key : ∀ i, ∃ p : Int × Int, i < len → (row i)[0]? = some (.int .i64 p.1) ∧ (row i)[1]? = some (.int .i64 p.2) ∧ -9223372036854775808 ≤ p.1 ∧ p.1 ≤ 9223372036854775807 ∧ -9223372036854775808 ≤ p.2 ∧ p.2 ≤ 9223372036854775807 := by
    intro i
    by_cases hi : i < len
    · obtain ⟨_, _, m, y, hy⟩ := hr i hi
      obtain ⟨I, Y, h1⟩ := open_act hy
      exact ⟨(I, Y), fun _ => h1⟩
    · exact ⟨(0, 0), fun h => absurd h hi⟩
  have hg : ∀ i, i < len → ((List.range len).map fun i => Classical.choose (key i))[i]?.getD (0, 0) = Classical.choose (key i) := by
    intro i hi; simp [hi]
  refine ⟨b, off, (List.range len).map fun i => Classical.choose (key i), by simp, ha, fun i hi => ?_, fun x hx => ?_⟩
  · have hi : i < len := by simpa using hi
    obtain ⟨_, hc, _⟩ := hr i hi
    obtain ⟨k1, k2, _⟩ := Classical.choose_spec (key i) hi
    rw [hg i hi]
    exact ⟨by rw [← k1]; exact hc 0 (by decide), by rw [← k2]; exact hc 1 (by decide)⟩
  · simp only [List.mem_map, List.mem_range] at hx
    obtain ⟨i, hi, rfl⟩ := hx
    exact (Classical.choose_spec (key i) hi).2.2
end
theorem CountsOrder_walk {H : Type} (enc : TypeId × Value → H) (W : World) (a : Option Addr) (len cap : Nat) {sp : Nat → Bool} {hd : Bool} {fuel : Nat} {x : DataW H × List MemPlace}
    (h : DataW.trod enc Try.prog W 0 sp hd fuel 22 [.slice a len cap] = some x) (t : Int) (wt : (Lit.int .u8 t).wf = true) :
    Calls Try.prog 3 #[.slice a len cap, .int .u8 t] W fun e w' => e = .returned (.bool true) ∧ Below W.heap.size W w' := by
  by_cases hn : 80 < len
  · exact (order_long a len cap t W hn).mono fun e w' ⟨he, u⟩ => ⟨he, u.below (Nat.le_refl _) (by simp)⟩
  · obtain ⟨b, off, xs, rfl, ha, hx, hf⟩ := open_acts h
    obtain ⟨t1, t2⟩ := bounds_u8 wt
    obtain ⟨t, rfl⟩ := Int.eq_ofNat_of_zero_le t1
    exact (order_walk a b off cap xs t W ha hx hf (by omega) (by omega)).mono fun e w' ⟨he, u⟩ => ⟨he, u.below (Nat.le_refl _) (by simp)⟩
end Go.Proofs.Ytibpbnhchlojmaa
