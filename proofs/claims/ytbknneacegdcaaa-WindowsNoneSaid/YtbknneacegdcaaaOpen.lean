/- The statements on windows, at arguments as they are read. -/
import Derived.Test.YtbknneacegdcaaaBounds
import Derived.Test.YtbknneacegdcaaaNone
import Derived.Test.YtbknneacegdcaaaRead
namespace Go.Proofs.Ytbknneacegdcaaa
open Go.ChangeShapes Go.WideShapes Go.ChangeAt Go.RowKit Go.Deep
set_option linter.unusedVariables false
section
variable {H : Type} {enc : TypeId × Value → H} {w : World} {base : Nat} {spare : Nat → Bool} {held : Bool}
/-- one act, as it is read -/
theorem open_act {fuel : Nat} {cs : List Value} {x : DataW H × List MemPlace} (h : DataW.trod enc Try.prog w base spare held fuel 29 cs = some x) :
    ∃ I Y, cs[0]? = some (.int .u8 I) ∧ cs[1]? = some (.int .i64 Y) ∧ 0 ≤ I ∧ I ≤ 255 ∧ -9223372036854775808 ≤ Y ∧ Y ≤ 9223372036854775807 := by
  obtain ⟨I, hI, wI⟩ := fld_int Try.underlying29 h 0 0 5 .u8 rfl (by kernel_rfl) Try.underlying5
  obtain ⟨Y, hY, wY⟩ := fld_int Try.underlying29 h 1 1 3 .i64 rfl (by kernel_rfl) Try.underlying3
  exact ⟨I, Y, hI, hY, (bounds_u8 wI).1, (bounds_u8 wI).2, (bounds_i64 wY).1, (bounds_i64 wY).2⟩
theorem open_acts {fuel : Nat} {a : Option Addr} {len cap : Nat} {x : DataW H × List MemPlace} (h : DataW.trod enc Try.prog w base spare held fuel 22 [.slice a len cap] = some x) :
    ∃ (b off : Nat) (xs : List (Int × Int)), xs.length = len ∧ (0 < len → a = some ⟨b, off, none⟩) ∧ Acts w b off xs ∧ Fit xs := by
  obtain ⟨_, b, off, row, ha, hr⟩ := open_rows (C := 2) Try.underlying22 (by kernel_rfl) (by decide) h
  have key : ∀ i, ∃ p : Int × Int, i < len → (row i)[0]? = some (.int .u8 p.1) ∧ (row i)[1]? = some (.int .i64 p.2) ∧ 0 ≤ p.1 ∧ p.1 ≤ 255 ∧ -9223372036854775808 ≤ p.2 ∧ p.2 ≤ 9223372036854775807 := by
    intro i
    by_cases hi : i < len
    · obtain ⟨_, _, m, y, hy⟩ := hr i hi
      obtain ⟨I, Y, h1⟩ := open_act hy
      exact ⟨(I, Y), fun _ => h1⟩
    · exact ⟨(0, 0), fun h => absurd h hi⟩
  have hg : ∀ i, i < len → ((List.range len).map fun i => Classical.choose (key i))[i]?.getD (0, 0) = Classical.choose (key i) := by
    intro i hi; simp [hi]
  refine ⟨b, off, (List.range len).map fun i => Classical.choose (key i), by simp, ha, fun i hi => ?_, fun x hx => ?_⟩
  · have hi : i < len := by simpa using hi
    obtain ⟨_, hc, _⟩ := hr i hi
    obtain ⟨k1, k2, _⟩ := Classical.choose_spec (key i) hi
    rw [hg i hi]
    exact ⟨by rw [← k1]; exact hc 0 (by decide), by rw [← k2]; exact hc 1 (by decide)⟩
  · simp only [List.mem_map, List.mem_range] at hx
    obtain ⟨i, hi, rfl⟩ := hx
    exact (Classical.choose_spec (key i) hi).2.2
end
set_option maxRecDepth 100000 in
theorem bounds_long (a : Option Addr) (m cap : Nat) (t : Int) (w : World) (hn : 200 < m) :
    Calls Try.prog 3 #[.int .u8 t, .slice a m cap] w fun e w' => e = .returned (.bool true) ∧ Upd w w' [] := by
  go_enter Try.func3, Try.ntmps3
  go_wp2_with fail
  refine (framed_any _).mono ?_
  rintro e w' ⟨rfl, u'⟩
  replace u' := hide u'
  go_wp2_with fail
  go_ret
  exact ⟨rfl, u'.out⟩
set_option maxRecDepth 100000 in
theorem play_long (a : Option Addr) (m cap : Nat) (c l d : Int) (w : World) (hn : 200 < m) :
    Calls Try.prog 4 #[.int .i64 c, .agg #[.int .i64 l, .int .i64 d], .slice a m cap] w fun e w' => e = .returned (.bool true) ∧ Upd w w' [] := by
  have A0 := hide ((Upd.refl w []).alloc (.cells #[.int .i64 l, .int .i64 d] 36))
  go_enter Try.func4, Try.ntmps4
  go_wp2_with fail
  refine (framed_any _).mono ?_
  rintro e w' ⟨rfl, u'⟩
  replace u' := hide u'
  go_wp2_with fail
  go_ret
  exact ⟨rfl, A0.out.trans u'.out (by simp)⟩
set_option maxRecDepth 100000 in
theorem play_bad (a : Option Addr) (m cap : Nat) (c l d : Int) (w : World) (hm : m ≤ 200) (hn : c < 1 ∨ 16 < c ∨ d < 0 ∨ l < d ∨ 4096 < l) :
    Calls Try.prog 4 #[.int .i64 c, .agg #[.int .i64 l, .int .i64 d], .slice a m cap] w fun e w' => e = .returned (.bool true) ∧ Upd w w' [] := by
  have A0 := hide ((Upd.refl w []).alloc (.cells #[.int .i64 l, .int .i64 d] 36))
  have B1 := hide fun W => new_bad c l d W hn
  have B2 := hide fun W => rnew_bad c l d W hn
  clear hn
  go_enter Try.func4, Try.ntmps4
  go_wp2_with fail
  refine (B1.out _).mono ?_
  rintro e w' ⟨rfl, rfl⟩
  go_wp2_with fail
  refine (B2.out _).mono ?_
  rintro e w' ⟨rfl, rfl⟩
  go_wp2_with fail
  refine (framed_any _).mono ?_
  rintro e w' ⟨rfl, u'⟩
  replace u' := hide u'
  go_wp2_with fail
  go_ret
  exact ⟨rfl, A0.out.trans u'.out (by simp)⟩
theorem WindowsBounds_walk {H : Type} (enc : TypeId × Value → H) (W : World) (t : Int) (wt : (Lit.int .u8 t).wf = true) (a : Option Addr) (len cap : Nat) {sp : Nat → Bool} {hd : Bool} {fuel : Nat} {x : DataW H × List MemPlace}
    (h : DataW.trod enc Try.prog W 0 sp hd fuel 22 [.slice a len cap] = some x) :
    Calls Try.prog 3 #[.int .u8 t, .slice a len cap] W fun e w' => e = .returned (.bool true) ∧ Below W.heap.size W w' := by
  by_cases hn : 200 < len
  · exact (bounds_long a len cap t W hn).mono fun e w' ⟨he, u⟩ => ⟨he, u.below (Nat.le_refl _) (by simp)⟩
  · obtain ⟨b, off, xs, rfl, ha, hx, hf⟩ := open_acts h
    obtain ⟨t1, t2⟩ := bounds_u8 wt
    exact (bounds_walk a b off cap xs t W ha hx hf (by omega) t1 t2).mono fun e w' ⟨he, u⟩ => ⟨he, u.below (Nat.le_refl _) (by simp)⟩
theorem WindowsPlay_walk {H : Type} (enc : TypeId × Value → H) (W : World) (c : Int) (wc : (Lit.int .i64 c).wf = true) (cs : Array Value) {sp1 : Nat → Bool} {hd1 : Bool} {fuel1 : Nat} {x1 : DataW H × List MemPlace}
    (h1 : DataW.trod enc Try.prog W 0 sp1 hd1 fuel1 36 cs.toList = some x1) (a : Option Addr) (len cap : Nat) {sp : Nat → Bool} {hd : Bool} {fuel : Nat} {x : DataW H × List MemPlace}
    (h : DataW.trod enc Try.prog W 0 sp hd fuel 22 [.slice a len cap] = some x) :
    Calls Try.prog 4 #[.int .i64 c, .agg cs, .slice a len cap] W fun e w' => e = .returned (.bool true) ∧ Below W.heap.size W w' := by
  obtain ⟨l, hl, _⟩ := elt_int Try.underlying36 h1 .i64 (by kernel_rfl) Try.underlying3 0 (by decide)
  obtain ⟨d, hd, _⟩ := elt_int Try.underlying36 h1 .i64 (by kernel_rfl) Try.underlying3 1 (by decide)
  rw [two_of ((arr_len Try.underlying36 h1).trans (by kernel_rfl)) hl hd]
  by_cases hn : 200 < len
  · exact (play_long a len cap c l d W hn).mono fun e w' ⟨he, u⟩ => ⟨he, u.below (Nat.le_refl _) (by simp)⟩
  · by_cases hb : c < 1 ∨ 16 < c ∨ d < 0 ∨ l < d ∨ 4096 < l
    · exact (play_bad a len cap c l d W (by omega) hb).mono fun e w' ⟨he, u⟩ => ⟨he, u.below (Nat.le_refl _) (by simp)⟩
    · obtain ⟨b, off, xs, rfl, ha, hx, hf⟩ := open_acts h
      exact (play_walk a b off cap xs c l d W ha hx hf (by omega) (by omega) (by omega) (by omega) (by omega) (by omega)).mono fun e w' ⟨he, u⟩ => ⟨he, u.below (Nat.le_refl _) (by simp)⟩
theorem WindowsNone_walk {H : Type} (enc : TypeId × Value → H) (W : World) (n : Int) (wn : (Lit.int .i64 n).wf = true) :
    Calls Try.prog 5 #[.int .i64 n] W fun e w' => e = .returned (.bool true) ∧ Below W.heap.size W w' :=
  (none_walk n W).mono fun e w' ⟨he, u⟩ => ⟨he, u.below (Nat.le_refl _) (by simp)⟩
end Go.Proofs.Ytbknneacegdcaaa
