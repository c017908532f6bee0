/- RingsPlay, at arguments as they are read. -/
import Derived.Test.YtkopocbcldjjbaaPlayW
import Derived.Test.YtkopocbcldjjbaaOpenC
namespace Go.Proofs.Ytkopocbcldjjbaa
open Go.ChangeShapes Go.WideShapes Go.ChangeAt Go.RowKit Go.Deep
set_option linter.unusedVariables false
set_option linter.unusedSimpArgs false
theorem open_s57 {H : Type} {enc : TypeId × Value → H} {w : World} {base : Nat} {spare : Nat → Bool} {held : Bool} {fuel : Nat} {cs : List Value} {x : DataW H × List MemPlace} (h : DataW.trod enc Try.prog w base spare held fuel 57 cs = some x) :
    ∃ x0 : Int, ∃ x1 : Int, cs = [.int .i64 x0, .int .i64 x1] ∧ ((Lit.int .i64 x0).wf = true) ∧ ((Lit.int .i64 x1).wf = true) := by
  obtain ⟨x0, h0, wx0⟩ := fld_int Try.underlying57 h 0 0 3 .i64 rfl (by kernel_rfl) Try.underlying3
  obtain ⟨x1, h1, wx1⟩ := fld_int Try.underlying57 h 1 1 3 .i64 rfl (by kernel_rfl) Try.underlying3
  refine ⟨x0, x1, list_of ((len_of_trod Try.underlying57 h).trans (by kernel_rfl)) ?_, wx0, wx1⟩
  intro i hi
  match i, hi with
  | 0, _ => exact h0
  | 1, _ => exact h1
  | i + 2, hi => exact absurd hi (by simp)
/-- the members of a frame that came in -/
theorem open_members {H : Type} {enc : TypeId × Value → H} {w : World} {base : Nat} {spare : Nat → Bool} {held : Bool} {fuel : Nat} {a : Option Addr} {len cap : Nat} {x : DataW H × List MemPlace} (h : DataW.trod enc Try.prog w base spare held fuel 36 [.slice a len cap] = some x) :
    ∃ m : Nat → Int, Src w (.slice a len cap) ((List.range (len * 2)).map fun j => .int .i64 (m j)) ∧ (a = none → cap = 0) := by
  obtain ⟨_, b, off, row, ha, hr⟩ := open_rows (C := 2) Try.underlying36 (by kernel_rfl) (by decide) h
  have key : ∀ i, ∃ p : Int × Int, i < len → row i = [.int .i64 p.1, .int .i64 p.2] := by
    intro i
    by_cases hi : i < len
    · obtain ⟨_, _, m, y, hy⟩ := hr i hi
      obtain ⟨x0, x1, e, _⟩ := open_s57 hy
      exact ⟨(x0, x1), fun _ => e⟩
    · exact ⟨(0, 0), fun h => absurd h hi⟩
  have hnil : a = none → cap = 0 := by
    rcases DataW.trod_slice Try.underlying36 h with ⟨h, _⟩ | ⟨a', n, c, _, _, _, _, h, _⟩
    · injection h with h _; injection h with h1 h2 h3; exact fun _ => h3
    · injection h with h _; injection h with h1 h2 h3; intro e; rw [h1] at e; cases e
  refine ⟨fun j => if j % 2 = 0 then (Classical.choose (key (j / 2))).1 else (Classical.choose (key (j / 2))).2, ⟨a, len, cap, rfl, by simp, ?_⟩, hnil⟩
  by_cases hl : 0 < len
  · refine .inr ⟨_, ha hl, fun j u hu => ?_⟩
    have hj : j < len * 2 := by
      have := (List.getElem?_eq_some_iff.1 hu).1
      simpa using this
    have hi : j / 2 < len := by omega
    obtain ⟨_, hc, _⟩ := hr (j / 2) hi
    have k := Classical.choose_spec (key (j / 2)) hi
    have hc2 := hc (j % 2) (by omega)
    rw [show j / 2 * 2 + j % 2 = j by omega] at hc2
    rw [Addr.add_mid, hc2, k, ← hu]
    rw [List.getElem?_map, List.getElem?_range hj]
    rcases Nat.mod_two_eq_zero_or_one j with e | e
    · simp [e]
    · simp [e]
  · cases a with
    | none => exact .inl ⟨rfl, by omega⟩
    | some ad =>
      refine .inr ⟨ad, rfl, fun j u hu => ?_⟩
      have := (List.getElem?_eq_some_iff.1 hu).1
      simp at this
      omega
def fOf (F : Array Value) (i : Nat) : Int := match F[i]? with | some (.int _ z) => z | _ => 0
def gOf (F : Array Value) (i : Nat) : ByteArray := match F[i]? with | some (.string s) => s | _ => ⟨#[]⟩
def frameOf (x1_0 : Int) (x1_1 : Int) (x1_2 : Int) (x1_3 : Int) (x1_4 : Int) (x1_5 : Int) (x1_6 : Int) (x1_7_0 : Int) (x1_7_1 : ByteArray) (x1_7_2 : ByteArray) (x1_7_3 : Int) (x1_8_0 : Int) (x1_8_1 : ByteArray) (x1_8_2 : Int) (x1_8_3 : Int) (x1_9 : Int) (x1_10_0 : Int) (x1_10_1 : Int) (x1_10_2 : Int) (x1_10_3_0 : Int) (x1_10_3_1 : ByteArray) (x1_10_3_2 : ByteArray) (x1_10_3_3 : Int) (x1_11_0 : Int) (x1_11_1a : Option Addr) (x1_11_1n : Nat) (x1_11_1c : Nat) (x1_11_2 : Int) (x1_12 : Int) (x1_13 : Int) (x1_14 : Int) : Array Value := #[.int .i64 x1_0, .int .i64 x1_1, .int .i64 x1_2, .int .i64 x1_3, .int .i64 x1_4, .int .i64 x1_5, .int .i64 x1_6, .int .i64 x1_7_0, .string x1_7_1, .string x1_7_2, .int .i64 x1_7_3, .int .i64 x1_8_0, .string x1_8_1, .int .i64 x1_8_2, .int .i64 x1_8_3, .int .i64 x1_9, .int .i64 x1_10_0, .int .i64 x1_10_1, .int .i64 x1_10_2, .int .i64 x1_10_3_0, .string x1_10_3_1, .string x1_10_3_2, .int .i64 x1_10_3_3, .int .i64 x1_11_0, .slice x1_11_1a x1_11_1n x1_11_1c, .int .i64 x1_11_2, .int .i64 x1_12, .int .i64 x1_13, .int .i64 x1_14]
theorem frameOf_fine (x1_0 : Int) (x1_1 : Int) (x1_2 : Int) (x1_3 : Int) (x1_4 : Int) (x1_5 : Int) (x1_6 : Int) (x1_7_0 : Int) (x1_7_1 : ByteArray) (x1_7_2 : ByteArray) (x1_7_3 : Int) (x1_8_0 : Int) (x1_8_1 : ByteArray) (x1_8_2 : Int) (x1_8_3 : Int) (x1_9 : Int) (x1_10_0 : Int) (x1_10_1 : Int) (x1_10_2 : Int) (x1_10_3_0 : Int) (x1_10_3_1 : ByteArray) (x1_10_3_2 : ByteArray) (x1_10_3_3 : Int) (x1_11_0 : Int) (x1_11_1a : Option Addr) (x1_11_1n : Nat) (x1_11_1c : Nat) (x1_11_2 : Int) (x1_12 : Int) (x1_13 : Int) (x1_14 : Int) : ∀ i, i < 29 → i ≠ 24 → (frameOf x1_0 x1_1 x1_2 x1_3 x1_4 x1_5 x1_6 x1_7_0 x1_7_1 x1_7_2 x1_7_3 x1_8_0 x1_8_1 x1_8_2 x1_8_3 x1_9 x1_10_0 x1_10_1 x1_10_2 x1_10_3_0 x1_10_3_1 x1_10_3_2 x1_10_3_3 x1_11_0 x1_11_1a x1_11_1n x1_11_1c x1_11_2 x1_12 x1_13 x1_14)[i]? = some (fineV (fOf (frameOf x1_0 x1_1 x1_2 x1_3 x1_4 x1_5 x1_6 x1_7_0 x1_7_1 x1_7_2 x1_7_3 x1_8_0 x1_8_1 x1_8_2 x1_8_3 x1_9 x1_10_0 x1_10_1 x1_10_2 x1_10_3_0 x1_10_3_1 x1_10_3_2 x1_10_3_3 x1_11_0 x1_11_1a x1_11_1n x1_11_1c x1_11_2 x1_12 x1_13 x1_14)) (gOf (frameOf x1_0 x1_1 x1_2 x1_3 x1_4 x1_5 x1_6 x1_7_0 x1_7_1 x1_7_2 x1_7_3 x1_8_0 x1_8_1 x1_8_2 x1_8_3 x1_9 x1_10_0 x1_10_1 x1_10_2 x1_10_3_0 x1_10_3_1 x1_10_3_2 x1_10_3_3 x1_11_0 x1_11_1a x1_11_1n x1_11_1c x1_11_2 x1_12 x1_13 x1_14)) i)
  | 0, _, _ => rfl
  | 1, _, _ => rfl
  | 2, _, _ => rfl
  | 3, _, _ => rfl
  | 4, _, _ => rfl
  | 5, _, _ => rfl
  | 6, _, _ => rfl
  | 7, _, _ => rfl
  | 8, _, _ => rfl
  | 9, _, _ => rfl
  | 10, _, _ => rfl
  | 11, _, _ => rfl
  | 12, _, _ => rfl
  | 13, _, _ => rfl
  | 14, _, _ => rfl
  | 15, _, _ => rfl
  | 16, _, _ => rfl
  | 17, _, _ => rfl
  | 18, _, _ => rfl
  | 19, _, _ => rfl
  | 20, _, _ => rfl
  | 21, _, _ => rfl
  | 22, _, _ => rfl
  | 23, _, _ => rfl
  | 24, _, h => absurd rfl h
  | 25, _, _ => rfl
  | 26, _, _ => rfl
  | 27, _, _ => rfl
  | 28, _, _ => rfl
  | i + 29, h, _ => absurd h (by omega)
theorem frameOf_one (x1_0 : Int) (x1_1 : Int) (x1_2 : Int) (x1_3 : Int) (x1_4 : Int) (x1_5 : Int) (x1_6 : Int) (x1_7_0 : Int) (x1_7_1 : ByteArray) (x1_7_2 : ByteArray) (x1_7_3 : Int) (x1_8_0 : Int) (x1_8_1 : ByteArray) (x1_8_2 : Int) (x1_8_3 : Int) (x1_9 : Int) (x1_10_0 : Int) (x1_10_1 : Int) (x1_10_2 : Int) (x1_10_3_0 : Int) (x1_10_3_1 : ByteArray) (x1_10_3_2 : ByteArray) (x1_10_3_3 : Int) (x1_11_0 : Int) (x1_11_1a : Option Addr) (x1_11_1n : Nat) (x1_11_1c : Nat) (x1_11_2 : Int) (x1_12 : Int) (x1_13 : Int) (x1_14 : Int) : (frameOf x1_0 x1_1 x1_2 x1_3 x1_4 x1_5 x1_6 x1_7_0 x1_7_1 x1_7_2 x1_7_3 x1_8_0 x1_8_1 x1_8_2 x1_8_3 x1_9 x1_10_0 x1_10_1 x1_10_2 x1_10_3_0 x1_10_3_1 x1_10_3_2 x1_10_3_3 x1_11_0 x1_11_1a x1_11_1n x1_11_1c x1_11_2 x1_12 x1_13 x1_14).all (·.oneCell') = true := by
  unfold frameOf
  simp [Value.oneCell']
theorem cut_same {F : Array Value} {ms : List Value} {v : Value} (h : F[24]? = some v) : F = cut (F, ms) v := by
  apply Array.ext_getElem?
  intro i
  simp only [cut, Array.getElem?_setIfInBounds]
  split
  · next e =>
    subst e
    rw [h, if_pos (Array.getElem?_eq_some_iff.1 h).1]
  · rfl
theorem ra_ok {w : World} {k i : Int} {F : Array Value} {e : Eyes} {n : Nat} {m : Nat → Int} (hk : 0 ≤ k ∧ k ≤ 255) (S : Sees F e) (fine : ∀ i, i < 29 → i ≠ 24 → F[i]? = some (fineV (fOf F) (gOf F) i)) (src : Src w (.slice e.ad e.n e.c) ((List.range (n * 2)).map fun j => .int .i64 (m j))) (hnil : e.ad = none → e.c = 0) :
    Ra.Ok w ⟨k, F, i, e, (F, (List.range (n * 2)).map fun j => .int .i64 (m j))⟩ := by
  refine ⟨hk, S, cut_same S.g24, S.size, Array.all_eq_true_iff_forall_mem.1 S.one, ?_, src, hnil, fOf F, gOf F, m, fine, fun i hi => ?_⟩
  · intro u hu
    obtain ⟨j, _, rfl⟩ := List.mem_map.1 hu
    rfl
  · have hi : i < n * 2 := by simpa using hi
    simp only [List.getElem?_map, List.getElem?_range hi, Option.map_some]
theorem open_ract {H : Type} {enc : TypeId × Value → H} {w : World} {base : Nat} {spare : Nat → Bool} {held : Bool} {fuel : Nat} {cs : List Value} {x : DataW H × List MemPlace} (h : DataW.trod enc Try.prog w base spare held fuel 50 cs = some x) :
    ∃ a : Ra, cs = a.cells.toList ∧ a.Ok w := by
  obtain ⟨x0, x1_0, x1_1, x1_2, x1_3, x1_4, x1_5, x1_6, x1_7_0, x1_7_1, x1_7_2, x1_7_3, x1_8_0, x1_8_1, x1_8_2, x1_8_3, x1_9, x1_10_0, x1_10_1, x1_10_2, x1_10_3_0, x1_10_3_1, x1_10_3_2, x1_10_3_3, x1_11_0, x1_11_1a, x1_11_1n, x1_11_1c, x1_11_2, x1_12, x1_13, x1_14, x2, e, w0, w1, w2, w3, w4, w5, w6, w7, w8, w11, w12, w14, w15, w16, w17, w18, w19, w20, w23, w24, w25, w26, w27, w28, w29, w30⟩ := open_s50 h
  obtain ⟨m50, y50, h36⟩ := w25
  obtain ⟨m, src, hnil⟩ := open_members h36
  refine ⟨⟨x0, frameOf x1_0 x1_1 x1_2 x1_3 x1_4 x1_5 x1_6 x1_7_0 x1_7_1 x1_7_2 x1_7_3 x1_8_0 x1_8_1 x1_8_2 x1_8_3 x1_9 x1_10_0 x1_10_1 x1_10_2 x1_10_3_0 x1_10_3_1 x1_10_3_2 x1_10_3_3 x1_11_0 x1_11_1a x1_11_1n x1_11_1c x1_11_2 x1_12 x1_13 x1_14, x2, ⟨x1_7_1, x1_7_2, x1_8_1, x1_10_3_1, x1_10_3_2, x1_11_1a, x1_11_1n, x1_11_1c⟩, (frameOf x1_0 x1_1 x1_2 x1_3 x1_4 x1_5 x1_6 x1_7_0 x1_7_1 x1_7_2 x1_7_3 x1_8_0 x1_8_1 x1_8_2 x1_8_3 x1_9 x1_10_0 x1_10_1 x1_10_2 x1_10_3_0 x1_10_3_1 x1_10_3_2 x1_10_3_3 x1_11_0 x1_11_1a x1_11_1n x1_11_1c x1_11_2 x1_12 x1_13 x1_14, (List.range (x1_11_1n * 2)).map fun j => .int .i64 (m j))⟩, ?_, ra_ok (bounds_u8 w0) ⟨rfl, frameOf_one .., rfl, rfl, rfl, rfl, rfl, rfl⟩ (fun i h1 h2 => frameOf_fine _ _ _ _ _ _ _ _ _ _ _ _ _ _ _ _ _ _ _ _ _ _ _ _ _ _ _ _ _ _ _ i h1 h2) src hnil⟩
  rw [e]
  unfold Ra.cells frameOf
  simp
theorem open_racts {H : Type} {enc : TypeId × Value → H} {w : World} {base : Nat} {spare : Nat → Bool} {held : Bool} {fuel : Nat} {a : Option Addr} {len cap : Nat} {x : DataW H × List MemPlace} (h : DataW.trod enc Try.prog w base spare held fuel 44 [.slice a len cap] = some x) :
    len ≤ maxLen ∧ ∃ (b off : Nat) (al : List Ra), al.length = len ∧ (0 < len → a = some ⟨b, off, none⟩) ∧ RActs w b off al := by
  obtain ⟨⟨hl1, hl2⟩, b, off, row, ha, hr⟩ := open_rows (C := 31) Try.underlying44 (by kernel_rfl) (by decide) h
  have key : ∀ i, ∃ p : Ra, i < len → row i = p.cells.toList ∧ p.Ok w := by
    intro i
    by_cases hi : i < len
    · obtain ⟨_, _, m, y, hy⟩ := hr i hi
      obtain ⟨p, hp⟩ := open_ract hy
      exact ⟨p, fun _ => hp⟩
    · exact ⟨⟨0, #[], 0, ⟨⟨#[]⟩, ⟨#[]⟩, ⟨#[]⟩, ⟨#[]⟩, ⟨#[]⟩, none, 0, 0⟩, (#[], [])⟩, fun h => absurd h hi⟩
  refine ⟨Nat.le_trans hl1 hl2, b, off, (List.range len).map fun i => Classical.choose (key i), by simp, ha, fun i hi => ?_⟩
  have hi : i < len := by simpa using hi
  obtain ⟨_, hc, _⟩ := hr i hi
  obtain ⟨k0, k1⟩ := Classical.choose_spec (key i) hi
  have hg : ((List.range len).map fun i => Classical.choose (key i))[i]'(by simpa using hi) = Classical.choose (key i) := by simp
  rw [hg]
  refine ⟨actAt_of (Ra.csize k1) fun j hj => ?_, k1⟩
  have := hc j hj
  rw [k0] at this
  rw [Nat.add_assoc, this, Array.getElem?_toList]
theorem RingsPlay_walk {H : Type} (enc : TypeId × Value → H) (W : World) (t : Int) (wt : (Lit.int .i64 t).wf = true) (a : Option Addr) (len cap : Nat) {sp : Nat → Bool} {hd : Bool} {fuel : Nat} {x : DataW H × List MemPlace}
    (h : DataW.trod enc Try.prog W 0 sp hd fuel 44 [.slice a len cap] = some x) :
    Calls Try.prog 4 #[.int .i64 t, .slice a len cap] W fun e w' => e = .returned (.bool true) ∧ Below W.heap.size W w' := by
  obtain ⟨hmx, b, off, al, rfl, ha, hx⟩ := open_racts h
  have hm : al.length ≤ 9223372036854775807 := by unfold maxLen at hmx; omega
  have fin : ∀ {e : Ending} {w' : World}, e = .returned (.bool true) ∧ Upd W w' [] → e = .returned (.bool true) ∧ Below W.heap.size W w' := fun ⟨he, u⟩ => ⟨he, u.below (Nat.le_refl _) (by simp)⟩
  rcases Bool.eq_false_or_eq_true (great (al.map fun a => (a.F, a.e)) 200) with hg | hg
  · exact (play_long t a b off cap al W ha hx hm hg).mono fun e w' h => fin h
  · by_cases ht : t < 1 ∨ 64 < t
    · exact (play_bad t ht a b off cap al W ha hx hm hg).mono fun e w' h => fin h
    · obtain ⟨n, rfl⟩ : ∃ n : Nat, t = (n : Int) := ⟨t.toNat, by omega⟩
      exact (play_walk n (by omega) (by omega) a b off cap al W ha hx hm hg).mono fun e w' h => fin h
end Go.Proofs.Ytkopocbcldjjbaa
