/- The plain laws of counters: what is added, and that its order makes no difference in the end. No program in sight. -/
import Derived.Test.YtibpbnhchlojmaaBase
import Derived.Laws.BitsAllLaws
import Derived.Laws.BitsLemmas
namespace Go.Proofs.Ytibpbnhchlojmaa
open Go.RowKit
set_option linter.unusedVariables false

theorem and3 (I : Int) : bits .and .i64 I 3 = I % 4 := by
  show IntKind.i64.wrap ((BitVec.ofInt 64 I &&& BitVec.ofInt 64 3).toNat : Int) = _
  rw [BitVec.toNat_and, show (BitVec.ofInt 64 3).toNat = 2 ^ 2 - 1 from by decide, Nat.and_two_pow_sub_one_eq_mod, IntKind.wrap_i64, BitVec.toNat_ofInt]
  omega

/-- what is added to one of the counters -/
def step (l : List Int) (j : Nat) (y : Int) : List Int := if y < 0 then l else l.set j (l[j]?.getD 0 + min y (4611686018427387904 - l[j]?.getD 0))
def Ok (l : List Int) : Prop := ∀ j : Nat, 0 ≤ l[j]?.getD 0 ∧ l[j]?.getD 0 ≤ 4611686018427387904
theorem step_len (l : List Int) (j : Nat) (y : Int) : (step l j y).length = l.length := by unfold step; split <;> simp
theorem step_at (l : List Int) (j : Nat) (y : Int) (hj : j < l.length) (i : Nat) : (step l j y)[i]?.getD 0 = if y < 0 ∨ i ≠ j then l[i]?.getD 0 else l[j]?.getD 0 + min y (4611686018427387904 - l[j]?.getD 0) := by
  unfold step
  by_cases hy : y < 0
  · simp [hy]
  · rw [if_neg hy, List.getElem?_set]
    by_cases hi : j = i
    · subst hi; simp [hy, hj]
    · rw [if_neg hi, if_pos (.inr (fun h => hi h.symm))]
theorem step_ok (l : List Int) (j : Nat) (y : Int) (hj : j < l.length) (h : Ok l) : Ok (step l j y) := by
  intro i
  rw [step_at l j y hj i]
  have h1 := h i
  have h2 := h j
  split <;> omega
theorem zero_ok (n : Nat) : Ok (List.replicate n 0) := by
  intro j
  rw [List.getElem?_replicate]
  split <;> simp

/-- all acts of a list, one behind the other -/
def acc (n : Nat) (f : Int × Int → Nat) (xs : List (Int × Int)) : List Int := xs.foldl (fun l x => step l (f x) x.2) (List.replicate n 0)
theorem acc_snoc (n : Nat) (f : Int × Int → Nat) (xs : List (Int × Int)) (x : Int × Int) : acc n f (xs ++ [x]) = step (acc n f xs) (f x) x.2 := by simp [acc]
theorem acc_inv (n : Nat) (f : Int × Int → Nat) (hf : ∀ x, f x < n) (xs : List (Int × Int)) : (acc n f xs).length = n ∧ Ok (acc n f xs) := by
  suffices h : ∀ l : List Int, l.length = n → Ok l → (xs.foldl (fun l x => step l (f x) x.2) l).length = n ∧ Ok (xs.foldl (fun l x => step l (f x) x.2) l) from h _ (by simp) (zero_ok n)
  induction xs with
  | nil => intro l h1 h2; exact ⟨h1, h2⟩
  | cons x xs ih =>
    intro l h1 h2
    exact ih _ (by rw [step_len]; exact h1) (step_ok _ _ _ (by rw [h1]; exact hf x) h2)
/-- the sum of what is added to counter j -/
def total (f : Int × Int → Nat) (j : Nat) : List (Int × Int) → Int
  | [] => 0
  | x :: xs => (if x.2 < 0 ∨ j ≠ f x then 0 else x.2) + total f j xs
theorem total_cons (f : Int × Int → Nat) (j : Nat) (x : Int × Int) (xs : List (Int × Int)) : total f j (x :: xs) = (if x.2 < 0 ∨ j ≠ f x then 0 else x.2) + total f j xs := rfl
theorem total_nonneg (f : Int × Int → Nat) (j : Nat) (xs : List (Int × Int)) : 0 ≤ total f j xs := by
  induction xs with
  | nil => simp [total]
  | cons x xs ih => unfold total; split <;> omega
theorem foldl_at (n : Nat) (f : Int × Int → Nat) (hf : ∀ x, f x < n) (j : Nat) (xs : List (Int × Int)) : ∀ l : List Int, l.length = n → Ok l →
    (xs.foldl (fun l x => step l (f x) x.2) l)[j]?.getD 0 = min 4611686018427387904 (l[j]?.getD 0 + total f j xs) := by
  induction xs with
  | nil => intro l h1 h2; have := h2 j; simp [total]; omega
  | cons x xs ih =>
    intro l h1 h2
    rw [List.foldl_cons, ih _ (by rw [step_len]; exact h1) (step_ok _ _ _ (by rw [h1]; exact hf x) h2), step_at _ _ _ (by rw [h1]; exact hf x)]
    have h3 := total_nonneg f j xs
    have h4 := h2 j
    rw [total_cons]
    split
    · omega
    · rename_i hn
      have hj : j = f x := by
        by_cases h : j = f x
        · exact h
        · exact absurd (.inr h) hn
      subst hj
      omega
theorem total_perm (f : Int × Int → Nat) (j : Nat) {xs ys : List (Int × Int)} (h : xs.Perm ys) : total f j xs = total f j ys := by
  induction h with
  | nil => rfl
  | cons x _ ih => simp [total, ih]
  | swap x y l => simp only [total]; omega
  | trans _ _ ih1 ih2 => exact ih1.trans ih2
theorem acc_perm (n : Nat) (f : Int × Int → Nat) (hf : ∀ x, f x < n) {xs ys : List (Int × Int)} (h : xs.Perm ys) : acc n f xs = acc n f ys := by
  apply List.ext_getElem
  · rw [(acc_inv n f hf xs).1, (acc_inv n f hf ys).1]
  · intro j h1 h2
    have e1 := foldl_at n f hf j xs (List.replicate n 0) (by simp) (zero_ok n)
    have e2 := foldl_at n f hf j ys (List.replicate n 0) (by simp) (zero_ok n)
    rw [← total_perm f j h] at e2
    have e3 : (acc n f xs)[j]?.getD 0 = (acc n f ys)[j]?.getD 0 := e1.trans e2.symm
    simpa [h1, h2] using e3
/-- the list, turned by t -/
def rot (xs : List (Int × Int)) (t k : Nat) : List (Int × Int) := (List.range k).map fun i => xs[(i + t) % xs.length]?.getD (0, 0)
theorem rot_succ (xs : List (Int × Int)) (t k : Nat) : rot xs t (k + 1) = rot xs t k ++ [xs[(k + t) % xs.length]?.getD (0, 0)] := by simp [rot, List.range_succ]
theorem rot_perm (xs : List (Int × Int)) (t : Nat) : (rot xs t xs.length).Perm xs := by
  by_cases h0 : xs.length = 0
  · rw [h0]; simp [rot, List.eq_nil_of_length_eq_zero h0]
  · have e : rot xs t xs.length = xs.drop (t % xs.length) ++ xs.take (t % xs.length) := by
      have hm := Nat.mod_lt t (show xs.length > 0 by omega)
      apply List.ext_getElem
      · simp [rot]; omega
      · intro i h1 h2
        have hi : i < xs.length := by simpa [rot] using h1
        simp only [rot, List.getElem_map, List.getElem_range, List.getElem_append, List.length_drop, List.getElem_drop, List.getElem_take]
        have hr : (i + t) % xs.length = if i < xs.length - t % xs.length then t % xs.length + i else i - (xs.length - t % xs.length) := by
          rw [Nat.add_mod, Nat.mod_eq_of_lt hi]
          split
          · rw [Nat.mod_eq_of_lt (by omega)]; omega
          · rw [Nat.mod_eq_sub_mod (by omega), Nat.mod_eq_of_lt (by omega)]; omega
        simp only [hr]
        split
        · rw [List.getElem?_eq_getElem (by omega)]; rfl
        · rw [List.getElem?_eq_getElem (by omega)]; rfl
    rw [e]
    exact (List.perm_append_comm).trans (by rw [List.take_append_drop])
end Go.Proofs.Ytibpbnhchlojmaa
