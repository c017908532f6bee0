/- The plain mathematics of the layer nums: numbers brought within 64 bits; no program in sight. -/
import Derived.WalkKit
namespace Go.Proofs.Ytplnkakblieijaa
open Go.RowKit
set_option linter.unusedVariables false

theorem hide {p : Prop} (h : p) : Hid p := h
/-- a number, brought within 64 bits -/
def sat (n : Int) : Int := if 9223372036854775807 < n then 9223372036854775807 else if n < -9223372036854775808 then -9223372036854775808 else n

theorem sat_hi {n : Int} (h : 9223372036854775807 < n) : sat n = 9223372036854775807 := by unfold sat; rw [if_pos h]
theorem sat_lo {n : Int} (h : n < -9223372036854775808) : sat n = -9223372036854775808 := by unfold sat; rw [if_neg (by omega), if_pos h]
theorem sat_in {n : Int} (h1 : -9223372036854775808 ≤ n) (h2 : n ≤ 9223372036854775807) : sat n = n := by unfold sat; rw [if_neg (by omega), if_neg (by omega)]
theorem sat_bd (n : Int) : -9223372036854775808 ≤ sat n ∧ sat n ≤ 9223372036854775807 := by unfold sat; split <;> (try split) <;> omega
theorem ret_int {k : IntKind} {a b : Int} (h : a = b) : Ending.returned (.int k a) = .returned (.int k b) := by rw [h]

theorem tdiv_rest (p b : Int) (hb : ¬ b = 0) : ∃ r, b * p.tdiv b + r = p ∧ (b < 0 → b < r ∧ r < -b) ∧ (0 < b → -b < r ∧ r < b) := by
  refine ⟨p.tmod b, Int.mul_tdiv_add_tmod p b, fun h => ?_, fun h => ?_⟩
  · have h1 := Int.tmod_lt_of_pos p (b := -b) (by omega)
    have h2 := Int.lt_tmod_of_pos p (b := -b) (by omega)
    rw [Int.tmod_neg] at h1 h2
    omega
  · have h1 := Int.tmod_lt_of_pos p h
    have h2 := Int.lt_tmod_of_pos p h
    omega
theorem tdiv_abs (p b : Int) (h1 : -9223372036854775808 ≤ p) (h2 : p ≤ 9223372036854775807) (hb : ¬ b = 0) : (-9223372036854775808 ≤ p.tdiv b ∧ p.tdiv b ≤ 9223372036854775807) ∨ (p = -9223372036854775808 ∧ b = -1) := by
  have key : (p.tdiv b).natAbs ≤ p.natAbs := by rw [Int.natAbs_tdiv]; exact Nat.div_le_self _ _
  by_cases hm : p = -9223372036854775808
  · by_cases hb1 : b = -1
    · exact .inr ⟨hm, hb1⟩
    · left
      by_cases hb2 : b = 1
      · subst hb2; rw [Int.tdiv_one]; omega
      · have k2 : (p.tdiv b).natAbs ≤ p.natAbs / 2 := by rw [Int.natAbs_tdiv]; exact Nat.div_le_div_left (by omega) (by omega)
        omega
  · left; omega
theorem w64 (n : Int) : ∃ k : Int, wrap64 n = n + 18446744073709551616 * k ∧ -9223372036854775808 ≤ wrap64 n ∧ wrap64 n ≤ 9223372036854775807 := by
  refine ⟨-((n + 9223372036854775808) / 18446744073709551616), ?_, ?_, ?_⟩ <;> unfold wrap64 <;> omega
theorem w64_in {n : Int} (h1 : -9223372036854775808 ≤ n) (h2 : n ≤ 9223372036854775807) : wrap64 n = n := by unfold wrap64; omega
/-- the quotient tells the factor: nothing was cut off -/
theorem mul_yes (a b : Int) (ha1 : -9223372036854775808 ≤ a) (ha2 : a ≤ 9223372036854775807) (hb1 : -9223372036854775808 ≤ b) (hb2 : b ≤ 9223372036854775807) (hb : ¬ b = 0)
    (h : wrap64 ((wrap64 (a * b)).tdiv b) = a) (hn : ¬ (a = -9223372036854775808 ∧ b = -1)) : wrap64 (a * b) = sat (a * b) := by
  obtain ⟨k, hk, hk1, hk2⟩ := w64 (a * b)
  have ht := tdiv_abs (wrap64 (a * b)) b hk1 hk2 hb
  obtain ⟨r, hr, hr1, hr2⟩ := tdiv_rest (wrap64 (a * b)) b hb
  generalize wrap64 (a * b) = p at *
  have e : p.tdiv b = a := by
    rcases ht with ht | ⟨h1, h2⟩
    · rw [w64_in ht.1 ht.2] at h; exact h
    · subst h1; subst h2
      have hd : (-9223372036854775808 : Int).tdiv (-1) = 9223372036854775808 := by decide
      rw [hd] at h
      have : wrap64 9223372036854775808 = -9223372036854775808 := by unfold wrap64; omega
      rw [this] at h
      exact absurd ⟨h.symm, rfl⟩ hn
  rw [e, Int.mul_comm] at hr
  generalize a * b = m at *
  have : p = m := by
    by_cases hs : b < 0
    · have := hr1 hs; omega
    · have := hr2 (by omega); omega
  rw [this, sat_in (by omega) (by omega)]
theorem mul_no (a b : Int) (ha1 : -9223372036854775808 ≤ a) (ha2 : a ≤ 9223372036854775807) (hb : ¬ b = 0)
    (h : ¬ wrap64 ((wrap64 (a * b)).tdiv b) = a) : 9223372036854775807 < a * b ∨ a * b < -9223372036854775808 := by
  by_cases hi : -9223372036854775808 ≤ a * b ∧ a * b ≤ 9223372036854775807
  · rw [w64_in hi.1 hi.2, Int.mul_tdiv_cancel _ hb, w64_in ha1 ha2] at h
    exact absurd rfl h
  · omega
theorem mul_pos_of (a b : Int) (h : (decide (a < 0) == decide (b < 0)) = true) : 0 ≤ a * b := by
  by_cases ha : a < 0 <;> by_cases hb : b < 0 <;> simp [ha, hb] at h
  · have := Int.mul_nonneg_of_nonpos_of_nonpos (a := a) (b := b) (by omega) (by omega); omega
  · exact Int.mul_nonneg (by omega) (by omega)
theorem mul_neg_of (a b : Int) (h : (decide (a < 0) == decide (b < 0)) = false) : a * b ≤ 0 := by
  by_cases ha : a < 0 <;> by_cases hb : b < 0 <;> simp [ha, hb] at h
  · exact Int.mul_nonpos_of_nonpos_of_nonneg (by omega) (by omega)
  · exact Int.mul_nonpos_of_nonneg_of_nonpos (by omega) (by omega)
theorem mul_no_hi (a b : Int) (ha1 : -9223372036854775808 ≤ a) (ha2 : a ≤ 9223372036854775807) (hb : ¬ b = 0)
    (h : ¬ wrap64 ((wrap64 (a * b)).tdiv b) = a) (hs : (decide (a < 0) == decide (b < 0)) = true) : 9223372036854775807 = sat (a * b) := by
  have h1 := mul_no a b ha1 ha2 hb h
  have h2 := mul_pos_of a b hs
  rw [sat_hi (by omega)]
theorem mul_no_lo (a b : Int) (ha1 : -9223372036854775808 ≤ a) (ha2 : a ≤ 9223372036854775807) (hb : ¬ b = 0)
    (h : ¬ wrap64 ((wrap64 (a * b)).tdiv b) = a) (hs : (decide (a < 0) == decide (b < 0)) = false) : -9223372036854775808 = sat (a * b) := by
  have h1 := mul_no a b ha1 ha2 hb h
  have h2 := mul_neg_of a b hs
  rw [sat_lo (by omega)]

/-- a quotient, rounded up; nought where there is none -/
def ceilI (a b : Int) : Int := if b < 1 ∨ a < 1 then 0 else (a - 1) / b + 1
theorem div_step (a b : Int) (hb : 1 ≤ b) (ha : 1 ≤ a) : (a - 1) / b = if a % b = 0 then a / b - 1 else a / b := by
  have h1 := Int.mul_ediv_add_emod a b
  have h2 := Int.emod_nonneg a (b := b) (by omega)
  have h3 := Int.emod_lt_of_pos a (b := b) (by omega)
  split
  · rename_i h0
    rw [h0] at h1
    have : a - 1 = (b - 1) + b * (a / b - 1) := by rw [Int.mul_sub]; omega
    rw [this, Int.add_mul_ediv_left _ _ (by omega), Int.ediv_eq_zero_of_lt (by omega) (by omega)]
    omega
  · rename_i h0
    have : a - 1 = (a % b - 1) + b * (a / b) := by omega
    rw [this, Int.add_mul_ediv_left _ _ (by omega), Int.ediv_eq_zero_of_lt (by omega) (by omega)]
    omega
theorem ceil_up (a b : Int) (ha2 : a ≤ 9223372036854775807) (hb : 1 ≤ b) (ha : 0 ≤ a) (h : ¬ a % b = 0) : wrap64 (a / b + 1) = ceilI a b := by
  have h1 : 1 ≤ a := by
    by_cases h0 : a = 0
    · subst h0; simp at h
    · omega
  have hb1 : 2 ≤ b := by
    by_cases h0 : b = 1
    · subst h0; exact absurd (Int.emod_one a) h
    · omega
  have hd := Int.ediv_le_self b ha
  have hd2 : 0 ≤ a / b := Int.ediv_nonneg ha (by omega)
  have hd3 : a / b < a := Int.ediv_lt_of_lt_mul (by omega) (by
    have := Int.mul_le_mul_of_nonneg_left (a := 2) (b := b) (c := a) hb1 ha; omega)
  unfold ceilI
  rw [if_neg (by omega), div_step a b hb h1, if_neg h, w64_in (by omega) (by omega)]
theorem ceil_ev (a b : Int) (hb : 1 ≤ b) (ha : 0 ≤ a) (h : a % b = 0) : a / b = ceilI a b := by
  unfold ceilI
  by_cases h0 : a = 0
  · subst h0; simp
  · rw [if_neg (by omega), div_step a b hb (by omega), if_pos h]; omega
theorem rceil_up (a b : Int) (ha2 : a ≤ 9223372036854775807) (hb : 1 ≤ b) (ha : 1 ≤ a) : wrap64 ((a - 1) / b + 1) = ceilI a b := by
  have hd := Int.ediv_le_self (a := a - 1) b (by omega)
  have hd2 : 0 ≤ (a - 1) / b := Int.ediv_nonneg (by omega) (by omega)
  unfold ceilI
  rw [if_neg (by omega), w64_in (by omega) (by omega)]
theorem ceil_no (a b : Int) (h : b < 1 ∨ a < 1) : 0 = ceilI a b := by unfold ceilI; rw [if_pos h]
/-- a number's place on a ring -/
def ringI (a b : Int) : Int := if b < 1 then 0 else a % b
theorem ringI_of (a b : Int) (h : 1 ≤ b) : ringI a b = a % b := by unfold ringI; rw [if_neg (by omega)]
theorem ringI_no (a b : Int) (h : b < 1) : ringI a b = 0 := by unfold ringI; rw [if_pos h]
theorem tmod_neg_of (a b : Int) (ha : a < 0) (hb : 1 ≤ b) : a.tmod b = -((-a) % b) := by
  have h := Int.neg_tmod (-a) b
  rw [Int.neg_neg] at h
  rw [h, Int.tmod_eq_emod_of_nonneg (by omega)]
theorem emod_of_neg (a b : Int) (hb : 1 ≤ b) : a % b = if (-a) % b = 0 then 0 else b - (-a) % b := by
  have h1 := Int.mul_ediv_add_emod (-a) b
  have h2 := Int.emod_nonneg (-a) (b := b) (by omega)
  have h3 := Int.emod_lt_of_pos (-a) (b := b) (by omega)
  split
  · rename_i h0
    rw [h0] at h1
    have : a = 0 + b * (-(-a / b)) := by rw [Int.mul_neg]; omega
    rw [this, Int.add_mul_emod_self_left]; simp
  · have : a = (b - (-a) % b) + b * (-(-a / b) - 1) := by rw [Int.mul_sub, Int.mul_neg]; omega
    rw [this, Int.add_mul_emod_self_left]
    rw [← this]
    exact Int.emod_eq_of_lt (by omega) (by omega)
theorem ring_neg (a b : Int) (hb2 : b ≤ 9223372036854775807) (hb : 1 ≤ b) (h : a.tmod b < 0) : wrap64 (a.tmod b + b) = ringI a b := by
  have ha : a < 0 := by
    by_cases h0 : a < 0
    · exact h0
    · rw [Int.tmod_eq_emod_of_nonneg (by omega)] at h
      have := Int.emod_nonneg a (b := b) (by omega); omega
  rw [tmod_neg_of a b ha hb] at h ⊢
  have h3 := Int.emod_lt_of_pos (-a) (b := b) (by omega)
  rw [ringI_of a b hb, emod_of_neg a b hb, if_neg (by omega), w64_in (by omega) (by omega)]; omega
theorem ring_pos (a b : Int) (hb : 1 ≤ b) (h : 0 ≤ a.tmod b) : a.tmod b = ringI a b := by
  rw [ringI_of a b hb]
  by_cases h0 : a < 0
  · rw [tmod_neg_of a b h0 hb] at h ⊢
    have h2 := Int.emod_nonneg (-a) (b := b) (by omega)
    rw [emod_of_neg a b hb, if_pos (by omega)]; omega
  · exact Int.tmod_eq_emod_of_nonneg (by omega)
theorem rring_neg (a b : Int) (hb2 : b ≤ 9223372036854775807) (hb : 1 ≤ b) (ha : a < 0) : wrap64 (b - 1 + (a + 1).tmod b) = ringI a b := by
  have e : (a + 1).tmod b = -((-a - 1) % b) := by
    have h := Int.neg_tmod (-a - 1) b
    rw [show -(-a - 1) = a + 1 from by omega] at h
    rw [h, Int.tmod_eq_emod_of_nonneg (by omega)]
  rw [e]
  have h2 := Int.emod_nonneg (-a - 1) (b := b) (by omega)
  have h3 := Int.emod_lt_of_pos (-a - 1) (b := b) (by omega)
  rw [ringI_of a b hb, w64_in (by omega) (by omega)]
  have h1 := Int.mul_ediv_add_emod (-a - 1) b
  have : a = (b - 1 - (-a - 1) % b) + b * (-((-a - 1) / b) - 1) := by rw [Int.mul_sub, Int.mul_neg]; omega
  rw [show a % b = (b - 1 - (-a - 1) % b) from by
    conv => lhs; rw [this]
    rw [Int.add_mul_emod_self_left]
    exact Int.emod_eq_of_lt (by omega) (by omega)]
  omega
end Go.Proofs.Ytplnkakblieijaa
