/- The walks of the layer nums, 2. -/
import Derived.Test.YtplnkakblieijaaWalks
namespace Go.Proofs.Ytplnkakblieijaa
open Go.RowKit
set_option linter.unusedVariables false

set_option maxHeartbeats 400000 in
theorem mul_go (a b : Int) (w : World) (ha1 : -9223372036854775808 ≤ a) (ha2 : a ≤ 9223372036854775807) (hb1 : -9223372036854775808 ≤ b) (hb2 : b ≤ 9223372036854775807) (ha : (a == 0) = false) (hb : (b == 0) = false) :
    Calls Try.prog 10 #[.int .i64 a, .int .i64 b] w fun e w' => e = .returned (.int .i64 (sat (a * b))) ∧ w = w' := by
  have hb0 : ¬ b = 0 := by simpa using hb
  go_enter Try.func10, Try.ntmps10
  go_wp2
  · have h : wrap64 ((wrap64 (a * b)).tdiv b) = a := by assumption
    have h1 : a = -9223372036854775808 := by assumption
    have h2 : b = -1 := by assumption
    subst h1; subst h2
    go_ret
    exact ⟨ret_int (by rw [sat_hi (by decide)]), rfl⟩
  · have h : wrap64 ((wrap64 (a * b)).tdiv b) = a := by assumption
    have h1 : a = -9223372036854775808 := by assumption
    have h2 : ¬ b = -1 := by assumption
    subst h1
    go_ret
    exact ⟨ret_int (mul_yes _ b ha1 ha2 hb1 hb2 hb0 h (fun hh => h2 hh.2)), rfl⟩
  · have h : wrap64 ((wrap64 (a * b)).tdiv b) = a := by assumption
    have h1 : ¬ a = -9223372036854775808 := by assumption
    go_ret
    exact ⟨ret_int (mul_yes a b ha1 ha2 hb1 hb2 hb0 h (fun hh => h1 hh.1)), rfl⟩
  · have h : ¬ wrap64 ((wrap64 (a * b)).tdiv b) = a := by assumption
    have hs : (decide (a < 0) == decide (b < 0)) = true := by assumption
    go_ret
    exact ⟨ret_int (mul_no_hi a b ha1 ha2 hb0 h hs), rfl⟩
  · have h : ¬ wrap64 ((wrap64 (a * b)).tdiv b) = a := by assumption
    have hs : (decide (a < 0) == decide (b < 0)) = false := by assumption
    go_ret
    exact ⟨ret_int (mul_no_lo a b ha1 ha2 hb0 h hs), rfl⟩
set_option maxHeartbeats 400000 in
theorem mul_zero (a b : Int) (w : World) (h : a = 0 ∨ b = 0) :
    Calls Try.prog 10 #[.int .i64 a, .int .i64 b] w fun e w' => e = .returned (.int .i64 (sat (a * b))) ∧ w = w' := by
  have hs : sat (a * b) = 0 := by rcases h with h | h <;> simp [h, sat]
  rw [hs]
  clear hs
  by_cases ha : a = 0
  · subst ha
    clear h
    go_enter Try.func10, Try.ntmps10
    go_wp2
    go_ret
    exact ⟨rfl, rfl⟩
  · have hb : b = 0 := by omega
    subst hb
    clear h
    go_enter Try.func10, Try.ntmps10
    go_wp2
    go_ret
    exact ⟨rfl, rfl⟩
theorem mul_any (a b : Int) (w : World) (ha1 : -9223372036854775808 ≤ a) (ha2 : a ≤ 9223372036854775807) (hb1 : -9223372036854775808 ≤ b) (hb2 : b ≤ 9223372036854775807) :
    Calls Try.prog 10 #[.int .i64 a, .int .i64 b] w fun e w' => e = .returned (.int .i64 (sat (a * b))) ∧ w = w' := by
  by_cases h : a = 0 ∨ b = 0
  · exact mul_zero a b w h
  · exact mul_go a b w ha1 ha2 hb1 hb2 (by simp; omega) (by simp; omega)
set_option maxHeartbeats 400000 in
theorem size_any (a : Int) (w : World) (ha1 : -9223372036854775808 ≤ a) (ha2 : a ≤ 9223372036854775807) :
    Calls Try.prog 21 #[.int .i64 a] w fun e w' => e = .returned (.int .u64 (a.natAbs : Int)) ∧ w = w' := by
  go_enter Try.func21, Try.ntmps21
  go_wp2
  all_goals (go_ret; exact ⟨ret_int (by omega), rfl⟩)
set_option maxHeartbeats 400000 in
theorem ceil_any (a b : Int) (w : World) (ha1 : -9223372036854775808 ≤ a) (ha2 : a ≤ 9223372036854775807) (hb1 : -9223372036854775808 ≤ b) (hb2 : b ≤ 9223372036854775807) :
    Calls Try.prog 14 #[.int .i64 a, .int .i64 b] w fun e w' => e = .returned (.int .i64 (ceilI a b)) ∧ w = w' := by
  go_enter Try.func14, Try.ntmps14
  go_wp2
  all_goals (go_ret; refine ⟨ret_int ?_, rfl⟩)
  all_goals first
    | exact ceil_no a b (by omega)
    | (have h : (a % b != 0) = true := by assumption
       exact ceil_up a b ha2 (by omega) (by omega) (by simpa using h))
    | (have h : (a % b != 0) = false := by assumption
       exact ceil_ev a b (by omega) (by omega) (by simpa using h))
set_option maxHeartbeats 400000 in
theorem rceil_any (a b : Int) (w : World) (ha1 : -9223372036854775808 ≤ a) (ha2 : a ≤ 9223372036854775807) (hb1 : -9223372036854775808 ≤ b) (hb2 : b ≤ 9223372036854775807) :
    Calls Try.prog 15 #[.int .i64 a, .int .i64 b] w fun e w' => e = .returned (.int .i64 (ceilI a b)) ∧ w = w' := by
  go_enter Try.func15, Try.ntmps15
  go_wp2
  all_goals (go_ret; refine ⟨ret_int ?_, rfl⟩)
  all_goals first
    | exact ceil_no a b (by omega)
    | exact rceil_up a b ha2 (by omega) (by omega)
set_option maxHeartbeats 400000 in
theorem ring_any (a b : Int) (w : World) (ha1 : -9223372036854775808 ≤ a) (ha2 : a ≤ 9223372036854775807) (hb1 : -9223372036854775808 ≤ b) (hb2 : b ≤ 9223372036854775807) :
    Calls Try.prog 16 #[.int .i64 a, .int .i64 b] w fun e w' => e = .returned (.int .i64 (ringI a b)) ∧ w = w' := by
  go_enter Try.func16, Try.ntmps16
  go_wp2
  all_goals (go_ret; refine ⟨ret_int ?_, rfl⟩)
  all_goals first
    | exact (ringI_no a b (by omega)).symm
    | exact ring_neg a b hb2 (by omega) (by assumption)
    | exact ring_pos a b (by omega) (by assumption)
set_option maxHeartbeats 400000 in
theorem rring_any (a b : Int) (w : World) (ha1 : -9223372036854775808 ≤ a) (ha2 : a ≤ 9223372036854775807) (hb1 : -9223372036854775808 ≤ b) (hb2 : b ≤ 9223372036854775807) :
    Calls Try.prog 17 #[.int .i64 a, .int .i64 b] w fun e w' => e = .returned (.int .i64 (ringI a b)) ∧ w = w' := by
  go_enter Try.func17, Try.ntmps17
  go_wp2
  all_goals (go_ret; refine ⟨ret_int ?_, rfl⟩)
  all_goals first
    | exact (ringI_no a b (by omega)).symm
    | exact rring_neg a b hb2 (by omega) (by omega)
    | exact (ringI_of a b (by omega)).symm
end Go.Proofs.Ytplnkakblieijaa
