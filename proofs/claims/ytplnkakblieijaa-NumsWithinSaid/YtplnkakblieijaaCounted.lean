/- The chapter's examples. -/
import Derived.Test.YtplnkakblieijaaWalkC
namespace Go.Proofs.Ytplnkakblieijaa
open Go.RowKit
set_option linter.unusedVariables false

theorem ex0 (w : World) : Calls Try.prog 6 #[.int .i64 9223372036854775807, .int .i64 1] w fun e w' => e = .returned (.int .i64 (9223372036854775807)) ∧ w = w' := by
  have h := add_any 9223372036854775807 1 w (by omega) (by omega) (by omega) (by omega)
  have e : sat (9223372036854775807 + 1) = 9223372036854775807 := by unfold sat; decide
  rw [e] at h
  exact h
theorem ex1 (w : World) : Calls Try.prog 8 #[.int .i64 (-9223372036854775808), .int .i64 1] w fun e w' => e = .returned (.int .i64 (-9223372036854775808)) ∧ w = w' := by
  have h := sub_any (-9223372036854775808) 1 w (by omega) (by omega) (by omega) (by omega)
  have e : sat (-9223372036854775808 - 1) = -9223372036854775808 := by unfold sat; decide
  rw [e] at h
  exact h
theorem ex2 (w : World) : Calls Try.prog 10 #[.int .i64 (-9223372036854775808), .int .i64 (-1)] w fun e w' => e = .returned (.int .i64 (9223372036854775807)) ∧ w = w' := by
  have h := mul_any (-9223372036854775808) (-1) w (by omega) (by omega) (by omega) (by omega)
  have e : sat (-9223372036854775808 * -1) = 9223372036854775807 := by unfold sat; decide
  rw [e] at h
  exact h
theorem ex3 (w : World) : Calls Try.prog 12 #[.int .i64 5, .int .i64 1, .int .i64 3] w fun e w' => e = .returned (.int .i64 (3)) ∧ w = w' := by
  have h := clamp_any 5 1 3 w
  have e : clampI 5 1 3 = 3 := by unfold clampI; decide
  rw [e] at h
  exact h
theorem ex4 (w : World) : Calls Try.prog 12 #[.int .i64 5, .int .i64 7, .int .i64 3] w fun e w' => e = .returned (.int .i64 (7)) ∧ w = w' := by
  have h := clamp_any 5 7 3 w
  have e : clampI 5 7 3 = 7 := by unfold clampI; decide
  rw [e] at h
  exact h
theorem ex5 (w : World) : Calls Try.prog 14 #[.int .i64 7, .int .i64 2] w fun e w' => e = .returned (.int .i64 (4)) ∧ w = w' := by
  have h := ceil_any 7 2 w (by omega) (by omega) (by omega) (by omega)
  have e : ceilI 7 2 = 4 := by unfold ceilI; decide
  rw [e] at h
  exact h
theorem ex6 (w : World) : Calls Try.prog 14 #[.int .i64 8, .int .i64 2] w fun e w' => e = .returned (.int .i64 (4)) ∧ w = w' := by
  have h := ceil_any 8 2 w (by omega) (by omega) (by omega) (by omega)
  have e : ceilI 8 2 = 4 := by unfold ceilI; decide
  rw [e] at h
  exact h
theorem ex7 (w : World) : Calls Try.prog 14 #[.int .i64 7, .int .i64 0] w fun e w' => e = .returned (.int .i64 (0)) ∧ w = w' := by
  have h := ceil_any 7 0 w (by omega) (by omega) (by omega) (by omega)
  have e : ceilI 7 0 = 0 := by unfold ceilI; decide
  rw [e] at h
  exact h
theorem ex8 (w : World) : Calls Try.prog 16 #[.int .i64 (-1), .int .i64 5] w fun e w' => e = .returned (.int .i64 (4)) ∧ w = w' := by
  have h := ring_any (-1) 5 w (by omega) (by omega) (by omega) (by omega)
  have e : ringI (-1) 5 = 4 := by unfold ringI; decide
  rw [e] at h
  exact h
theorem ex9 (w : World) : Calls Try.prog 16 #[.int .i64 12, .int .i64 5] w fun e w' => e = .returned (.int .i64 (2)) ∧ w = w' := by
  have h := ring_any 12 5 w (by omega) (by omega) (by omega) (by omega)
  have e : ringI 12 5 = 2 := by unfold ringI; decide
  rw [e] at h
  exact h
theorem ex10 (w : World) : Calls Try.prog 16 #[.int .i64 3, .int .i64 0] w fun e w' => e = .returned (.int .i64 (0)) ∧ w = w' := by
  have h := ring_any 3 0 w (by omega) (by omega) (by omega) (by omega)
  have e : ringI 3 0 = 0 := by unfold ringI; decide
  rw [e] at h
  exact h

set_option maxHeartbeats 1000000 in
theorem counted_any (w : World) : Calls Try.prog 18 #[] w fun e w' => e = .returned (.bool true) ∧ w = w' := by
  go_enter Try.func18, Try.ntmps18
  go_wp2_with fail
  refine (ex0 _).mono ?_
  rintro e w' ⟨rfl, rfl⟩
  go_wp2_with fail
  refine (ex1 _).mono ?_
  rintro e w' ⟨rfl, rfl⟩
  go_wp2_with fail
  refine (ex2 _).mono ?_
  rintro e w' ⟨rfl, rfl⟩
  go_wp2_with fail
  refine (ex3 _).mono ?_
  rintro e w' ⟨rfl, rfl⟩
  go_wp2_with fail
  refine (ex4 _).mono ?_
  rintro e w' ⟨rfl, rfl⟩
  go_wp2_with fail
  refine (ex5 _).mono ?_
  rintro e w' ⟨rfl, rfl⟩
  go_wp2_with fail
  refine (ex6 _).mono ?_
  rintro e w' ⟨rfl, rfl⟩
  go_wp2_with fail
  refine (ex7 _).mono ?_
  rintro e w' ⟨rfl, rfl⟩
  go_wp2_with fail
  refine (ex8 _).mono ?_
  rintro e w' ⟨rfl, rfl⟩
  go_wp2_with fail
  refine (ex9 _).mono ?_
  rintro e w' ⟨rfl, rfl⟩
  go_wp2_with fail
  refine (ex10 _).mono ?_
  rintro e w' ⟨rfl, rfl⟩
  go_wp2_with fail
  go_ret
  exact ⟨rfl, rfl⟩
end Go.Proofs.Ytplnkakblieijaa
