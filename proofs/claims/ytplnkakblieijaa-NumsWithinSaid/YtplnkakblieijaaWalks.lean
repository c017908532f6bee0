/- The walks of the layer nums. -/
import Derived.Test.YtplnkakblieijaaRows
import Derived.Test.YtplnkakblieijaaPlain
import Derived.WalkKit
namespace Go.Proofs.Ytplnkakblieijaa
open Go.RowKit

set_option maxHeartbeats 400000 in
theorem add_any (a b : Int) (w : World) (ha1 : -9223372036854775808 ≤ a) (ha2 : a ≤ 9223372036854775807) (hb1 : -9223372036854775808 ≤ b) (hb2 : b ≤ 9223372036854775807) :
    Calls Try.prog 6 #[.int .i64 a, .int .i64 b] w fun e w' => e = .returned (.int .i64 (sat (a + b))) ∧ w = w' := by
  go_enter Try.func6, Try.ntmps6
  go_wp2
  all_goals (go_ret; exact ⟨ret_int (by first | (rw [sat_hi (by omega)]) | (rw [sat_lo (by omega)]) | (rw [sat_in (by omega) (by omega)])), rfl⟩)
set_option maxHeartbeats 400000 in
theorem sub_any (a b : Int) (w : World) (ha1 : -9223372036854775808 ≤ a) (ha2 : a ≤ 9223372036854775807) (hb1 : -9223372036854775808 ≤ b) (hb2 : b ≤ 9223372036854775807) :
    Calls Try.prog 8 #[.int .i64 a, .int .i64 b] w fun e w' => e = .returned (.int .i64 (sat (a - b))) ∧ w = w' := by
  go_enter Try.func8, Try.ntmps8
  go_wp2
  all_goals (go_ret; exact ⟨ret_int (by first | (rw [sat_hi (by omega)]) | (rw [sat_lo (by omega)]) | (rw [sat_in (by omega) (by omega)])), rfl⟩)
set_option maxHeartbeats 400000 in
theorem greatest_any (w : World) : Calls Try.prog 19 #[] w fun e w' => e = .returned (.int .i64 9223372036854775807) ∧ w = w' := by
  go_enter Try.func19, Try.ntmps19
  go_wp2
  go_ret
  exact ⟨rfl, rfl⟩
set_option maxHeartbeats 400000 in
theorem least_any (w : World) : Calls Try.prog 20 #[] w fun e w' => e = .returned (.int .i64 (-9223372036854775808)) ∧ w = w' := by
  go_enter Try.func20, Try.ntmps20
  go_wp2
  go_ret
  exact ⟨rfl, rfl⟩
set_option maxHeartbeats 400000 in
theorem radd_any (a b : Int) (w : World) (ha1 : -9223372036854775808 ≤ a) (ha2 : a ≤ 9223372036854775807) (hb1 : -9223372036854775808 ≤ b) (hb2 : b ≤ 9223372036854775807) :
    Calls Try.prog 7 #[.int .i64 a, .int .i64 b] w fun e w' => e = .returned (.int .i64 (sat (a + b))) ∧ w = w' := by
  go_enter Try.func7, Try.ntmps7
  go_wp2
  all_goals (go_ret; exact ⟨ret_int (by first | (rw [sat_hi (by omega)]) | (rw [sat_lo (by omega)]) | (rw [sat_in (by omega) (by omega)])), rfl⟩)
set_option maxHeartbeats 400000 in
theorem rsub_any (a b : Int) (w : World) (ha1 : -9223372036854775808 ≤ a) (ha2 : a ≤ 9223372036854775807) (hb1 : -9223372036854775808 ≤ b) (hb2 : b ≤ 9223372036854775807) :
    Calls Try.prog 9 #[.int .i64 a, .int .i64 b] w fun e w' => e = .returned (.int .i64 (sat (a - b))) ∧ w = w' := by
  go_enter Try.func9, Try.ntmps9
  go_wp2
  all_goals (go_ret; exact ⟨ret_int (by first | (rw [sat_hi (by omega)]) | (rw [sat_lo (by omega)]) | (rw [sat_in (by omega) (by omega)])), rfl⟩)
/-- a number, brought between lo and hi: hi first -/
def clampI (n lo hi : Int) : Int := if (if hi < n then hi else n) < lo then lo else if hi < n then hi else n
set_option maxHeartbeats 400000 in
theorem clamp_any (n lo hi : Int) (w : World) :
    Calls Try.prog 12 #[.int .i64 n, .int .i64 lo, .int .i64 hi] w fun e w' => e = .returned (.int .i64 (clampI n lo hi)) ∧ w = w' := by
  go_enter Try.func12, Try.ntmps12
  go_wp2
  all_goals (go_ret; exact ⟨ret_int (by unfold clampI; (repeat' split) <;> omega), rfl⟩)
set_option maxHeartbeats 400000 in
theorem rclamp_any (n lo hi : Int) (w : World) :
    Calls Try.prog 13 #[.int .i64 n, .int .i64 lo, .int .i64 hi] w fun e w' => e = .returned (.int .i64 (clampI n lo hi)) ∧ w = w' := by
  go_enter Try.func13, Try.ntmps13
  go_wp2
  all_goals (go_ret; exact ⟨ret_int (by unfold clampI; (repeat' split) <;> omega), rfl⟩)
end Go.Proofs.Ytplnkakblieijaa
