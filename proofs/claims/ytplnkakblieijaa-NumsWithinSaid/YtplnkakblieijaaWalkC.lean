/- The walk of the document's product. -/
import Derived.Test.YtplnkakblieijaaWalkB
namespace Go.Proofs.Ytplnkakblieijaa
open Go.RowKit
set_option linter.unusedVariables false

theorem size_of (a : Int) (x : Int) (w : World) (ha1 : -9223372036854775808 ≤ a) (ha2 : a ≤ 9223372036854775807) (hx : (a.natAbs : Int) = x) :
    Calls Try.prog 21 #[.int .i64 a] w fun e w' => e = .returned (.int .u64 x) ∧ w = w' := by
  have := size_any a w ha1 ha2
  rw [hx] at this
  exact this
/-- what the document's product gives, of sizes -/
theorem over_most (x y m : Int) (hx : 1 ≤ x) (h : m / x < y) : m < x * y := by
  have := (Int.ediv_lt_iff_lt_mul (a := m) (b := y) (c := x) (by omega)).1 h
  rw [Int.mul_comm]; exact this
theorem under_most (x y m : Int) (hx : 1 ≤ x) (h : ¬ m / x < y) : x * y ≤ m := by
  have := mt (Int.ediv_lt_iff_lt_mul (a := m) (b := y) (c := x) (by omega)).2 h
  rw [Int.mul_comm]; omega
theorem prod_minus (a b x y : Int) (hx : (a.natAbs : Int) = x) (hy : (b.natAbs : Int) = y) (hs : (!decide (a < 0) == decide (b < 0)) = true) : a * b = -(x * y) := by
  by_cases ha : a < 0 <;> by_cases hb : b < 0 <;> simp [ha, hb] at hs
  · rw [show a = -x from by omega, show b = y from by omega, Int.neg_mul]
  · rw [show a = x from by omega, show b = -y from by omega, Int.mul_neg]
theorem prod_plus (a b x y : Int) (hx : (a.natAbs : Int) = x) (hy : (b.natAbs : Int) = y) (hs : (!decide (a < 0) == decide (b < 0)) = false) : a * b = x * y := by
  by_cases ha : a < 0 <;> by_cases hb : b < 0 <;> simp [ha, hb] at hs
  · rw [show a = -x from by omega, show b = -y from by omega, Int.neg_mul_neg]
  · rw [show a = x from by omega, show b = y from by omega]
section
variable (a b x y : Int) (w : World) (ha1 : -9223372036854775808 ≤ a) (ha2 : a ≤ 9223372036854775807) (hb1 : -9223372036854775808 ≤ b) (hb2 : b ≤ 9223372036854775807)
  (hx : (a.natAbs : Int) = x) (hy : (b.natAbs : Int) = y)
include ha1 ha2 hb1 hb2 hx hy

set_option maxHeartbeats 400000 in
theorem rmul_minus_zero (hs : (!decide (a < 0) == decide (b < 0)) = true) (h0 : x = 0) :
    Calls Try.prog 11 #[.int .i64 a, .int .i64 b] w fun e w' => e = .returned (.int .i64 (sat (a * b))) ∧ w = w' := by
  have S := hide fun W => size_of a x W ha1 ha2 hx
  have T := hide fun W => size_of b y W hb1 hb2 hy
  have hx0 : 0 ≤ x := by omega
  have hy0 : 0 ≤ y := by omega
  have hxy : 0 ≤ x * y := Int.mul_nonneg hx0 hy0
  have E := prod_minus a b x y hx hy hs
  have F := hide (show sat (a * b) = 0 from by rw [E, h0]; simp [sat])
  clear E hxy
  subst h0
  clear hx hy
  go_enter Try.func11, Try.ntmps11
  go_wp2_with fail
  refine (S.out _).mono ?_
  rintro e w' ⟨rfl, rfl⟩
  go_wp2_with fail
  refine (T.out _).mono ?_
  rintro e w' ⟨rfl, rfl⟩
  go_wp2_with (first | (go_at_call 19; refine (greatest_any _).mono ?_; rintro e w' ⟨rfl, rfl⟩) | (go_at_call 20; refine (least_any _).mono ?_; rintro e w' ⟨rfl, rfl⟩))
  all_goals (go_ret; exact ⟨ret_int F.out.symm, rfl⟩)

set_option maxHeartbeats 400000 in
theorem rmul_minus_over (hs : (!decide (a < 0) == decide (b < 0)) = true) (h0 : 1 ≤ x) (hd : (x != 0) = true) (hq : 9223372036854775808 / x < y) :
    Calls Try.prog 11 #[.int .i64 a, .int .i64 b] w fun e w' => e = .returned (.int .i64 (sat (a * b))) ∧ w = w' := by
  have S := hide fun W => size_of a x W ha1 ha2 hx
  have T := hide fun W => size_of b y W hb1 hb2 hy
  have hx0 : 0 ≤ x := by omega
  have hy0 : 0 ≤ y := by omega
  have hxy : 0 ≤ x * y := Int.mul_nonneg hx0 hy0
  have E := prod_minus a b x y hx hy hs
  have F := hide (show sat (a * b) = -9223372036854775808 from by have := over_most x y _ h0 hq; rw [E, sat_lo (by omega)])
  clear E
  clear hx hy
  go_enter Try.func11, Try.ntmps11
  go_wp2_with fail
  refine (S.out _).mono ?_
  rintro e w' ⟨rfl, rfl⟩
  go_wp2_with fail
  refine (T.out _).mono ?_
  rintro e w' ⟨rfl, rfl⟩
  go_wp2_with (first | (go_at_call 19; refine (greatest_any _).mono ?_; rintro e w' ⟨rfl, rfl⟩) | (go_at_call 20; refine (least_any _).mono ?_; rintro e w' ⟨rfl, rfl⟩))
  all_goals (go_ret; exact ⟨ret_int F.out.symm, rfl⟩)

set_option maxHeartbeats 400000 in
theorem rmul_minus_under (hs : (!decide (a < 0) == decide (b < 0)) = true) (h0 : 1 ≤ x) (hd : (x != 0) = true) (hq : ¬ 9223372036854775808 / x < y) :
    Calls Try.prog 11 #[.int .i64 a, .int .i64 b] w fun e w' => e = .returned (.int .i64 (sat (a * b))) ∧ w = w' := by
  have S := hide fun W => size_of a x W ha1 ha2 hx
  have T := hide fun W => size_of b y W hb1 hb2 hy
  have hx0 : 0 ≤ x := by omega
  have hy0 : 0 ≤ y := by omega
  have hxy : 0 ≤ x * y := Int.mul_nonneg hx0 hy0
  have E := prod_minus a b x y hx hy hs
  have hm : x * y ≤ 9223372036854775808 := under_most x y _ h0 hq
  have F := hide (show sat (a * b) = -(x * y) from by rw [E, sat_in (by omega) (by omega)])
  clear E
  clear hx hy
  go_enter Try.func11, Try.ntmps11
  go_wp2_with fail
  refine (S.out _).mono ?_
  rintro e w' ⟨rfl, rfl⟩
  go_wp2_with fail
  refine (T.out _).mono ?_
  rintro e w' ⟨rfl, rfl⟩
  go_wp2_with (first | (go_at_call 19; refine (greatest_any _).mono ?_; rintro e w' ⟨rfl, rfl⟩) | (go_at_call 20; refine (least_any _).mono ?_; rintro e w' ⟨rfl, rfl⟩))
  all_goals (go_ret; exact ⟨ret_int (by rw [F.out]; try omega), rfl⟩)

set_option maxHeartbeats 400000 in
theorem rmul_plus_zero (hs : (!decide (a < 0) == decide (b < 0)) = false) (h0 : x = 0) :
    Calls Try.prog 11 #[.int .i64 a, .int .i64 b] w fun e w' => e = .returned (.int .i64 (sat (a * b))) ∧ w = w' := by
  have S := hide fun W => size_of a x W ha1 ha2 hx
  have T := hide fun W => size_of b y W hb1 hb2 hy
  have hx0 : 0 ≤ x := by omega
  have hy0 : 0 ≤ y := by omega
  have hxy : 0 ≤ x * y := Int.mul_nonneg hx0 hy0
  have E := prod_plus a b x y hx hy hs
  have F := hide (show sat (a * b) = 0 from by rw [E, h0]; simp [sat])
  clear E hxy
  subst h0
  clear hx hy
  go_enter Try.func11, Try.ntmps11
  go_wp2_with fail
  refine (S.out _).mono ?_
  rintro e w' ⟨rfl, rfl⟩
  go_wp2_with fail
  refine (T.out _).mono ?_
  rintro e w' ⟨rfl, rfl⟩
  go_wp2_with (first | (go_at_call 19; refine (greatest_any _).mono ?_; rintro e w' ⟨rfl, rfl⟩) | (go_at_call 20; refine (least_any _).mono ?_; rintro e w' ⟨rfl, rfl⟩))
  all_goals (go_ret; exact ⟨ret_int F.out.symm, rfl⟩)

set_option maxHeartbeats 400000 in
theorem rmul_plus_over (hs : (!decide (a < 0) == decide (b < 0)) = false) (h0 : 1 ≤ x) (hd : (x != 0) = true) (hq : 9223372036854775807 / x < y) :
    Calls Try.prog 11 #[.int .i64 a, .int .i64 b] w fun e w' => e = .returned (.int .i64 (sat (a * b))) ∧ w = w' := by
  have S := hide fun W => size_of a x W ha1 ha2 hx
  have T := hide fun W => size_of b y W hb1 hb2 hy
  have hx0 : 0 ≤ x := by omega
  have hy0 : 0 ≤ y := by omega
  have hxy : 0 ≤ x * y := Int.mul_nonneg hx0 hy0
  have E := prod_plus a b x y hx hy hs
  have F := hide (show sat (a * b) = 9223372036854775807 from by have := over_most x y _ h0 hq; rw [E, sat_hi (by omega)])
  clear E
  clear hx hy
  go_enter Try.func11, Try.ntmps11
  go_wp2_with fail
  refine (S.out _).mono ?_
  rintro e w' ⟨rfl, rfl⟩
  go_wp2_with fail
  refine (T.out _).mono ?_
  rintro e w' ⟨rfl, rfl⟩
  go_wp2_with (first | (go_at_call 19; refine (greatest_any _).mono ?_; rintro e w' ⟨rfl, rfl⟩) | (go_at_call 20; refine (least_any _).mono ?_; rintro e w' ⟨rfl, rfl⟩))
  all_goals (go_ret; exact ⟨ret_int F.out.symm, rfl⟩)

set_option maxHeartbeats 400000 in
theorem rmul_plus_under (hs : (!decide (a < 0) == decide (b < 0)) = false) (h0 : 1 ≤ x) (hd : (x != 0) = true) (hq : ¬ 9223372036854775807 / x < y) :
    Calls Try.prog 11 #[.int .i64 a, .int .i64 b] w fun e w' => e = .returned (.int .i64 (sat (a * b))) ∧ w = w' := by
  have S := hide fun W => size_of a x W ha1 ha2 hx
  have T := hide fun W => size_of b y W hb1 hb2 hy
  have hx0 : 0 ≤ x := by omega
  have hy0 : 0 ≤ y := by omega
  have hxy : 0 ≤ x * y := Int.mul_nonneg hx0 hy0
  have E := prod_plus a b x y hx hy hs
  have hm : x * y ≤ 9223372036854775807 := under_most x y _ h0 hq
  have F := hide (show sat (a * b) = x * y from by rw [E, sat_in (by omega) (by omega)])
  clear E
  clear hx hy
  go_enter Try.func11, Try.ntmps11
  go_wp2_with fail
  refine (S.out _).mono ?_
  rintro e w' ⟨rfl, rfl⟩
  go_wp2_with fail
  refine (T.out _).mono ?_
  rintro e w' ⟨rfl, rfl⟩
  go_wp2_with (first | (go_at_call 19; refine (greatest_any _).mono ?_; rintro e w' ⟨rfl, rfl⟩) | (go_at_call 20; refine (least_any _).mono ?_; rintro e w' ⟨rfl, rfl⟩))
  all_goals (go_ret; exact ⟨ret_int (by rw [F.out]; try omega), rfl⟩)

end
theorem rmul_any (a b : Int) (w : World) (ha1 : -9223372036854775808 ≤ a) (ha2 : a ≤ 9223372036854775807) (hb1 : -9223372036854775808 ≤ b) (hb2 : b ≤ 9223372036854775807) :
    Calls Try.prog 11 #[.int .i64 a, .int .i64 b] w fun e w' => e = .returned (.int .i64 (sat (a * b))) ∧ w = w' := by
  by_cases h0 : (a.natAbs : Int) = 0
  · cases hs : (!decide (a < 0) == decide (b < 0))
    · exact rmul_plus_zero a b _ _ w ha1 ha2 hb1 hb2 rfl rfl hs h0
    · exact rmul_minus_zero a b _ _ w ha1 ha2 hb1 hb2 rfl rfl hs h0
  · have hd : ((a.natAbs : Int) != 0) = true := by simpa using h0
    cases hs : (!decide (a < 0) == decide (b < 0))
    · by_cases hq : 9223372036854775807 / (a.natAbs : Int) < (b.natAbs : Int)
      · exact rmul_plus_over a b _ _ w ha1 ha2 hb1 hb2 rfl rfl hs (by omega) hd hq
      · exact rmul_plus_under a b _ _ w ha1 ha2 hb1 hb2 rfl rfl hs (by omega) hd hq
    · by_cases hq : 9223372036854775808 / (a.natAbs : Int) < (b.natAbs : Int)
      · exact rmul_minus_over a b _ _ w ha1 ha2 hb1 hb2 rfl rfl hs (by omega) hd hq
      · exact rmul_minus_under a b _ _ w ha1 ha2 hb1 hb2 rfl rfl hs (by omega) hd hq
end Go.Proofs.Ytplnkakblieijaa
