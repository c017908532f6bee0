/- NumsCeil answers true at every input, and its arguments read afterwards as they read before. No condition. -/
/-
  THE SHELL OF A PROOF OF 'Rows.NumsCeilSaid' ('fairway/fairwaylaw01.NumsCeil'), WRITTEN BY PROGRAM (proof-skeleton.mjs) off the guide's own print for that function. Not trusted: Lean checks it.
  YOURS ARE THE HOLES MARKED 'HOLE' (each bears 'sorry'). ALL ELSE IS THE GUIDE's TEMPLATE (howto/template/XProofs.lean) at this function's number and types: leave it.
-/
import Derived.Test.YtplnkakblieijaaCounted
import Derived.WalkKit
import Derived.ProofKit
import Derived.OpenShut
namespace Go.Proofs.Ytplnkakblieijaa.numsCeil
open Go.ChangeShapes Go.WideShapes Go.ChangeAt Go.RowKit
set_option linter.unusedVariables false      -- a walk need not use every 'w<i>' (that an integer argument fits its kind)

theorem own : ownKnob Try.prog.godebug = none := by kernel_rfl

theorem ceil_to (a b r : Int) (w : World) (h : -9223372036854775808 ≤ a ∧ a ≤ 9223372036854775807 ∧ -9223372036854775808 ≤ b ∧ b ≤ 9223372036854775807) (hr : ceilI a b = r) :
    Calls Try.prog 14 #[.int .i64 a, .int .i64 b] w fun e w' => e = .returned (.int .i64 r) ∧ w = w' := by
  have := ceil_any a b w h.1 h.2.1 h.2.2.1 h.2.2.2
  rw [hr] at this
  exact this
theorem ring_to (a b r : Int) (w : World) (h : -9223372036854775808 ≤ a ∧ a ≤ 9223372036854775807 ∧ -9223372036854775808 ≤ b ∧ b ≤ 9223372036854775807) (hr : ringI a b = r) :
    Calls Try.prog 16 #[.int .i64 a, .int .i64 b] w fun e w' => e = .returned (.int .i64 r) ∧ w = w' := by
  have := ring_any a b w h.1 h.2.1 h.2.2.1 h.2.2.2
  rw [hr] at this
  exact this
theorem ceil_facts (x y : Int) (hx : 0 ≤ x) (hy : 1 ≤ y) : ∃ q, ceilI x y = q ∧ 0 ≤ q ∧ q ≤ x ∧ x ≤ q * y ∧ q * y < x + y ∧ (0 < q → (q - 1) * y < x ∧ 0 ≤ (q - 1) * y) := by
  by_cases h : x < 1
  · obtain rfl : x = 0 := by omega
    refine ⟨0, by simp [ceilI], by omega, by omega, by omega, by omega, by omega⟩
  · have h1 := Int.mul_ediv_add_emod (x - 1) y
    have h2 := Int.emod_nonneg (x - 1) (b := y) (by omega)
    have h3 := Int.emod_lt_of_pos (x - 1) (b := y) (by omega)
    have h4 := Int.ediv_nonneg (a := x - 1) (b := y) (by omega) (by omega)
    have h5 := Int.ediv_le_self (a := x - 1) y (by omega)
    have h6 : 0 ≤ y * ((x - 1) / y) := Int.mul_nonneg (by omega) h4
    refine ⟨(x - 1) / y + 1, by unfold ceilI; rw [if_neg (by omega)], by omega, by omega, ?_, ?_, ?_⟩
    · rw [Int.add_mul, Int.mul_comm]; omega
    · rw [Int.add_mul, Int.mul_comm]; omega
    · intro _; rw [Int.add_sub_cancel, Int.mul_comm]; omega
theorem ring_facts (n y : Int) (hy : 1 ≤ y) : ∃ r, ringI n y = r ∧ 0 ≤ r ∧ r < y ∧ (n - r).tmod y = 0 ∧ ringI (n + y) y = r := by
  have h2 := Int.emod_nonneg n (b := y) (by omega)
  have h3 := Int.emod_lt_of_pos n (b := y) (by omega)
  refine ⟨n % y, ringI_of n y hy, h2, h3, ?_, ?_⟩
  · have h1 := Int.mul_ediv_add_emod n y
    rw [show n - n % y = y * (n / y) from by omega]
    exact Int.mul_tmod_right _ _
  · rw [ringI_of _ y hy, Int.add_emod_right]
/-! ### STEP 1: THE WALK: the Go text returns true. 'Grown w w'': the world has at most new blocks (Derived/RowKit3.lean). Part the cases AHEAD of 'go_enter' where a test parts the walk; take each callee by a contract of your own. -/
theorem walk (a0 : Int) (a1 : Int) (a2 : Int) (w0 : (Lit.int .u32 a0).wf = true) (w1 : (Lit.int .u32 a1).wf = true) (w2 : (Lit.int .i32 a2).wf = true) (w : World) :
    Calls Try.prog 5 #[.int .u32 a0, .int .u32 a1, .int .i32 a2] w fun e w' => e = .returned (.bool true) ∧ Grown w w' := by
  obtain ⟨ha1, ha2⟩ := bounds_u32 w0
  obtain ⟨hb1, hb2⟩ := bounds_u32 w1
  obtain ⟨hc1, hc2⟩ := bounds_i32 w2
  clear w0 w1 w2
  go_enter Try.func5, Try.ntmps5
  go_wp2_with fail
  have hy1 : 1 ≤ 1 + a1 / 2 := by omega
  have hy2 : 1 + a1 / 2 ≤ 2147483648 := by omega
  generalize 1 + a1 / 2 = y at *
  obtain ⟨q, hq0', hq1, hq2, hq3, hq4, hq5⟩ := ceil_facts a0 y ha1 hy1
  obtain ⟨r, hr0', hr1, hr2, hr3, hr4'⟩ := ring_facts a2 y hy1
  have hq0 := hide hq0'
  have hr0 := hide hr0'
  have hr4 := hide hr4'
  clear hq0' hr0' hr4'
  refine (ceil_to a0 y q _ (by omega) hq0.out).mono ?_
  rintro e w' ⟨rfl, rfl⟩
  by_cases hqp : 0 < q
  · obtain ⟨hq6, hq7⟩ := hq5 hqp
    clear hq5
    go_wp2_with fail
    refine (ring_to a2 y r _ (by omega) hr0.out).mono ?_
    rintro e w' ⟨rfl, rfl⟩
    go_wp2_with fail
    refine (ring_to (a2 + y) y r _ (by omega) hr4.out).mono ?_
    rintro e w' ⟨rfl, rfl⟩
    go_wp2_with fail
    refine (counted_any _).mono ?_
    rintro e w' ⟨rfl, rfl⟩
    go_wp2_with fail
    go_ret
    exact ⟨rfl, Grown.refl _⟩
  · clear hq5
    go_wp2_with fail
    refine (ring_to a2 y r _ (by omega) hr0.out).mono ?_
    rintro e w' ⟨rfl, rfl⟩
    go_wp2_with fail
    refine (ring_to (a2 + y) y r _ (by omega) hr4.out).mono ?_
    rintro e w' ⟨rfl, rfl⟩
    go_wp2_with fail
    refine (counted_any _).mono ?_
    rintro e w' ⟨rfl, rfl⟩
    go_wp2_with fail
    go_ret
    exact ⟨rfl, Grown.refl _⟩

/-! ### THE ROW's STEP: WRITTEN OUT: LEAVE IT -/
set_option maxRecDepth 100000 in
theorem lifted (os : Os) (started : os.Started) (H : Type) (enc : TypeId × Value → H) :
    ReturnsInHanded {} Try.checked os 5 .any (Rows.numsCeilSpec.pre6 enc Try.prog Try.f5 Rows.numsCeilRow.domain false) (Rows.numsCeilSpec.post enc Try.prog Try.f5 false true false false) := by
  refine returnsInHanded_of_change (C := Try.checked) own started (by kernel_rfl) Try.func5
    (ChangeSpec.witness6 (enc := enc) (C := Try.checked) false ⟨#[], #[.int .u32 0, .int .u32 0, .int .i32 0], []⟩ 8 (by kernel_rfl) (by kernel_rfl) (by kernel_rfl) (by kernel_rfl)) ?_
  intro W base args ds gs before hval0 hW hcnd _
  have hval : ∀ (j : Nat) t v, Try.f5.params[j]? = some t → args[j]? = some v → Value.okWide Try.prog W .any base t v := hval0
  have hW' := hW
  obtain ⟨p, q, hA0, hV, rfl, hfz, hnd⟩ := hW
  have hA : DataW.TrodAll enc Try.prog W 0 (fun _ => true) true Try.f5.params.toList args.toList ds p := hA0
  rw [Try.params5] at hA hval
  obtain ⟨v0, vs0, d0, ds0, p0, q0, hargs, rfl, rfl, h0, r0⟩ := trodAll_cons hA
  obtain ⟨v1, vs1, d1, ds1, p1, q1, rfl, rfl, rfl, h1, r1⟩ := trodAll_cons r0
  obtain ⟨v2, vs2, d2, ds2, p2, q2, rfl, rfl, rfl, h2, r2⟩ := trodAll_cons r1
  obtain ⟨rfl, rfl, rfl⟩ := trodAll_nil r2
  obtain rfl : args = #[v0, v1, v2] := by cases args; simp_all
  obtain ⟨rfl, rfl⟩ := trodVars_none hV
  obtain ⟨a0, rfl, rfl, rfl, w0⟩ := open_int Try.underlying27 (hval 0 27 v0 rfl rfl) h0
  obtain ⟨a1, rfl, rfl, rfl, w1⟩ := open_int Try.underlying27 (hval 1 27 v1 rfl rfl) h1
  obtain ⟨a2, rfl, rfl, rfl, w2⟩ := open_int Try.underlying21 (hval 2 21 v2 rfl rfl) h2
  clear hA0 hval0
  simp only [List.append_nil] at hW'
  refine (walk a0 a1 a2 w0 w1 w2 W).mono fun e W' ⟨he, hg⟩ => ?_
  subst he
  exact ⟨_, rfl, post_of_same (pa := []) (pv := []) hW' (fun _ _ _ => (trodAll_cons_mk (shut_bool Try.underlying4 _) trodAll_mk0)) (fun sp _ => (trodAll_cons_mk (shut_int Try.underlying27 w0) (trodAll_cons_mk (shut_int Try.underlying27 w1) (trodAll_cons_mk (shut_int Try.underlying21 w2) trodAll_mk0)))) (fun _ _ => rfl) rfl
    (hg.frame _) hg.2.1 (ok_one (by kernel_rfl) rfl (okWide_bool_mk Try.underlying4 _))⟩

theorem over : Rows.numsCeilRow.holds Try.pinned (OpenSpec.ofChange Rows.numsCeilSpec) :=
  OpenClaim.holds_of_wide 5 Try.f5 rfl rfl rfl rfl rfl rfl rfl ⟨rfl, rfl, rfl, rfl, rfl⟩ rfl rfl rfl rfl rfl (by kernel_rfl) Try.func5 (by kernel_rfl)
    (of_decide_eq_true (by kernel_rfl)) (by unfold Func.isWrapper; first | (rw [if_pos (by decide +kernel)]; kernel_rfl) | (rw [if_neg (by decide +kernel)]; exact ⟨rfl, rfl⟩))
    (fun os started H enc _ => lifted os started H enc)

/-- ████ THE STATEMENT ████ -/
theorem proved : Rows.NumsCeilSaid :=
  over
#print axioms proved
end Go.Proofs.Ytplnkakblieijaa.numsCeil
