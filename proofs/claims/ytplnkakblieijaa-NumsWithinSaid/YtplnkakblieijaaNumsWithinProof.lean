/- NumsWithin answers true at every input, and its arguments read afterwards as they read before. No condition. -/
/-
  THE SHELL OF A PROOF OF 'Rows.NumsWithinSaid' ('fairway/fairwaylaw01.NumsWithin'), WRITTEN BY PROGRAM (proof-skeleton.mjs) off the guide's own print for that function. Not trusted: Lean checks it.
  YOURS ARE THE HOLES MARKED 'HOLE' (each bears 'sorry'). ALL ELSE IS THE GUIDE's TEMPLATE (howto/template/XProofs.lean) at this function's number and types: leave it.
-/
import Derived.Test.YtplnkakblieijaaCounted
import Derived.WalkKit
import Derived.ProofKit
import Derived.OpenShut
namespace Go.Proofs.Ytplnkakblieijaa.numsWithin
open Go.ChangeShapes Go.WideShapes Go.ChangeAt Go.RowKit
set_option linter.unusedVariables false      -- a walk need not use every 'w<i>' (that an integer argument fits its kind)

theorem own : ownKnob Try.prog.godebug = none := by kernel_rfl

theorem add_to (a b r : Int) (w : World) (h : -9223372036854775808 ≤ a ∧ a ≤ 9223372036854775807 ∧ -9223372036854775808 ≤ b ∧ b ≤ 9223372036854775807) (hr : sat (a + b) = r) :
    Calls Try.prog 6 #[.int .i64 a, .int .i64 b] w fun e w' => e = .returned (.int .i64 r) ∧ w = w' := by
  have := add_any a b w h.1 h.2.1 h.2.2.1 h.2.2.2
  rw [hr] at this
  exact this
theorem sub_to (a b r : Int) (w : World) (h : -9223372036854775808 ≤ a ∧ a ≤ 9223372036854775807 ∧ -9223372036854775808 ≤ b ∧ b ≤ 9223372036854775807) (hr : sat (a - b) = r) :
    Calls Try.prog 8 #[.int .i64 a, .int .i64 b] w fun e w' => e = .returned (.int .i64 r) ∧ w = w' := by
  have := sub_any a b w h.1 h.2.1 h.2.2.1 h.2.2.2
  rw [hr] at this
  exact this
theorem mul_to (a b r : Int) (w : World) (h : -9223372036854775808 ≤ a ∧ a ≤ 9223372036854775807 ∧ -9223372036854775808 ≤ b ∧ b ≤ 9223372036854775807) (hr : sat (a * b) = r) :
    Calls Try.prog 10 #[.int .i64 a, .int .i64 b] w fun e w' => e = .returned (.int .i64 r) ∧ w = w' := by
  have := mul_any a b w h.1 h.2.1 h.2.2.1 h.2.2.2
  rw [hr] at this
  exact this
theorem prod_bd (a b : Int) (h : -2147483648 ≤ a ∧ a ≤ 2147483647 ∧ -2147483648 ≤ b ∧ b ≤ 2147483647) : -4611686018427387904 ≤ a * b ∧ a * b ≤ 4611686018427387904 := by
  have h1 : (a * b).natAbs ≤ 2147483648 * 2147483648 := by
    rw [Int.natAbs_mul]; exact Nat.mul_le_mul (by omega) (by omega)
  omega
/-! ### STEP 1: THE WALK: the Go text returns true. 'Grown w w'': the world has at most new blocks (Derived/RowKit3.lean). Part the cases AHEAD of 'go_enter' where a test parts the walk; take each callee by a contract of your own. -/
theorem walk (a0 : Int) (a1 : Int) (a2 : Int) (w0 : (Lit.int .i32 a0).wf = true) (w1 : (Lit.int .i32 a1).wf = true) (w2 : (Lit.int .i32 a2).wf = true) (w : World) :
    Calls Try.prog 4 #[.int .i32 a0, .int .i32 a1, .int .i32 a2] w fun e w' => e = .returned (.bool true) ∧ Grown w w' := by
  obtain ⟨ha1, ha2⟩ := bounds_i32 w0
  obtain ⟨hb1, hb2⟩ := bounds_i32 w1
  obtain ⟨hc1, hc2⟩ := bounds_i32 w2
  clear w0 w1 w2
  obtain ⟨p1, p2⟩ := prod_bd a0 a1 ⟨ha1, ha2, hb1, hb2⟩
  obtain ⟨q1, q2⟩ := prod_bd a0 a2 ⟨ha1, ha2, hc1, hc2⟩
  obtain ⟨r1, r2⟩ := prod_bd a1 a2 ⟨hb1, hb2, hc1, hc2⟩
  have hbig : ∃ big, sat (9223372036854775807 + a0) = big ∧ (decide (0 ≤ a0) == (big == 9223372036854775807)) = true := by
    refine ⟨_, rfl, ?_⟩
    by_cases h : 0 ≤ a0
    · by_cases h2 : a0 = 0
      · subst h2; rfl
      · rw [sat_hi (by omega)]; simp [h]
    · rw [sat_in (by omega) (by omega)]; simp [h]; omega
  obtain ⟨big, hb0, hbb⟩ := hbig
  have hbb' := hide hb0
  clear hb0
  obtain ⟨u, hu⟩ : ∃ u, sat (-9223372036854775808 - a0) = u := ⟨_, rfl⟩
  have hu3' : sat (u - 0) = u := by have := sat_bd (-9223372036854775808 - a0); rw [← hu, Int.sub_zero]; exact sat_in this.1 this.2
  have hu4 : -9223372036854775808 ≤ u ∧ u ≤ 9223372036854775807 := hu ▸ sat_bd _
  have hmA : -a0 ≤ 0 → u ≤ -9223372036854775808 := by
    intro h
    rw [← hu]
    unfold sat; split <;> (try split) <;> omega
  have hmB : sat (-9223372036854775808 + -a0) = u := by rw [← hu]; rfl
  have hmC := hide hmA
  have hmD := hide hmB
  clear hmA hmB
  have hu5 := hide hu
  clear hu
  have hu3 := hide hu3'
  clear hu3'
  go_enter Try.func4, Try.ntmps4
  go_wp2_with fail
  refine (add_to a0 a1 (a0 + a1) _ (by omega) (sat_in (by omega) (by omega))).mono ?_
  rintro e w' ⟨rfl, rfl⟩
  go_wp2_with fail
  refine (sub_to a0 a1 (a0 - a1) _ (by omega) (sat_in (by omega) (by omega))).mono ?_
  rintro e w' ⟨rfl, rfl⟩
  go_wp2_with fail
  refine (mul_to a0 a1 (a0 * a1) _ (by omega) (sat_in (by omega) (by omega))).mono ?_
  rintro e w' ⟨rfl, rfl⟩
  go_wp2_with fail
  refine (add_to a0 a1 (a0 + a1) _ (by omega) (sat_in (by omega) (by omega))).mono ?_
  rintro e w' ⟨rfl, rfl⟩
  go_wp2_with fail
  refine (mul_to (a0 + a1) a2 (sat (a0 * a2 + a1 * a2)) _ (by omega) (by rw [Int.add_mul])).mono ?_
  rintro e w' ⟨rfl, rfl⟩
  go_wp2_with fail
  refine (mul_to a0 a2 (a0 * a2) _ (by omega) (sat_in (by omega) (by omega))).mono ?_
  rintro e w' ⟨rfl, rfl⟩
  go_wp2_with fail
  refine (mul_to a1 a2 (a1 * a2) _ (by omega) (sat_in (by omega) (by omega))).mono ?_
  rintro e w' ⟨rfl, rfl⟩
  go_wp2_with fail
  refine (add_to (a0 * a2) (a1 * a2) _ _ (by omega) rfl).mono ?_
  rintro e w' ⟨rfl, rfl⟩
  go_wp2_with fail
  refine (add_to 9223372036854775807 a0 big _ (by omega) hbb'.out).mono ?_
  rintro e w' ⟨rfl, rfl⟩
  go_wp2_with fail
  refine (sub_to (-9223372036854775808) a0 u _ (by omega) hu5.out).mono ?_
  rintro e w' ⟨rfl, rfl⟩
  go_wp2_with fail
  refine (sub_to u 0 u _ (by omega) hu3.out).mono ?_
  rintro e w' ⟨rfl, rfl⟩
  go_wp2_with fail
  · have hmE := hmC.out (by omega)
    refine (add_to (-9223372036854775808) 0 (-9223372036854775808) _ (by omega) (sat_in (by omega) (by omega))).mono ?_
    rintro e w' ⟨rfl, rfl⟩
    go_wp2_with fail
    refine (counted_any _).mono ?_
    rintro e w' ⟨rfl, rfl⟩
    go_wp2_with fail
    go_ret
    exact ⟨rfl, Grown.refl _⟩
  · refine (add_to (-9223372036854775808) (-a0) u _ (by omega) hmD.out).mono ?_
    rintro e w' ⟨rfl, rfl⟩
    go_wp2_with fail
    refine (counted_any _).mono ?_
    rintro e w' ⟨rfl, rfl⟩
    go_wp2_with fail
    go_ret
    exact ⟨rfl, Grown.refl _⟩

/-! ### THE ROW's STEP: WRITTEN OUT: LEAVE IT -/
set_option maxRecDepth 100000 in
theorem lifted (os : Os) (started : os.Started) (H : Type) (enc : TypeId × Value → H) :
    ReturnsInHanded {} Try.checked os 4 .any (Rows.numsWithinSpec.pre6 enc Try.prog Try.f4 Rows.numsWithinRow.domain false) (Rows.numsWithinSpec.post enc Try.prog Try.f4 false true false false) := by
  refine returnsInHanded_of_change (C := Try.checked) own started (by kernel_rfl) Try.func4
    (ChangeSpec.witness6 (enc := enc) (C := Try.checked) false ⟨#[], #[.int .i32 0, .int .i32 0, .int .i32 0], []⟩ 8 (by kernel_rfl) (by kernel_rfl) (by kernel_rfl) (by kernel_rfl)) ?_
  intro W base args ds gs before hval0 hW hcnd _
  have hval : ∀ (j : Nat) t v, Try.f4.params[j]? = some t → args[j]? = some v → Value.okWide Try.prog W .any base t v := hval0
  have hW' := hW
  obtain ⟨p, q, hA0, hV, rfl, hfz, hnd⟩ := hW
  have hA : DataW.TrodAll enc Try.prog W 0 (fun _ => true) true Try.f4.params.toList args.toList ds p := hA0
  rw [Try.params4] at hA hval
  obtain ⟨v0, vs0, d0, ds0, p0, q0, hargs, rfl, rfl, h0, r0⟩ := trodAll_cons hA
  obtain ⟨v1, vs1, d1, ds1, p1, q1, rfl, rfl, rfl, h1, r1⟩ := trodAll_cons r0
  obtain ⟨v2, vs2, d2, ds2, p2, q2, rfl, rfl, rfl, h2, r2⟩ := trodAll_cons r1
  obtain ⟨rfl, rfl, rfl⟩ := trodAll_nil r2
  obtain rfl : args = #[v0, v1, v2] := by cases args; simp_all
  obtain ⟨rfl, rfl⟩ := trodVars_none hV
  obtain ⟨a0, rfl, rfl, rfl, w0⟩ := open_int Try.underlying21 (hval 0 21 v0 rfl rfl) h0
  obtain ⟨a1, rfl, rfl, rfl, w1⟩ := open_int Try.underlying21 (hval 1 21 v1 rfl rfl) h1
  obtain ⟨a2, rfl, rfl, rfl, w2⟩ := open_int Try.underlying21 (hval 2 21 v2 rfl rfl) h2
  clear hA0 hval0
  simp only [List.append_nil] at hW'
  refine (walk a0 a1 a2 w0 w1 w2 W).mono fun e W' ⟨he, hg⟩ => ?_
  subst he
  exact ⟨_, rfl, post_of_same (pa := []) (pv := []) hW' (fun _ _ _ => (trodAll_cons_mk (shut_bool Try.underlying4 _) trodAll_mk0)) (fun sp _ => (trodAll_cons_mk (shut_int Try.underlying21 w0) (trodAll_cons_mk (shut_int Try.underlying21 w1) (trodAll_cons_mk (shut_int Try.underlying21 w2) trodAll_mk0)))) (fun _ _ => rfl) rfl
    (hg.frame _) hg.2.1 (ok_one (by kernel_rfl) rfl (okWide_bool_mk Try.underlying4 _))⟩

theorem over : Rows.numsWithinRow.holds Try.pinned (OpenSpec.ofChange Rows.numsWithinSpec) :=
  OpenClaim.holds_of_wide 4 Try.f4 rfl rfl rfl rfl rfl rfl rfl ⟨rfl, rfl, rfl, rfl, rfl⟩ rfl rfl rfl rfl rfl (by kernel_rfl) Try.func4 (by kernel_rfl)
    (of_decide_eq_true (by kernel_rfl)) (by unfold Func.isWrapper; first | (rw [if_pos (by decide +kernel)]; kernel_rfl) | (rw [if_neg (by decide +kernel)]; exact ⟨rfl, rfl⟩))
    (fun os started H enc _ => lifted os started H enc)

/-- ████ THE STATEMENT ████ -/
theorem proved : Rows.NumsWithinSaid :=
  over
#print axioms proved
end Go.Proofs.Ytplnkakblieijaa.numsWithin
