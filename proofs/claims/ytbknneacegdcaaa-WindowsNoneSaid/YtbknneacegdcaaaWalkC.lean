/- The walks of the document's window. -/
import Derived.Test.YtbknneacegdcaaaWalkB
namespace Go.Proofs.Ytbknneacegdcaaa
open Go.RowKit
set_option linter.unusedVariables false

theorem rnew_bad (c l d : Int) (w : World) (h : c < 1 ∨ 16 < c ∨ d < 0 ∨ l < d ∨ 4096 < l) :
    Calls Try.prog 19 #[.int .i64 c, .int .i64 l, .int .i64 d] w fun e w' => e = .returned (.tuple #[.pointer none, .int .i64 2]) ∧ w = w' := by
  go_enter Try.func19, Try.ntmps19
  go_wp2_with fail
  all_goals
    go_ret2
    exact ⟨rfl, rfl⟩
theorem rnew_ok (c l d : Int) (w : World) (h1 : 1 ≤ c) (h2 : c ≤ 16) (h3 : 0 ≤ d) (h4 : d ≤ l) (h5 : l ≤ 4096) :
    Calls Try.prog 19 #[.int .i64 c, .int .i64 l, .int .i64 d] w fun e w' => ∃ g, e = .returned (.tuple #[.pointer (some ⟨g, 0, none⟩), .int .i64 0]) ∧ w.heap.size ≤ g ∧ IsW w' g 41 ⟨c, l, d, l, 0⟩ ∧ Upd w w' [] := by
  go_enter Try.func19, Try.ntmps19
  go_wp2_with fail
  go_ret2
  exact ⟨_, rfl, Nat.le_refl _, Blk.new w 41 _, (Upd.refl w []).alloc _⟩
theorem rack_w (g : Nat) (x : Win) (i : Int) (w : World) (hv : IsW w g 41 x) :
    Calls Try.prog 20 #[.pointer (some ⟨g, 0, none⟩), .int .i64 i] w fun e w' => e = .returned (.bool (ackB x i)) ∧ IsW w' g 41 (ackW x i) ∧ Upd w w' [g] := by
  have h0 := hv.f0
  have h1 := hv.f1
  have h2 := hv.f2
  have h3 := hv.f3
  have h4 := hv.f4
  have k1 := hv.fr 1
  have k2 := hv.fr 2
  have k3 := hv.fr 3
  have k4 := hv.fr 4
  replace hv := hide hv
  by_cases c1 : x.d < i
  · by_cases c2 : i ≤ x.l
    · have e1 := hide (show ackB x i = true from by simp [ackB, c1, c2])
      have e2 := hide (show ackW x i = { x with d := i } from by simp [ackW, c1, c2])
      go_enter Try.func20, Try.ntmps20
      go_wp2_with fail
      go_ret
      exact ⟨by rw [e1.out]; rfl, by rw [e2.out]; exact hv.out.set2 i, upd1 _ _ _ _⟩
    · have e1 := hide (show ackB x i = false from by simp [ackB, c2])
      have e2 := hide (show ackW x i = x from by simp [ackW, c2])
      have d2 : decide (i ≤ x.l) = false := by simp; omega
      go_enter Try.func20, Try.ntmps20
      go_wp2_with fail
      go_ret
      exact ⟨by rw [e1.out]; rfl, by rw [e2.out]; exact hv.out, Upd.refl _ _⟩
  · have e1 := hide (show ackB x i = false from by simp [ackB, c1])
    have e2 := hide (show ackW x i = x from by simp [ackW, c1])
    have d2 : decide (x.d < i) = false := by simp; omega
    go_enter Try.func20, Try.ntmps20
    go_wp2_with fail
    go_ret
    exact ⟨by rw [e1.out]; rfl, by rw [e2.out]; exact hv.out, Upd.refl _ _⟩
theorem rgrant_w (g : Nat) (x : Win) (i : Int) (w : World) (hv : IsW w g 41 x) :
    Calls Try.prog 21 #[.pointer (some ⟨g, 0, none⟩), .int .i64 i] w fun e w' => e = .returned (.tuple #[]) ∧ IsW w' g 41 (grantW x i) ∧ Upd w w' [g] := by
  have h0 := hv.f0
  have h1 := hv.f1
  have h2 := hv.f2
  have h3 := hv.f3
  have h4 := hv.f4
  have k1 := hv.fr 1
  have k2 := hv.fr 2
  have k3 := hv.fr 3
  have k4 := hv.fr 4
  replace hv := hide hv
  have ee : ∀ j : Int, x.m < j → j = min i 4112 → IsW (w.setCell ⟨g, 4, none⟩ (.int .i64 j)) g 41 (grantW x i) := fun j h1 h2 => (hv.out.set4 j).to (by unfold grantW; congr 1; omega)
  have en : ∀ j : Int, j ≤ x.m → j = min i 4112 → IsW w g 41 (grantW x i) := fun j h1 h2 => hv.out.to (by unfold grantW; cases x; simp only [Win.mk.injEq, true_and]; simp only at h1; omega)
  replace ee := hide ee
  replace en := hide en
  by_cases c1 : 4112 < i
  · by_cases c2 : x.m < 4112
    · go_enter Try.func21, Try.ntmps21
      go_wp2_with fail
      go_end0
      exact ⟨rfl, ee.out _ c2 (by omega), upd1 _ _ _ _⟩
    · go_enter Try.func21, Try.ntmps21
      go_wp2_with fail
      go_end0
      exact ⟨rfl, en.out 4112 (by omega) (by omega), Upd.refl _ _⟩
  · by_cases c2 : x.m < i
    · go_enter Try.func21, Try.ntmps21
      go_wp2_with fail
      go_end0
      exact ⟨rfl, ee.out _ c2 (by omega), upd1 _ _ _ _⟩
    · go_enter Try.func21, Try.ntmps21
      go_wp2_with fail
      go_end0
      exact ⟨rfl, en.out i (by omega) (by omega), Upd.refl _ _⟩
theorem rback_w (g : Nat) (x : Win) (i : Int) (w : World) (hv : IsW w g 41 x) (o : x.Ok) :
    Calls Try.prog 23 #[.pointer (some ⟨g, 0, none⟩), .int .i64 i] w fun e w' => e = .returned (.tuple #[]) ∧ IsW w' g 41 (backW x i) ∧ Upd w w' [g] := by
  have h0 := hv.f0
  have h1 := hv.f1
  have h2 := hv.f2
  have h3 := hv.f3
  have h4 := hv.f4
  have k1 := hv.fr 1
  have k2 := hv.fr 2
  have k3 := hv.fr 3
  have k4 := hv.fr 4
  replace hv := hide hv
  obtain ⟨o1, o2, o3, o4, o5, o6, o7, o8, o9⟩ := o
  by_cases c1 : i < 0
  · go_enter Try.func23, Try.ntmps23
    go_wp2_with fail
    go_end0
    exact ⟨rfl, ((hv.out.set3 _).set3 _).to (by unfold backW; simp only [Win.mk.injEq, true_and, and_true]; omega), (upd1 _ _ _ _).setCell (by simp) _⟩
  · by_cases c2 : x.l < i
    · go_enter Try.func23, Try.ntmps23
      go_wp2_with fail
      go_end0
      exact ⟨rfl, ((hv.out.set3 _).set3 _).to (by unfold backW; simp only [Win.mk.injEq, true_and, and_true]; omega), (upd1 _ _ _ _).setCell (by simp) _⟩
    · go_enter Try.func23, Try.ntmps23
      go_wp2_with fail
      go_end0
      exact ⟨rfl, (hv.out.set3 _).to (by unfold backW; simp only [Win.mk.injEq, true_and, and_true]; omega), upd1 _ _ _ _⟩
theorem rrenew_w (g : Nat) (x : Win) (w : World) (hv : IsW w g 41 x) :
    Calls Try.prog 24 #[.pointer (some ⟨g, 0, none⟩)] w fun e w' => e = .returned (.tuple #[]) ∧ IsW w' g 41 (renewW x) ∧ Upd w w' [g] := by
  have h0 := hv.f0
  have h1 := hv.f1
  have h2 := hv.f2
  have h3 := hv.f3
  have h4 := hv.f4
  have k1 := hv.fr 1
  have k2 := hv.fr 2
  have k3 := hv.fr 3
  have k4 := hv.fr 4
  replace hv := hide hv
  go_enter Try.func24, Try.ntmps24
  go_wp2_with fail
  go_end0
  exact ⟨rfl, ((hv.out.set3 _).set4 _).to rfl, (upd1 _ _ _ _).setCell (by simp) _⟩
theorem rnext_w (g : Nat) (x : Win) (w : World) (hv : IsW w g 41 x) (o : x.Ok) :
    Calls Try.prog 22 #[.pointer (some ⟨g, 0, none⟩)] w fun e w' => e = .returned (.tuple #[.int .i64 (nextI x), .bool (nextB x)]) ∧ IsW w' g 41 (nextW x) ∧ Upd w w' [g] := by
  have h0 := hv.f0
  have h1 := hv.f1
  have h2 := hv.f2
  have h3 := hv.f3
  have h4 := hv.f4
  have k1 := hv.fr 1
  have k2 := hv.fr 2
  have k3 := hv.fr 3
  have k4 := hv.fr 4
  replace hv := hide hv
  obtain ⟨o1, o2, o3, o4, o5, o6, o7, o8, o9⟩ := o
  by_cases c1 : x.s < x.l
  · by_cases c2 : x.s < x.m
    · have e1 := hide (show nextB x = true from by simp [nextB, c1, c2])
      have e3 := hide (show nextI x = x.s + 1 from by simp [nextI, c1, c2])
      have e2 := hide (show nextW x = { x with s := x.s + 1 } from by simp [nextW, c1, c2])
      have d1 : decide (x.l ≤ x.s) = false := by simp; omega
      have d2 : decide (x.m ≤ x.s) = false := by simp; omega
      go_enter Try.func22, Try.ntmps22
      go_wp2_with fail
      go_quiet (fail)
      go_wp2_with fail
      go_ret2
      exact ⟨by rw [e1.out, e3.out]; rfl, by rw [e2.out]; exact IsW.set3 (show IsW (w.drewN _) g 41 x from hv.out) _, ((Upd.refl _ _).drewN _).setCell (by simp) _⟩
    · have e1 := hide (show nextB x = false from by simp [nextB, c2])
      have e3 := hide (show nextI x = 0 from by simp [nextI, c2])
      have e2 := hide (show nextW x = x from by simp [nextW, c2])
      have d1 : decide (x.l ≤ x.s) = false := by simp; omega
      have d2 : decide (x.m ≤ x.s) = true := by simp; omega
      go_enter Try.func22, Try.ntmps22
      go_wp2_with fail
      go_quiet (fail)
      go_wp2_with fail
      go_ret2
      exact ⟨by rw [e1.out, e3.out]; rfl, by rw [e2.out]; exact hv.out, (Upd.refl _ _).drewN _⟩
  · have e1 := hide (show nextB x = false from by simp [nextB, c1])
    have e3 := hide (show nextI x = 0 from by simp [nextI, c1])
    have e2 := hide (show nextW x = x from by simp [nextW, c1])
    have d1 : decide (x.l ≤ x.s) = true := by simp; omega
    go_enter Try.func22, Try.ntmps22
    go_wp2_with fail
    go_quiet (fail)
    go_wp2_with fail
    go_ret2
    exact ⟨by rw [e1.out, e3.out]; rfl, by rw [e2.out]; exact hv.out, (Upd.refl _ _).drewN _⟩
theorem rfree_w (g : Nat) (x : Win) (w : World) (hv : IsW w g 41 x) (o : x.Ok) :
    Calls Try.prog 30 #[.pointer (some ⟨g, 0, none⟩)] w fun e w' => e = .returned (.int .i64 (freeI x)) ∧ ∃ m, w' = w.drewN m := by
  have h0 := hv.f0
  have h1 := hv.f1
  have h2 := hv.f2
  have h3 := hv.f3
  have h4 := hv.f4
  have k1 := hv.fr 1
  have k2 := hv.fr 2
  have k3 := hv.fr 3
  have k4 := hv.fr 4
  replace hv := hide hv
  have fb := freeI_bd x o
  have F0 := hide (show freeI x = max (min (x.d + x.c) 4096 - x.l) 0 from rfl)
  obtain ⟨o1, o2, o3, o4, o5, o6, o7, o8, o9⟩ := o
  go_enter Try.func30, Try.ntmps30
  go_wp2_with fail
  go_loopw [3, 4] (fun n i wr => ∃ k : Nat, (k : Int) ≤ freeI x ∧ n = .int .i64 k ∧ i = .int .i64 (x.l + 1 + k) ∧ ∃ m, wr = w.drewN m) (fun n _ _ => (freeI x).toNat - (intOf n).toNat)
  case atStart => exact ⟨0, by omega, rfl, by simp, 0, rfl⟩
  case round =>
    obtain ⟨k, hk, rfl, rfl, m, rfl⟩ := hrel
    by_cases hlt : (k : Int) < freeI x
    · have q1 : x.l + 1 + (k : Int) ≤ x.d + x.c := by have := F0.out; omega
      have q2 : x.l + 1 + (k : Int) ≤ 4096 := by have := F0.out; omega
      generalize freeI x = f at *
      go_wp2_with fail
      go_quiet (fail)
      go_wp2_with fail
      go_roundw
      case rel => exact ⟨k + 1, by omega, by go_num, by go_num, _, rfl⟩
      case measure => simp [intOf]; omega
    · have hk2 : (k : Int) = freeI x := by omega
      by_cases q1 : x.l + 1 + (k : Int) ≤ x.d + x.c
      · have q2 : ¬ x.l + 1 + (k : Int) ≤ 4096 := by have := F0.out; omega
        have d2 : decide (x.l + 1 + (k : Int) ≤ 4096) = false := by simp; omega
        have hk3 := hide hk2
        clear hk2 hlt hk fb F0
        go_wp2_with fail
        go_quiet (fail)
        go_wp2_with fail
        go_ret
        exact ⟨ret_int hk3.out, _, World.drewN_drewN _ _ _⟩
      · have d1 : decide (x.l + 1 + (k : Int) ≤ x.d + x.c) = false := by simp; omega
        have hk3 := hide hk2
        clear hk2 hlt hk fb F0
        go_wp2_with fail
        go_quiet (fail)
        go_wp2_with fail
        go_ret
        exact ⟨ret_int hk3.out, _, World.drewN_drewN _ _ _⟩
theorem rpush_w (g : Nat) (x : Win) (w : World) (hv : IsW w g 41 x) (o : x.Ok) :
    Calls Try.prog 26 #[.pointer (some ⟨g, 0, none⟩)] w fun e w' => e = .returned (.bool (pushB x)) ∧ IsW w' g 41 (pushW x) ∧ Upd w w' [g] := by
  have h0 := hv.f0
  have h1 := hv.f1
  have h2 := hv.f2
  have h3 := hv.f3
  have h4 := hv.f4
  have k1 := hv.fr 1
  have k2 := hv.fr 2
  have k3 := hv.fr 3
  have k4 := hv.fr 4
  have F0 := hide (rfree_w g x w hv o)
  have fb := freeI_bd x o
  have o5 := o.l2
  have o6 := o.d1
  have o7 := o.d2
  replace hv := hide hv
  by_cases c1 : 0 < freeI x
  · have e1 := hide (show pushB x = true from by simp [pushB, c1])
    have e2 := hide (show pushW x = { x with l := x.l + 1 } from by simp [pushW, c1])
    generalize freeI x = f at *
    go_enter Try.func26, Try.ntmps26
    go_wp2_with fail
    refine F0.out.mono ?_
    rintro e w' ⟨rfl, md, rfl⟩
    go_wp2_with fail
    go_ret
    exact ⟨by rw [e1.out]; rfl, by rw [e2.out]; exact IsW.set1 (show IsW (w.drewN md) g 41 x from hv.out) _, ((Upd.refl _ _).drewN _).setCell (by simp) _⟩
  · have e1 := hide (show pushB x = false from by simp [pushB]; omega)
    have e2 := hide (show pushW x = x from by simp [pushW]; omega)
    have c2 : freeI x = 0 := by omega
    rw [c2] at F0
    clear c1 c2 fb
    go_enter Try.func26, Try.ntmps26
    go_wp2_with fail
    refine F0.out.mono ?_
    rintro e w' ⟨rfl, md, rfl⟩
    go_wp2_with fail
    go_ret
    exact ⟨by rw [e1.out]; rfl, by rw [e2.out]; exact hv.out, (Upd.refl _ _).drewN _⟩
end Go.Proofs.Ytbknneacegdcaaa
