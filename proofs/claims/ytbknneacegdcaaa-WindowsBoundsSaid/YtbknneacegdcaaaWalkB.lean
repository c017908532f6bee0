/- The walks of the layer windows, 2: what turns a window. -/
import Derived.Test.YtbknneacegdcaaaWalks
namespace Go.Proofs.Ytbknneacegdcaaa
open Go.RowKit
set_option linter.unusedVariables false

theorem push_nil (w : World) : Calls Try.prog 17 #[.pointer none] w fun e w' => e = .returned (.bool false) ∧ w = w' := by
  go_enter Try.func17, Try.ntmps17
  go_wp2_with fail
  refine (free_nil _).mono ?_
  rintro e w' ⟨rfl, rfl⟩
  go_wp2_with fail
  go_ret
  exact ⟨rfl, rfl⟩
theorem push_zero (w : World) (g : Nat) (h0 : w.cell? ⟨g, 0, none⟩ = some (.int .i64 0)) : Calls Try.prog 17 #[.pointer (some ⟨g, 0, none⟩)] w fun e w' => e = .returned (.bool false) ∧ w = w' := by
  go_enter Try.func17, Try.ntmps17
  go_wp2_with fail
  refine (free_zero _ _ h0).mono ?_
  rintro e w' ⟨rfl, rfl⟩
  go_wp2_with fail
  go_ret
  exact ⟨rfl, rfl⟩
theorem next_nil (w : World) : Calls Try.prog 12 #[.pointer none] w fun e w' => e = .returned (.tuple #[.int .i64 0, .bool false]) ∧ Upd w w' [] := by
  have H := hide fun n => none_nil (w.drewN n)
  go_enter Try.func12, Try.ntmps12
  go_wp2_with fail
  go_quiet ((go_at_call 29; exact quiet_left (H.out _)))
  go_wp2_with fail
  go_ret2
  exact ⟨rfl, (Upd.refl _ _).drewN _⟩
theorem next_zero (w : World) (g : Nat) (h0 : w.cell? ⟨g, 0, none⟩ = some (.int .i64 0)) : Calls Try.prog 12 #[.pointer (some ⟨g, 0, none⟩)] w fun e w' => e = .returned (.tuple #[.int .i64 0, .bool false]) ∧ Upd w w' [] := by
  have H := hide fun n => none_zero g (w.drewN n) h0
  go_enter Try.func12, Try.ntmps12
  go_wp2_with fail
  go_quiet ((go_at_call 29; exact quiet_left (H.out _)))
  go_wp2_with fail
  go_ret2
  exact ⟨rfl, (Upd.refl _ _).drewN _⟩
theorem ack_w (g : Nat) (x : Win) (i : Int) (w : World) (hv : IsW w g 46 x) (o : x.Ok) :
    Calls Try.prog 10 #[.pointer (some ⟨g, 0, none⟩), .int .i64 i] w fun e w' => e = .returned (.bool (ackB x i)) ∧ IsW w' g 46 (ackW x i) ∧ Upd w w' [g] := by
  have h0 := hv.f0
  have h1 := hv.f1
  have h2 := hv.f2
  have h3 := hv.f3
  have h4 := hv.f4
  have k1 := hv.fr 1
  have k2 := hv.fr 2
  have k3 := hv.fr 3
  have k4 := hv.fr 4
  have N0 := hide (none_no g x.c w h0 o.c1)
  replace hv := hide hv
  by_cases c1 : x.d < i
  · by_cases c2 : i ≤ x.l
    · have e1 := hide (show ackB x i = true from by simp [ackB, c1, c2])
      have e2 := hide (show ackW x i = { x with d := i } from by simp [ackW, c1, c2])
      go_enter Try.func10, Try.ntmps10
      go_wp2_with fail
      refine N0.out.mono ?_
      rintro e w' ⟨rfl, rfl⟩
      go_wp2_with fail
      go_ret
      exact ⟨by rw [e1.out]; rfl, by rw [e2.out]; exact hv.out.set2 i, upd1 _ _ _ _⟩
    · have e1 := hide (show ackB x i = false from by simp [ackB, c2])
      have e2 := hide (show ackW x i = x from by simp [ackW, c2])
      go_enter Try.func10, Try.ntmps10
      go_wp2_with fail
      refine N0.out.mono ?_
      rintro e w' ⟨rfl, rfl⟩
      go_wp2_with fail
      go_ret
      exact ⟨by rw [e1.out]; rfl, by rw [e2.out]; exact hv.out, Upd.refl _ _⟩
  · have e1 := hide (show ackB x i = false from by simp [ackB, c1])
    have e2 := hide (show ackW x i = x from by simp [ackW, c1])
    go_enter Try.func10, Try.ntmps10
    go_wp2_with fail
    refine N0.out.mono ?_
    rintro e w' ⟨rfl, rfl⟩
    go_wp2_with fail
    go_ret
    exact ⟨by rw [e1.out]; rfl, by rw [e2.out]; exact hv.out, Upd.refl _ _⟩
theorem grant_w (g : Nat) (x : Win) (i : Int) (w : World) (hv : IsW w g 46 x) (o : x.Ok) :
    Calls Try.prog 11 #[.pointer (some ⟨g, 0, none⟩), .int .i64 i] w fun e w' => e = .returned (.tuple #[]) ∧ IsW w' g 46 (grantW x i) ∧ Upd w w' [g] := by
  have h0 := hv.f0
  have h1 := hv.f1
  have h2 := hv.f2
  have h3 := hv.f3
  have h4 := hv.f4
  have k1 := hv.fr 1
  have k2 := hv.fr 2
  have k3 := hv.fr 3
  have k4 := hv.fr 4
  have N0 := hide (none_no g x.c w h0 o.c1)
  replace hv := hide hv
  go_enter Try.func11, Try.ntmps11
  go_wp2_with fail
  refine N0.out.mono ?_
  rintro e w' ⟨rfl, rfl⟩
  go_wp2_with fail
  all_goals
    go_end0
    exact ⟨rfl, (hv.out.set4 _).to (by unfold grantW; congr 1; omega), upd1 _ _ _ _⟩
theorem back_w (g : Nat) (x : Win) (i : Int) (w : World) (hv : IsW w g 46 x) (o : x.Ok) :
    Calls Try.prog 15 #[.pointer (some ⟨g, 0, none⟩), .int .i64 i] w fun e w' => e = .returned (.tuple #[]) ∧ IsW w' g 46 (backW x i) ∧ Upd w w' [g] := by
  have h0 := hv.f0
  have h1 := hv.f1
  have h2 := hv.f2
  have h3 := hv.f3
  have h4 := hv.f4
  have k1 := hv.fr 1
  have k2 := hv.fr 2
  have k3 := hv.fr 3
  have k4 := hv.fr 4
  have N0 := hide (none_no g x.c w h0 o.c1)
  replace hv := hide hv
  go_enter Try.func15, Try.ntmps15
  go_wp2_with fail
  refine N0.out.mono ?_
  rintro e w' ⟨rfl, rfl⟩
  go_wp2_with fail
  all_goals
    go_end0
    exact ⟨rfl, (hv.out.set3 _).to (by unfold backW; congr 1; omega), upd1 _ _ _ _⟩
theorem renew_w (g : Nat) (x : Win) (w : World) (hv : IsW w g 46 x) (o : x.Ok) :
    Calls Try.prog 16 #[.pointer (some ⟨g, 0, none⟩)] w fun e w' => e = .returned (.tuple #[]) ∧ IsW w' g 46 (renewW x) ∧ Upd w w' [g] := by
  have h0 := hv.f0
  have h1 := hv.f1
  have h2 := hv.f2
  have h3 := hv.f3
  have h4 := hv.f4
  have k1 := hv.fr 1
  have k2 := hv.fr 2
  have k3 := hv.fr 3
  have k4 := hv.fr 4
  have N0 := hide (none_no g x.c w h0 o.c1)
  replace hv := hide hv
  go_enter Try.func16, Try.ntmps16
  go_wp2_with fail
  refine N0.out.mono ?_
  rintro e w' ⟨rfl, rfl⟩
  go_wp2_with fail
  go_end0
  exact ⟨rfl, ((hv.out.set3 _).set4 _).to rfl, (upd1 _ _ _ _).setCell (by simp) _⟩
theorem offer_w (g : Nat) (x : Win) (w : World) (hv : IsW w g 46 x) (o : x.Ok) :
    Calls Try.prog 28 #[.pointer (some ⟨g, 0, none⟩)] w fun e w' => e = .returned (.int .i64 (x.d + x.c)) ∧ ∃ m, w' = w.drewN m := by
  have h0 := hv.f0
  have h1 := hv.f1
  have h2 := hv.f2
  have h3 := hv.f3
  have h4 := hv.f4
  have k1 := hv.fr 1
  have k2 := hv.fr 2
  have k3 := hv.fr 3
  have k4 := hv.fr 4
  have N0 := hide (none_no g x.c w h0 o.c1)
  replace hv := hide hv
  obtain ⟨o1, o2, o3, o4, o5, o6, o7, o8, o9⟩ := o
  go_enter Try.func28, Try.ntmps28
  go_wp2_with fail
  refine N0.out.mono ?_
  rintro e w' ⟨rfl, rfl⟩
  go_wp2_with fail
  go_quiet (fail)
  go_wp2_with fail
  go_ret
  exact ⟨rfl, _, rfl⟩
theorem free_w (g : Nat) (x : Win) (w : World) (hv : IsW w g 46 x) (o : x.Ok) :
    Calls Try.prog 18 #[.pointer (some ⟨g, 0, none⟩)] w fun e w' => e = .returned (.int .i64 (freeI x)) ∧ ∃ m, w' = w.drewN m := by
  have h0 := hv.f0
  have h1 := hv.f1
  have h2 := hv.f2
  have h3 := hv.f3
  have h4 := hv.f4
  have k1 := hv.fr 1
  have k2 := hv.fr 2
  have k3 := hv.fr 3
  have k4 := hv.fr 4
  have N0 := hide (none_no g x.c w h0 o.c1)
  have O0 := hide fun n => offer_w g x (w.drewN n) hv o
  replace hv := hide hv
  have F0 := hide (show max (min (x.d + x.c) 4096 - x.l) 0 = freeI x from rfl)
  obtain ⟨o1, o2, o3, o4, o5, o6, o7, o8, o9⟩ := o
  go_enter Try.func18, Try.ntmps18
  go_wp2_with fail
  refine N0.out.mono ?_
  rintro e w' ⟨rfl, rfl⟩
  go_wp2_with fail
  by_cases q1 : x.d + x.c ≤ 4096 <;> by_cases q2 : min (x.d + x.c) 4096 - x.l ≤ 0
  all_goals
    go_quiet ((go_at_call 28; exact Calls.quiet_of (O0.out _)))
    go_wp2_with fail
    all_goals
      go_ret
      exact ⟨ret_int (by rw [← F0.out]; omega), _, rfl⟩
theorem freeI_bd (x : Win) (o : x.Ok) : 0 ≤ freeI x ∧ freeI x ≤ 16 := by
  obtain ⟨o1, o2, o3, o4, o5, o6, o7, o8, o9⟩ := o
  unfold freeI; omega
theorem push_w (g : Nat) (x : Win) (w : World) (hv : IsW w g 46 x) (o : x.Ok) :
    Calls Try.prog 17 #[.pointer (some ⟨g, 0, none⟩)] w fun e w' => e = .returned (.bool (pushB x)) ∧ IsW w' g 46 (pushW x) ∧ Upd w w' [g] := by
  have h0 := hv.f0
  have h1 := hv.f1
  have h2 := hv.f2
  have h3 := hv.f3
  have h4 := hv.f4
  have k1 := hv.fr 1
  have k2 := hv.fr 2
  have k3 := hv.fr 3
  have k4 := hv.fr 4
  have F0 := hide (free_w g x w hv o)
  have fb := freeI_bd x o
  have o5 := o.l2
  have o6 := o.d1
  have o7 := o.d2
  replace hv := hide hv
  by_cases c1 : 0 < freeI x
  · have e1 := hide (show pushB x = true from by simp [pushB, c1])
    have e2 := hide (show pushW x = { x with l := x.l + 1 } from by simp [pushW, c1])
    generalize freeI x = f at *
    have cb : (f == 0) = false := by simp; omega
    go_enter Try.func17, Try.ntmps17
    go_wp2_with fail
    refine F0.out.mono ?_
    rintro e w' ⟨rfl, md, rfl⟩
    go_wp2_with fail
    go_ret
    exact ⟨by rw [e1.out]; rfl, by rw [e2.out]; exact IsW.set1 (show IsW (w.drewN md) g 46 x from hv.out) _, ((Upd.refl _ _).drewN _).setCell (by simp) _⟩
  · have e1 := hide (show pushB x = false from by simp [pushB]; omega)
    have e2 := hide (show pushW x = x from by simp [pushW]; omega)
    have c2 : freeI x = 0 := by omega
    rw [c2] at F0
    clear c1 c2 fb
    go_enter Try.func17, Try.ntmps17
    go_wp2_with fail
    refine F0.out.mono ?_
    rintro e w' ⟨rfl, md, rfl⟩
    go_wp2_with fail
    go_ret
    exact ⟨by rw [e1.out]; rfl, by rw [e2.out]; exact hv.out, (Upd.refl _ _).drewN _⟩
theorem next_w (g : Nat) (x : Win) (w : World) (hv : IsW w g 46 x) (o : x.Ok) :
    Calls Try.prog 12 #[.pointer (some ⟨g, 0, none⟩)] w fun e w' => e = .returned (.tuple #[.int .i64 (nextI x), .bool (nextB x)]) ∧ IsW w' g 46 (nextW x) ∧ Upd w w' [g] := by
  have h0 := hv.f0
  have h1 := hv.f1
  have h2 := hv.f2
  have h3 := hv.f3
  have h4 := hv.f4
  have k1 := hv.fr 1
  have k2 := hv.fr 2
  have k3 := hv.fr 3
  have k4 := hv.fr 4
  have N0 := hide fun n => none_no g x.c (w.drewN n) h0 o.c1
  replace hv := hide hv
  obtain ⟨o1, o2, o3, o4, o5, o6, o7, o8, o9⟩ := o
  by_cases c1 : x.s < x.l
  · by_cases c2 : x.s < x.m
    · have e1 := hide (show nextB x = true from by simp [nextB, c1, c2])
      have e3 := hide (show nextI x = x.s + 1 from by simp [nextI, c1, c2])
      have e2 := hide (show nextW x = { x with s := x.s + 1 } from by simp [nextW, c1, c2])
      have d1 : decide (x.l ≤ x.s) = false := by simp; omega
      have d2 : decide (x.m ≤ x.s) = false := by simp; omega
      go_enter Try.func12, Try.ntmps12
      go_wp2_with fail
      go_quiet ((go_at_call 29; exact quiet_left (N0.out _)))
      go_wp2_with fail
      go_ret2
      exact ⟨by rw [e1.out, e3.out]; rfl, by rw [e2.out]; exact IsW.set3 (show IsW (w.drewN _) g 46 x from hv.out) _, ((Upd.refl _ _).drewN _).setCell (by simp) _⟩
    · have e1 := hide (show nextB x = false from by simp [nextB, c2])
      have e3 := hide (show nextI x = 0 from by simp [nextI, c2])
      have e2 := hide (show nextW x = x from by simp [nextW, c2])
      have d1 : decide (x.l ≤ x.s) = false := by simp; omega
      have d2 : decide (x.m ≤ x.s) = true := by simp; omega
      go_enter Try.func12, Try.ntmps12
      go_wp2_with fail
      go_quiet ((go_at_call 29; exact quiet_left (N0.out _)))
      go_wp2_with fail
      go_ret2
      exact ⟨by rw [e1.out, e3.out]; rfl, by rw [e2.out]; exact hv.out, (Upd.refl _ _).drewN _⟩
  · have e1 := hide (show nextB x = false from by simp [nextB, c1])
    have e3 := hide (show nextI x = 0 from by simp [nextI, c1])
    have e2 := hide (show nextW x = x from by simp [nextW, c1])
    have d1 : decide (x.l ≤ x.s) = true := by simp; omega
    go_enter Try.func12, Try.ntmps12
    go_wp2_with fail
    go_quiet ((go_at_call 29; exact quiet_left (N0.out _)))
    go_wp2_with fail
    go_ret2
    exact ⟨by rw [e1.out, e3.out]; rfl, by rw [e2.out]; exact hv.out, (Upd.refl _ _).drewN _⟩
theorem copy_w (g : Nat) (x : Win) (w : World) (hv : IsW w g 46 x) (o : x.Ok) :
    Calls Try.prog 25 #[.pointer (some ⟨g, 0, none⟩)] w fun e w' => ∃ g', e = .returned (.pointer (some ⟨g', 0, none⟩)) ∧ w.heap.size ≤ g' ∧ IsW w' g' 46 x ∧ Upd w w' [] := by
  have h0 := hv.f0
  have h1 := hv.f1
  have h2 := hv.f2
  have h3 := hv.f3
  have h4 := hv.f4
  have k1 := hv.fr 1
  have k2 := hv.fr 2
  have k3 := hv.fr 3
  have k4 := hv.fr 4
  have N0 := hide (none_no g x.c w h0 o.c1)
  replace hv := hide hv
  go_enter Try.func25, Try.ntmps25
  go_wp2_with fail
  refine N0.out.mono ?_
  rintro e w' ⟨rfl, rfl⟩
  go_wp2_with fail
  go_ret
  exact ⟨_, rfl, Nat.le_refl _, Blk.new w 46 x.arr, (Upd.refl w []).alloc _⟩
theorem new_bad (c l d : Int) (w : World) (h : c < 1 ∨ 16 < c ∨ d < 0 ∨ l < d ∨ 4096 < l) :
    Calls Try.prog 7 #[.int .i64 c, .int .i64 l, .int .i64 d] w fun e w' => e = .returned (.tuple #[.pointer none, .int .i64 2]) ∧ w = w' := by
  go_enter Try.func7, Try.ntmps7
  go_wp2_with fail
  all_goals
    go_ret2
    exact ⟨rfl, rfl⟩
theorem new_ok (c l d : Int) (w : World) (h1 : 1 ≤ c) (h2 : c ≤ 16) (h3 : 0 ≤ d) (h4 : d ≤ l) (h5 : l ≤ 4096) :
    Calls Try.prog 7 #[.int .i64 c, .int .i64 l, .int .i64 d] w fun e w' => ∃ g, e = .returned (.tuple #[.pointer (some ⟨g, 0, none⟩), .int .i64 0]) ∧ w.heap.size ≤ g ∧ IsW w' g 46 ⟨c, l, d, l, 0⟩ ∧ Upd w w' [] := by
  go_enter Try.func7, Try.ntmps7
  go_wp2_with fail
  go_ret2
  exact ⟨_, rfl, Nat.le_refl _, Blk.new w 46 _, (Upd.refl w []).alloc _⟩
end Go.Proofs.Ytbknneacegdcaaa
