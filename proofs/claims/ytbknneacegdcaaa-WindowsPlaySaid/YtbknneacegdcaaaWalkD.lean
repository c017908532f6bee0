/- The walks of 'alike' and of the chapter's window. -/
import Derived.Test.YtbknneacegdcaaaWalkC
namespace Go.Proofs.Ytbknneacegdcaaa
open Go.RowKit
set_option linter.unusedVariables false

set_option maxHeartbeats 1000000 in
theorem alike_w (g r : Nat) (x : Win) (w : World) (hv : IsW w g 46 x) (hr : IsW w r 41 x) (o : x.Ok) :
    Calls Try.prog 27 #[.pointer (some ⟨g, 0, none⟩), .pointer (some ⟨r, 0, none⟩)] w fun e w' => e = .returned (.bool true) ∧ ∃ m, w' = w.drewN m := by
  have h0 := hr.f0
  have h1 := hr.f1
  have h2 := hr.f2
  have h3 := hr.f3
  have h4 := hr.f4
  have c1 := hide fun n => last_w g x (w.drewN n) hv o
  have c2 := hide fun n => done_w g x (w.drewN n) hv o
  have c3 := hide fun n => sent_w g x (w.drewN n) hv o
  have c4 := hide fun n => limit_w g x (w.drewN n) hv o
  have c5 := hide fun n => offer_w g x (w.drewN n) hv o
  have c6 := hide fun n => free_w g x (w.drewN n) hv o
  have c7 := hide fun n => rfree_w r x (w.drewN n) hr o
  have fb := freeI_bd x o
  clear hv hr
  obtain ⟨o1, o2, o3, o4, o5, o6, o7, o8, o9⟩ := o
  generalize freeI x = f at *
  go_enter Try.func27, Try.ntmps27
  go_wp2_with fail
  go_quiet ((first | (go_at_call 9; exact quiet_left (c1.out _)) | (go_at_call 8; exact quiet_left (c2.out _)) | (go_at_call 14; exact quiet_left (c3.out _)) | (go_at_call 13; exact quiet_left (c4.out _)) | (go_at_call 28; exact Calls.quiet_of (c5.out _)) | (go_at_call 18; exact Calls.quiet_of (c6.out _)) | (go_at_call 30; exact Calls.quiet_of (c7.out _))))
  go_wp2_with fail
  go_ret
  exact ⟨rfl, _, rfl⟩
theorem free_to (g : Nat) (x : Win) (f : Int) (w : World) (hv : IsW w g 46 x) (o : x.Ok) (e : freeI x = f) :
    Calls Try.prog 18 #[.pointer (some ⟨g, 0, none⟩)] w fun e w' => e = .returned (.int .i64 f) ∧ IsW w' g 46 x ∧ Upd w w' [] := by
  rw [← e]
  exact (free_w g x w hv o).mono fun e w' ⟨he, m, hm⟩ => ⟨he, hm ▸ hv, hm ▸ (Upd.refl _ _).drewN _⟩
theorem offer_to (g : Nat) (x : Win) (w : World) (hv : IsW w g 46 x) (o : x.Ok) :
    Calls Try.prog 28 #[.pointer (some ⟨g, 0, none⟩)] w fun e w' => e = .returned (.int .i64 (x.d + x.c)) ∧ IsW w' g 46 x ∧ Upd w w' [] :=
  (offer_w g x w hv o).mono fun e w' ⟨he, m, hm⟩ => ⟨he, hm ▸ hv, hm ▸ (Upd.refl _ _).drewN _⟩
theorem push_to (g : Nat) (x y : Win) (b : Bool) (w : World) (hv : IsW w g 46 x) (o : x.Ok) (e : pushB x = b ∧ pushW x = y) :
    Calls Try.prog 17 #[.pointer (some ⟨g, 0, none⟩)] w fun e w' => e = .returned (.bool b) ∧ IsW w' g 46 y ∧ Upd w w' [g] := by
  rw [← e.1, ← e.2]; exact push_w g x w hv o
theorem ack_to (g : Nat) (x y : Win) (i : Int) (b : Bool) (w : World) (hv : IsW w g 46 x) (o : x.Ok) (e : ackB x i = b ∧ ackW x i = y) :
    Calls Try.prog 10 #[.pointer (some ⟨g, 0, none⟩), .int .i64 i] w fun e w' => e = .returned (.bool b) ∧ IsW w' g 46 y ∧ Upd w w' [g] := by
  rw [← e.1, ← e.2]; exact ack_w g x i w hv o
theorem next_to (g : Nat) (x y : Win) (i : Int) (b : Bool) (w : World) (hv : IsW w g 46 x) (o : x.Ok) (e : nextI x = i ∧ nextB x = b ∧ nextW x = y) :
    Calls Try.prog 12 #[.pointer (some ⟨g, 0, none⟩)] w fun e w' => e = .returned (.tuple #[.int .i64 i, .bool b]) ∧ IsW w' g 46 y ∧ Upd w w' [g] := by
  rw [← e.1, ← e.2.1, ← e.2.2]; exact next_w g x w hv o
theorem grant_to (g : Nat) (x y : Win) (i : Int) (w : World) (hv : IsW w g 46 x) (o : x.Ok) (e : grantW x i = y) :
    Calls Try.prog 11 #[.pointer (some ⟨g, 0, none⟩), .int .i64 i] w fun e w' => e = .returned (.tuple #[]) ∧ IsW w' g 46 y ∧ Upd w w' [g] := by
  rw [← e]; exact grant_w g x i w hv o
theorem back_to (g : Nat) (x y : Win) (i : Int) (w : World) (hv : IsW w g 46 x) (o : x.Ok) (e : backW x i = y) :
    Calls Try.prog 15 #[.pointer (some ⟨g, 0, none⟩), .int .i64 i] w fun e w' => e = .returned (.tuple #[]) ∧ IsW w' g 46 y ∧ Upd w w' [g] := by
  rw [← e]; exact back_w g x i w hv o
theorem last_to (g : Nat) (x : Win) (w : World) (hv : IsW w g 46 x) (o : x.Ok) :
    Calls Try.prog 9 #[.pointer (some ⟨g, 0, none⟩)] w fun e w' => e = .returned (.int .i64 x.l) ∧ IsW w' g 46 x ∧ Upd w w' [] :=
  (last_w g x w hv o).mono fun e w' ⟨he, hm⟩ => ⟨he, hm ▸ hv, hm ▸ Upd.refl _ _⟩
theorem done_to (g : Nat) (x : Win) (w : World) (hv : IsW w g 46 x) (o : x.Ok) :
    Calls Try.prog 8 #[.pointer (some ⟨g, 0, none⟩)] w fun e w' => e = .returned (.int .i64 x.d) ∧ IsW w' g 46 x ∧ Upd w w' [] :=
  (done_w g x w hv o).mono fun e w' ⟨he, hm⟩ => ⟨he, hm ▸ hv, hm ▸ Upd.refl _ _⟩

set_option maxHeartbeats 2000000 in
theorem framed_any (w : World) : Calls Try.prog 6 #[] w fun e w' => e = .returned (.bool true) ∧ Upd w w' [] := by
  go_enter Try.func6, Try.ntmps6
  go_wp2_with fail
  refine (new_ok 2 3 2 _ (by decide) (by decide) (by decide) (by decide) (by decide)).mono ?_
  rintro e w1 ⟨g, rfl, hg, hv, u⟩
  replace hv := hide hv
  replace u := hide u
  go_wp2_with fail
  refine (free_to g ⟨2, 3, 2, 3, 0⟩ 1 _ hv.out (by constructor <;> decide) (by decide)).mono ?_
  rintro e w2 ⟨rfl, hv2, u2⟩
  replace hv := hide hv2
  replace u := hide (u.out.trans u2 (by simp; try omega))
  clear hv2 u2
  obtain ⟨w1, rfl⟩ : ∃ w1 : World, w1 = w2 := ⟨_, rfl⟩
  go_wp2_with fail
  refine (offer_to g ⟨2, 3, 2, 3, 0⟩ _ hv.out (by constructor <;> decide)).mono ?_
  rintro e w2 ⟨rfl, hv2, u2⟩
  replace hv := hide hv2
  replace u := hide (u.out.trans u2 (by simp; try omega))
  clear hv2 u2
  obtain ⟨w1, rfl⟩ : ∃ w1 : World, w1 = w2 := ⟨_, rfl⟩
  go_wp2_with fail
  refine (push_to g ⟨2, 3, 2, 3, 0⟩ ⟨2, 4, 2, 3, 0⟩ true _ hv.out (by constructor <;> decide) (by refine ⟨?_, ?_⟩ <;> rfl)).mono ?_
  rintro e w2 ⟨rfl, hv2, u2⟩
  replace hv := hide hv2
  replace u := hide (u.out.trans u2 (by simp; try omega))
  clear hv2 u2
  obtain ⟨w1, rfl⟩ : ∃ w1 : World, w1 = w2 := ⟨_, rfl⟩
  go_wp2_with fail
  refine (push_to g ⟨2, 4, 2, 3, 0⟩ ⟨2, 4, 2, 3, 0⟩ false _ hv.out (by constructor <;> decide) (by refine ⟨?_, ?_⟩ <;> rfl)).mono ?_
  rintro e w2 ⟨rfl, hv2, u2⟩
  replace hv := hide hv2
  replace u := hide (u.out.trans u2 (by simp; try omega))
  clear hv2 u2
  obtain ⟨w1, rfl⟩ : ∃ w1 : World, w1 = w2 := ⟨_, rfl⟩
  go_wp2_with fail
  refine (ack_to g ⟨2, 4, 2, 3, 0⟩ ⟨2, 4, 2, 3, 0⟩ 5 false _ hv.out (by constructor <;> decide) (by refine ⟨?_, ?_⟩ <;> rfl)).mono ?_
  rintro e w2 ⟨rfl, hv2, u2⟩
  replace hv := hide hv2
  replace u := hide (u.out.trans u2 (by simp; try omega))
  clear hv2 u2
  obtain ⟨w1, rfl⟩ : ∃ w1 : World, w1 = w2 := ⟨_, rfl⟩
  go_wp2_with fail
  refine (ack_to g ⟨2, 4, 2, 3, 0⟩ ⟨2, 4, 2, 3, 0⟩ 2 false _ hv.out (by constructor <;> decide) (by refine ⟨?_, ?_⟩ <;> rfl)).mono ?_
  rintro e w2 ⟨rfl, hv2, u2⟩
  replace hv := hide hv2
  replace u := hide (u.out.trans u2 (by simp; try omega))
  clear hv2 u2
  obtain ⟨w1, rfl⟩ : ∃ w1 : World, w1 = w2 := ⟨_, rfl⟩
  go_wp2_with fail
  refine (ack_to g ⟨2, 4, 2, 3, 0⟩ ⟨2, 4, 4, 3, 0⟩ 4 true _ hv.out (by constructor <;> decide) (by refine ⟨?_, ?_⟩ <;> rfl)).mono ?_
  rintro e w2 ⟨rfl, hv2, u2⟩
  replace hv := hide hv2
  replace u := hide (u.out.trans u2 (by simp; try omega))
  clear hv2 u2
  obtain ⟨w1, rfl⟩ : ∃ w1 : World, w1 = w2 := ⟨_, rfl⟩
  go_wp2_with fail
  refine (next_to g ⟨2, 4, 4, 3, 0⟩ ⟨2, 4, 4, 3, 0⟩ 0 false _ hv.out (by constructor <;> decide) (by refine ⟨?_, ?_, ?_⟩ <;> rfl)).mono ?_
  rintro e w2 ⟨rfl, hv2, u2⟩
  replace hv := hide hv2
  replace u := hide (u.out.trans u2 (by simp; try omega))
  clear hv2 u2
  obtain ⟨w1, rfl⟩ : ∃ w1 : World, w1 = w2 := ⟨_, rfl⟩
  go_wp2_with fail
  refine (grant_to g ⟨2, 4, 4, 3, 0⟩ ⟨2, 4, 4, 3, 4⟩ 4 _ hv.out (by constructor <;> decide) rfl).mono ?_
  rintro e w2 ⟨rfl, hv2, u2⟩
  replace hv := hide hv2
  replace u := hide (u.out.trans u2 (by simp; try omega))
  clear hv2 u2
  obtain ⟨w1, rfl⟩ : ∃ w1 : World, w1 = w2 := ⟨_, rfl⟩
  go_wp2_with fail
  refine (next_to g ⟨2, 4, 4, 3, 4⟩ ⟨2, 4, 4, 4, 4⟩ 4 true _ hv.out (by constructor <;> decide) (by refine ⟨?_, ?_, ?_⟩ <;> rfl)).mono ?_
  rintro e w2 ⟨rfl, hv2, u2⟩
  replace hv := hide hv2
  replace u := hide (u.out.trans u2 (by simp; try omega))
  clear hv2 u2
  obtain ⟨w1, rfl⟩ : ∃ w1 : World, w1 = w2 := ⟨_, rfl⟩
  go_wp2_with fail
  refine (next_to g ⟨2, 4, 4, 4, 4⟩ ⟨2, 4, 4, 4, 4⟩ 0 false _ hv.out (by constructor <;> decide) (by refine ⟨?_, ?_, ?_⟩ <;> rfl)).mono ?_
  rintro e w2 ⟨rfl, hv2, u2⟩
  replace hv := hide hv2
  replace u := hide (u.out.trans u2 (by simp; try omega))
  clear hv2 u2
  obtain ⟨w1, rfl⟩ : ∃ w1 : World, w1 = w2 := ⟨_, rfl⟩
  go_wp2_with fail
  refine (back_to g ⟨2, 4, 4, 4, 4⟩ ⟨2, 4, 4, 2, 4⟩ 2 _ hv.out (by constructor <;> decide) rfl).mono ?_
  rintro e w2 ⟨rfl, hv2, u2⟩
  replace hv := hide hv2
  replace u := hide (u.out.trans u2 (by simp; try omega))
  clear hv2 u2
  obtain ⟨w1, rfl⟩ : ∃ w1 : World, w1 = w2 := ⟨_, rfl⟩
  go_wp2_with fail
  refine (next_to g ⟨2, 4, 4, 2, 4⟩ ⟨2, 4, 4, 3, 4⟩ 3 true _ hv.out (by constructor <;> decide) (by refine ⟨?_, ?_, ?_⟩ <;> rfl)).mono ?_
  rintro e w2 ⟨rfl, hv2, u2⟩
  replace hv := hide hv2
  replace u := hide (u.out.trans u2 (by simp; try omega))
  clear hv2 u2
  obtain ⟨w1, rfl⟩ : ∃ w1 : World, w1 = w2 := ⟨_, rfl⟩
  go_wp2_with fail
  refine (last_to g ⟨2, 4, 4, 3, 4⟩ _ hv.out (by constructor <;> decide)).mono ?_
  rintro e w2 ⟨rfl, hv2, u2⟩
  replace hv := hide hv2
  replace u := hide (u.out.trans u2 (by simp; try omega))
  clear hv2 u2
  obtain ⟨w1, rfl⟩ : ∃ w1 : World, w1 = w2 := ⟨_, rfl⟩
  go_wp2_with fail
  refine (done_to g ⟨2, 4, 4, 3, 4⟩ _ hv.out (by constructor <;> decide)).mono ?_
  rintro e w2 ⟨rfl, hv2, u2⟩
  replace hv := hide hv2
  replace u := hide (u.out.trans u2 (by simp; try omega))
  clear hv2 u2
  obtain ⟨w1, rfl⟩ : ∃ w1 : World, w1 = w2 := ⟨_, rfl⟩
  go_wp2_with fail
  go_ret
  exact ⟨rfl, u.out⟩
end Go.Proofs.Ytbknneacegdcaaa
