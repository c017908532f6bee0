/- The walks of the layer windows. -/
import Derived.Test.YtbknneacegdcaaaRows
import Derived.Test.YtbknneacegdcaaaBase
namespace Go.Proofs.Ytbknneacegdcaaa
open Go.RowKit
set_option linter.unusedVariables false

/-- a window: its capacity, and its four indices -/
structure Win where
  c : Int
  l : Int
  d : Int
  s : Int
  m : Int
def Win.arr (x : Win) : Array Value := #[.int .i64 x.c, .int .i64 x.l, .int .i64 x.d, .int .i64 x.s, .int .i64 x.m]
def IsW (w : World) (g t : Nat) (x : Win) : Prop := Blk w g t x.arr
structure Win.Ok (x : Win) : Prop where
  c1 : 1 ≤ x.c
  c2 : x.c ≤ 16
  d1 : 0 ≤ x.d
  d2 : x.d ≤ x.l
  l2 : x.l ≤ 4096
  s1 : 0 ≤ x.s
  s2 : x.s ≤ x.l
  m1 : 0 ≤ x.m
  m2 : x.m ≤ 4112
def ackB (x : Win) (i : Int) : Bool := decide (x.d < i ∧ i ≤ x.l)
def ackW (x : Win) (i : Int) : Win := if x.d < i ∧ i ≤ x.l then { x with d := i } else x
def grantW (x : Win) (i : Int) : Win := { x with m := max x.m (min i 4112) }
def nextB (x : Win) : Bool := decide (x.s < x.l ∧ x.s < x.m)
def nextI (x : Win) : Int := if x.s < x.l ∧ x.s < x.m then x.s + 1 else 0
def nextW (x : Win) : Win := if x.s < x.l ∧ x.s < x.m then { x with s := x.s + 1 } else x
def backW (x : Win) (i : Int) : Win := { x with s := min (max i 0) x.l }
def renewW (x : Win) : Win := { x with s := x.l, m := 0 }
def freeI (x : Win) : Int := max (min (x.d + x.c) 4096 - x.l) 0
def pushB (x : Win) : Bool := decide (0 < freeI x)
def pushW (x : Win) : Win := if 0 < freeI x then { x with l := x.l + 1 } else x
theorem ack_ok {x : Win} (h : x.Ok) (i : Int) : (ackW x i).Ok := by
  obtain ⟨h1, h2, h3, h4, h5, h6, h7, h8, h9⟩ := h
  unfold ackW; split <;> constructor <;> simp_all <;> omega
theorem grant_ok {x : Win} (h : x.Ok) (i : Int) : (grantW x i).Ok := by
  obtain ⟨h1, h2, h3, h4, h5, h6, h7, h8, h9⟩ := h
  unfold grantW; constructor <;> simp_all <;> omega
theorem next_ok {x : Win} (h : x.Ok) : (nextW x).Ok := by
  obtain ⟨h1, h2, h3, h4, h5, h6, h7, h8, h9⟩ := h
  unfold nextW; split <;> constructor <;> simp_all <;> omega
theorem back_ok {x : Win} (h : x.Ok) (i : Int) : (backW x i).Ok := by
  obtain ⟨h1, h2, h3, h4, h5, h6, h7, h8, h9⟩ := h
  unfold backW; constructor <;> simp_all <;> omega
theorem renew_ok {x : Win} (h : x.Ok) : (renewW x).Ok := by
  obtain ⟨h1, h2, h3, h4, h5, h6, h7, h8, h9⟩ := h
  unfold renewW; constructor <;> simp_all <;> omega
theorem push_ok {x : Win} (h : x.Ok) : (pushW x).Ok := by
  obtain ⟨h1, h2, h3, h4, h5, h6, h7, h8, h9⟩ := h
  unfold pushW freeI; split <;> constructor <;> simp_all <;> omega
section
variable {w w' : World} {g t : Nat} {x : Win}
theorem IsW.f0 (h : IsW w g t x) : w.cell? ⟨g, 0, none⟩ = some (.int .i64 x.c) := by rw [Blk.cell h]; rfl
theorem IsW.f1 (h : IsW w g t x) : w.cell? ⟨g, 1, none⟩ = some (.int .i64 x.l) := by rw [Blk.cell h]; rfl
theorem IsW.f2 (h : IsW w g t x) : w.cell? ⟨g, 2, none⟩ = some (.int .i64 x.d) := by rw [Blk.cell h]; rfl
theorem IsW.f3 (h : IsW w g t x) : w.cell? ⟨g, 3, none⟩ = some (.int .i64 x.s) := by rw [Blk.cell h]; rfl
theorem IsW.f4 (h : IsW w g t x) : w.cell? ⟨g, 4, none⟩ = some (.int .i64 x.m) := by rw [Blk.cell h]; rfl
theorem IsW.set1 (h : IsW w g t x) (v : Int) : IsW (w.setCell ⟨g, 1, none⟩ (.int .i64 v)) g t { x with l := v } := Blk.congr (Blk.set_ h 1 _) rfl
theorem IsW.set2 (h : IsW w g t x) (v : Int) : IsW (w.setCell ⟨g, 2, none⟩ (.int .i64 v)) g t { x with d := v } := Blk.congr (Blk.set_ h 2 _) rfl
theorem IsW.set3 (h : IsW w g t x) (v : Int) : IsW (w.setCell ⟨g, 3, none⟩ (.int .i64 v)) g t { x with s := v } := Blk.congr (Blk.set_ h 3 _) rfl
theorem IsW.set4 (h : IsW w g t x) (v : Int) : IsW (w.setCell ⟨g, 4, none⟩ (.int .i64 v)) g t { x with m := v } := Blk.congr (Blk.set_ h 4 _) rfl
theorem IsW.upd {S : List Nat} (h : IsW w g t x) (u : Upd w w' S) (hg : g ∉ S) : IsW w' g t x := u.blk h hg
theorem IsW.to {y : Win} (h : IsW w g t x) (e : x = y) : IsW w g t y := e ▸ h
theorem IsW.fr (h : IsW w g t x) (i : Nat) : w.frozen? ⟨g, i, none⟩ = false := Blk.frozen h i
theorem upd1 (w : World) (g i : Nat) (v : Value) : Upd w (w.setCell ⟨g, i, none⟩ v) [g] := (Upd.refl w [g]).setCell (by simp) v
end

theorem none_no (g : Nat) (c : Int) (w : World) (h0 : w.cell? ⟨g, 0, none⟩ = some (.int .i64 c)) (hc : 1 ≤ c) :
    Calls Try.prog 29 #[.pointer (some ⟨g, 0, none⟩)] w fun e w' => e = .returned (.bool false) ∧ w = w' := by
  have hcb : (c == 0) = false := by simp; omega
  go_enter Try.func29, Try.ntmps29
  go_wp2
  go_ret
  exact ⟨rfl, rfl⟩
theorem none_zero (g : Nat) (w : World) (h0 : w.cell? ⟨g, 0, none⟩ = some (.int .i64 0)) :
    Calls Try.prog 29 #[.pointer (some ⟨g, 0, none⟩)] w fun e w' => e = .returned (.bool true) ∧ w = w' := by
  go_enter Try.func29, Try.ntmps29
  go_wp2
  go_ret
  exact ⟨rfl, rfl⟩
theorem none_nil (w : World) :
    Calls Try.prog 29 #[.pointer none] w fun e w' => e = .returned (.bool true) ∧ w = w' := by
  go_enter Try.func29, Try.ntmps29
  go_wp2
  go_ret
  exact ⟨rfl, rfl⟩
theorem done_w (g : Nat) (x : Win) (w : World) (h : IsW w g 46 x) (o : x.Ok) :
    Calls Try.prog 8 #[.pointer (some ⟨g, 0, none⟩)] w fun e w' => e = .returned (.int .i64 x.d) ∧ w = w' := by
  have h0 := h.f0
  have hi := h.f2
  replace h := hide h
  go_enter Try.func8, Try.ntmps8
  go_wp2_with fail
  refine (none_no _ _ _ h0 o.c1).mono ?_
  rintro e w' ⟨rfl, rfl⟩
  go_wp2_with fail
  go_ret
  exact ⟨rfl, rfl⟩
theorem last_w (g : Nat) (x : Win) (w : World) (h : IsW w g 46 x) (o : x.Ok) :
    Calls Try.prog 9 #[.pointer (some ⟨g, 0, none⟩)] w fun e w' => e = .returned (.int .i64 x.l) ∧ w = w' := by
  have h0 := h.f0
  have hi := h.f1
  replace h := hide h
  go_enter Try.func9, Try.ntmps9
  go_wp2_with fail
  refine (none_no _ _ _ h0 o.c1).mono ?_
  rintro e w' ⟨rfl, rfl⟩
  go_wp2_with fail
  go_ret
  exact ⟨rfl, rfl⟩
theorem limit_w (g : Nat) (x : Win) (w : World) (h : IsW w g 46 x) (o : x.Ok) :
    Calls Try.prog 13 #[.pointer (some ⟨g, 0, none⟩)] w fun e w' => e = .returned (.int .i64 x.m) ∧ w = w' := by
  have h0 := h.f0
  have hi := h.f4
  replace h := hide h
  go_enter Try.func13, Try.ntmps13
  go_wp2_with fail
  refine (none_no _ _ _ h0 o.c1).mono ?_
  rintro e w' ⟨rfl, rfl⟩
  go_wp2_with fail
  go_ret
  exact ⟨rfl, rfl⟩
theorem sent_w (g : Nat) (x : Win) (w : World) (h : IsW w g 46 x) (o : x.Ok) :
    Calls Try.prog 14 #[.pointer (some ⟨g, 0, none⟩)] w fun e w' => e = .returned (.int .i64 x.s) ∧ w = w' := by
  have h0 := h.f0
  have hi := h.f3
  replace h := hide h
  go_enter Try.func14, Try.ntmps14
  go_wp2_with fail
  refine (none_no _ _ _ h0 o.c1).mono ?_
  rintro e w' ⟨rfl, rfl⟩
  go_wp2_with fail
  go_ret
  exact ⟨rfl, rfl⟩
theorem done_nil (w : World) :
    Calls Try.prog 8 #[.pointer none] w fun e w' => e = .returned (.int .i64 0) ∧ w = w' := by
  go_enter Try.func8, Try.ntmps8
  go_wp2_with fail
  refine (none_nil _).mono ?_
  rintro e w' ⟨rfl, rfl⟩
  go_wp2_with fail
  go_ret
  exact ⟨rfl, rfl⟩
theorem done_zero (w : World) (g : Nat) (h0 : w.cell? ⟨g, 0, none⟩ = some (.int .i64 0)) :
    Calls Try.prog 8 #[.pointer (some ⟨g, 0, none⟩)] w fun e w' => e = .returned (.int .i64 0) ∧ w = w' := by
  go_enter Try.func8, Try.ntmps8
  go_wp2_with fail
  refine (none_zero _ _ h0).mono ?_
  rintro e w' ⟨rfl, rfl⟩
  go_wp2_with fail
  go_ret
  exact ⟨rfl, rfl⟩
theorem last_nil (w : World) :
    Calls Try.prog 9 #[.pointer none] w fun e w' => e = .returned (.int .i64 0) ∧ w = w' := by
  go_enter Try.func9, Try.ntmps9
  go_wp2_with fail
  refine (none_nil _).mono ?_
  rintro e w' ⟨rfl, rfl⟩
  go_wp2_with fail
  go_ret
  exact ⟨rfl, rfl⟩
theorem last_zero (w : World) (g : Nat) (h0 : w.cell? ⟨g, 0, none⟩ = some (.int .i64 0)) :
    Calls Try.prog 9 #[.pointer (some ⟨g, 0, none⟩)] w fun e w' => e = .returned (.int .i64 0) ∧ w = w' := by
  go_enter Try.func9, Try.ntmps9
  go_wp2_with fail
  refine (none_zero _ _ h0).mono ?_
  rintro e w' ⟨rfl, rfl⟩
  go_wp2_with fail
  go_ret
  exact ⟨rfl, rfl⟩
theorem limit_nil (w : World) :
    Calls Try.prog 13 #[.pointer none] w fun e w' => e = .returned (.int .i64 0) ∧ w = w' := by
  go_enter Try.func13, Try.ntmps13
  go_wp2_with fail
  refine (none_nil _).mono ?_
  rintro e w' ⟨rfl, rfl⟩
  go_wp2_with fail
  go_ret
  exact ⟨rfl, rfl⟩
theorem limit_zero (w : World) (g : Nat) (h0 : w.cell? ⟨g, 0, none⟩ = some (.int .i64 0)) :
    Calls Try.prog 13 #[.pointer (some ⟨g, 0, none⟩)] w fun e w' => e = .returned (.int .i64 0) ∧ w = w' := by
  go_enter Try.func13, Try.ntmps13
  go_wp2_with fail
  refine (none_zero _ _ h0).mono ?_
  rintro e w' ⟨rfl, rfl⟩
  go_wp2_with fail
  go_ret
  exact ⟨rfl, rfl⟩
theorem sent_nil (w : World) :
    Calls Try.prog 14 #[.pointer none] w fun e w' => e = .returned (.int .i64 0) ∧ w = w' := by
  go_enter Try.func14, Try.ntmps14
  go_wp2_with fail
  refine (none_nil _).mono ?_
  rintro e w' ⟨rfl, rfl⟩
  go_wp2_with fail
  go_ret
  exact ⟨rfl, rfl⟩
theorem sent_zero (w : World) (g : Nat) (h0 : w.cell? ⟨g, 0, none⟩ = some (.int .i64 0)) :
    Calls Try.prog 14 #[.pointer (some ⟨g, 0, none⟩)] w fun e w' => e = .returned (.int .i64 0) ∧ w = w' := by
  go_enter Try.func14, Try.ntmps14
  go_wp2_with fail
  refine (none_zero _ _ h0).mono ?_
  rintro e w' ⟨rfl, rfl⟩
  go_wp2_with fail
  go_ret
  exact ⟨rfl, rfl⟩
theorem offer_nil (w : World) :
    Calls Try.prog 28 #[.pointer none] w fun e w' => e = .returned (.int .i64 0) ∧ w = w' := by
  go_enter Try.func28, Try.ntmps28
  go_wp2_with fail
  refine (none_nil _).mono ?_
  rintro e w' ⟨rfl, rfl⟩
  go_wp2_with fail
  go_ret
  exact ⟨rfl, rfl⟩
theorem offer_zero (w : World) (g : Nat) (h0 : w.cell? ⟨g, 0, none⟩ = some (.int .i64 0)) :
    Calls Try.prog 28 #[.pointer (some ⟨g, 0, none⟩)] w fun e w' => e = .returned (.int .i64 0) ∧ w = w' := by
  go_enter Try.func28, Try.ntmps28
  go_wp2_with fail
  refine (none_zero _ _ h0).mono ?_
  rintro e w' ⟨rfl, rfl⟩
  go_wp2_with fail
  go_ret
  exact ⟨rfl, rfl⟩
theorem free_nil (w : World) :
    Calls Try.prog 18 #[.pointer none] w fun e w' => e = .returned (.int .i64 0) ∧ w = w' := by
  go_enter Try.func18, Try.ntmps18
  go_wp2_with fail
  refine (none_nil _).mono ?_
  rintro e w' ⟨rfl, rfl⟩
  go_wp2_with fail
  go_ret
  exact ⟨rfl, rfl⟩
theorem free_zero (w : World) (g : Nat) (h0 : w.cell? ⟨g, 0, none⟩ = some (.int .i64 0)) :
    Calls Try.prog 18 #[.pointer (some ⟨g, 0, none⟩)] w fun e w' => e = .returned (.int .i64 0) ∧ w = w' := by
  go_enter Try.func18, Try.ntmps18
  go_wp2_with fail
  refine (none_zero _ _ h0).mono ?_
  rintro e w' ⟨rfl, rfl⟩
  go_wp2_with fail
  go_ret
  exact ⟨rfl, rfl⟩
theorem ack_nil (i : Int) (w : World) :
    Calls Try.prog 10 #[.pointer none, .int .i64 i] w fun e w' => e = .returned (.bool false) ∧ w = w' := by
  go_enter Try.func10, Try.ntmps10
  go_wp2_with fail
  refine (none_nil _).mono ?_
  rintro e w' ⟨rfl, rfl⟩
  go_wp2_with fail
  go_ret
  exact ⟨rfl, rfl⟩
theorem ack_zero (i : Int) (w : World) (g : Nat) (h0 : w.cell? ⟨g, 0, none⟩ = some (.int .i64 0)) :
    Calls Try.prog 10 #[.pointer (some ⟨g, 0, none⟩), .int .i64 i] w fun e w' => e = .returned (.bool false) ∧ w = w' := by
  go_enter Try.func10, Try.ntmps10
  go_wp2_with fail
  refine (none_zero _ _ h0).mono ?_
  rintro e w' ⟨rfl, rfl⟩
  go_wp2_with fail
  go_ret
  exact ⟨rfl, rfl⟩
theorem grant_nil (i : Int) (w : World) :
    Calls Try.prog 11 #[.pointer none, .int .i64 i] w fun e w' => e = .returned (.tuple #[]) ∧ w = w' := by
  go_enter Try.func11, Try.ntmps11
  go_wp2_with fail
  refine (none_nil _).mono ?_
  rintro e w' ⟨rfl, rfl⟩
  go_wp2_with fail
  refine bodyPost_ret (results_none rfl _ _ _) rfl ?_
  exact ⟨rfl, rfl⟩
theorem grant_zero (i : Int) (w : World) (g : Nat) (h0 : w.cell? ⟨g, 0, none⟩ = some (.int .i64 0)) :
    Calls Try.prog 11 #[.pointer (some ⟨g, 0, none⟩), .int .i64 i] w fun e w' => e = .returned (.tuple #[]) ∧ w = w' := by
  go_enter Try.func11, Try.ntmps11
  go_wp2_with fail
  refine (none_zero _ _ h0).mono ?_
  rintro e w' ⟨rfl, rfl⟩
  go_wp2_with fail
  refine bodyPost_ret (results_none rfl _ _ _) rfl ?_
  exact ⟨rfl, rfl⟩
theorem back_nil (i : Int) (w : World) :
    Calls Try.prog 15 #[.pointer none, .int .i64 i] w fun e w' => e = .returned (.tuple #[]) ∧ w = w' := by
  go_enter Try.func15, Try.ntmps15
  go_wp2_with fail
  refine (none_nil _).mono ?_
  rintro e w' ⟨rfl, rfl⟩
  go_wp2_with fail
  refine bodyPost_ret (results_none rfl _ _ _) rfl ?_
  exact ⟨rfl, rfl⟩
theorem back_zero (i : Int) (w : World) (g : Nat) (h0 : w.cell? ⟨g, 0, none⟩ = some (.int .i64 0)) :
    Calls Try.prog 15 #[.pointer (some ⟨g, 0, none⟩), .int .i64 i] w fun e w' => e = .returned (.tuple #[]) ∧ w = w' := by
  go_enter Try.func15, Try.ntmps15
  go_wp2_with fail
  refine (none_zero _ _ h0).mono ?_
  rintro e w' ⟨rfl, rfl⟩
  go_wp2_with fail
  refine bodyPost_ret (results_none rfl _ _ _) rfl ?_
  exact ⟨rfl, rfl⟩
theorem renew_nil (w : World) :
    Calls Try.prog 16 #[.pointer none] w fun e w' => e = .returned (.tuple #[]) ∧ w = w' := by
  go_enter Try.func16, Try.ntmps16
  go_wp2_with fail
  refine (none_nil _).mono ?_
  rintro e w' ⟨rfl, rfl⟩
  go_wp2_with fail
  refine bodyPost_ret (results_none rfl _ _ _) rfl ?_
  exact ⟨rfl, rfl⟩
theorem renew_zero (w : World) (g : Nat) (h0 : w.cell? ⟨g, 0, none⟩ = some (.int .i64 0)) :
    Calls Try.prog 16 #[.pointer (some ⟨g, 0, none⟩)] w fun e w' => e = .returned (.tuple #[]) ∧ w = w' := by
  go_enter Try.func16, Try.ntmps16
  go_wp2_with fail
  refine (none_zero _ _ h0).mono ?_
  rintro e w' ⟨rfl, rfl⟩
  go_wp2_with fail
  refine bodyPost_ret (results_none rfl _ _ _) rfl ?_
  exact ⟨rfl, rfl⟩
theorem copy_nil (w : World) :
    Calls Try.prog 25 #[.pointer none] w fun e w' => e = .returned (.pointer none) ∧ w = w' := by
  go_enter Try.func25, Try.ntmps25
  go_wp2_with fail
  refine (none_nil _).mono ?_
  rintro e w' ⟨rfl, rfl⟩
  go_wp2_with fail
  go_ret
  exact ⟨rfl, rfl⟩
theorem copy_zero (w : World) (g : Nat) (h0 : w.cell? ⟨g, 0, none⟩ = some (.int .i64 0)) :
    Calls Try.prog 25 #[.pointer (some ⟨g, 0, none⟩)] w fun e w' => e = .returned (.pointer none) ∧ w = w' := by
  go_enter Try.func25, Try.ntmps25
  go_wp2_with fail
  refine (none_zero _ _ h0).mono ?_
  rintro e w' ⟨rfl, rfl⟩
  go_wp2_with fail
  go_ret
  exact ⟨rfl, rfl⟩
end Go.Proofs.Ytbknneacegdcaaa
