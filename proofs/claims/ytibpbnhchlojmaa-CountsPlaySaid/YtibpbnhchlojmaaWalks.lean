/- The walks of the layer counts. -/
import Derived.Test.YtibpbnhchlojmaaRows
import Derived.Test.YtibpbnhchlojmaaBase
import Derived.Outline
namespace Go.Proofs.Ytibpbnhchlojmaa
open Go.RowKit
set_option linter.unusedVariables false

/-- block g is counters, whose numbers lie in block h -/
def Cnt (w : World) (g h : Nat) (l : List Int) : Prop := Blk w g 45 #[.slice (some ⟨h, 0, none⟩) l.length l.length] ∧ Blk w h 51 (l.map (Value.int .i64)).toArray
theorem Cnt.ne {w : World} {g h : Nat} {l : List Int} (c : Cnt w g h l) : ¬ g = h := c.1.ne_ c.2 (by decide)
theorem Cnt.at_ {w : World} {g h : Nat} {l : List Int} (c : Cnt w g h l) (i : Nat) (hi : i < l.length) : w.cell? ⟨h, i, none⟩ = some (.int .i64 (l[i]?.getD 0)) := by
  rw [c.2.cell]; simp [hi]
theorem Cnt.upd {w w' : World} {g h : Nat} {l : List Int} {S : List Nat} (c : Cnt w g h l) (u : Upd w w' S) (hg : g ∉ S) (hh : h ∉ S) : Cnt w' g h l := ⟨u.blk c.1 hg, u.blk c.2 hh⟩
theorem Cnt.set_ {w : World} {g h : Nat} {l : List Int} (c : Cnt w g h l) (i : Nat) (v : Int) : Cnt (w.setCell ⟨h, i, none⟩ (.int .i64 v)) g h (l.set i v) := by
  refine ⟨?_, ?_⟩
  · have := c.1.far (p := ⟨h, i, none⟩) c.ne (.int .i64 v)
    simpa using this
  · exact (c.2.set_ i (.int .i64 v)).congr (by simp)

theorem load_at (a : Addr) (x : Int) (w : World) (h0 : w.cell? a = some (.int .i64 x)) :
    Calls Try.prog 16 #[.pointer (some a)] w fun e w' => e = .returned (.int .i64 x) ∧ w = w' := by
  have hl := run_call_load (P := Try.prog) Try.func19 (by kernel_rfl) (by kernel_rfl) (by kernel_rfl) .i64 (by kernel_rfl) h0
  go_enter Try.func16, Try.ntmps16
  go_wp2
  go_ret
  exact ⟨rfl, rfl⟩
theorem store_at (a : Addr) (x y : Int) (w : World) (h0 : w.cell? a = some (.int .i64 x)) (f0 : w.frozen? a = false) :
    Calls Try.prog 18 #[.pointer (some a), .int .i64 y] w fun e w' => e = .returned (.tuple #[]) ∧ w.setCell a (.int .i64 y) = w' := by
  have hl := run_call_store (P := Try.prog) Try.func21 (by kernel_rfl) (by kernel_rfl) (by kernel_rfl) (by kernel_rfl) (k := .i64) (y := y) h0 f0
  go_enter Try.func18, Try.ntmps18
  go_wp2
  go_end0
  exact ⟨rfl, rfl⟩
theorem cas_at (a : Addr) (x y : Int) (w : World) (h0 : w.cell? a = some (.int .i64 x)) (f0 : w.frozen? a = false) :
    Calls Try.prog 17 #[.pointer (some a), .int .i64 x, .int .i64 y] w fun e w' => e = .returned (.bool true) ∧ w.setCell a (.int .i64 y) = w' := by
  have hl := run_call_cas_hit (P := Try.prog) Try.func20 (by kernel_rfl) (by kernel_rfl) (by kernel_rfl) .i64 (by kernel_rfl) (y := y) h0 f0
  go_enter Try.func17, Try.ntmps17
  go_wp2
  go_ret
  exact ⟨rfl, rfl⟩
theorem none_no (g h : Nat) (n : Nat) (w : World) (h0 : w.cell? ⟨g, 0, none⟩ = some (.slice (some ⟨h, 0, none⟩) n n)) :
    Calls Try.prog 15 #[.pointer (some ⟨g, 0, none⟩)] w fun e w' => e = .returned (.bool false) ∧ w = w' := by
  have hs := fun (a : Option Addr) (n c : Nat) (w : World) => Lib.run_eql_slice_nil (P := Try.prog) w 43 51 a n c 0 0 Try.underlying43
  go_enter Try.func15, Try.ntmps15
  go_wp2
  go_ret
  exact ⟨rfl, rfl⟩
theorem none_empty (g : Nat) (w : World) (h0 : w.cell? ⟨g, 0, none⟩ = some (.slice none 0 0)) :
    Calls Try.prog 15 #[.pointer (some ⟨g, 0, none⟩)] w fun e w' => e = .returned (.bool true) ∧ w = w' := by
  have hs := fun (a : Option Addr) (n c : Nat) (w : World) => Lib.run_eql_slice_nil (P := Try.prog) w 43 51 a n c 0 0 Try.underlying43
  go_enter Try.func15, Try.ntmps15
  go_wp2
  go_ret
  exact ⟨rfl, rfl⟩
theorem none_nil (w : World) :
    Calls Try.prog 15 #[.pointer none] w fun e w' => e = .returned (.bool true) ∧ w = w' := by
  go_enter Try.func15, Try.ntmps15
  go_wp2
  go_ret
  exact ⟨rfl, rfl⟩
theorem new_bad (n : Int) (w : World) (h : n < 1 ∨ 64 < n) :
    Calls Try.prog 7 #[.int .i64 n] w fun e w' => e = .returned (.tuple #[.pointer none, .int .i64 2]) ∧ w = w' := by
  by_cases h1 : n < 1
  · clear h
    go_enter Try.func7, Try.ntmps7
    go_wp2
    go_ret2
    exact ⟨rfl, rfl⟩
  · have h2 : 64 < n := by omega
    clear h
    go_enter Try.func7, Try.ntmps7
    go_wp2
    go_ret2
    exact ⟨rfl, rfl⟩
theorem info51 : (Try.prog.info? 51).map (fun i => (i.zero, i.size, i.bytes)) = some (some (.agg #[.int .i64 0]), 1, 8) := by kernel_rfl
theorem new_ok (n : Nat) (w : World) (h1 : 1 ≤ n) (h2 : n ≤ 64) :
    Calls Try.prog 7 #[.int .i64 (n : Int)] w fun e w' => ∃ g h, e = .returned (.tuple #[.pointer (some ⟨g, 0, none⟩), .int .i64 0]) ∧ w.heap.size ≤ g ∧ w.heap.size ≤ h ∧ Cnt w' g h (List.replicate n 0) ∧ Upd w w' [] := by
  have hmk := run_make_row1 (P := Try.prog) 43 51 (v := .int .i64 0) rfl Try.underlying43 info51 n (by omega) (by omega)
  go_enter Try.func7, Try.ntmps7
  go_wp2
  go_ret2
  refine ⟨w.heap.size + 1, w.heap.size, rfl, by omega, by omega, ⟨?_, ?_⟩, ((Upd.refl w []).alloc _).alloc _⟩
  · have := Blk.new (w.alloc (.cells (Array.replicate n (.int .i64 0)) 51)) 45 #[.slice (some ⟨w.heap.size, 0, none⟩) n n]
    simpa using this
  · have := (Blk.new w 51 (Array.replicate n (.int .i64 0))).alloc (.cells #[.slice (some ⟨w.heap.size, 0, none⟩) n n] 45)
    simpa using this
theorem add_ok (g h i : Nat) (l : List Int) (y v : Int) (w : World) (c : Cnt w g h l) (hi : i < l.length) (hlen : l.length ≤ 64) (hy : 0 ≤ y) (hy2 : y ≤ 9223372036854775807) (hl0 : 0 ≤ l[i]?.getD 0) (hl1 : l[i]?.getD 0 ≤ 4611686018427387904)
    (hv : v = l[i]?.getD 0 + min y (4611686018427387904 - l[i]?.getD 0)) :
    Calls Try.prog 8 #[.pointer (some ⟨g, 0, none⟩), .int .i64 (i : Int), .int .i64 y] w fun e w' => e = .returned (.tuple #[.int .i64 v, .int .i64 0]) ∧ Cnt w' g h (l.set i v) ∧ Upd w w' [h] := by
  have hx := c.at_ i hi
  have h0 : w.cell? ⟨g, 0, none⟩ = some (.slice (some ⟨h, 0, none⟩) l.length l.length) := by rw [c.1.cell]; rfl
  have hf := c.2.frozen i
  generalize l[i]?.getD 0 = x at *
  have C := hide c
  clear c
  by_cases hm : 4611686018427387904 - x < y
  · obtain rfl : v = x + (4611686018427387904 - x) := by omega
    clear hv
    go_enter Try.func8, Try.ntmps8
    go_wp2_with fail
    refine (none_no _ _ _ _ h0).mono ?_
    rintro e w' ⟨rfl, rfl⟩
    go_wp2_with fail
    apply wp_loop_once
    go_wp2_with fail
    refine (load_at _ _ _ hx).mono ?_
    rintro e w' ⟨rfl, rfl⟩
    go_wp2_with fail
    refine (cas_at _ _ _ _ hx hf).mono ?_
    rintro e w' ⟨rfl, rfl⟩
    go_wp2_with fail
    go_ret2
    exact ⟨rfl, C.out.set_ i _, (Upd.refl _ _).setCell (by simp) _⟩
  · obtain rfl : v = x + y := by omega
    clear hv
    go_enter Try.func8, Try.ntmps8
    go_wp2_with fail
    refine (none_no _ _ _ _ h0).mono ?_
    rintro e w' ⟨rfl, rfl⟩
    go_wp2_with fail
    apply wp_loop_once
    go_wp2_with fail
    refine (load_at _ _ _ hx).mono ?_
    rintro e w' ⟨rfl, rfl⟩
    go_wp2_with fail
    refine (cas_at _ _ _ _ hx hf).mono ?_
    rintro e w' ⟨rfl, rfl⟩
    go_wp2_with fail
    go_ret2
    exact ⟨rfl, C.out.set_ i _, (Upd.refl _ _).setCell (by simp) _⟩
theorem add_neg (g h : Nat) (n : Nat) (i y : Int) (w : World) (h0 : w.cell? ⟨g, 0, none⟩ = some (.slice (some ⟨h, 0, none⟩) n n)) (hy : y < 0) :
    Calls Try.prog 8 #[.pointer (some ⟨g, 0, none⟩), .int .i64 i, .int .i64 y] w fun e w' => e = .returned (.tuple #[.int .i64 0, .int .i64 2]) ∧ w = w' := by
  go_enter Try.func8, Try.ntmps8
  go_wp2_with fail
  refine (none_no _ _ _ _ h0).mono ?_
  rintro e w' ⟨rfl, rfl⟩
  go_wp2_with fail
  go_ret2
  exact ⟨rfl, rfl⟩
theorem add_low (g h : Nat) (n : Nat) (i y : Int) (w : World) (h0 : w.cell? ⟨g, 0, none⟩ = some (.slice (some ⟨h, 0, none⟩) n n)) (hy : 0 ≤ y) (hi : i < 0) :
    Calls Try.prog 8 #[.pointer (some ⟨g, 0, none⟩), .int .i64 i, .int .i64 y] w fun e w' => e = .returned (.tuple #[.int .i64 0, .int .i64 4]) ∧ w = w' := by
  go_enter Try.func8, Try.ntmps8
  go_wp2_with fail
  refine (none_no _ _ _ _ h0).mono ?_
  rintro e w' ⟨rfl, rfl⟩
  go_wp2_with fail
  go_ret2
  exact ⟨rfl, rfl⟩
theorem add_high (g h : Nat) (n : Nat) (i y : Int) (w : World) (h0 : w.cell? ⟨g, 0, none⟩ = some (.slice (some ⟨h, 0, none⟩) n n)) (hy : 0 ≤ y) (hi0 : 0 ≤ i) (hi : (n : Int) ≤ i) :
    Calls Try.prog 8 #[.pointer (some ⟨g, 0, none⟩), .int .i64 i, .int .i64 y] w fun e w' => e = .returned (.tuple #[.int .i64 0, .int .i64 4]) ∧ w = w' := by
  go_enter Try.func8, Try.ntmps8
  go_wp2_with fail
  refine (none_no _ _ _ _ h0).mono ?_
  rintro e w' ⟨rfl, rfl⟩
  go_wp2_with fail
  go_ret2
  exact ⟨rfl, rfl⟩
theorem add_nil (i y : Int) (w : World) :
    Calls Try.prog 8 #[.pointer none, .int .i64 i, .int .i64 y] w fun e w' => e = .returned (.tuple #[.int .i64 0, .int .i64 1]) ∧ w = w' := by
  go_enter Try.func8, Try.ntmps8
  go_wp2_with fail
  refine (none_nil _).mono ?_
  rintro e w' ⟨rfl, rfl⟩
  go_wp2_with fail
  go_ret2
  exact ⟨rfl, rfl⟩
theorem add_empty (g : Nat) (i y : Int) (w : World) (h0 : w.cell? ⟨g, 0, none⟩ = some (.slice none 0 0)) :
    Calls Try.prog 8 #[.pointer (some ⟨g, 0, none⟩), .int .i64 i, .int .i64 y] w fun e w' => e = .returned (.tuple #[.int .i64 0, .int .i64 1]) ∧ w = w' := by
  go_enter Try.func8, Try.ntmps8
  go_wp2_with fail
  refine (none_empty _ _ h0).mono ?_
  rintro e w' ⟨rfl, rfl⟩
  go_wp2_with fail
  go_ret2
  exact ⟨rfl, rfl⟩
/-! ### Get -/
theorem get_ok (g h i : Nat) (l : List Int) (w : World) (c : Cnt w g h l) (hi : i < l.length) (hlen : l.length ≤ 64) :
    Calls Try.prog 9 #[.pointer (some ⟨g, 0, none⟩), .int .i64 (i : Int)] w fun e w' => e = .returned (.int .i64 (l[i]?.getD 0)) ∧ w = w' := by
  have hx := c.at_ i hi
  have h0 : w.cell? ⟨g, 0, none⟩ = some (.slice (some ⟨h, 0, none⟩) l.length l.length) := by rw [c.1.cell]; rfl
  generalize l[i]?.getD 0 = x at *
  clear c
  go_enter Try.func9, Try.ntmps9
  go_wp2_with fail
  refine (none_no _ _ _ _ h0).mono ?_
  rintro e w' ⟨rfl, rfl⟩
  go_wp2_with fail
  refine (load_at _ _ _ hx).mono ?_
  rintro e w' ⟨rfl, rfl⟩
  go_wp2_with fail
  go_ret
  exact ⟨rfl, rfl⟩
theorem get_low (g h : Nat) (n : Nat) (i : Int) (w : World) (h0 : w.cell? ⟨g, 0, none⟩ = some (.slice (some ⟨h, 0, none⟩) n n)) (hi : i < 0) :
    Calls Try.prog 9 #[.pointer (some ⟨g, 0, none⟩), .int .i64 i] w fun e w' => e = .returned (.int .i64 0) ∧ w = w' := by
  go_enter Try.func9, Try.ntmps9
  go_wp2_with fail
  refine (none_no _ _ _ _ h0).mono ?_
  rintro e w' ⟨rfl, rfl⟩
  go_wp2_with fail
  go_ret
  exact ⟨rfl, rfl⟩
theorem get_high (g h : Nat) (n : Nat) (i : Int) (w : World) (h0 : w.cell? ⟨g, 0, none⟩ = some (.slice (some ⟨h, 0, none⟩) n n)) (hi0 : 0 ≤ i) (hi : (n : Int) ≤ i) :
    Calls Try.prog 9 #[.pointer (some ⟨g, 0, none⟩), .int .i64 i] w fun e w' => e = .returned (.int .i64 0) ∧ w = w' := by
  go_enter Try.func9, Try.ntmps9
  go_wp2_with fail
  refine (none_no _ _ _ _ h0).mono ?_
  rintro e w' ⟨rfl, rfl⟩
  go_wp2_with fail
  go_ret
  exact ⟨rfl, rfl⟩
theorem get_nil (i : Int) (w : World) :
    Calls Try.prog 9 #[.pointer none, .int .i64 i] w fun e w' => e = .returned (.int .i64 0) ∧ w = w' := by
  go_enter Try.func9, Try.ntmps9
  go_wp2_with fail
  refine (none_nil _).mono ?_
  rintro e w' ⟨rfl, rfl⟩
  go_wp2_with fail
  go_ret
  exact ⟨rfl, rfl⟩
theorem get_empty (g : Nat) (i : Int) (w : World) (h0 : w.cell? ⟨g, 0, none⟩ = some (.slice none 0 0)) :
    Calls Try.prog 9 #[.pointer (some ⟨g, 0, none⟩), .int .i64 i] w fun e w' => e = .returned (.int .i64 0) ∧ w = w' := by
  go_enter Try.func9, Try.ntmps9
  go_wp2_with fail
  refine (none_empty _ _ h0).mono ?_
  rintro e w' ⟨rfl, rfl⟩
  go_wp2_with fail
  go_ret
  exact ⟨rfl, rfl⟩
/-! ### List, Copy -/
theorem list_nil (w : World) :
    Calls Try.prog 14 #[.pointer none] w fun e w' => e = .returned (.slice none 0 0) ∧ w = w' := by
  go_enter Try.func14, Try.ntmps14
  go_wp2_with fail
  refine (none_nil _).mono ?_
  rintro e w' ⟨rfl, rfl⟩
  go_wp2_with fail
  go_ret
  exact ⟨rfl, rfl⟩
theorem list_empty (g : Nat) (w : World) (h0 : w.cell? ⟨g, 0, none⟩ = some (.slice none 0 0)) :
    Calls Try.prog 14 #[.pointer (some ⟨g, 0, none⟩)] w fun e w' => e = .returned (.slice none 0 0) ∧ w = w' := by
  go_enter Try.func14, Try.ntmps14
  go_wp2_with fail
  refine (none_empty _ _ h0).mono ?_
  rintro e w' ⟨rfl, rfl⟩
  go_wp2_with fail
  go_ret
  exact ⟨rfl, rfl⟩
theorem copy_nil (w : World) :
    Calls Try.prog 11 #[.pointer none] w fun e w' => e = .returned (.pointer none) ∧ w = w' := by
  go_enter Try.func11, Try.ntmps11
  go_wp2_with fail
  refine (none_nil _).mono ?_
  rintro e w' ⟨rfl, rfl⟩
  go_wp2_with fail
  go_ret
  exact ⟨rfl, rfl⟩
theorem copy_empty (g : Nat) (w : World) (h0 : w.cell? ⟨g, 0, none⟩ = some (.slice none 0 0)) :
    Calls Try.prog 11 #[.pointer (some ⟨g, 0, none⟩)] w fun e w' => e = .returned (.pointer none) ∧ w = w' := by
  go_enter Try.func11, Try.ntmps11
  go_wp2_with fail
  refine (none_empty _ _ h0).mono ?_
  rintro e w' ⟨rfl, rfl⟩
  go_wp2_with fail
  go_ret
  exact ⟨rfl, rfl⟩
end Go.Proofs.Ytibpbnhchlojmaa
