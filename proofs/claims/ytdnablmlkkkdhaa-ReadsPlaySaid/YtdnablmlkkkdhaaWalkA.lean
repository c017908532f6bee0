/- The walks of the layer reads: none, New, Len, Last; a frame of one's own. -/
import Derived.Test.YtdnablmlkkkdhaaWords
import Derived.Deep.RegionLaw
import Derived.IntWalk
namespace Go.Proofs.Ytdnablmlkkkdhaa
open Go.RowKit
set_option linter.unusedVariables false
attribute [-go_sem] loadVar storeVar
attribute [local go_sem] loadVar_else storeVar_else run_load33 run_load35 run_load42 run_load44 run_load49 run_load72 run_store35 run_store42 run_store44 run_store49 aggAt_drew aggAt_drewN aggRoom_drew aggRoom_drewN
/-- at r lie reads: so many may wait, so many there were, these wait (v their slice) -/
structure Rds (w : World) (base r : Nat) (v : Value) (cap last : Nat) (L : List Rd) : Prop where
  ge : base ≤ r
  head : Blk w r 66 #[.int .i64 cap, .int .i64 last, v]
  row : RowOf w base 49 34 v (rdCells L)
  ok : ∀ x ∈ L, x.ok
  c0 : 0 < cap
  c1 : cap ≤ 16
  few : L.length ≤ cap
section
variable {w w' : World} {base r : Nat} {v : Value} {cap last : Nat} {L : List Rd} {S : List Nat}
theorem Rds.upd (H : Rds w base r v cap last L) (u : Upd w w' S) (h1 : r ∉ S) (h2 : ∀ g ∈ blkOf v, g ∉ S) : Rds w' base r v cap last L :=
  ⟨H.ge, u.blk H.head h1, H.row.upd u h2, H.ok, H.c0, H.c1, H.few⟩
theorem Rds.upd0 (H : Rds w base r v cap last L) (u : Upd w w' []) : Rds w' base r v cap last L := H.upd u (by simp) (by simp)
theorem Rds.a0 (H : Rds w base r v cap last L) : w.cell? ⟨r, 0, none⟩ = some (.int .i64 cap) := by rw [H.head.cell]; rfl
theorem Rds.a1 (H : Rds w base r v cap last L) : w.cell? ⟨r, 1, none⟩ = some (.int .i64 last) := by rw [H.head.cell]; rfl
theorem Rds.a2 (H : Rds w base r v cap last L) : w.cell? ⟨r, 2, none⟩ = some v := by rw [H.head.cell]; rfl
theorem RowOf.form {w : World} {base : Nat} {e : TypeId} {n : Nat} {v : Value} {Fs : List (Array Value)} (h : RowOf w base e n v Fs) : ∃ ga cap, v = .slice ga Fs.length cap ∧ (0 < Fs.length → ∃ g, ga = some ⟨g, 0, none⟩) := by
  rcases h.slice with ⟨rfl, rfl⟩ | ⟨g, cap, rfl, _⟩
  · exact ⟨none, 0, rfl, fun h => absurd h (by simp)⟩
  · exact ⟨_, cap, rfl, fun _ => ⟨g, rfl⟩⟩
theorem Rds.form (H : Rds w base r v cap last L) : ∃ ga c, v = .slice ga L.length c ∧ (0 < L.length → ∃ g, ga = some ⟨g, 0, none⟩) := by
  obtain ⟨ga, c, h1, h2⟩ := H.row.form
  rw [rdCells_len] at h1 h2
  exact ⟨ga, c, h1, h2⟩
theorem RowOf.rd {w : World} {b g c : Nat} {t : TypeId} {L : List Rd} (R : RowOf w b t 34 (.slice (some ⟨g, 0, none⟩) L.length c) (rdCells L)) (i : Nat) (hi : i < L.length) : aggAt 34 w g (i * 34) = some L[i].cells := by
  rw [← rdCells_len] at R
  have h2 := R.agg i (by simpa [rdCells] using hi)
  simpa [rdCells] using h2
end
/-- v is no reads: no pointer, or some that New did not make -/
def NoRds (w : World) (v : Value) : Prop := v = .pointer none ∨ ∃ r, v = .pointer (some ⟨r, 0, none⟩) ∧ Blk w r 66 #[.int .i64 0, .int .i64 0, .slice none 0 0]
theorem NoRds.upd {w w' : World} {v : Value} (h : NoRds w v) (u : Upd w w' []) : NoRds w' v := by
  rcases h with h | ⟨r, h, hb⟩
  · exact .inl h
  · exact .inr ⟨r, h, u.blk hb (by simp)⟩
theorem none_no (r cap : Nat) (w : World) (h : w.cell? ⟨r, 0, none⟩ = some (.int .i64 cap)) (hc : 0 < cap) :
    Calls Try.prog 28 #[.pointer (some ⟨r, 0, none⟩)] w fun e w' => e = .returned (.bool false) ∧ w = w' := by
  have hb : ((cap : Int) == 0) = false := by simp; omega
  go_enter Try.func28, Try.ntmps28
  go_wp2
  go_ret
  exact ⟨rfl, rfl⟩
theorem none_yes (v : Value) (w : World) (h : NoRds w v) :
    Calls Try.prog 28 #[v] w fun e w' => e = .returned (.bool true) ∧ w = w' := by
  rcases h with rfl | ⟨r, rfl, hb⟩
  · go_enter Try.func28, Try.ntmps28
    go_wp2
    go_ret
    exact ⟨rfl, rfl⟩
  · have h : w.cell? ⟨r, 0, none⟩ = some (.int .i64 0) := by rw [hb.cell]; rfl
    clear hb
    go_enter Try.func28, Try.ntmps28
    go_wp2
    go_ret
    exact ⟨rfl, rfl⟩
theorem new_ok (n : Nat) (w : World) (h0 : 0 < n) (h1 : n ≤ 16) :
    Calls Try.prog 8 #[.int .i64 n] w fun e w' => e = .returned (.tuple #[.pointer (some ⟨w.heap.size, 0, none⟩), .int .i64 0]) ∧ Rds w' w.heap.size w.heap.size (.slice none 0 0) n 0 [] ∧ Upd w w' [] := by
  have b1 := hide (Blk.new w 66 #[.int .i64 n, .int .i64 (0 : Nat), .slice none 0 0])
  have a0 : decide ((n : Int) < 1) = false := by simp; omega
  have a1 : decide (16 < (n : Int)) = false := by simp; omega
  go_enter Try.func8, Try.ntmps8
  go_wp2
  go_ret2
  exact ⟨rfl, ⟨Nat.le_refl _, b1.out, RowOf.nil _ _ _ _, by simp, h0, h1, by simp⟩, (Upd.refl _ _).alloc _⟩
theorem new_bad (n : Int) (w : World) (h : n < 1 ∨ 16 < n) :
    Calls Try.prog 8 #[.int .i64 n] w fun e w' => e = .returned (.tuple #[.pointer none, .int .i64 2]) ∧ w = w' := by
  by_cases h1 : n < 1
  · clear h
    go_enter Try.func8, Try.ntmps8
    go_wp2
    go_ret2
    exact ⟨rfl, rfl⟩
  · have h2 : 16 < n := by omega
    clear h
    go_enter Try.func8, Try.ntmps8
    go_wp2
    go_ret2
    exact ⟨rfl, rfl⟩
section
variable {base r : Nat} {v : Value} {cap last : Nat} {L : List Rd}
theorem len_ok (w : World) (H : Rds w base r v cap last L) :
    Calls Try.prog 13 #[.pointer (some ⟨r, 0, none⟩)] w fun e w' => e = .returned (.int .i64 L.length) ∧ w = w' := by
  have N := hide (none_no r cap w H.a0 H.c0)
  obtain ⟨ga, c, rfl, _⟩ := H.form
  have a2 := H.a2
  clear H
  go_enter Try.func13, Try.ntmps13
  go_wp2_with fail
  refine N.out.mono ?_
  rintro e w' ⟨rfl, rfl⟩
  clear N
  go_wp2_with fail
  go_ret
  exact ⟨rfl, rfl⟩
theorem len_no (v : Value) (w : World) (h : NoRds w v) : Calls Try.prog 13 #[v] w fun e w' => e = .returned (.int .i64 0) ∧ w = w' := by
  have N := hide (none_yes v w h)
  clear h
  go_enter Try.func13, Try.ntmps13
  go_wp2_with fail
  refine N.out.mono ?_
  rintro e w' ⟨rfl, rfl⟩
  clear N
  go_wp2_with fail
  go_ret
  exact ⟨rfl, rfl⟩
theorem last_no (v : Value) (w : World) (h : NoRds w v) : Calls Try.prog 21 #[v] w fun e w' => e = .returned (.tuple #[.int .i64 0, .bool false]) ∧ w = w' := by
  have N := hide (len_no v w h)
  clear h
  go_enter Try.func21, Try.ntmps21
  go_wp2_with fail
  refine N.out.mono ?_
  rintro e w' ⟨rfl, rfl⟩
  clear N
  go_wp2_with fail
  go_ret2
  exact ⟨rfl, rfl⟩
/-- what Last answers -/
def lastA (L : List Rd) : Int × Bool := match L.getLast? with | none => (0, false) | some x => (x.id, true)
theorem lastA_eq (L : List Rd) (h : 0 < L.length) : lastA L = ((L[L.length - 1]).id, true) := by
  unfold lastA
  rw [List.getLast?_eq_getElem?, List.getElem?_eq_getElem (by omega)]
theorem last_ok (w : World) (H : Rds w base r v cap last L) :
    Calls Try.prog 21 #[.pointer (some ⟨r, 0, none⟩)] w fun e w' => e = .returned (.tuple #[.int .i64 (lastA L).1, .bool (lastA L).2]) ∧ Upd w w' [] := by
  have N := hide (len_ok w H)
  obtain ⟨ga, c, rfl, hga⟩ := H.form
  have a2 := H.a2
  by_cases hl : 0 < L.length
  · obtain ⟨g, rfl⟩ := hga hl
    have A := H.row.rd (L.length - 1) (by omega)
    have A0 := aggAt_cell A 0 (by decide)
    rw [Rd.at0] at A0
    obtain ⟨n, hn⟩ : ∃ n, L.length = n + 1 := ⟨L.length - 1, by omega⟩
    have hE := lastA_eq L hl
    have hf := H.few
    have hc := H.c1
    have e0 : L.length - 1 = n := by omega
    have hid : ∃ z, z = (L[L.length - 1]).id := ⟨_, rfl⟩
    obtain ⟨z, hz⟩ := hid
    rw [← hz] at A0 hE
    replace hE := hide hE
    clear hz
    rw [e0] at A0
    have A0 : w.cell? ⟨g, n * 34, none⟩ = some (.int .i64 z) := A0
    have hb : ((L.length : Int) == 0) = false := beq_false_of_ne (by omega)
    have s1 : IntKind.i64.wrap ((L.length : Int) - 1) = (n : Int) := by rw [IntWalk.i64_in _ (by omega)]; omega
    have hlt : n < L.length := by omega
    have hlt2 : (n : Int) < L.length := by omega
    clear A H hga hl hn e0
    go_enter Try.func21, Try.ntmps21
    go_wp2_with fail
    refine N.out.mono ?_
    rintro e w' ⟨rfl, rfl⟩
    clear N
    go_wp2_with fail
    go_quiet (fail)
    go_wp2_with fail
    go_ret2
    refine ⟨?_, (Upd.refl _ _).drewN _⟩
    rw [hE.out]
    rfl
  · have h0 : L.length = 0 := by omega
    obtain rfl := List.eq_nil_of_length_eq_zero h0
    clear H hga hl h0 a2
    go_enter Try.func21, Try.ntmps21
    go_wp2_with fail
    refine N.out.mono ?_
    rintro e w' ⟨rfl, rfl⟩
    clear N
    go_wp2_with fail
    go_ret2
    exact ⟨rfl, Upd.refl _ _⟩
end
end Go.Proofs.Ytdnablmlkkkdhaa
