/- The law's own: alike: a ring, and the document's, that have the same frames. -/
import Derived.Test.YtkopocbcldjjbaaDocP
import Derived.Test.YtkopocbcldjjbaaSame
import Derived.Test.YtkopocbcldjjbaaRinged
namespace Go.Proofs.Ytkopocbcldjjbaa
open Go.RowKit
set_option linter.unusedVariables false
set_option linter.unusedSimpArgs false
attribute [-go_sem] loadVar storeVar
attribute [local go_sem] loadVar_else storeVar_else run_load40 run_store40 frameAt_drew frameAt_drewN roomAt_drew roomAt_drewN
theorem dpush_full (q cap : Nat) (vv : Value) (xs : List Fr) (F : Array Value) (w : World) (h : DRing w q vv cap xs) (hl : xs.length = cap) :
    Calls Try.prog 20 #[.pointer (some ⟨q, 0, none⟩), .agg F] w fun e w' => e = .returned (.bool false) ∧ Upd w w' [] := by
  have U := (Upd.refl w []).alloc (.cells F 40)
  have D1 := h.upd0 U
  obtain ⟨ga, c, rfl, _⟩ := D1.form
  have a0 := D1.a0
  have a1 := D1.a1
  have b1 : ((xs.length : Int) == (cap : Int)) = true := by simp [hl]
  replace hl := hide hl
  replace U := hide U
  clear h D1
  go_enter Try.func20, Try.ntmps20
  go_wp2_with fail
  go_quiet (fail)
  go_wp2_with fail
  go_ret
  exact ⟨rfl, U.out.drewN _⟩
def Fine (x : Fr) : Prop := ∃ f g m, FineBy x f g m
theorem zero_fine : Fine zeroFr := ⟨fun _ => 0, fun _ => ⟨#[]⟩, fun _ => 0, fun i h1 h2 => by
  have : ∀ i, i < 29 → i ≠ 24 → zeroF[i]? = some (fineV (fun _ => 0) (fun _ => ⟨#[]⟩) i) := by
    intro i h1 h2
    match i, h1 with
    | 0, _ | 1, _ | 2, _ | 3, _ | 4, _ | 5, _ | 6, _ | 7, _ | 8, _ | 9, _ | 10, _ | 11, _ | 12, _ | 13, _ | 14, _ | 15, _ | 16, _ | 17, _ | 18, _ | 19, _ | 20, _ | 21, _ | 22, _ | 23, _ | 25, _ | 26, _ | 27, _ | 28, _ => rfl
    | 24, _ => exact absurd rfl h2
    | i + 29, h => exact absurd h (by omega)
  exact this i h1 h2, fun i h => absurd h (by simp [zeroFr])⟩
/-- the frames of a ring, in their order, are these -/
structure Like (xs : List Fr) (cap first cnt : Nat) (fs : Nat → Fr) : Prop where
  len : xs.length = cnt
  each : ∀ i (h : i < xs.length), xs[i] = fs ((first + i) % cap)
  fine : ∀ x ∈ xs, Fine x
/-- the frame at place i, or none -/
def atFr (xs : List Fr) (i : Int) : Fr := if h : 0 ≤ i ∧ i.toNat < xs.length then xs[i.toNat]'h.2 else zeroFr
def atB (xs : List Fr) (i : Int) : Bool := decide (0 ≤ i ∧ i.toNat < xs.length)
theorem atFr_fine {xs : List Fr} (h : ∀ x ∈ xs, Fine x) (i : Int) : Fine (atFr xs i) := by
  unfold atFr
  split
  · exact h _ (List.getElem_mem _)
  · exact zero_fine
theorem at_any {r pb cap first cnt : Nat} {fs : Nat → Fr} {xs : List Fr} (i : Int) (w : World) (h : Ring w r pb cap first cnt fs) (L : Like xs cap first cnt fs) :
    Calls Try.prog 17 #[.pointer (some ⟨r, 0, none⟩), .int .i64 i] w fun e w' => ∃ F, e = .returned (.tuple #[.agg F, .bool (atB xs i)]) ∧ IsF w' w.heap.size F (atFr xs i) ∧ Upd w w' [] := by
  have hl := L.len
  by_cases hi : 0 ≤ i ∧ i.toNat < xs.length
  · obtain ⟨j, rfl⟩ : ∃ j : Nat, i = (j : Int) := ⟨i.toNat, by omega⟩
    have e1 : atB xs j = true := by simp [atB]; omega
    have e2 : atFr xs j = fs ((first + j) % cap) := by
      unfold atFr
      rw [dif_pos hi]
      exact L.each j (by omega)
    rw [e1, e2]
    exact at_ok r pb cap first cnt fs w h j (by omega)
  · have e1 : atB xs i = false := by simp [atB]; omega
    have e2 : atFr xs i = zeroFr := by unfold atFr; rw [dif_neg hi]
    rw [e1, e2]
    exact (at_no r pb cap first cnt fs w h i (by omega)).mono fun e w' ⟨he, u⟩ => ⟨zeroF, he, zero_isF _ _, u⟩
theorem dat_any {q cap : Nat} {v : Value} {xs : List Fr} (i : Int) (w : World) (h : DRing w q v cap xs) :
    Calls Try.prog 16 #[.pointer (some ⟨q, 0, none⟩), .int .i64 i] w fun e w' => ∃ F, e = .returned (.tuple #[.agg F, .bool (atB xs i)]) ∧ IsF w' 0 F (atFr xs i) ∧ Upd w w' [] := by
  by_cases hi : 0 ≤ i ∧ i.toNat < xs.length
  · obtain ⟨j, rfl⟩ : ∃ j : Nat, i = (j : Int) := ⟨i.toNat, by omega⟩
    have e1 : atB xs j = true := by simp [atB]; omega
    have e2 : atFr xs j = xs[j]'(by omega) := by unfold atFr; rw [dif_pos hi]; rfl
    rw [e1, e2]
    exact dat_ok q cap j v xs w h (by omega)
  · have e1 : atB xs i = false := by simp [atB]; omega
    have e2 : atFr xs i = zeroFr := by unfold atFr; rw [dif_neg hi]
    rw [e1, e2]
    exact dat_none q cap i v xs w h (by omega)
end Go.Proofs.Ytkopocbcldjjbaa
