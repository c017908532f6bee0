/- RingsPlay: the acts, as they lie in memory. -/
import Derived.Test.YtkopocbcldjjbaaPlayPlain
import Derived.Test.YtkopocbcldjjbaaGreat
import Derived.Test.YtkopocbcldjjbaaWordsB
namespace Go.Proofs.Ytkopocbcldjjbaa
open Go.RowKit
set_option linter.unusedVariables false
set_option linter.unusedSimpArgs false
/-- an act: its kind, its frame (the cells F; seen by e; as a frame x), its I -/
structure Ra where
  k : Int
  F : Array Value
  i : Int
  e : Eyes
  x : Fr
abbrev Ra.v (a : Ra) : Value := .slice a.e.ad a.e.n a.e.c
/-- the cells of an act -/
def Ra.cells (a : Ra) : Array Value := #[Value.int .u8 a.k] ++ a.F ++ #[Value.int .i64 a.i]
structure Ra.Ok (w : World) (a : Ra) : Prop where
  k0 : 0 ≤ a.k ∧ a.k ≤ 255
  sees : Sees a.F a.e
  frame : a.F = cut a.x a.v
  size : a.x.1.size = 29
  one : ∀ u ∈ a.x.1, u.oneCell' = true
  mem : ∀ u ∈ a.x.2, u.oneCell' = true
  src : Src w a.v a.x.2
  nil : a.e.ad = none → a.e.c = 0
  fine : Fine a.x
theorem Ra.Ok.upd {w w' : World} {a : Ra} (h : a.Ok w) (u : Upd w w' []) : a.Ok w' := ⟨h.k0, h.sees, h.frame, h.size, h.one, h.mem, h.src.upd u, h.nil, h.fine⟩
theorem Ra.Ok.good {w : World} {a : Ra} (h : a.Ok w) (hw : ¬ a.e.wide) : Good a.x := by
  refine ⟨h.size, h.one, h.mem, ?_⟩
  obtain ⟨ad, n, c, hv, hl, _⟩ := h.src
  injection hv with _ h2 _
  have : a.e.n ≤ 10 := by
    unfold Eyes.wide at hw
    omega
  omega
theorem Ra.csize {w : World} {a : Ra} (h : a.Ok w) : a.cells.size = 31 := by
  unfold Ra.cells
  simp [h.sees.size]
theorem Ra.c0 (a : Ra) : a.cells[0]? = some (.int .u8 a.k) := by
  unfold Ra.cells
  rw [Array.append_assoc, Array.getElem?_append_left (by simp)]
  rfl
theorem Ra.cF {w : World} {a : Ra} (h : a.Ok w) (j : Nat) (hj : j < 29) : a.cells[1 + j]? = a.F[j]? := by
  have hs := h.sees.size
  unfold Ra.cells
  rw [Array.getElem?_append_left (by simp; omega), Array.getElem?_append_right (by simp)]
  congr 1
  simp
theorem Ra.c30 {w : World} {a : Ra} (h : a.Ok w) : a.cells[30]? = some (.int .i64 a.i) := by
  have hs := h.sees.size
  unfold Ra.cells
  rw [Array.getElem?_append_right (by simp; omega)]
  have : 30 - (#[Value.int .u8 a.k] ++ a.F).size = 0 := by simp; omega
  rw [this]
  rfl
theorem Ra.cone {w : World} {a : Ra} (h : a.Ok w) : a.cells.all (·.oneCell') = true := by
  unfold Ra.cells
  rw [Array.all_append, Array.all_append, h.sees.one]
  simp [Value.oneCell']
/-- acts, in a row -/
def RActs (w : World) (b off : Nat) (al : List Ra) : Prop := ∀ i (h : i < al.length), actAt w b (off + i * 31) = some al[i].cells ∧ al[i].Ok w
theorem actAt_cells {w : World} {g o : Nat} {F : Array Value} (h : actAt w g o = some F) : F.size = 31 ∧ ∀ j, j < 31 → w.cell? ⟨g, o + j, none⟩ = F[j]? := by
  unfold actAt at h
  split at h
  · next ha =>
    injection h with h
    subst h
    rw [List.all_eq_true] at ha
    refine ⟨by simp, fun j hj => ?_⟩
    have := ha j (List.mem_range.2 hj)
    obtain ⟨u, hu⟩ := Option.isSome_iff_exists.1 this
    simp [hj, hu]
  · cases h
theorem RActs.upd {w w' : World} {b off : Nat} {al : List Ra} (h : RActs w b off al) (u : Upd w w' []) : RActs w' b off al := fun i hi => by
  obtain ⟨h1, h2⟩ := h i hi
  obtain ⟨hs, hc⟩ := actAt_cells h1
  refine ⟨actAt_of hs fun j hj => ?_, h2.upd u⟩
  have h3 := hc j hj
  rw [Array.getElem?_eq_getElem (by omega)] at h3 ⊢
  exact cell_upd h3 u (by simp)
theorem RActs.acts {w : World} {b off : Nat} {al : List Ra} (h : RActs w b off al) : Acts w b off (al.map fun a => (a.F, a.e)) := fun i hi => by
  have hi : i < al.length := by simpa using hi
  obtain ⟨h1, h2⟩ := h i hi
  obtain ⟨hs, hc⟩ := actAt_cells h1
  simp only [List.getElem_map]
  refine ⟨frameAt_of h2.sees.size fun j hj => ?_, h2.sees⟩
  rw [← Ra.cF h2 j hj, ← hc (1 + j) (by omega)]
  congr 1
  rw [Addr.mk.injEq]
  exact ⟨rfl, by omega, rfl⟩
end Go.Proofs.Ytkopocbcldjjbaa
