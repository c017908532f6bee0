/- Words on acts: values of 31 cells (a kind, a frame, a number) that are read and laid as a whole. -/
import Derived.Test.YtkopocbcldjjbaaWords
namespace Go.Proofs.Ytkopocbcldjjbaa
open Go.RowKit
set_option linter.unusedVariables false
theorem loadVar_else2 {t : TypeId} (a : Addr) (h : (t == 40 || t == 50) = false) : loadVar t a = (do if ← isAgg t then pure (.agg (← loadCells a (← sizeOf t))) else load a) := rfl
theorem storeVar_else2 {t : TypeId} (a : Addr) (v : Value) (h : (t == 40 || t == 50) = false) : storeVar t a v = (do
  if v.cells.size ≠ (← sizeOf t) then stuck "storeVar: the value has not the size of the variable"
  storeCells a v.cells.toList) := rfl
theorem info50 : (Try.prog.info? 50).map (·.size) = some 31 := by kernel_rfl
/-- the act that lies at a place -/
noncomputable def actAt (w : World) (g o : Nat) : Option (Array Value) :=
  if (List.range 31).all (fun j => (w.cell? ⟨g, o + j, none⟩).isSome) then some ((List.range 31).map fun j => (w.cell? ⟨g, o + j, none⟩).getD undef).toArray else none
noncomputable def actSlow (w : World) (g o : Nat) : Result Value := (loadVar 50 ⟨g, o, none⟩).run Try.prog w
theorem run_load50 (w : World) (g o : Nat) : (loadVar 50 ⟨g, o, none⟩).run Try.prog w = (match actAt w g o with | some F => .ok (.agg F) w | none => actSlow w g o) := by
  unfold actAt
  split
  · next F h =>
    split at h
    · next ha =>
      injection h with h
      subst h
      have hl : ((List.range 31).map fun j => (w.cell? ⟨g, o + j, none⟩).getD undef).length = 31 := by simp
      refine run_loadVar_mid (P := Try.prog) w g o 50 _ _ (fun j v hv => ?_) Try.underlying50 rfl (by rw [info50, hl])
      have hj : j < 31 := by rw [← hl]; exact (List.getElem?_eq_some_iff.1 hv).1
      rw [List.all_eq_true] at ha
      have := ha j (List.mem_range.2 hj)
      obtain ⟨u, hu⟩ := Option.isSome_iff_exists.1 this
      simp only [List.getElem?_map, List.getElem?_range hj, Option.map_some, hu, Option.getD_some, Option.some.injEq] at hv
      rw [hu, hv]
    · cases h
  · rfl
noncomputable def actRoom (w : World) (g o : Nat) (F : Array Value) : Bool :=
  (List.range 31).all (fun j => (w.cell? ⟨g, o + j, none⟩).isSome && !(w.frozen? ⟨g, o + j, none⟩)) && F.size == 31 && F.all (·.oneCell')
noncomputable def actRoomSlow (w : World) (g o : Nat) (F : Array Value) : Result Unit := (storeVar 50 ⟨g, o, none⟩ (.agg F)).run Try.prog w
theorem run_store50 (w : World) (g o : Nat) (F : Array Value) : (storeVar 50 ⟨g, o, none⟩ (.agg F)).run Try.prog w = (match actRoom w g o F with | true => .ok () (w.setCells g o F.toList) | false => actRoomSlow w g o F) := by
  split
  · next h =>
    simp only [actRoom, Bool.and_eq_true, List.all_eq_true, List.mem_range, Bool.not_eq_true', beq_iff_eq] at h
    obtain ⟨⟨h1, h2⟩, h3⟩ := h
    exact run_storeVar_mid (P := Try.prog) w g o 50 F (by rw [h2]; exact h1) (by rw [info50, h2]) h3
  · rfl
theorem actAt_drew (w : World) (g o : Nat) : actAt w.drew g o = actAt w g o := rfl
theorem actAt_drewN (w : World) (n g o : Nat) : actAt (w.drewN n) g o = actAt w g o := rfl
theorem actRoom_drew (w : World) (g o : Nat) (F : Array Value) : actRoom w.drew g o F = actRoom w g o F := rfl
theorem actAt_of {w : World} {g o : Nat} {F : Array Value} (hF : F.size = 31) (h : ∀ j, j < 31 → w.cell? ⟨g, o + j, none⟩ = F[j]?) : actAt w g o = some F := by
  have h1 : ∀ j, j < 31 → w.cell? ⟨g, o + j, none⟩ = some (F[j]?.getD undef) := fun j hj => by rw [h j hj, Array.getElem?_eq_getElem (by omega)]; rfl
  unfold actAt
  rw [if_pos (by rw [List.all_eq_true]; intro j hj; rw [h1 j (List.mem_range.1 hj)]; rfl)]
  congr 1
  apply Array.ext
  · simp [hF]
  · intro j hj1 hj2
    have hj : j < 31 := by simpa using hj1
    simp only [List.getElem_toArray, List.getElem_map, List.getElem_range, h1 j hj, Option.getD_some]
    rw [Array.getElem?_eq_getElem hj2]; rfl
theorem Blk.act {w : World} {g t : Nat} {cs F : Array Value} (o : Nat) (h : Blk w g t cs) (hF : F.size = 31) (hc : ∀ j, j < 31 → cs[o + j]? = F[j]?) : actAt w g o = some F :=
  actAt_of hF fun j hj => by rw [h.cell, hc j hj]
theorem Blk.actRoom {w : World} {g t : Nat} {cs F : Array Value} (o : Nat) (h : Blk w g t cs) (hs : o + 31 ≤ cs.size) (hF : F.size = 31) (h1 : F.all (·.oneCell') = true) : actRoom w g o F = true := by
  simp only [Go.Proofs.Ytkopocbcldjjbaa.actRoom, Bool.and_eq_true, List.all_eq_true, List.mem_range, Bool.not_eq_true', beq_iff_eq]
  exact ⟨⟨h.there o 31 hs, hF⟩, h1⟩
end Go.Proofs.Ytkopocbcldjjbaa
