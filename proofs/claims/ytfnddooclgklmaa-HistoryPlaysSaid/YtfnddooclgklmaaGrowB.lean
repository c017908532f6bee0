/- HistoryGrows: what one act does; the walk. -/
import Derived.Test.YtfnddooclgklmaaGrow
import Derived.Deep.CutRange
namespace Go.Proofs.Ytfnddooclgklmaa
open Go.RowKit
set_option linter.unusedVariables false
attribute [-go_sem] loadVar storeVar run_neq_struct
attribute [local go_sem] loadVar_else storeVar_else run_load29 run_load33 run_load35 run_load48 run_load49 run_load61 run_store29 run_store33 run_store35 run_store48 run_store49 aggAt_drew aggAt_drewN aggRoom_drew aggRoom_drewN
/-- ends are known or not yet, and as many events as records at least -/
structure Inv (rs : List Rec) (ev : Nat) : Prop where
  ends : ∀ r ∈ rs, r.to < 0 → r.to = -1
  few : rs.length ≤ ev
theorem Inv.zero : Inv [] 0 := ⟨fun r h => by simp at h, by simp⟩
/-- what one act does with the records -/
inductive Step (a : Ac) (rs : List Rec) (ev : Nat) : List Rec → Nat → Bool → Prop
  | call : a.fin = false → Step a rs ev (rs ++ [newRec a.cl a.seq a.op ev]) (ev + 1) true
  | ends (p : Nat) (hp : p < rs.length) : a.fin = true → rs[p].cl = a.cl → rs[p].seq = a.seq → rs[p].to = -1 → Step a rs ev (rs.set p (endRec rs[p] ev a.out)) (ev + 1) true
  | no : Step a rs ev rs ev false
theorem step_call (a : Ac) (rs : List Rec) (ev : Nat) (h : a.fin = false) : Step a rs ev (callR rs a.cl a.seq a.op ev) (callN rs a.cl a.seq a.op ev) (callE rs a.cl a.seq a.op == 0) := by
  unfold callR callN
  by_cases e : callE rs a.cl a.seq a.op = 0
  · rw [if_pos e, if_pos e, e]; exact .call h
  · rw [if_neg e, if_neg e, beq_false_of_ne e]; exact .no
theorem place_cl {c : Int} {rs : List Rec} {p : Nat} (h : place c rs = p + 1) (hp : p < rs.length) : rs[p].cl = c := by
  have := (placeL_at c _ p h).1
  simpa [hp] using this
theorem step_end (a : Ac) (rs : List Rec) (ev : Nat) (I : Inv rs ev) (h : a.fin = true) : Step a rs ev (endR rs a.cl a.seq a.out ev) (endN rs a.cl a.seq a.out ev) (endE rs a.cl a.seq a.out == 0) := by
  unfold endR endN
  by_cases e : endE rs a.cl a.seq a.out = 0
  · rw [if_pos e, if_pos e, e]
    unfold endE at e
    split at e
    · omega
    · cases hl : lastRec a.cl rs with
      | none => rw [hl] at e; simp at e
      | some r =>
        rw [hl] at e
        dsimp only at e ⊢
        split at e
        · next hq =>
          have hl0 := hl
          unfold lastRec at hl
          split at hl
          · cases hl
          · split at hl
            · cases hl
            · next hp =>
              obtain ⟨p, hp⟩ := Nat.exists_eq_succ_of_ne_zero hp
              rw [hp] at hl ⊢
              simp only [Nat.succ_eq_add_one, Nat.add_sub_cancel] at hl ⊢
              obtain ⟨hpl, rfl⟩ := List.getElem?_eq_some_iff.1 hl
              exact .ends p hpl h (place_cl hp hpl) hq.1 (I.ends _ (List.getElem_mem hpl) hq.2)
        · omega
  · rw [if_neg e, if_neg e, beq_false_of_ne e]; exact .no
theorem Step.inv {a : Ac} {rs rs' : List Rec} {ev ev' : Nat} {ok : Bool} (h : Step a rs ev rs' ev' ok) (I : Inv rs ev) : Inv rs' ev' := by
  obtain ⟨i1, i2⟩ := I
  cases h with
  | call hf =>
    refine ⟨fun r hr ht => ?_, by simp; omega⟩
    rcases List.mem_append.1 hr with hr | hr
    · exact i1 r hr ht
    · rw [List.mem_singleton.1 hr]; rfl
  | ends p hp hf h1 h2 h3 =>
    refine ⟨fun r hr ht => ?_, by simp; omega⟩
    rcases List.mem_or_eq_of_mem_set hr with hr | rfl
    · exact i1 r hr ht
    · simp only [endRec] at ht; omega
  | no => exact ⟨i1, i2⟩
theorem Step.le {a : Ac} {rs rs' : List Rec} {ev ev' : Nat} {ok : Bool} (h : Step a rs ev rs' ev' ok) : ev ≤ ev' ∧ ev' ≤ ev + 1 ∧ rs.length ≤ rs'.length := by
  cases h <;> simp
/-- which record an act has changed (none: one behind all) -/
structure Chg (a : Ac) (rs : List Rec) (ev : Nat) (rs' : List Rec) (q : Nat) : Prop where
  same : ∀ j (h : j < rs.length) (h' : j < rs'.length), j ≠ q → rs'[j] = rs[j]
  at_ : ∀ (h : q < rs.length) (h' : q < rs'.length), rs'[q] = endRec rs[q] ev a.out ∧ rs[q].to = -1 ∧ rs[q].cl = a.cl ∧ rs[q].seq = a.seq
theorem Step.chg {a : Ac} {rs rs' : List Rec} {ev ev' : Nat} {ok : Bool} (h : Step a rs ev rs' ev' ok) : ∃ q, Chg a rs ev rs' q ∧
    ((q = rs.length ∧ rs'.length = rs.length + 1 ∧ ev' = ev + 1 ∧ ok = true ∧ a.fin = false ∧ rs'[rs.length]? = some (newRec a.cl a.seq a.op ev)) ∨ (q < rs.length ∧ rs'.length = rs.length ∧ ev' = ev + 1 ∧ ok = true ∧ a.fin = true) ∨ (q = rs.length ∧ rs'.length = rs.length ∧ ev' = ev ∧ ok = false)) := by
  cases h with
  | call hf => exact ⟨rs.length, ⟨fun j h h' _ => by simp [h], fun h => absurd h (by omega)⟩, .inl ⟨rfl, by simp, rfl, rfl, hf, by simp⟩⟩
  | ends p hp hf h1 h2 h3 => exact ⟨p, ⟨fun j h h' hj => by simp [Ne.symm hj], fun h h' => ⟨by simp, h3, h1, h2⟩⟩, .inr (.inl ⟨hp, by simp, rfl, rfl, hf⟩)⟩
  | no => exact ⟨rs.length, ⟨fun j h h' _ => rfl, fun h => absurd h (by omega)⟩, .inr (.inr ⟨rfl, rfl, rfl, rfl⟩)⟩
end Go.Proofs.Ytfnddooclgklmaa
