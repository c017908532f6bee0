/- What the document's history answers: Call and End as a whole. -/
import Derived.Test.YtfnddooclgklmaaRefE
namespace Go.Proofs.Ytfnddooclgklmaa
open Go.RowKit
set_option linter.unusedVariables false
def rcallE (es : List Ev) (c s : Int) (o : Op4) : Int := if c < 0 ∨ 5 < c ∨ s < 1 ∨ chk o ≠ 0 then 2 else if (lastE c es).2 = false then 63 else if s ≤ (lastE c es).1 then 70 else 0
def rcallL (es : List Ev) (c s : Int) (o : Op4) : List Ev := if rcallE es c s o = 0 then es ++ [callEv c s o] else es
def rendL (es : List Ev) (c s : Int) (o : Out6) : List Ev := if rendE es c s o = 0 then es ++ [endEv c s o] else es
theorem rcall_all (u : Value) (es : List Ev) (c s : Int) (o : Op4) (w : World) (R : RowOf w 0 61 12 u (evCells es)) (hn : es.length ≤ 1000) :
    Calls Try.prog 13 #[u, .int .i64 c, .int .i64 s, .agg o.cells] w fun e w' => ∃ u', e = .returned (.tuple #[u', .int .i64 (rcallE es c s o)]) ∧ RowOf w' 0 61 12 u' (evCells (rcallL es c s o)) ∧ Upd w w' [] := by
  have no : ∀ n : Int, rcallE es c s o = n → n ≠ 0 → Calls Try.prog 13 #[u, .int .i64 c, .int .i64 s, .agg o.cells] w (fun e w' => e = .returned (.tuple #[u, .int .i64 n]) ∧ Upd w w' []) →
      Calls Try.prog 13 #[u, .int .i64 c, .int .i64 s, .agg o.cells] w fun e w' => ∃ u', e = .returned (.tuple #[u', .int .i64 (rcallE es c s o)]) ∧ RowOf w' 0 61 12 u' (evCells (rcallL es c s o)) ∧ Upd w w' [] := by
    intro n h1 h2 hc
    refine hc.mono ?_
    rintro e w' ⟨rfl, k⟩
    refine ⟨u, by rw [h1], ?_, k⟩
    unfold rcallL
    rw [if_neg (by omega)]
    exact R.upd k (by simp)
  by_cases h1 : c < 0 ∨ 5 < c ∨ s < 1
  · exact no 2 (by unfold rcallE; rw [if_pos (by omega)]) (by decide) (rcall_bad u c s o w h1)
  by_cases h2 : chk o = 0
  · have e0 : rcallE es c s o = if (lastE c es).2 = false then 63 else if s ≤ (lastE c es).1 then 70 else 0 := by unfold rcallE; rw [if_neg (by omega)]
    by_cases h3 : (lastE c es).2 = false
    · exact no 63 (by rw [e0, if_pos h3]) (by decide) (rcall_last u es c s o w 0 R hn (by omega) (by omega) (by omega) h2 63 (.inl ⟨h3, rfl⟩))
    · have h3' : (lastE c es).2 = true := by simpa using h3
      by_cases h4 : s ≤ (lastE c es).1
      · exact no 70 (by rw [e0, if_neg h3, if_pos h4]) (by decide) (rcall_last u es c s o w 0 R hn (by omega) (by omega) (by omega) h2 70 (.inr ⟨h3', h4, rfl⟩))
      · have e1 : rcallE es c s o = 0 := by rw [e0, if_neg h3, if_neg h4]
        have e2 : rcallL es c s o = es ++ [callEv c s o] := by unfold rcallL; rw [if_pos e1]
        rw [e1, e2]
        rcases R.slice with ⟨rfl, h5⟩ | ⟨g, cap, rfl, _⟩
        · have h5 : es = [] := by simpa [evCells] using h5
          subst h5
          refine (rcall_nil c s o w (by omega) (by omega) (by omega) h2).mono ?_
          rintro e w' ⟨u', rfl, R', k⟩
          exact ⟨u', rfl, R'.mono (Nat.zero_le _), k⟩
        · rw [evCells_len] at R ⊢
          refine (rcall_ok g cap es c s o w 0 R hn (by omega) (by omega) h2 h3' (by omega)).mono ?_
          rintro e w' ⟨u', rfl, R', k⟩
          exact ⟨u', rfl, R'.mono (Nat.zero_le _), k⟩
  · exact no 2 (by unfold rcallE; rw [if_pos (by omega)]) (by decide) (rcall_chk u c s o w (by omega) (by omega) (by omega) h2)
theorem rend_all (u : Value) (es : List Ev) (c s : Int) (o : Out6) (w : World) (R : RowOf w 0 61 12 u (evCells es)) (hn : es.length ≤ 1000) :
    Calls Try.prog 11 #[u, .int .i64 c, .int .i64 s, .agg o.cells] w fun e w' => ∃ u', e = .returned (.tuple #[u', .int .i64 (rendE es c s o)]) ∧ RowOf w' 0 61 12 u' (evCells (rendL es c s o)) ∧ Upd w w' [] := by
  have no : ∀ n : Int, rendE es c s o = n → n ≠ 0 → Calls Try.prog 11 #[u, .int .i64 c, .int .i64 s, .agg o.cells] w (fun e w' => e = .returned (.tuple #[u, .int .i64 n]) ∧ Upd w w' []) →
      Calls Try.prog 11 #[u, .int .i64 c, .int .i64 s, .agg o.cells] w fun e w' => ∃ u', e = .returned (.tuple #[u', .int .i64 (rendE es c s o)]) ∧ RowOf w' 0 61 12 u' (evCells (rendL es c s o)) ∧ Upd w w' [] := by
    intro n h1 h2 hc
    refine hc.mono ?_
    rintro e w' ⟨rfl, k⟩
    refine ⟨u, by rw [h1], ?_, k⟩
    unfold rendL
    rw [if_neg (by omega)]
    exact R.upd k (by simp)
  by_cases h1 : o.kind < 1 ∨ 3 < o.kind
  · exact no 2 (by unfold rendE; rw [if_pos h1]) (by decide) (rend_kind u c s o w h1)
  by_cases h2 : (lastE c es).1 = 0 ∨ (lastE c es).2 = true ∨ (lastE c es).1 ≠ s
  · exact no 4 (by unfold rendE; rw [if_neg h1, if_pos h2]) (by decide) (rend_no u es c s o w 0 R hn h1 h2)
  · have e1 : rendE es c s o = 0 := by unfold rendE; rw [if_neg h1, if_neg h2]
    have e2 : rendL es c s o = es ++ [endEv c s o] := by unfold rendL; rw [if_pos e1]
    have q1 : ¬ (lastE c es).1 = 0 := fun h => h2 (.inl h)
    have q2 : (lastE c es).2 = false := by
      cases hb : (lastE c es).2 with
      | true => exact absurd (.inr (.inl hb)) h2
      | false => rfl
    have q3 : (lastE c es).1 = s := by
      by_cases h : (lastE c es).1 = s
      · exact h
      · exact absurd (.inr (.inr h)) h2
    rw [e1, e2]
    rcases R.slice with ⟨rfl, h5⟩ | ⟨g, cap, rfl, _⟩
    · have h5 : es = [] := by simpa [evCells] using h5
      subst h5
      exact absurd rfl q1
    · rw [evCells_len] at R ⊢
      refine (rend_ok g cap es c s o w 0 R hn h1 q1 q2 q3).mono ?_
      rintro e w' ⟨u', rfl, R', k⟩
      exact ⟨u', rfl, R'.mono (Nat.zero_le _), k⟩
end Go.Proofs.Ytfnddooclgklmaa
