/- HistoryPlays: each act keeps the records of the events those of the history. -/
import Derived.Test.YtfnddooclgklmaaPlayPlain
namespace Go.Proofs.Ytfnddooclgklmaa
set_option linter.unusedVariables false
theorem lastRec_snoc_ne {c c' : Int} {rs : List Rec} {r : Rec} (hr : r.cl = c) (hne : c ≠ c') : lastRec c' (rs ++ [r]) = lastRec c' rs := by
  have hp : place c' (rs ++ [r]) = place c' rs := by rw [place_snoc, if_neg (by rw [hr]; exact hne)]
  unfold lastRec
  rw [hp]
  by_cases h1 : c' < 0 ∨ 5 < c'
  · rw [if_pos h1, if_pos h1]
  · rw [if_neg h1, if_neg h1]
    by_cases h2 : place c' rs = 0
    · rw [if_pos h2, if_pos h2]
    · rw [if_neg h2, if_neg h2]
      have := place_le c' rs
      rw [List.getElem?_append_left (by omega)]
theorem lastRec_snoc {c : Int} {rs : List Rec} {r : Rec} (hr : r.cl = c) (h0 : 0 ≤ c) (h5 : c ≤ 5) : lastRec c (rs ++ [r]) = some r := by
  unfold lastRec
  rw [if_neg (by omega), place_snoc, if_pos hr, if_neg (by omega)]
  simp
theorem callE_zero {rs : List Rec} {c s : Int} {o : Op4} (h : callE rs c s o = 0) : 0 ≤ c ∧ c ≤ 5 ∧ 1 ≤ s := by
  unfold callE at h
  split at h
  · omega
  · omega
theorem Rel.call {rs : List Rec} {ev : Nat} {es : List Ev} (h : Rel rs ev es) (c s : Int) (o : Op4) : Rel (callR rs c s o ev) (callN rs c s o ev) (rcallL es c s o) := by
  have hord := h.ord.call c s o
  have he := h.callE c s o
  by_cases e : Go.Proofs.Ytfnddooclgklmaa.callE rs c s o = 0
  · obtain ⟨b1, b2, b3⟩ := callE_zero e
    have q1 : callR rs c s o ev = rs ++ [newRec c s o ev] := by unfold callR; rw [if_pos e]
    have q2 : callN rs c s o ev = ev + 1 := by unfold callN; rw [if_pos e]
    have q3 : rcallL es c s o = es ++ [callEv c s o] := by unfold rcallL; rw [if_pos (he ▸ e)]
    rw [q1, q2] at hord
    rw [q1, q2, q3]
    refine ⟨hord, by simp [h.len], ?_, fun c' h1 h2 => ?_, fun c' hc => ?_⟩
    · rw [recsOf_call _ rfl, ← h.recs, Nat.zero_add, ← h.len]; rfl
    · by_cases hcc : c = c'
      · subst hcc
        rw [lastRec_snoc (c := c) (r := newRec c s o ev) rfl h1 h2, lastE_snoc, if_pos (show (callEv c s o).cl = c from rfl)]
        simp [newRec, callEv, zeroOut]
      · rw [lastRec_snoc_ne (c := c) (r := newRec c s o ev) rfl hcc, lastE_snoc, if_neg (by exact hcc)]
        exact h.last c' h1 h2
    · rw [lastE_snoc, if_neg (by intro e; have : c = c' := e; omega)]
      exact h.out c' hc
  · have q1 : callR rs c s o ev = rs := by unfold callR; rw [if_neg e]
    have q2 : callN rs c s o ev = ev := by unfold callN; rw [if_neg e]
    have q3 : rcallL es c s o = es := by unfold rcallL; rw [if_neg (fun h => e (he.trans h))]
    rw [q1, q2, q3]; exact h
theorem Rel.ends {rs : List Rec} {ev : Nat} {es : List Ev} (h : Rel rs ev es) (c s : Int) (o : Out6) : Rel (endR rs c s o ev) (endN rs c s o ev) (rendL es c s o) := by
  have hord := h.ord.ends c s o
  have he := h.endE c s o
  by_cases e : Go.Proofs.Ytfnddooclgklmaa.endE rs c s o = 0
  · have q2 : endN rs c s o ev = ev + 1 := by unfold endN; rw [if_pos e]
    have q3 : rendL es c s o = es ++ [endEv c s o] := by unfold rendL; rw [if_pos (he ▸ e)]
    have e0 := e
    unfold Go.Proofs.Ytfnddooclgklmaa.endE at e
    split at e
    · omega
    · next hk =>
      cases hl : lastRec c rs with
      | none => rw [hl] at e; simp at e
      | some r =>
        rw [hl] at e
        dsimp only at e
        obtain ⟨p, hp, hpl, rfl, hc1, hc2⟩ := lastRec_some hl
        have q1 : endR rs c s o ev = rs.set p (endRec rs[p] ev o) := by
          unfold endR; rw [if_pos e0, hl]; dsimp only; rw [hpl, Nat.add_sub_cancel]
        have hq : rs[p].seq = s ∧ rs[p].to < 0 := by
          split at e
          · next h => exact h
          · omega
        have hcl := place_cl hpl hp
        rw [q1, q2] at hord
        rw [q1, q2, q3]
        have hkind : (endEv c s o).out.kind ≠ 0 := by show o.kind ≠ 0; omega
        refine ⟨hord, by simp [h.len], ?_, fun c' h1 h2 => ?_, fun c' hc => ?_⟩
        · rw [recsOf_end _ hkind, ← h.recs, Nat.zero_add, ← h.len]
          apply List.ext_getElem
          · simp
          · intro j hj1 hj2
            have hj : j < rs.length := by simpa using hj1
            rw [List.getElem_map]
            by_cases hjp : p = j
            · subst hjp
              rw [List.getElem_set_self]
              unfold ended
              rw [if_pos ⟨hq.2, hcl, hq.1⟩]; rfl
            · rw [List.getElem_set_ne hjp]
              unfold ended
              rw [if_neg]
              rintro ⟨t1, t2, t3⟩
              have t2 : rs[j].cl = c := t2
              rcases Nat.lt_or_ge j p with hlt | hge
              · have := (h.ord.one p j hp hlt (by rw [t2, hcl])).1
                omega
              · exact place_last hpl j hj (by omega) t2
        · have hplace : place c' (rs.set p (endRec rs[p] ev o)) = place c' rs := place_set c' rs p _ hp rfl
          have hold := h.last c' h1 h2
          by_cases hcc : c = c'
          · subst hcc
            have : lastRec c (rs.set p (endRec rs[p] ev o)) = some (endRec rs[p] ev o) := by
              unfold lastRec
              rw [if_neg (by omega), hplace, hpl, if_neg (by omega), Nat.add_sub_cancel]
              simp [hp]
            rw [this, lastE_snoc, if_pos (show (endEv c s o).cl = c from rfl)]
            have hk0 : ¬ o.kind = 0 := by omega
            simp [endRec, endEv, hq.1, hk0]
          · have : lastRec c' (rs.set p (endRec rs[p] ev o)) = lastRec c' rs := by
              unfold lastRec
              rw [hplace]
              split
              · rfl
              · split
                · rfl
                · next hpc =>
                  obtain ⟨p', hp'⟩ := Nat.exists_eq_succ_of_ne_zero hpc
                  have hpl' := place_le c' rs
                  have hcl' := place_cl hp' (by omega)
                  rw [hp']
                  simp only [Nat.succ_eq_add_one, Nat.add_sub_cancel]
                  rw [List.getElem?_set_ne]
                  rintro rfl
                  exact hcc (hcl.symm.trans hcl')
            rw [this, lastE_snoc, if_neg (by exact hcc)]
            exact hold
        · rw [lastE_snoc, if_neg (by intro e; have : c = c' := e; omega)]
          exact h.out c' hc
  · have q1 : endR rs c s o ev = rs := by unfold endR; rw [if_neg e]
    have q2 : endN rs c s o ev = ev := by unfold endN; rw [if_neg e]
    have q3 : rendL es c s o = es := by unfold rendL; rw [if_neg (fun h => e (he.trans h))]
    rw [q1, q2, q3]; exact h
end Go.Proofs.Ytfnddooclgklmaa
