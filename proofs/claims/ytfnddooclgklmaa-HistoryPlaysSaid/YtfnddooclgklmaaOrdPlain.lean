/- HistoryOrder: the law of the records, in plain Lean. -/
import Derived.Test.YtfnddooclgklmaaGrowB
namespace Go.Proofs.Ytfnddooclgklmaa
set_option linter.unusedVariables false
/-- how often an event is told of -/
def tells (r : Rec) (e : Nat) : Nat := (if r.frm = e then 1 else 0) + (if r.to = e then 1 else 0)
def cnt (e : Nat) : List Rec → Nat
  | [] => 0
  | r :: l => tells r e + cnt e l
theorem cnt_append (e : Nat) : ∀ (a b : List Rec), cnt e (a ++ b) = cnt e a + cnt e b
  | [], b => by simp [cnt]
  | r :: a, b => by rw [List.cons_append, cnt, cnt, cnt_append e a b, Nat.add_assoc]
theorem cnt_set (e : Nat) : ∀ (l : List Rec) (p : Nat) (hp : p < l.length) (r : Rec), cnt e (l.set p r) + tells l[p] e = cnt e l + tells r e
  | x :: l, 0, _, r => by simp [cnt]; omega
  | x :: l, p + 1, hp, r => by
    have := cnt_set e l p (by simpa using hp) r
    simp only [List.set_cons_succ, cnt, List.getElem_cons_succ]
    omega
theorem cnt_zero (e : Nat) : ∀ (l : List Rec), (∀ r ∈ l, tells r e = 0) → cnt e l = 0
  | [], _ => rfl
  | r :: l, h => by rw [cnt, h r List.mem_cons_self, cnt_zero e l (fun r hr => h r (List.mem_cons_of_mem _ hr))]
structure Ord (rs : List Rec) (ev : Nat) : Prop where
  inv : Inv rs ev
  frm : ∀ r ∈ rs, 0 ≤ r.frm ∧ r.frm < ev ∧ r.to < ev
  to_ : ∀ r ∈ rs, 0 ≤ r.to → r.frm < r.to
  kind : ∀ r ∈ rs, (r.to < 0 ↔ r.out.kind = 0)
  seq : ∀ r ∈ rs, 1 ≤ r.seq
  up : ∀ i (h : i + 1 < rs.length), rs[i].frm < rs[i + 1].frm
  one : ∀ i k (h : i < rs.length) (hk : k < i), rs[k].cl = rs[i].cl → 0 ≤ rs[k].to ∧ rs[k].to < rs[i].frm ∧ rs[k].seq < rs[i].seq
  all : ∀ e, e < ev → cnt e rs = 1
theorem Ord.zero : Ord [] 0 := ⟨Inv.zero, by simp, by simp, by simp, by simp, by simp, by simp, by simp⟩
theorem Ord.none {rs : List Rec} {ev : Nat} (h : Ord rs ev) : cnt ev rs = 0 := cnt_zero _ _ fun r hr => by
  obtain ⟨_, h2, h3⟩ := h.frm r hr
  unfold tells
  rw [if_neg (by omega), if_neg (by omega)]
theorem lastRec_some {c : Int} {rs : List Rec} {r : Rec} (h : lastRec c rs = some r) : ∃ p, ∃ hp : p < rs.length, place c rs = p + 1 ∧ rs[p] = r ∧ 0 ≤ c ∧ c ≤ 5 := by
  unfold lastRec at h
  split at h
  · cases h
  · split at h
    · cases h
    · next h1 hp =>
      obtain ⟨p, hp⟩ := Nat.exists_eq_succ_of_ne_zero hp
      rw [hp] at h
      simp only [Nat.succ_eq_add_one, Nat.add_sub_cancel] at h
      obtain ⟨hpl, hr⟩ := List.getElem?_eq_some_iff.1 h
      exact ⟨p, hpl, hp, hr, by omega, by omega⟩
/-- no record of the client stands behind its last one -/
theorem place_last {c : Int} {rs : List Rec} {p : Nat} (h : place c rs = p + 1) (j : Nat) (hj : j < rs.length) (hpj : p < j) : rs[j].cl ≠ c := by
  have := (placeL_at c _ p h).2 j hpj
  simpa [hj] using this
theorem place_none {c : Int} {rs : List Rec} (h : place c rs = 0) (j : Nat) (hj : j < rs.length) : rs[j].cl ≠ c := by
  have := placeL_zero c _ h j
  simpa [hj] using this
theorem Ord.call {rs : List Rec} {ev : Nat} (h : Ord rs ev) (c s : Int) (o : Op4) : Ord (callR rs c s o ev) (callN rs c s o ev) := by
  unfold callR callN
  by_cases e : callE rs c s o = 0
  · rw [if_pos e, if_pos e]
    obtain ⟨h1, h2, h3, h4, h5, h6, h7, h8⟩ := h
    have hn := Ord.none ⟨h1, h2, h3, h4, h5, h6, h7, h8⟩
    unfold callE at e
    split at e
    · omega
    · next hb =>
      have key : ∀ j (hj : j < rs.length), rs[j].cl = c → 0 ≤ rs[j].to ∧ rs[j].seq < s := by
        intro j hj hc
        cases hl : lastRec c rs with
        | none =>
          exfalso
          unfold lastRec at hl
          rw [if_neg (by omega)] at hl
          split at hl
          · next hp => exact place_none hp j hj hc
          · next hp =>
            have := place_le c rs
            rw [List.getElem?_eq_none_iff] at hl
            omega
        | some r =>
          rw [hl] at e
          dsimp only at e
          obtain ⟨p, hp, hpl, rfl, _⟩ := lastRec_some hl
          have hr : ¬ rs[p].to < 0 ∧ ¬ s ≤ rs[p].seq := by
            constructor
            · intro h; rw [if_pos h] at e; omega
            · intro h; split at e <;> first | omega | (rw [if_pos h] at e; omega)
          rcases Nat.lt_trichotomy j p with hjp | rfl | hjp
          · have := h7 p j hp hjp (by rw [hc, place_cl hpl hp])
            have := this.1
            omega
          · omega
          · exact absurd hc (place_last hpl j hj hjp)
      refine ⟨?_, ?_, ?_, ?_, ?_, ?_, ?_, ?_⟩
      · refine ⟨fun r hr ht => ?_, by have := h1.few; simp; omega⟩
        rcases List.mem_append.1 hr with hr | hr
        · exact h1.ends r hr ht
        · rw [List.mem_singleton.1 hr]; rfl
      · intro r hr
        rcases List.mem_append.1 hr with hr | hr
        · have := h2 r hr; omega
        · rw [List.mem_singleton.1 hr]; simp only [newRec]; omega
      · intro r hr
        rcases List.mem_append.1 hr with hr | hr
        · exact h3 r hr
        · rw [List.mem_singleton.1 hr]; simp only [newRec]; omega
      · intro r hr
        rcases List.mem_append.1 hr with hr | hr
        · exact h4 r hr
        · rw [List.mem_singleton.1 hr]; simp [newRec, zeroOut]
      · intro r hr
        rcases List.mem_append.1 hr with hr | hr
        · exact h5 r hr
        · rw [List.mem_singleton.1 hr]; simp only [newRec]; omega
      · intro i hi
        simp only [List.length_append, List.length_singleton] at hi
        by_cases hl : i + 1 < rs.length
        · have := h6 i hl
          simpa [List.getElem_append, hl, show i < rs.length by omega] using this
        · have hi2 : i + 1 = rs.length := by omega
          have := (h2 rs[i] (List.getElem_mem (by omega))).2.1
          simpa [List.getElem_append, hl, show i < rs.length by omega, newRec] using this
      · intro i k hi hk hc
        simp only [List.length_append, List.length_singleton] at hi
        by_cases hl : i < rs.length
        · have hkl : k < rs.length := by omega
          simp only [List.getElem_append, hl, hkl, ↓reduceDIte] at hc ⊢
          exact h7 i k hl hk hc
        · have hkl : k < rs.length := by omega
          simp only [List.getElem_append, hl, hkl, ↓reduceDIte] at hc ⊢
          have h00 : ([newRec c s o ev][i - rs.length]'(by simp; omega)) = newRec c s o ev := by simp
          rw [h00] at hc ⊢
          have hc' : rs[k].cl = c := hc
          have := key k hkl hc'
          have h9 := (h2 rs[k] (List.getElem_mem hkl)).2.2
          exact ⟨this.1, h9, this.2⟩
      · intro e he
        rw [cnt_append]
        simp only [cnt, tells, newRec, Nat.add_zero]
        by_cases hev : e = ev
        · subst hev
          have q1 : ¬ (-1 : Int) = (e : Int) := by omega
          simp [hn, q1]
        · have q1 : ¬ (-1 : Int) = (e : Int) := by omega
          have q2 : ¬ (ev : Int) = (e : Int) := by omega
          simp [h8 e (by omega), q1, q2]
  · rw [if_neg e, if_neg e]; exact h
theorem Ord.ends {rs : List Rec} {ev : Nat} (h : Ord rs ev) (c s : Int) (o : Out6) : Ord (endR rs c s o ev) (endN rs c s o ev) := by
  unfold endR endN
  by_cases e : endE rs c s o = 0
  · rw [if_pos e, if_pos e]
    have hn := h.none
    obtain ⟨h1, h2, h3, h4, h5, h6, h7, h8⟩ := h
    unfold endE at e
    split at e
    · omega
    · next hk =>
      cases hl : lastRec c rs with
      | none => rw [hl] at e; simp at e
      | some r =>
        rw [hl] at e
        dsimp only at e ⊢
        obtain ⟨p, hp, hpl, rfl, _⟩ := lastRec_some hl
        rw [hpl, Nat.add_sub_cancel]
        have hr : rs[p].to < 0 := by
          split at e
          · next hq => exact hq.2
          · omega
        have hto := h1.ends _ (List.getElem_mem hp) hr
        have mem : ∀ r ∈ rs.set p (endRec rs[p] ev o), r ∈ rs ∨ r = endRec rs[p] ev o := fun r hr => List.mem_or_eq_of_mem_set hr
        have hfp := h2 rs[p] (List.getElem_mem hp)
        refine ⟨?_, ?_, ?_, ?_, ?_, ?_, ?_, ?_⟩
        · refine ⟨fun r hr ht => ?_, by have := h1.few; simp; omega⟩
          rcases mem r hr with hr | rfl
          · exact h1.ends r hr ht
          · simp only [endRec] at ht; omega
        · intro r hr
          rcases mem r hr with hr | rfl
          · have := h2 r hr; omega
          · simp only [endRec]; omega
        · intro r hr
          rcases mem r hr with hr | rfl
          · exact h3 r hr
          · simp only [endRec]; omega
        · intro r hr
          rcases mem r hr with hr | rfl
          · exact h4 r hr
          · simp only [endRec]
            constructor
            · intro h; omega
            · intro h; omega
        · intro r hr
          rcases mem r hr with hr | rfl
          · exact h5 r hr
          · exact h5 rs[p] (List.getElem_mem hp)
        · intro i hi
          simp only [List.length_set] at hi
          have hfrm : ∀ j (hj : j < rs.length), ((rs.set p (endRec rs[p] ev o))[j]'(by simpa using hj)).frm = rs[j].frm := by
            intro j hj
            rw [List.getElem_set]
            split
            · next e => subst e; rfl
            · rfl
          rw [hfrm i (by omega), hfrm (i + 1) hi]
          exact h6 i hi
        · intro i k hi hk hc
          simp only [List.length_set] at hi
          have hkl : k < rs.length := by omega
          have hcl : ∀ j (hj : j < rs.length), ((rs.set p (endRec rs[p] ev o))[j]'(by simpa using hj)).cl = rs[j].cl ∧ ((rs.set p (endRec rs[p] ev o))[j]'(by simpa using hj)).frm = rs[j].frm ∧ ((rs.set p (endRec rs[p] ev o))[j]'(by simpa using hj)).seq = rs[j].seq := by
            intro j hj
            rw [List.getElem_set]
            split
            · next e => subst e; exact ⟨rfl, rfl, rfl⟩
            · exact ⟨rfl, rfl, rfl⟩
          obtain ⟨q1, q2, q3⟩ := hcl i hi
          obtain ⟨r1, r2, r3⟩ := hcl k hkl
          rw [q1, r1] at hc
          rw [q2, q3, r3]
          have hb := h7 i k hi hk hc
          have hne : p ≠ k := by
            rintro rfl
            omega
          rw [List.getElem_set_ne hne]
          exact hb
        · intro e he
          have hc := cnt_set e rs p hp (endRec rs[p] ev o)
          have t1 : tells rs[p] e = if rs[p].frm = e then 1 else 0 := by
            unfold tells
            rw [if_neg (show ¬ rs[p].to = e by omega)]; rfl
          have t2 : tells (endRec rs[p] ev o) e = (if rs[p].frm = e then 1 else 0) + (if (ev : Int) = e then 1 else 0) := rfl
          by_cases hev : e = ev
          · subst hev
            rw [if_neg (by omega)] at t1
            rw [if_neg (by omega), if_pos rfl] at t2
            omega
          · rw [if_neg (show ¬ (ev : Int) = e by omega)] at t2
            have := h8 e (by omega)
            omega
  · rw [if_neg e, if_neg e]; exact h
end Go.Proofs.Ytfnddooclgklmaa
