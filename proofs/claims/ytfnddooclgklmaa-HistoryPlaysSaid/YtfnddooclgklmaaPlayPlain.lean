/- HistoryPlays: the records of the document's events are those of the history, in plain Lean. -/
import Derived.Test.YtfnddooclgklmaaOrdPlain
import Derived.Test.YtfnddooclgklmaaRefSpec
namespace Go.Proofs.Ytfnddooclgklmaa
set_option linter.unusedVariables false
/-- the first end of a call, from place k on -/
def findEnd (c s : Int) : Nat → List Ev → Int × Out6
  | _, [] => (-1, zeroOut)
  | k, e :: l => if e.cl = c ∧ e.seq = s ∧ e.out.kind ≠ 0 then (k, e.out) else findEnd c s (k + 1) l
/-- the records of the events, the first of which has number i -/
def recsOf : Nat → List Ev → List Rec
  | _, [] => []
  | i, e :: l => if e.out.kind ≠ 0 then recsOf (i + 1) l else ⟨e.cl, e.seq, e.op, i, (findEnd e.cl e.seq (i + 1) l).1, (findEnd e.cl e.seq (i + 1) l).2⟩ :: recsOf (i + 1) l
theorem findEnd_no (c s : Int) : ∀ (l : List Ev) (k : Nat), (findEnd c s k l).1 < 0 → findEnd c s k l = (-1, zeroOut)
  | [], _, _ => rfl
  | e :: l, k, h => by
    unfold findEnd at h ⊢
    split
    · next hm => rw [if_pos hm] at h; dsimp only at h; omega
    · next hm => rw [if_neg hm] at h; exact findEnd_no c s l (k + 1) h
theorem findEnd_snoc (c s : Int) (e : Ev) : ∀ (l : List Ev) (k : Nat), findEnd c s k (l ++ [e]) = if (findEnd c s k l).1 < 0 then (if e.cl = c ∧ e.seq = s ∧ e.out.kind ≠ 0 then (((k + l.length : Nat) : Int), e.out) else (-1, zeroOut)) else findEnd c s k l
  | [], k => by simp [findEnd]
  | x :: l, k => by
    rw [List.cons_append]
    unfold findEnd
    by_cases hm : x.cl = c ∧ x.seq = s ∧ x.out.kind ≠ 0
    · rw [if_pos hm, if_pos hm, if_neg (by dsimp only; omega)]
    · rw [if_neg hm, if_neg hm, findEnd_snoc c s e l (k + 1), List.length_cons, show k + 1 + l.length = k + (l.length + 1) by omega]
theorem recsOf_call (e : Ev) (he : e.out.kind = 0) : ∀ (l : List Ev) (i : Nat), recsOf i (l ++ [e]) = recsOf i l ++ [⟨e.cl, e.seq, e.op, ((i + l.length : Nat) : Int), -1, zeroOut⟩]
  | [], i => by simp [recsOf, findEnd, he]
  | x :: l, i => by
    rw [List.cons_append]
    unfold recsOf
    have hf : findEnd x.cl x.seq (i + 1) (l ++ [e]) = findEnd x.cl x.seq (i + 1) l := by
      rw [findEnd_snoc]
      split
      · next h => rw [if_neg (by simp [he]), findEnd_no _ _ _ _ h]
      · rfl
    rw [recsOf_call e he l (i + 1), hf, List.length_cons, show i + 1 + l.length = i + (l.length + 1) by omega]
    split
    · rfl
    · rfl
/-- a record, behind an end -/
def ended (e : Ev) (n : Nat) (r : Rec) : Rec := if r.to < 0 ∧ r.cl = e.cl ∧ r.seq = e.seq then ⟨r.cl, r.seq, r.op, r.frm, (n : Int), e.out⟩ else r
theorem recsOf_end (e : Ev) (he : e.out.kind ≠ 0) : ∀ (l : List Ev) (i : Nat), recsOf i (l ++ [e]) = (recsOf i l).map (ended e (i + l.length))
  | [], i => by simp [recsOf, he]
  | x :: l, i => by
    rw [List.cons_append]
    unfold recsOf
    rw [recsOf_end e he l (i + 1), List.length_cons, show i + 1 + l.length = i + (l.length + 1) by omega]
    split
    · rfl
    · rw [List.map_cons]
      congr 1
      rw [findEnd_snoc, show i + 1 + l.length = i + (l.length + 1) by omega]
      unfold ended
      dsimp only
      by_cases h1 : (findEnd x.cl x.seq (i + 1) l).1 < 0
      · rw [if_pos h1]
        by_cases h2 : x.cl = e.cl ∧ x.seq = e.seq
        · rw [if_pos ⟨h2.1.symm, h2.2.symm, he⟩, if_pos ⟨h1, h2.1, h2.2⟩]
        · rw [if_neg (fun h => h2 ⟨h.1.symm, h.2.1.symm⟩), if_neg (fun h => h2 ⟨h.2.1, h.2.2⟩)]
          have := findEnd_no _ _ _ _ h1
          rw [this]
      · rw [if_neg h1, if_neg (fun h => h1 h.1)]
/-- the history's records are those of the events -/
structure Rel (rs : List Rec) (ev : Nat) (es : List Ev) : Prop where
  ord : Ord rs ev
  len : ev = es.length
  recs : rs = recsOf 0 es
  last : ∀ c, 0 ≤ c → c ≤ 5 → match lastRec c rs with
    | none => lastE c es = (0, true)
    | some r => lastE c es = (r.seq, decide (0 ≤ r.to))
  out : ∀ c, c < 0 ∨ 5 < c → lastE c es = (0, true)
theorem Rel.zero : Rel [] 0 [] := ⟨Ord.zero, rfl, rfl, fun c h1 h2 => by
  have : lastRec c [] = none := by unfold lastRec; split <;> simp [place, placeL]
  rw [this]; rfl, fun c _ => rfl⟩
theorem Rel.callE {rs : List Rec} {ev : Nat} {es : List Ev} (h : Rel rs ev es) (c s : Int) (o : Op4) : callE rs c s o = rcallE es c s o := by
  unfold Go.Proofs.Ytfnddooclgklmaa.callE rcallE
  by_cases hb : c < 0 ∨ 5 < c ∨ s < 1 ∨ chk o ≠ 0
  · rw [if_pos hb, if_pos hb]
  · rw [if_neg hb, if_neg hb]
    have := h.last c (by omega) (by omega)
    cases hl : lastRec c rs with
    | none => rw [hl] at this; dsimp only at this ⊢; rw [this]; simp; omega
    | some r =>
      rw [hl] at this
      dsimp only at this ⊢
      rw [this]
      by_cases ht : r.to < 0
      · have : ¬ 0 ≤ r.to := by omega
        simp [ht, this]
      · have : 0 ≤ r.to := by omega
        simp [ht, this]
theorem Rel.endE {rs : List Rec} {ev : Nat} {es : List Ev} (h : Rel rs ev es) (c s : Int) (o : Out6) : endE rs c s o = rendE es c s o := by
  unfold Go.Proofs.Ytfnddooclgklmaa.endE rendE
  by_cases hb : o.kind < 1 ∨ 3 < o.kind
  · rw [if_pos hb, if_pos hb]
  · rw [if_neg hb, if_neg hb]
    cases hl : lastRec c rs with
    | none =>
      have : lastE c es = (0, true) := by
        by_cases hc : c < 0 ∨ 5 < c
        · exact h.out c hc
        · have := h.last c (by omega) (by omega)
          rw [hl] at this; exact this
      rw [this]; simp
    | some r =>
      obtain ⟨p, hp, hpl, hr, hc1, hc2⟩ := lastRec_some hl
      have hseq := h.ord.seq r (by rw [← hr]; exact List.getElem_mem hp)
      have := h.last c hc1 hc2
      rw [hl] at this
      dsimp only at this ⊢
      rw [this]
      by_cases hq : r.seq = s ∧ r.to < 0
      · have q1 : ¬ 0 ≤ r.to := by omega
        have q2 : ¬ r.seq = 0 := by omega
        have q3 : ¬ s = 0 := by omega
        rw [if_pos hq, if_neg]
        simp [q1, hq.1, q3]
      · rw [if_neg hq, if_pos]
        by_cases h1 : r.seq = s
        · have : 0 ≤ r.to := by
            by_cases h2 : r.to < 0
            · exact absurd ⟨h1, h2⟩ hq
            · omega
          right; left; simp [this]
        · right; right; exact h1
end Go.Proofs.Ytfnddooclgklmaa
