/- ReadsPlay: the law, in plain Lean; and what moves past what. -/
import Derived.Test.YtdnablmlkkkdhaaSameB
import Derived.Test.YtdnablmlkkkdhaaNone
namespace Go.Proofs.Ytdnablmlkkkdhaa
open Go.RowKit
set_option linter.unusedVariables false
/-- the program's reads are the document's -/
structure Plays (P D : List Rd) (last : Nat) : Prop where
  keys : P.map Rd.key = D.map Rd.key
  rise : P.Pairwise (fun a b => a.id < b.id)
  top : ∀ x ∈ P, x.id ≤ last
theorem Plays.zero : Plays [] [] 0 := ⟨rfl, List.Pairwise.nil, fun x h => (by cases h)⟩
theorem keys_at {P D : List Rd} (h : P.map Rd.key = D.map Rd.key) (i : Nat) (h1 : i < P.length) (h2 : i < D.length) : (P[i]).key = (D[i]).key := by
  have := congrArg (fun l => l[i]?) h
  simpa [h1, h2] using this
theorem keys_len {P D : List Rd} (h : P.map Rd.key = D.map Rd.key) : D.length = P.length := by
  have := congrArg List.length h; simpa using this.symm
theorem keys_filter (p : Rd → Bool) (p' : Int × Fd × Res → Bool) (hp : ∀ x, p x = p' x.key) : ∀ {P D : List Rd}, P.map Rd.key = D.map Rd.key → (P.filter p).map Rd.key = (D.filter p).map Rd.key
  | [], [], _ => rfl
  | [], _ :: _, h => by cases h
  | _ :: _, [], h => by cases h
  | x :: P, y :: D, h => by
    simp only [List.map_cons, List.cons.injEq] at h
    have ih := keys_filter p p' hp h.2
    have e : p x = p y := by rw [hp, hp, h.1]
    cases hx : p x
    · rw [hx] at e; simp [hx, ← e, ih]
    · rw [hx] at e; simp [hx, ← e, ih, h.1]
def sureK (n : Int) (k : Int × Fd × Res) : Bool := decide (n < k.1)
def expireK (n : Int) (k : Int × Fd × Res) : Bool := decide (n ≤ k.2.1.dl)
theorem sure_keys (n : Int) : ∀ x, sureP n x = sureK n x.key := fun _ => rfl
theorem expire_keys (n : Int) : ∀ x, expireP n x = expireK n x.key := fun _ => rfl
theorem not_keys {p : Rd → Bool} {p' : Int × Fd × Res → Bool} (h : ∀ x, p x = p' x.key) : ∀ x, (fun x => !p x) x = (fun k => !p' k) x.key := fun x => by simp [h]
/-- of a rising list the first ones are those up to a number -/
theorem split_rise {D : List Rd} (hr : D.Pairwise (fun a b => a.id < b.id)) (id : Int) (k : Nat) (hk : k ≤ D.length) (h1 : ∀ j (h : j < D.length), j < k → (D[j]).id ≤ id) (h2 : ∀ h : k < D.length, id < (D[k]).id) :
    D.take k = D.filter (fun x => !sureP id x) ∧ D.drop k = D.filter (sureP id) := by
  have ht : ∀ x ∈ D.take k, sureP id x = false := fun x hx => by
    rw [List.mem_take_iff_getElem] at hx
    obtain ⟨i, hi, rfl⟩ := hx
    have := h1 i (by omega) (by omega)
    simp [sureP]; omega
  have hd : ∀ x ∈ D.drop k, sureP id x = true := fun x hx => by
    rw [List.mem_drop_iff_getElem] at hx
    obtain ⟨i, hi, rfl⟩ := hx
    have h3 := h2 (by omega)
    rcases Nat.eq_zero_or_pos i with h0 | h0
    · subst h0; simpa [sureP] using h3
    · have := List.pairwise_iff_getElem.1 hr k (k + i) (by omega) (by omega) (by omega)
      simp [sureP]; omega
  have e := (List.take_append_drop k D).symm
  constructor
  · conv => rhs; rw [e]
    rw [List.filter_append, List.filter_eq_self.2 (fun x hx => by simp [ht x hx]), List.filter_eq_nil_iff.2 (fun x hx => by simp [hd x hx]), List.append_nil]
  · conv => rhs; rw [e]
    rw [List.filter_append, List.filter_eq_nil_iff.2 (fun x hx => by simp [ht x hx]), List.filter_eq_self.2 (fun x hx => hd x hx), List.nil_append]
section
variable {P D : List Rd} {last : Nat}
theorem Plays.filter (h : Plays P D last) (p : Rd → Bool) (p' : Int × Fd × Res → Bool) (hp : ∀ x, p x = p' x.key) : Plays (P.filter p) (D.filter p) last :=
  ⟨keys_filter p p' hp h.keys, h.rise.filter _, fun x hx => h.top x (List.mem_filter.1 hx).1⟩
theorem Plays.riseD (h : Plays P D last) : D.Pairwise (fun a b => a.id < b.id) := by
  have hl := keys_len h.keys
  rw [List.pairwise_iff_getElem]
  intro i j hi hj hij
  have e1 := congrArg Prod.fst (keys_at h.keys i (by omega) hi)
  have e2 := congrArg Prod.fst (keys_at h.keys j (by omega) hj)
  simp only [Rd.key] at e1 e2
  rw [← e1, ← e2]
  exact List.pairwise_iff_getElem.1 h.rise i j (by omega) (by omega) hij
theorem Plays.put (h : Plays P D last) (d : Fd) (x : Res) (F F' : Array Value) : Plays (P ++ [⟨((last + 1 : Nat) : Int), d, x, F'⟩]) (D ++ [⟨((last + 1 : Nat) : Int), d, x, F⟩]) (last + 1) := by
  refine ⟨by simp [h.keys, Rd.key], ?_, fun y hy => ?_⟩
  · rw [List.pairwise_append]
    refine ⟨h.rise, by simp, fun a ha b hb => ?_⟩
    rw [List.mem_singleton.1 hb]
    have := h.top a ha
    show a.id < _
    dsimp only
    omega
  · rcases List.mem_append.1 hy with hy | hy
    · have := h.top y hy; omega
    · rw [List.mem_singleton.1 hy]; exact Int.le_refl _
theorem Plays.last_ (h : Plays P D last) : lastA D = lastA P := by
  have hl := keys_len h.keys
  by_cases hp : 0 < P.length
  · rw [lastA_eq P hp, lastA_eq D (by omega)]
    have := congrArg Prod.fst (keys_at h.keys (P.length - 1) (by omega) (by omega))
    simp only [Rd.key] at this
    simp only [hl, this]
  · have e1 : P = [] := List.eq_nil_of_length_eq_zero (by omega)
    have e2 : D = [] := List.eq_nil_of_length_eq_zero (by omega)
    rw [e1, e2]
theorem Plays.none_ (h : Plays P D last) : Plays (P.filter flushP) [] last := by
  have : P.filter flushP = [] := List.filter_eq_nil_iff.2 (fun x _ => by simp [flushP])
  rw [this]
  exact ⟨rfl, List.Pairwise.nil, fun x hx => (by cases hx)⟩
theorem flush_all (P : List Rd) : P.filter (fun x => !flushP x) = P := List.filter_eq_self.2 (fun x _ => by simp [flushP])
end
/-! ### what moves past what -/
section
variable {w w' : World} {b r q : Nat} {v u : Value} {cap last c n : Nat} {P D : List Rd}
theorem Rds.far {w : World} (H : Rds w b r v cap last P) {g t : Nat} {cs : Array Value} (B : Blk w g t cs) (h1 : t ≠ 66) (h2 : t ≠ 49) : g ∉ r :: blkOf v := by
  intro hm
  rcases List.mem_cons.1 hm with rfl | hm
  · exact B.ne_ H.head h1 rfl
  · exact H.row.ne B h2 g hm (by simp)
theorem Rds.offT (H : Rds w b r v cap last P) : OffT w 72 (r :: blkOf v) := OffT.cons H.head (by decide) (H.row.offT (by decide))
theorem Doc.past (E : Doc w q u c n D) (H : Rds w b r v cap last P) (k : Upd w w' (r :: blkOf v)) : Doc w' q u c n D := E.upd k (H.far E.head (by decide) (by decide)) H.offT
theorem Doc.past1 (E : Doc w q u c n D) (H : Rds w b r v cap last P) (k : Upd w w' [r]) : Doc w' q u c n D := E.past H (k.mono (S' := r :: blkOf v) (by intro i hi _; simp at hi; simp [hi]))
theorem Rds.past (H : Rds w b r v cap last P) (E : Doc w q u c n D) (k : Upd w w' [q]) : Rds w' b r v cap last P :=
  H.upd k (by intro hm; rw [List.mem_singleton] at hm; exact H.head.ne_ E.head (by decide) hm) (H.row.ne E.head (by decide))
theorem RowOf.past {w w' : World} {b' : Nat} {vg : Value} {Fs : List (Array Value)} (G : RowOf w b' 49 34 vg Fs) (E : Doc w q u c n D) (k : Upd w w' [q]) : RowOf w' b' 49 34 vg Fs := G.upd k (G.ne E.head (by decide))
theorem Blk.past {w w' : World} {g t : Nat} {cs : Array Value} (B : Blk w g t cs) (E : Doc w q u c n D) (ht : t ≠ 63) (k : Upd w w' [q]) : Blk w' g t cs := k.blk B (by intro hm; rw [List.mem_singleton] at hm; exact B.ne_ E.head ht hm)
end
end Go.Proofs.Ytdnablmlkkkdhaa
