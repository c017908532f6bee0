/- RingsPlay: each answer of a ring, and of the document's, in one way. -/
import Derived.Test.YtkopocbcldjjbaaPlayPlain
import Derived.Test.YtkopocbcldjjbaaDocP
namespace Go.Proofs.Ytkopocbcldjjbaa
open Go.RowKit
set_option linter.unusedVariables false
set_option linter.unusedSimpArgs false
section
variable {r pb cap first cnt q : Nat} {fs : Nat → Fr} {xs : List Fr} {v : Value} {w w' : World}
theorem at0_nil : atB [] 0 = false ∧ atFr [] 0 = zeroFr := ⟨by simp [atB], by simp [atFr]⟩
theorem at0_cons (x : Fr) (l : List Fr) : atB (x :: l) 0 = true ∧ atFr (x :: l) 0 = x := ⟨by simp [atB], by simp [atFr]⟩
theorem Like.cnt0 (L : Like [] cap first cnt fs) : cnt = 0 := by have := L.len; simp at this; omega
theorem pop_any (w : World) (h : Ring w r pb cap first cnt fs) (L : Like xs cap first cnt fs) :
    Calls Try.prog 10 #[.pointer (some ⟨r, 0, none⟩)] w fun e w' => ∃ F, e = .returned (.tuple #[.agg F, .bool (atB xs 0)]) ∧ IsF w' 0 F (atFr xs 0) ∧
      ∃ first' cnt' fs', Ring w' r pb cap first' cnt' fs' ∧ Like (xs.drop 1) cap first' cnt' fs' ∧ Upd w w' [r, pb] := by
  cases xs with
  | nil =>
    obtain rfl := L.cnt0
    rw [at0_nil.1, at0_nil.2]
    refine (pop_no r pb cap first fs w h).mono ?_
    rintro e w' ⟨rfl, u⟩
    exact ⟨_, rfl, zero_isF _ _, _, _, _, h.upd0 u, L, u.mono (by simp)⟩
  | cons x l =>
    obtain ⟨e1, e2, e3⟩ := L.pop h.hf h.hc
    rw [(at0_cons x l).1, (at0_cons x l).2]
    refine (pop_ok r pb cap first cnt fs w h e2).mono ?_
    rintro e w' ⟨F, rfl, hF, R, u⟩
    rw [← e1] at hF
    exact ⟨_, rfl, hF.mono (Nat.zero_le _), _, _, _, R, e3, u⟩
theorem front_any (w : World) (h : Ring w r pb cap first cnt fs) (L : Like xs cap first cnt fs) :
    Calls Try.prog 15 #[.pointer (some ⟨r, 0, none⟩)] w fun e w' => ∃ F, e = .returned (.tuple #[.agg F, .bool (atB xs 0)]) ∧ IsF w' 0 F (atFr xs 0) ∧ Upd w w' [] := by
  cases xs with
  | nil =>
    obtain rfl := L.cnt0
    rw [at0_nil.1, at0_nil.2]
    refine (front_no r pb cap first fs w h).mono ?_
    rintro e w' ⟨rfl, u⟩
    exact ⟨_, rfl, zero_isF _ _, u⟩
  | cons x l =>
    obtain ⟨e1, e2, e3⟩ := L.pop h.hf h.hc
    rw [(at0_cons x l).1, (at0_cons x l).2]
    refine (front_ok r pb cap first cnt fs w h e2).mono ?_
    rintro e w' ⟨F, rfl, hF, u⟩
    rw [← e1] at hF
    exact ⟨_, rfl, hF.mono (Nat.zero_le _), u⟩
theorem dpop_any (w : World) (h : DRing w q v cap xs) :
    Calls Try.prog 14 #[.pointer (some ⟨q, 0, none⟩)] w fun e w' => ∃ F v', e = .returned (.tuple #[.agg F, .bool (atB xs 0)]) ∧ IsF w' 0 F (atFr xs 0) ∧ DRing w' q v' cap (xs.drop 1) ∧ Upd w w' [q] ∧ ∀ g ∈ blkOf v', g ∈ blkOf v := by
  cases xs with
  | nil =>
    rw [at0_nil.1, at0_nil.2]
    refine (dpop_no q cap v w h).mono ?_
    rintro e w' ⟨F, rfl, hF, u⟩
    exact ⟨_, _, rfl, hF, h.upd0 u, u.mono (by simp), fun g hg => hg⟩
  | cons x l =>
    rw [(at0_cons x l).1, (at0_cons x l).2]
    refine (dpop_ok q cap v x l w h).mono ?_
    rintro e w' ⟨F, v', rfl, hF, D, u, hs⟩
    exact ⟨_, _, rfl, hF, D, u, hs⟩
def more (xs : List Fr) (cap : Nat) (x : Fr) : List Fr := if xs.length < cap then xs ++ [x] else xs
theorem push_any {x : Fr} {u : Value} (w : World) (h : Ring w r pb cap first cnt fs) (L : Like xs cap first cnt fs) (hx : Fine x) (hg : Good x) (hv : Src w u x.2) (hv1 : u.oneCell' = true) :
    Calls Try.prog 9 #[.pointer (some ⟨r, 0, none⟩), .agg (cut x u)] w fun e w' => e = .returned (.bool (decide (xs.length < cap))) ∧
      (∃ cnt' fs', Ring w' r pb cap first cnt' fs' ∧ Like (more xs cap x) cap first cnt' fs') ∧ Upd w w' [r, pb] ∧ ∀ S, (∀ g ∈ S, g < w.heap.size) → Av w pb cap S → Av w' pb cap S := by
  have hl := L.len
  have hc := h.hc
  by_cases hlt : cnt < cap
  · rw [decide_eq_true (show xs.length < cap by omega)]
    have L2 := L.push h.hf hlt hx
    refine (push_av r pb cap first cnt fs x u w h hlt hg hv hv1).mono ?_
    rintro e w' ⟨rfl, R, uu, ha⟩
    refine ⟨rfl, ⟨_, _, R, ?_⟩, uu, ha⟩
    unfold more
    rw [if_pos (by omega)]
    exact L2
  · rw [decide_eq_false (show ¬ xs.length < cap by omega)]
    obtain rfl : cnt = cap := by omega
    have pl := h.row.lt
    refine (push_full r pb cnt first fs _ w h).mono ?_
    rintro e w' ⟨rfl, uu⟩
    refine ⟨rfl, ⟨_, _, h.upd0 uu, ?_⟩, uu.mono (by simp), fun S hS ha => ha.upd pl uu (by simp)⟩
    unfold more
    rw [if_neg (by omega)]
    exact L
theorem dpush_any {x : Fr} {u : Value} (w : World) (h : DRing w q v cap xs) (hc : xs.length ≤ cap) (h0 : 0 < cap) (h64 : cap ≤ 64) (hg : Good x) (hv : Src w u x.2) (hv0 : ∀ n c, u = .slice none n c → c = 0) :
    Calls Try.prog 20 #[.pointer (some ⟨q, 0, none⟩), .agg (cut x u)] w fun e w' => e = .returned (.bool (decide (xs.length < cap))) ∧
      (∃ v', DRing w' q v' cap (more xs cap x) ∧ ∀ g ∈ blkOf v', (g ∈ blkOf v ∧ 0 < xs.length) ∨ w.heap.size ≤ g) ∧ Upd w w' [q] ∧ ∀ S, (∀ g ∈ S, g < w.heap.size) → AvD w q S → AvD w' q S := by
  by_cases hlt : xs.length < cap
  · rw [decide_eq_true hlt]
    refine (dpush_ok q cap v u xs x w h hlt h64 hg hv hv0).mono ?_
    rintro e w' ⟨v', rfl, D, uu, hb, ha⟩
    refine ⟨rfl, ⟨v', ?_, fun g hg => .inr (hb g hg)⟩, uu, ha⟩
    unfold more
    rw [if_pos hlt]
    exact D
  · rw [decide_eq_false hlt]
    refine (dpush_full q cap v xs _ w h (by omega)).mono ?_
    rintro e w' ⟨rfl, uu⟩
    refine ⟨rfl, ⟨v, ?_, fun g hg => .inl ⟨hg, by omega⟩⟩, uu.mono (by simp), fun S hS ha => ha.upd h uu (by simp) (by simp)⟩
    unfold more
    rw [if_neg hlt]
    exact h.upd0 uu
theorem DRing.rowNe (d : DRing w q v cap xs) (h : Ring w r pb cap first cnt fs) (hs : 0 < xs.length → ∀ g ∈ blkOf v, g ≠ pb) : 0 < xs.length → ∀ g ∈ blkOf v, g ∉ [r, pb] := fun hp g hg => by
  have h1 := hs hp g hg
  have h2 : g ≠ r := by
    rintro rfl
    obtain ⟨hh, Fs, r', hl, hf⟩ := d
    obtain ⟨ga, c, rfl, _, _, _, h4⟩ := r'.lies
    obtain ⟨g', off, cur, rfl, hb', _⟩ := h4 (by omega)
    simp [blkOf, Value.ownBlock] at hg
    subst hg
    exact h.head.ne_ hb' (by decide) rfl
  simp
  exact ⟨h2, h1⟩
theorem Off.three {a b c ta tb tc : Nat} {ca cb cc : Array Value} (h1 : Blk w a ta ca) (n1 : ta ≠ 57) (h2 : Blk w b tb cb) (n2 : tb ≠ 57) (h3 : Blk w c tc cc) (n3 : tc ≠ 57) : Off w [a, b, c] := fun k hk cs hb => by
  simp only [List.mem_cons, List.not_mem_nil, or_false] at hk
  rcases hk with rfl | rfl | rfl
  · exact h1.ne_ hb n1 rfl
  · exact h2.ne_ hb n2 rfl
  · exact h3.ne_ hb n3 rfl
/-- what a ring's change leaves of the document's -/
theorem DRing.pastR (d : DRing w q v cap xs) (h : Ring w r pb cap first cnt fs) (hr : q ≠ r) (hp : q ≠ pb) (hs : 0 < xs.length → ∀ g ∈ blkOf v, g ≠ pb) (u : Upd w w' [r, pb]) : DRing w' q v cap xs := by
  obtain ⟨cs, hb, _⟩ := h.row
  exact d.updB u (by simp; omega) (d.rowNe h hs) (Off.two h.head (by decide) hb (by decide))
/-- what the document's change leaves of a ring -/
theorem Ring.pastD {cs : Array Value} (h : Ring w r pb cap first cnt fs) (d : Blk w q 54 cs) (hr : q ≠ r) (hp : q ≠ pb) (u : Upd w w' [q]) : Ring w' r pb cap first cnt fs :=
  h.upd u (by simp; omega) (by simp; omega) (Off.one d (by decide))
/-- what a frame that is laid leaves of both -/
theorem Ring.pastF {p : Nat} {F : Array Value} (h : Ring w r pb cap first cnt fs) (d : Blk w p 40 F) (hp : p ≠ pb) (u : Upd w w' [p]) : Ring w' r pb cap first cnt fs :=
  h.upd u (by have := h.head.ne_ d (by decide); simpa using this) (by simp; omega) (Off.one d (by decide))
theorem DRing.pastF {p : Nat} {F : Array Value} (h : DRing w q v cap xs) (d : Blk w p 40 F) (hp : 0 < xs.length → ∀ g ∈ blkOf v, g ≠ p) (u : Upd w w' [p]) : DRing w' q v cap xs :=
  h.updB u (by have := h.head.ne_ d (by decide); simpa using this) (fun h0 g hg => by have := hp h0 g hg; simpa using this) (Off.one d (by decide))
theorem lay_at {p : Nat} {F F0 : Array Value} {x : Fr} (B : Blk w p 40 F0) (hz : F0.size = 29) (hF : IsF w 0 F x) :
    roomAt w p 0 F = true ∧ Blk (w.setCells p 0 F.toList) p 40 F ∧ IsF (w.setCells p 0 F.toList) 0 F x ∧ Upd w (w.setCells p 0 F.toList) [p] := by
  obtain ⟨m1, m2, m3, m4⟩ := hF.lay B hz
  exact ⟨m1, m3, m4, Upd.setCells (b := p) (by simp) F.toList 0 (Upd.refl _ _)⟩
/-- what a round of RingsPlay leaves -/
inductive Done (w wx : World) (r pb q n p1 p2 : Nat) (v13 v14 : Value) : Prop
  | mk (bb : Bool) (F G : Array Value) (x : Fr) (first cnt : Nat) (fs : Nat → Fr) (v : Value) (xs : List Fr) (e13 : v13 = .bool bb) (e14 : v14 = .bool bb) (b1 : Blk wx p1 40 F) (b2 : Blk wx p2 40 G) (hF : IsF wx 0 F x) (hG : IsF wx 0 G x) (fine : Fine x)
    (ring : Ring wx r pb n first cnt fs) (doc : DRing wx q v n xs) (like : Like xs n first cnt fs) (sep : 0 < xs.length → ∀ g ∈ blkOf v, g ≠ pb) (upd : Upd w wx [])
theorem Own.off {w : World} {b g t : Nat} {v : Value} {ms : List Value} {cs : Array Value} (h : Own w b v ms) (hb : Blk w g t cs) (ht : t ≠ 57) : g ∉ blkOf v := fun hg => by
  obtain ⟨n, hl, ⟨rfl, _⟩ | ⟨g', cap, cur, rfl, _, hb', _⟩⟩ := h
  · simp [blkOf, Value.ownBlock] at hg
  · simp [blkOf, Value.ownBlock] at hg
    subst hg
    exact Blk.ne_ (t' := 57) hb hb' ht rfl
theorem DRing.off {w : World} {q cap b : Nat} {v v1 : Value} {xs : List Fr} {ms : List Value} (d : DRing w q v cap xs) (o : Own w b v1 ms) : 0 < xs.length → ∀ g ∈ blkOf v, g ∉ blkOf v1 := fun hp g hg => by
  obtain ⟨hh, Fs, r, hl, hf⟩ := d
  obtain ⟨ga, cp, rfl, _, _, _, h4⟩ := r.lies
  obtain ⟨g', off', cur, rfl, hb, hcs⟩ := h4 (by omega)
  simp [blkOf, Value.ownBlock] at hg
  subst hg
  exact o.off hb (by decide)
end
end Go.Proofs.Ytkopocbcldjjbaa
