/- Slices that may begin within a row. No program in sight. (From layer 18's.) -/
import Derived.Test.YtkopocbcldjjbaaDevR
namespace Go.Proofs.Ytkopocbcldjjbaa
open Go.RowKit
set_option linter.unusedVariables false
/-- v is a slice, wherever it begins in its row, of the structs Fs, of n cells each -/
structure RowAt (w : World) (t : TypeId) (n : Nat) (v : Value) (Fs : List (Array Value)) : Prop where
  sizes : ∀ F ∈ Fs, F.size = n
  ones : ∀ F ∈ Fs, ∀ u ∈ F, u.oneCell' = true
  lies : ∃ ga cap, v = .slice ga Fs.length cap ∧ Fs.length ≤ cap ∧ cap ≤ maxLen ∧ (ga = none → cap = 0) ∧ (0 < Fs.length → ∃ g off cur, ga = some ⟨g, off, none⟩ ∧ Blk w g t cur ∧ ∀ i (h : i < Fs.length) j, j < n → cur[off + i * n + j]? = Fs[i][j]?)
/-- no block of S is of type t -/
def OffT (w : World) (t : TypeId) (S : List Nat) : Prop := ∀ g ∈ S, ∀ cs, ¬ Blk w g t cs
theorem OffT.nil (w : World) (t : TypeId) : OffT w t [] := fun _ h => by cases h
theorem OffT.one {w : World} {t t' g : Nat} {cs : Array Value} (h : Blk w g t' cs) (ht : t' ≠ t) : OffT w t [g] := fun k hk cs' hb => by
  rw [List.mem_singleton] at hk
  subst hk
  exact h.ne_ hb ht rfl
theorem OffT.cons {w : World} {t t' g : Nat} {cs : Array Value} {S : List Nat} (h : Blk w g t' cs) (ht : t' ≠ t) (hS : OffT w t S) : OffT w t (g :: S) := fun k hk cs' hb => by
  rcases List.mem_cons.1 hk with rfl | hk
  · exact h.ne_ hb ht rfl
  · exact hS k hk cs' hb
theorem RowOf.offT {w : World} {b : Nat} {e t : TypeId} {n : Nat} {v : Value} {Fs : List (Array Value)} (h : RowOf w b e n v Fs) (ht : e ≠ t) : OffT w t (blkOf v) := fun g hg cs hb => by
  rcases h.slice with ⟨rfl, _⟩ | ⟨g', c, rfl, _, _, cur, hc, _⟩
  · simp [blkOf, Value.ownBlock] at hg
  · simp [blkOf, Value.ownBlock] at hg
    subst hg
    exact hc.ne_ hb ht rfl
section
variable {w w' : World} {t : TypeId} {n : Nat} {v : Value} {Fs : List (Array Value)} {S : List Nat}
theorem RowAt.upd (h : RowAt w t n v Fs) (u : Upd w w' S) (hS : OffT w t S) : RowAt w' t n v Fs := by
  obtain ⟨h1, h2, ga, cap, hv, hc, hm, hn, hl⟩ := h
  refine ⟨h1, h2, ga, cap, hv, hc, hm, hn, fun hp => ?_⟩
  obtain ⟨g, off, cur, hg, hb, hcs⟩ := hl hp
  exact ⟨g, off, cur, hg, u.blk hb (fun hm => hS g hm cur hb), hcs⟩
theorem RowAt.nil (w : World) (t : TypeId) (n : Nat) : RowAt w t n (.slice none 0 0) [] :=
  ⟨fun _ h => (by cases h), fun _ h => (by cases h), none, 0, rfl, Nat.le_refl _, by unfold maxLen; omega, fun _ => rfl, fun h => absurd h (by simp)⟩
theorem RowOf.at_ {b : Nat} (h : RowOf w b t n v Fs) (hn : 0 < n) : RowAt w t n v Fs := by
  refine ⟨h.sizes, h.ones, ?_⟩
  obtain ⟨_, ⟨hv, hf⟩ | ⟨g, cap, cur, hv, hb, hg, hc, hm, hs, ht⟩⟩ := h.own
  · have : Fs = [] := List.eq_nil_of_length_eq_zero hf
    subst this
    exact ⟨none, 0, hv, Nat.le_refl _, by unfold maxLen; omega, fun _ => rfl, fun h => absurd h (by simp)⟩
  · refine ⟨_, cap, hv, hc, hm, fun h => (by cases h), fun hp => ⟨g, 0, cur, rfl, hg, fun i hi j hj => ?_⟩⟩
    rw [Nat.zero_add, ← Array.getElem?_toList, ← flat_get Fs h.sizes i hi j hj, ← ht, List.getElem?_take, if_pos]
    have : (i + 1) * n ≤ Fs.length * n := Nat.mul_le_mul_right _ hi
    rw [Nat.succ_mul] at this
    omega
theorem RowAt.agg {g off cap k : Nat} (h : RowAt w t n (.slice (some ⟨g, off, none⟩) k cap) Fs) (i : Nat) (hi : i < Fs.length) : aggAt n w g (off + i * n) = some Fs[i] := by
  obtain ⟨ga, cap', hv, _, _, _, hl⟩ := h.lies
  obtain ⟨g', off', cur, hg, hb, hcs⟩ := hl (by omega)
  injection hv with h1 _ _
  rw [hg] at h1
  injection h1 with h1
  injection h1 with h1 h2 _
  subst h1
  subst h2
  exact hb.agg _ (h.sizes _ (List.getElem_mem hi)) (fun j hj => hcs i hi j hj)
theorem RowAt.form (h : RowAt w t n v Fs) : ∃ ga cap, v = .slice ga Fs.length cap ∧ Fs.length ≤ cap ∧ cap ≤ maxLen ∧ (ga = none → cap = 0) ∧ (0 < Fs.length → ∃ g off, ga = some ⟨g, off, none⟩ ∧ g < w.heap.size) := by
  obtain ⟨ga, cap, hv, hc, hm, hn, hl⟩ := h.lies
  refine ⟨ga, cap, hv, hc, hm, hn, fun hp => ?_⟩
  obtain ⟨g, off, cur, hg, hb, _⟩ := hl hp
  exact ⟨g, off, hg, hb.lt⟩
/-- the cells that an append reads -/
theorem RowAt.src (h : RowAt w t n v Fs) {ad : Addr} {k cap : Nat} (hv : v = .slice (some ad) k cap) : ∀ j u, (flat Fs)[j]? = some u → w.cell? (ad.add j) = some u := fun j u hu => by
  obtain ⟨ga, cap', hv', _, _, _, hl⟩ := h.lies
  have hlen := flat_length Fs h.sizes
  have hj : j < (flat Fs).length := (List.getElem?_eq_some_iff.1 hu).1
  rw [hlen] at hj
  have hn : 0 < n := by
    rcases Nat.eq_zero_or_pos n with h | h
    · rw [h] at hj; simp at hj
    · exact h
  have hp : 0 < Fs.length := by
    rcases Nat.eq_zero_or_pos Fs.length with h | h
    · rw [h] at hj; simp at hj
    · exact h
  obtain ⟨g, off, cur, hg, hb, hcs⟩ := hl hp
  rw [hv] at hv'
  injection hv' with h1 _ _
  rw [hg] at h1
  injection h1 with h1
  subst h1
  have hi : j / n < Fs.length := (Nat.div_lt_iff_lt_mul hn).2 hj
  have hjm : j % n < n := Nat.mod_lt _ hn
  have e : j = j / n * n + j % n := by rw [Nat.mul_comm]; exact (Nat.div_add_mod j n).symm
  rw [Addr.add_mid, hb.cell]
  rw [e, flat_get Fs h.sizes _ hi _ hjm] at hu
  rw [← hu, ← hcs _ hi _ hjm]
  congr 1
  omega
theorem RowAt.flat_one (h : RowAt w t n v Fs) : ∀ u ∈ flat Fs, u.oneCell' = true := fun u hu => by
  obtain ⟨F, hF, hu⟩ := flat_mem hu
  exact h.ones F hF u hu
/-- the first k -/
theorem RowAt.take_ {ga : Option Addr} {cap k : Nat} (h : RowAt w t n (.slice ga Fs.length cap) Fs) (hk : k ≤ Fs.length) : RowAt w t n (.slice (if cap = 0 then ga else ga.map (·.add 0)) k cap) (Fs.take k) := by
  obtain ⟨ga', cap', hv, hc, hm, hn, hl⟩ := h.lies
  injection hv with h1 _ h3
  subst h1
  subst h3
  have hlen : (Fs.take k).length = k := by rw [List.length_take]; omega
  refine ⟨fun F hF => h.sizes F (List.mem_of_mem_take hF), fun F hF => h.ones F (List.mem_of_mem_take hF), _, cap, by rw [hlen], by rw [hlen]; omega, hm, fun hg => ?_, fun hp => ?_⟩
  · split at hg
    · next h => exact h
    · exact hn (by simpa using hg)
  · rw [hlen] at hp
    obtain ⟨g, off, cur, hg, hb, hcs⟩ := hl (by omega)
    refine ⟨g, off, cur, ?_, hb, fun i hi j hj => ?_⟩
    · rw [if_neg (by omega), hg]; simp [Addr.add_mid]
    · rw [hcs i (by rw [hlen] at hi; omega) j hj, List.getElem_take]
/-- all from k on -/
theorem RowAt.drop_ {ga : Option Addr} {cap k : Nat} (h : RowAt w t n (.slice ga Fs.length cap) Fs) (hk : k ≤ Fs.length) : RowAt w t n (.slice (if cap = k then ga else ga.map (·.add (k * n))) (Fs.length - k) (cap - k)) (Fs.drop k) := by
  obtain ⟨ga', cap', hv, hc, hm, hn, hl⟩ := h.lies
  injection hv with h1 _ h3
  subst h1
  subst h3
  have hlen : (Fs.drop k).length = Fs.length - k := List.length_drop
  refine ⟨fun F hF => h.sizes F (List.mem_of_mem_drop hF), fun F hF => h.ones F (List.mem_of_mem_drop hF), _, cap - k, by rw [hlen], by rw [hlen]; omega, by omega, fun hg => ?_, fun hp => ?_⟩
  · split at hg
    · next h => omega
    · have := hn (by simpa using hg); omega
  · rw [hlen] at hp
    obtain ⟨g, off, cur, hg, hb, hcs⟩ := hl (by omega)
    refine ⟨g, off + k * n, cur, ?_, hb, fun i hi j hj => ?_⟩
    · rw [if_neg (by omega), hg]; simp [Addr.add_mid]
    · rw [List.getElem_drop, ← hcs (k + i) (by rw [hlen] at hi; omega) j hj]
      congr 1
      rw [Nat.add_mul]
      omega
end
theorem Upd.own {W w1 w2 : World} {v1 : Value} {base k : Nat} {e : TypeId} {n : Nat} {xs : List Value} (u : Upd W w1 []) (hb : W.heap.size ≤ base) (hown : w1.ownsRow base e n v1 k xs) (hgr : w1.grownBy w2 v1.ownBlock) : Upd W w2 [] := by
  refine u.trans (Upd.of_grown (S := blkOf v1) hgr (by intro k hk _; simp [blkOf, hk])) fun i hi hl => ?_
  exfalso
  obtain ⟨_, ⟨rfl, _⟩ | ⟨g, cap, cur, rfl, hg, _⟩⟩ := hown
  · simp [blkOf, Value.ownBlock] at hi
  · simp [blkOf, Value.ownBlock] at hi; omega
end Go.Proofs.Ytkopocbcldjjbaa
