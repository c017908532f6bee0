/- Words on structs of whatever size that are read and laid as a whole, and on rows of them. No function of the program in sight. -/
import Derived.Test.YtkopocbcldjjbaaRows
import Derived.Test.YtkopocbcldjjbaaBase
import Derived.Test.YtkopocbcldjjbaaRingI
import Derived.Deep.MidRow
import Derived.Deep.RegionLaw
import Derived.Outline
import Derived.OwnWalk
namespace Go.Proofs.Ytkopocbcldjjbaa
open Go.RowKit
set_option linter.unusedVariables false
theorem foldl_zipIdx : ∀ (vs : List Value) (o : Nat) (cs : Array Value), (vs.zipIdx o).foldl (fun cs x => cs.setIfInBounds x.2 x.1) cs = putAt cs o vs
  | [], _, _ => rfl
  | v :: r, o, cs => by rw [List.zipIdx_cons, List.foldl_cons, foldl_zipIdx r, putAt]
theorem laid_all {Z A : Array Value} {n : Nat} (hA : A.size = n) (hZ : Z.size = n) : Array.foldl (fun cs x => cs.setIfInBounds x.2 x.1) Z A.zipIdx 0 n = A := by
  have e : n = A.zipIdx.size := by simp [hA]
  rw [e, ← Array.foldl_toList, Array.toList_zipIdx, foldl_zipIdx]
  exact putAt_all (by omega)
section
variable {w w' : World} {b g t : Nat} {cs : Array Value} {S : List Nat}
/-- a block is laid anew as a whole -/
theorem Blk.laid {cs' : Array Value} (h : Blk w b t cs) (hs : cs'.size = cs.size) : Blk (w.setCells b 0 cs'.toList) b t cs' := (h.setCells cs'.toList 0).congr (putAt_all hs)
end
/-- a cell of a block that no one turns is as it was -/
theorem cell_upd {w w' : World} {a : Addr} {v : Value} {S : List Nat} (h : w.cell? a = some v) (u : Upd w w' S) (hb : a.block ∉ S) : w'.cell? a = some v := by
  have hl := World.block_lt_of_cell? w _ h
  have := u.block _ hl hb
  rw [← h]
  simp only [World.cell?, this]
/-! ### structs as a whole -/
/-- the n cells that lie at a place -/
noncomputable def aggAt (n : Nat) (w : World) (g o : Nat) : Option (Array Value) :=
  if (List.range n).all (fun j => (w.cell? ⟨g, o + j, none⟩).isSome) then some ((List.range n).map fun j => (w.cell? ⟨g, o + j, none⟩).getD undef).toArray else none
noncomputable def aggSlow (t : TypeId) (w : World) (g o : Nat) : Result Value := (loadVar t ⟨g, o, none⟩).run Try.prog w
theorem run_load_agg {t : TypeId} {n : Nat} {d : TypeDesc} (hu : Try.prog.underlying t = some d) (hd : d.isRow = true) (hi : (Try.prog.info? t).map (·.size) = some n) (w : World) (g o : Nat) :
    (loadVar t ⟨g, o, none⟩).run Try.prog w = (match aggAt n w g o with | some F => .ok (.agg F) w | none => aggSlow t w g o) := by
  unfold aggAt
  split
  · next F h =>
    split at h
    · next ha =>
      injection h with h
      subst h
      have hl : ((List.range n).map fun j => (w.cell? ⟨g, o + j, none⟩).getD undef).length = n := by simp
      refine run_loadVar_mid (P := Try.prog) w g o t _ _ (fun j v hv => ?_) hu hd (by rw [hi, hl])
      have hj : j < n := by rw [← hl]; exact (List.getElem?_eq_some_iff.1 hv).1
      rw [List.all_eq_true] at ha
      have := ha j (List.mem_range.2 hj)
      obtain ⟨u, hu⟩ := Option.isSome_iff_exists.1 this
      simp only [List.getElem?_map, List.getElem?_range hj, Option.map_some, hu, Option.getD_some, Option.some.injEq] at hv
      rw [hu, hv]
    · cases h
  · rfl
/-- is there room for the n cells F at a place? -/
noncomputable def aggRoom (n : Nat) (w : World) (g o : Nat) (F : Array Value) : Bool :=
  (List.range n).all (fun j => (w.cell? ⟨g, o + j, none⟩).isSome && !(w.frozen? ⟨g, o + j, none⟩)) && F.size == n && F.all (·.oneCell')
noncomputable def aggRoomSlow (t : TypeId) (w : World) (g o : Nat) (F : Array Value) : Result Unit := (storeVar t ⟨g, o, none⟩ (.agg F)).run Try.prog w
theorem run_store_agg {t : TypeId} {n : Nat} (hi : (Try.prog.info? t).map (·.size) = some n) (w : World) (g o : Nat) (F : Array Value) :
    (storeVar t ⟨g, o, none⟩ (.agg F)).run Try.prog w = (match aggRoom n w g o F with | true => .ok () (w.setCells g o F.toList) | false => aggRoomSlow t w g o F) := by
  split
  · next h =>
    simp only [aggRoom, Bool.and_eq_true, List.all_eq_true, List.mem_range, Bool.not_eq_true', beq_iff_eq] at h
    obtain ⟨⟨h1, h2⟩, h3⟩ := h
    exact run_storeVar_mid (P := Try.prog) w g o t F (by rw [h2]; exact h1) (by rw [hi, h2]) h3
  · rfl
theorem aggAt_drew (k : Nat) (w : World) (g o : Nat) : aggAt k w.drew g o = aggAt k w g o := rfl
theorem aggAt_drewN (k : Nat) (w : World) (n g o : Nat) : aggAt k (w.drewN n) g o = aggAt k w g o := rfl
theorem aggRoom_drew (k : Nat) (w : World) (g o : Nat) (F : Array Value) : aggRoom k w.drew g o F = aggRoom k w g o F := rfl
theorem aggRoom_drewN (k : Nat) (w : World) (n g o : Nat) (F : Array Value) : aggRoom k (w.drewN n) g o F = aggRoom k w g o F := rfl
theorem aggAt_of {n : Nat} {w : World} {g o : Nat} {F : Array Value} (hF : F.size = n) (h : ∀ j, j < n → w.cell? ⟨g, o + j, none⟩ = F[j]?) : aggAt n w g o = some F := by
  have h1 : ∀ j, j < n → w.cell? ⟨g, o + j, none⟩ = some (F[j]?.getD undef) := fun j hj => by rw [h j hj, Array.getElem?_eq_getElem (by omega)]; rfl
  unfold aggAt
  rw [if_pos (by rw [List.all_eq_true]; intro j hj; rw [h1 j (List.mem_range.1 hj)]; rfl)]
  congr 1
  apply Array.ext
  · simp [hF]
  · intro j hj1 hj2
    have hj : j < n := by simpa using hj1
    simp only [List.getElem_toArray, List.getElem_map, List.getElem_range, h1 j hj, Option.getD_some]
    rw [Array.getElem?_eq_getElem hj2]; rfl
theorem aggAt_cells {n : Nat} {w : World} {g o : Nat} {F : Array Value} (h : aggAt n w g o = some F) : F.size = n ∧ ∀ j, j < n → w.cell? ⟨g, o + j, none⟩ = F[j]? := by
  unfold aggAt at h
  split at h
  · next ha =>
    injection h with h
    subst h
    refine ⟨by simp, fun j hj => ?_⟩
    rw [List.all_eq_true] at ha
    obtain ⟨u, hu⟩ := Option.isSome_iff_exists.1 (ha j (List.mem_range.2 hj))
    simp [hj, hu]
  · cases h
theorem aggAt_upd {n : Nat} {w w' : World} {g o : Nat} {F : Array Value} {S : List Nat} (hn : 0 < n) (h : aggAt n w g o = some F) (u : Upd w w' S) (hb : g ∉ S) : aggAt n w' g o = some F := by
  obtain ⟨h1, h2⟩ := aggAt_cells h
  refine aggAt_of h1 fun j hj => ?_
  have h3 := h2 j hj
  rw [Array.getElem?_eq_getElem (by omega)] at h3
  rw [cell_upd h3 u hb, Array.getElem?_eq_getElem (by omega)]
/-- a part of a struct -/
theorem aggAt_part {n m : Nat} {w : World} {g o k : Nat} {F G : Array Value} (h : aggAt n w g o = some F) (hk : k + m ≤ n) (hG : G.size = m) (e : ∀ j, j < m → F[k + j]? = G[j]?) : aggAt m w g (o + k) = some G := by
  obtain ⟨h1, h2⟩ := aggAt_cells h
  refine aggAt_of hG fun j hj => ?_
  rw [← e j hj, ← h2 (k + j) (by omega), Nat.add_assoc]
theorem aggAt_cell {n : Nat} {w : World} {g o : Nat} {F : Array Value} (h : aggAt n w g o = some F) (k : Nat) (hk : k < n) : w.cell? ⟨g, o + k, none⟩ = F[k]? := (aggAt_cells h).2 k hk
theorem Blk.agg {w : World} {g t n : Nat} {cs F : Array Value} (o : Nat) (h : Blk w g t cs) (hF : F.size = n) (hc : ∀ j, j < n → cs[o + j]? = F[j]?) : aggAt n w g o = some F :=
  aggAt_of hF fun j hj => by rw [h.cell, hc j hj]
theorem Blk.agg0 {w : World} {g t n : Nat} {F : Array Value} (h : Blk w g t F) (hF : F.size = n) : aggAt n w g 0 = some F := h.agg 0 hF fun j _ => by rw [Nat.zero_add]
theorem Blk.aggRoom {w : World} {g t n : Nat} {cs F : Array Value} (o : Nat) (h : Blk w g t cs) (hs : o + n ≤ cs.size) (hF : F.size = n) (h1 : F.all (·.oneCell') = true) : aggRoom n w g o F = true := by
  simp only [Go.Proofs.Ytkopocbcldjjbaa.aggRoom, Bool.and_eq_true, List.all_eq_true, List.mem_range, Bool.not_eq_true', beq_iff_eq]
  exact ⟨⟨h.there o n hs, hF⟩, h1⟩
/-! ### rows of structs of the run's own -/
/-- the cells of structs, one behind the other -/
def flat : List (Array Value) → List Value
  | [] => []
  | F :: r => F.toList ++ flat r
theorem flat_append : ∀ (a b : List (Array Value)), flat (a ++ b) = flat a ++ flat b
  | [], _ => rfl
  | F :: r, b => by rw [List.cons_append, flat, flat, flat_append r b, List.append_assoc]
theorem flat_length {n : Nat} : ∀ (l : List (Array Value)), (∀ F ∈ l, F.size = n) → (flat l).length = l.length * n
  | [], _ => by simp [flat]
  | F :: r, h => by
    rw [flat, List.length_append, flat_length r (fun G hG => h G (List.mem_cons_of_mem _ hG)), Array.length_toList, h F List.mem_cons_self, List.length_cons, Nat.succ_mul, Nat.add_comm]
theorem flat_get {n : Nat} : ∀ (l : List (Array Value)) (h : ∀ F ∈ l, F.size = n) (i : Nat) (hi : i < l.length) (j : Nat) (hj : j < n), (flat l)[i * n + j]? = l[i][j]?
  | F :: r, h, 0, _, j, hj => by
    have := h F List.mem_cons_self
    rw [flat, Nat.zero_mul, Nat.zero_add, List.getElem?_append_left (by rw [Array.length_toList]; omega), Array.getElem?_toList]; rfl
  | F :: r, h, i + 1, hi, j, hj => by
    have hF := h F List.mem_cons_self
    rw [flat, Nat.succ_mul, List.getElem?_append_right (by rw [Array.length_toList]; omega), Array.length_toList, hF, show i * n + n + j - n = i * n + j by omega,
      flat_get r (fun G hG => h G (List.mem_cons_of_mem _ hG)) i (by simpa using hi) j hj]; rfl
theorem flat_mem : ∀ {l : List (Array Value)} {u : Value}, u ∈ flat l → ∃ F ∈ l, u ∈ F
  | F :: r, u, h => by
    rw [flat, List.mem_append] at h
    rcases h with h | h
    · exact ⟨F, List.mem_cons_self, by simpa using h⟩
    · obtain ⟨G, hG, hu⟩ := flat_mem h
      exact ⟨G, List.mem_cons_of_mem _ hG, hu⟩
/-- v is a slice of the run's own (not below base) of the structs Fs, of n cells each -/
structure RowOf (w : World) (base : Nat) (e : TypeId) (n : Nat) (v : Value) (Fs : List (Array Value)) : Prop where
  sizes : ∀ F ∈ Fs, F.size = n
  ones : ∀ F ∈ Fs, ∀ u ∈ F, u.oneCell' = true
  own : w.ownsRow base e n v Fs.length (flat Fs)
/-- the block of a slice -/
def blkOf (v : Value) : List Nat := v.ownBlock.toList
theorem RowOf.nil (w : World) (base : Nat) (e : TypeId) (n : Nat) : RowOf w base e n (.slice none 0 0) [] :=
  ⟨fun _ h => by simp at h, fun _ h => by simp at h, World.ownsRow_nil w base e n⟩
theorem RowOf.slice {w : World} {base : Nat} {e : TypeId} {n : Nat} {v : Value} {Fs : List (Array Value)} (h : RowOf w base e n v Fs) :
    (v = .slice none 0 0 ∧ Fs = []) ∨ ∃ g cap, v = .slice (some ⟨g, 0, none⟩) Fs.length cap ∧ base ≤ g ∧ Fs.length ≤ cap ∧ (∃ cur, Blk w g e cur ∧ cur.size = cap * n ∧ cur.toList.take (Fs.length * n) = flat Fs) := by
  obtain ⟨h1, h2 | ⟨g, cap, cur, hv, hb, hg, hc, hm, hs, ht⟩⟩ := h.own
  · exact .inl ⟨h2.1, List.eq_nil_of_length_eq_zero h2.2⟩
  · exact .inr ⟨g, cap, hv, hb, hc, cur, hg, hs, ht⟩
theorem RowOf.mono {w : World} {b b' : Nat} {e : TypeId} {n : Nat} {v : Value} {Fs : List (Array Value)} (h : RowOf w b e n v Fs) (hb : b' ≤ b) : RowOf w b' e n v Fs := by
  obtain ⟨h1, h2, h3, h4 | ⟨g, cap, cur, hv, hg, r⟩⟩ := h
  · exact ⟨h1, h2, h3, .inl h4⟩
  · exact ⟨h1, h2, h3, .inr ⟨g, cap, cur, hv, Nat.le_trans hb hg, r⟩⟩
theorem RowOf.upd {w w' : World} {base : Nat} {e : TypeId} {n : Nat} {v : Value} {Fs : List (Array Value)} {S : List Nat} (h : RowOf w base e n v Fs) (u : Upd w w' S) (hS : ∀ g ∈ blkOf v, g ∉ S) : RowOf w' base e n v Fs := by
  obtain ⟨h1, h2, h3, h4 | ⟨g, cap, cur, hv, hg, hb, r⟩⟩ := h
  · exact ⟨h1, h2, h3, .inl h4⟩
  · exact ⟨h1, h2, h3, .inr ⟨g, cap, cur, hv, hg, u.blk (t := e) hb (hS g (by rw [hv]; simp [blkOf, Value.ownBlock])), r⟩⟩
theorem RowOf.agg {w : World} {base : Nat} {e : TypeId} {n : Nat} {g cap : Nat} {Fs : List (Array Value)} (h : RowOf w base e n (.slice (some ⟨g, 0, none⟩) Fs.length cap) Fs) (i : Nat) (hi : i < Fs.length) : aggAt n w g (i * n) = some Fs[i] := by
  have hs := h.sizes Fs[i] (List.getElem_mem hi)
  refine aggAt_of hs fun j hj => ?_
  rcases h.slice with ⟨h1, _⟩ | ⟨g', cap', hv, _, _, cur, hb, _, ht⟩
  · cases h1
  · injection hv with h1 _ _
    injection h1 with h1
    injection h1 with h1 _ _
    subst h1
    rw [hb.cell, ← Array.getElem?_toList, ← flat_get Fs h.sizes i hi j hj, ← ht, List.getElem?_take, if_pos]
    have : (i + 1) * n ≤ Fs.length * n := Nat.mul_le_mul_right _ hi
    rw [Nat.succ_mul] at this
    omega
theorem RowOf.room {w : World} {base : Nat} {e : TypeId} {n : Nat} {g cap : Nat} {Fs : List (Array Value)} (h : RowOf w base e n (.slice (some ⟨g, 0, none⟩) Fs.length cap) Fs) (i : Nat) (hi : i < Fs.length) (k m : Nat) (hk : k + m ≤ n) {F : Array Value} (hF : F.size = m) (h1 : F.all (·.oneCell') = true) :
    aggRoom m w g (i * n + k) F = true := by
  rcases h.slice with ⟨h1, _⟩ | ⟨g', cap', hv, _, hc, cur, hb, hs, ht⟩
  · cases h1
  · injection hv with h3 _ _
    injection h3 with h3
    injection h3 with h3 _ _
    subst h3
    refine hb.aggRoom _ ?_ hF h1
    have : (i + 1) * n ≤ cap' * n := Nat.mul_le_mul_right _ (Nat.le_trans hi hc)
    rw [Nat.succ_mul] at this
    omega
theorem RowOf.frozen {w : World} {base : Nat} {e : TypeId} {n : Nat} {g cap : Nat} {Fs : List (Array Value)} (h : RowOf w base e n (.slice (some ⟨g, 0, none⟩) Fs.length cap) Fs) (k : Nat) : w.frozen? ⟨g, k, none⟩ = false := by
  rcases h.slice with ⟨h1, _⟩ | ⟨g', cap', hv, _, hc, cur, hb, hs, ht⟩
  · cases h1
  · injection hv with h3 _ _
    injection h3 with h3
    injection h3 with h3 _ _
    subst h3
    exact hb.frozen _
theorem RowOf.lt {w : World} {base : Nat} {e : TypeId} {n : Nat} {g cap : Nat} {k : Nat} {Fs : List (Array Value)} (h : RowOf w base e n (.slice (some ⟨g, 0, none⟩) k cap) Fs) : g < w.heap.size := by
  rcases h.slice with ⟨h1, _⟩ | ⟨g', cap', hv, _, hc, cur, hb, hs, ht⟩
  · cases h1
  · injection hv with h3 _ _
    injection h3 with h3
    injection h3 with h3 _ _
    subst h3
    exact hb.lt
theorem RowOf.few {w : World} {base : Nat} {e : TypeId} {n : Nat} {v : Value} {Fs : List (Array Value)} (h : RowOf w base e n v Fs) : Fs.length ≤ maxLen := by
  obtain ⟨_, h2 | ⟨g, cap, cur, hv, hb, hg, hc, hm, hs, ht⟩⟩ := h.own
  · rw [h2.2]; exact Nat.zero_le _
  · exact Nat.le_trans hc hm
theorem RowOf.src {w : World} {base : Nat} {e : TypeId} {n k : Nat} {g cap : Nat} {Fs : List (Array Value)} (h : RowOf w base e n (.slice (some ⟨g, 0, none⟩) k cap) Fs) :
    ∀ j u, (flat Fs)[j]? = some u → w.cell? ((⟨g, 0, none⟩ : Addr).add j) = some u := by
  obtain ⟨_, h2 | ⟨g', cap', cur, hv, hb, hg, hc, hm, hs, ht⟩⟩ := h.own
  · cases h2.1
  · injection hv with h3 _ _
    injection h3 with h3
    injection h3 with h3 _ _
    subst h3
    intro j u hu
    rw [Addr.add_mid, Nat.zero_add, cell_of_row w g j cur e (0, 0) hg, ← Array.getElem?_toList]
    rw [← ht, List.getElem?_take] at hu
    split at hu
    · exact hu
    · cases hu
theorem RowOf.flat_one {w : World} {base : Nat} {e : TypeId} {n : Nat} {v : Value} {Fs : List (Array Value)} (h : RowOf w base e n v Fs) : ∀ u ∈ flat Fs, u.oneCell' = true := fun u hu => by
  obtain ⟨F, hF, hu⟩ := flat_mem hu
  exact h.ones F hF u hu
theorem RowOf.len {w : World} {base : Nat} {e : TypeId} {n k : Nat} {g : Option Addr} {cap : Nat} {Fs : List (Array Value)} (h : RowOf w base e n (.slice g k cap) Fs) : k = Fs.length := by
  rcases h.slice with ⟨h1, h2⟩ | ⟨g', cap', hv, _⟩
  · injection h1 with _ h1 _; rw [h1, h2]; rfl
  · injection hv
theorem flat_set {n : Nat} : ∀ (l : List (Array Value)) (h : ∀ F ∈ l, F.size = n) (i : Nat) (hi : i < l.length) (G : Array Value) (hG : G.size = n) (q : Nat),
    (flat (l.set i G))[q]? = if i * n ≤ q ∧ q < i * n + n then G[q - i * n]? else (flat l)[q]?
  | F :: r, h, 0, _, G, hG, q => by
    have hF := h F List.mem_cons_self
    rw [List.set_cons_zero, flat, flat, Nat.zero_mul]
    by_cases hq : q < n
    · rw [if_pos (by omega), List.getElem?_append_left (by rw [Array.length_toList]; omega), Array.getElem?_toList]; rfl
    · rw [if_neg (by omega), List.getElem?_append_right (by rw [Array.length_toList]; omega), List.getElem?_append_right (by rw [Array.length_toList]; omega), Array.length_toList, Array.length_toList, hF, hG]
  | F :: r, h, i + 1, hi, G, hG, q => by
    have hF := h F List.mem_cons_self
    rw [List.set_cons_succ, flat, flat]
    by_cases hq : q < n
    · rw [List.getElem?_append_left (by rw [Array.length_toList]; omega), List.getElem?_append_left (by rw [Array.length_toList]; omega), if_neg]
      rw [Nat.succ_mul]; omega
    · rw [List.getElem?_append_right (by rw [Array.length_toList]; omega), List.getElem?_append_right (by rw [Array.length_toList]; omega), Array.length_toList, hF,
        flat_set r (fun G hG => h G (List.mem_cons_of_mem _ hG)) i (by simpa using hi) G hG]
      rw [Nat.succ_mul]
      by_cases h2 : i * n ≤ q - n ∧ q - n < i * n + n
      · rw [if_pos h2, if_pos (by omega), show q - n - i * n = q - (i * n + n) by omega]
      · rw [if_neg h2, if_neg (by omega)]
/-- a part of a struct of a row is laid anew -/
theorem RowOf.put {w : World} {base : Nat} {e : TypeId} {n : Nat} {g cap : Nat} {Fs : List (Array Value)} (h : RowOf w base e n (.slice (some ⟨g, 0, none⟩) Fs.length cap) Fs) (i : Nat) (hi : i < Fs.length) (k : Nat) (vs : List Value) (hk : k + vs.length ≤ n)
    (h1 : ∀ u ∈ vs, u.oneCell' = true) : RowOf (w.setCells g (i * n + k) vs) base e n (.slice (some ⟨g, 0, none⟩) Fs.length cap) (Fs.set i (putAt Fs[i] k vs)) := by
  have hs := h.sizes Fs[i] (List.getElem_mem hi)
  have key : (i + 1) * n ≤ Fs.length * n := Nat.mul_le_mul_right _ hi
  rw [Nat.succ_mul] at key
  have sz : ∀ F ∈ Fs.set i (putAt Fs[i] k vs), F.size = n := fun F hF => by
    rcases List.mem_or_eq_of_mem_set hF with hF | rfl
    · exact h.sizes F hF
    · rw [putAt_size, hs]
  refine ⟨sz, fun F hF u hu => ?_, ?_⟩
  · rcases List.mem_or_eq_of_mem_set hF with hF | rfl
    · exact h.ones F hF u hu
    · rw [Array.mem_iff_getElem?] at hu
      obtain ⟨q, hq⟩ := hu
      rw [putAt_get] at hq
      split at hq
      · exact h1 u (List.mem_of_getElem? hq)
      · exact h.ones Fs[i] (List.getElem_mem hi) u (Array.mem_of_getElem? hq)
  · have hl : (flat (Fs.set i (putAt Fs[i] k vs))).length = (Fs.set i (putAt Fs[i] k vs)).length * n := flat_length _ sz
    rcases h.own.2 with ⟨h1, _⟩ | ⟨g', cap', cur, hv, hb, hg, hc, hm, hs', ht⟩
    · cases h1
    · have hv0 := hv
      injection hv with h3 _ h4
      injection h3 with h3
      injection h3 with h3 _ _
      subst h3
      subst h4
      have hcap : Fs.length * n ≤ cap * n := Nat.mul_le_mul_right _ hc
      refine ⟨hl, .inr ⟨g, cap, putAt cur (i * n + k) vs, by simp, hb, Blk.setCells (t := e) vs _ hg, by simpa using hc, hm, by rw [putAt_size, hs'], ?_⟩⟩
      rw [List.length_set]
      apply List.ext_getElem?
      intro q
      by_cases hq : q < Fs.length * n
      · rw [List.getElem?_take, if_pos hq, Array.getElem?_toList, putAt_get, flat_set Fs h.sizes i hi _ (by rw [putAt_size, hs]) q]
        have hcur : (flat Fs)[q]? = cur[q]? := by rw [← ht, List.getElem?_take, if_pos hq, Array.getElem?_toList]
        by_cases hin : i * n ≤ q ∧ q < i * n + n
        · rw [if_pos hin, putAt_get, hs]
          have e2 : Fs[i][q - i * n]? = cur[q]? := by
            rw [← hcur, ← flat_get Fs h.sizes i hi (q - i * n) (by omega), show i * n + (q - i * n) = q by omega]
          by_cases hin2 : i * n + k ≤ q ∧ q < i * n + k + vs.length
          · rw [if_pos ⟨hin2.1, hin2.2, by omega⟩, if_pos ⟨by omega, by omega, by omega⟩, show q - i * n - k = q - (i * n + k) by omega]
          · rw [if_neg (by omega), if_neg (by omega), e2]
        · rw [if_neg hin, if_neg (by omega), hcur]
      · rw [List.getElem?_eq_none (by simp; omega), List.getElem?_eq_none (by rw [hl, List.length_set]; omega)]
/-- append of a struct that is at hand, as one step of a region that draws its order -/
theorem step_append_own {P : Program} {ops : Array Oper} {o : Oper} {a : Act} {w : World} {K : Act → World → Prop} {Q : Exit → Act → World → Prop} {E : Prop}
    (hg : o.guard = none) (s x : Operand) (t : TypeId) (hop : o.op = Op.call { callee := Callee.builtin Builtin.append, args := #[s, x], argTypes := #[t, t] })
    (base : Nat) (e : TypeId) (i : TypeInfo) (z : Value) (size bytes : Nat) (ht : P.underlying t = some (.slice e)) (hi : P.info? e = some i) (hz : i.zero = some z)
    (hsize : i.size = size) (hby : i.bytes = bytes) (hzs : z.cells.size = size) (hsz : 0 < size)
    (v : Value) (n : Nat) (xs : List Value) (hs : a.eval s = v) (hown : w.ownsRow base e size v n xs)
    (ad : Addr) (m c : Nat) (news : List Value) (hx : a.eval x = .slice (some ad) m c) (hl : news.length = m * size) (hnews : ∀ j u, news[j]? = some u → w.cell? (ad.add j) = some u) (h1 : ∀ u ∈ news, u.oneCell' = true)
    (h63 : n + m ≤ maxLen) (hbytes : (n + m) * bytes ≤ 140737488355328) (hbase : base ≤ w.heap.size)
    (h : ∀ v' w', w'.ownsRow base e size v' (n + m) (xs ++ news) → w.grownBy w' v.ownBlock → (v' = .slice none 0 0 ↔ v = .slice none 0 0 ∧ m = 0) → K (a.put o.dst v') w') :
    if Region.wanted o (yielded ops a.tmps) = true then Oper.wp P o a w K Q else E := by
  have hw : Region.wanted o (yielded ops a.tmps) = true := by simp [Region.wanted, hg]
  rw [if_pos hw]
  exact wp_append_own w s x t hop base e i z size bytes ht hi hz hsize hby hzs hsz v n xs hs hown ad m c news hx hl hnews h1 h63 hbytes hbase h
theorem RowOf.push {w : World} {base : Nat} {e : TypeId} {n : Nat} {v : Value} {Fs : List (Array Value)} {F : Array Value} (hs : ∀ G ∈ Fs, G.size = n) (ho : ∀ G ∈ Fs, ∀ u ∈ G, u.oneCell' = true) (hF : F.size = n) (h1 : ∀ u ∈ F, u.oneCell' = true)
    (h : w.ownsRow base e n v (Fs.length + 1) (flat Fs ++ F.toList)) : RowOf w base e n v (Fs ++ [F]) := by
  refine ⟨fun G hG => ?_, fun G hG => ?_, ?_⟩
  · rcases List.mem_append.1 hG with hG | hG
    · exact hs G hG
    · rw [List.mem_singleton.1 hG]; exact hF
  · rcases List.mem_append.1 hG with hG | hG
    · exact ho G hG
    · rw [List.mem_singleton.1 hG]; exact h1
  · rw [flat_append, List.length_append]
    simpa [flat] using h
end Go.Proofs.Ytkopocbcldjjbaa

