/- Words on frames: values of 29 cells that are read and laid as a whole, their members in a row of their own. No function of the program in sight. -/
import Derived.Test.YtkopocbcldjjbaaRows
import Derived.Test.YtkopocbcldjjbaaBase
import Derived.Deep.MidRow
import Derived.Outline
namespace Go.Proofs.Ytkopocbcldjjbaa
open Go.RowKit
set_option linter.unusedVariables false
/-- cs behind a store of vs from place o on -/
def putAt (cs : Array Value) (o : Nat) : List Value → Array Value
  | [] => cs
  | v :: r => putAt (cs.setIfInBounds o v) (o + 1) r
theorem putAt_size : ∀ (vs : List Value) (o : Nat) (cs : Array Value), (putAt cs o vs).size = cs.size
  | [], _, _ => rfl
  | v :: r, o, cs => by rw [putAt, putAt_size r]; simp
theorem putAt_get : ∀ (vs : List Value) (o : Nat) (cs : Array Value) (k : Nat), (putAt cs o vs)[k]? = if o ≤ k ∧ k < o + vs.length ∧ k < cs.size then vs[k - o]? else cs[k]?
  | [], o, cs, k => by simp [putAt]; omega
  | v :: r, o, cs, k => by
    rw [putAt, putAt_get r]
    simp only [Array.size_setIfInBounds, List.length_cons]
    by_cases h : o ≤ k ∧ k < o + (r.length + 1) ∧ k < cs.size
    · rw [if_pos h]
      by_cases hk : k = o
      · subst hk
        rw [if_neg (by omega)]
        simp [h.2.2]
      · rw [if_pos (by omega), show k - o = (k - (o + 1)) + 1 by omega, List.getElem?_cons_succ]
    · rw [if_neg h, if_neg (by omega)]
      rw [Array.getElem?_setIfInBounds]
      split
      · subst_vars; split
        · omega
        · rw [Array.getElem?_eq_none (by omega)]
      · rfl
section
variable {w w' : World} {b g t : Nat} {cs : Array Value} {S : List Nat}
theorem Blk.setCells : ∀ (vs : List Value) (o : Nat) {w : World} {cs : Array Value}, Blk w b t cs → Blk (w.setCells b o vs) b t (putAt cs o vs)
  | [], _, _, _, h => h
  | v :: r, o, _, _, h => Blk.setCells r (o + 1) (h.set_ o v)
theorem Blk.farCells (hne : g ≠ b) : ∀ (vs : List Value) (o : Nat) {w : World}, Blk w g t cs → Blk (w.setCells b o vs) g t cs
  | [], _, _, h => h
  | v :: r, o, _, h => Blk.farCells hne r (o + 1) (h.far (p := ⟨b, o, none⟩) hne v)
theorem Upd.setCells (hp : b < w.heap.size → b ∈ S) : ∀ (vs : List Value) (o : Nat) {w' : World}, Upd w w' S → Upd w (w'.setCells b o vs) S
  | [], _, _, h => h
  | v :: r, o, _, h => Upd.setCells hp r (o + 1) (h.setCell (p := ⟨b, o, none⟩) hp v)
theorem Blk.range (h : Blk w b t cs) (o : Nat) (F : List Value) (hF : ∀ j v, F[j]? = some v → cs[o + j]? = some v) : w.rangeAt b o F := fun j v hv => by
  rw [h.cell]; exact hF j v hv
theorem Blk.there (h : Blk w b t cs) (o n : Nat) (hs : o + n ≤ cs.size) : w.there b o n := fun j hj => by
  refine ⟨?_, h.frozen _⟩
  rw [h.cell, Array.getElem?_eq_getElem (by omega)]; rfl
end
/-! ### frames -/
abbrev Fr := Array Value × List Value
structure Good (x : Fr) : Prop where
  size : x.1.size = 29
  one : ∀ u ∈ x.1, u.oneCell' = true
  mem : ∀ u ∈ x.2, u.oneCell' = true
  few : x.2.length ≤ 20
/-- the cells of the frame x, whose members' slice is v -/
def cut (x : Fr) (v : Value) : Array Value := x.1.setIfInBounds 24 v
theorem cut_size (x : Fr) (v : Value) : (cut x v).size = x.1.size := by simp [cut]
theorem cut_cut {x : Fr} (v v' : Value) : (cut x v).setIfInBounds 24 v' = cut x v' := by
  simp [cut, Array.setIfInBounds_setIfInBounds]
theorem cut_at {x : Fr} (hs : x.1.size = 29) (v : Value) : (cut x v)[24]? = some v := by
  simp [cut, hs]
theorem cut_else {x : Fr} (v : Value) (i : Nat) (hi : i ≠ 24) : (cut x v)[i]? = x.1[i]? := by
  simp [cut, Ne.symm hi]
theorem cut_one {x : Fr} (h : ∀ u ∈ x.1, u.oneCell' = true) {v : Value} (hv : v.oneCell' = true) : (cut x v).all (·.oneCell') = true := by
  rw [Array.all_eq_true_iff_forall_mem]
  intro u hu
  rw [Array.mem_iff_getElem?] at hu
  obtain ⟨i, hi⟩ := hu
  simp only [cut, Array.getElem?_setIfInBounds] at hi
  split at hi
  · split at hi
    · cases hi; exact hv
    · cases hi
  · exact h u (Array.mem_of_getElem? hi)
/-- v is n members, that lie somewhere -/
def Src (w : World) (v : Value) (ms : List Value) : Prop :=
  ∃ a n c, v = .slice a n c ∧ ms.length = n * 2 ∧ ((a = none ∧ n = 0) ∨ ∃ ad, a = some ad ∧ ∀ j u, ms[j]? = some u → w.cell? (ad.add j) = some u)
/-- v is members of the run's own, not below base -/
def Own (w : World) (base : Nat) (v : Value) (ms : List Value) : Prop := ∃ n, w.ownsRow base 57 2 v n ms
theorem Own.mono {w : World} {b b' : Nat} {v : Value} {ms : List Value} (h : Own w b v ms) (hb : b' ≤ b) : Own w b' v ms := by
  obtain ⟨n, hl, h | ⟨g, cap, cur, hv, hg, r⟩⟩ := h
  · exact ⟨n, hl, .inl h⟩
  · exact ⟨n, hl, .inr ⟨g, cap, cur, hv, Nat.le_trans hb hg, r⟩⟩
theorem Own.src {w : World} {b : Nat} {v : Value} {ms : List Value} (h : Own w b v ms) : Src w v ms := by
  obtain ⟨n, hl, ⟨rfl, rfl⟩ | ⟨g, cap, cur, rfl, _, hb, _, _, _, ht⟩⟩ := h
  · exact ⟨none, 0, 0, rfl, hl, .inl ⟨rfl, rfl⟩⟩
  · refine ⟨_, n, cap, rfl, hl, .inr ⟨_, rfl, fun j u hu => ?_⟩⟩
    rw [Addr.add_mid, Nat.zero_add, cell_of_row w g j cur 57 (0, 0) hb, ← Array.getElem?_toList]
    rw [← ht, List.getElem?_take] at hu
    split at hu
    · exact hu
    · cases hu
theorem Own.slice {w : World} {b : Nat} {v : Value} {ms : List Value} (h : Own w b v ms) : ∃ a n c, v = .slice a n c := by
  obtain ⟨n, hl, ⟨rfl, rfl⟩ | ⟨g, cap, cur, rfl, _⟩⟩ := h
  · exact ⟨_, _, _, rfl⟩
  · exact ⟨_, _, _, rfl⟩
theorem Own.one {w : World} {b : Nat} {v : Value} {ms : List Value} (h : Own w b v ms) : v.oneCell' = true := by
  obtain ⟨n, hl, ⟨rfl, rfl⟩ | ⟨g, cap, cur, rfl, _⟩⟩ := h <;> rfl
/-- no block of S holds members -/
def Off (w : World) (S : List Nat) : Prop := ∀ k ∈ S, ∀ cs, ¬ Blk w k 57 cs
theorem Own.upd {w w' : World} {b : Nat} {v : Value} {ms : List Value} {S : List Nat} (h : Own w b v ms) (u : Upd w w' S) (ho : Off w S) : Own w' b v ms := by
  obtain ⟨n, hl, h | ⟨g, cap, cur, hv, hg, hb, r⟩⟩ := h
  · exact ⟨n, hl, .inl h⟩
  · exact ⟨n, hl, .inr ⟨g, cap, cur, hv, hg, u.blk (t := 57) hb (fun hm => ho g hm cur hb), r⟩⟩
theorem Src.upd {w w' : World} {v : Value} {ms : List Value} (h : Src w v ms) (u : Upd w w' []) : Src w' v ms := by
  obtain ⟨a, n, c, hv, hl, h | ⟨ad, ha, hc⟩⟩ := h
  · exact ⟨a, n, c, hv, hl, .inl h⟩
  · refine ⟨a, n, c, hv, hl, .inr ⟨ad, ha, fun j x hx => ?_⟩⟩
    have h1 := hc j x hx
    have hb : (ad.add j).block < w.heap.size := World.block_lt_of_cell? w _ h1
    have := u.block _ hb (by simp)
    rw [← h1]
    simp only [World.cell?, this]
theorem Off.nil (w : World) : Off w [] := fun _ h => by cases h
theorem Off.one {w : World} {g t : Nat} {cs : Array Value} (h : Blk w g t cs) (ht : t ≠ 57) : Off w [g] := fun k hk cs' hb => by
  rw [List.mem_singleton] at hk
  subst hk
  exact h.ne_ hb ht rfl
theorem Off.two {w : World} {g t g' t' : Nat} {cs cs' : Array Value} (h : Blk w g t cs) (ht : t ≠ 57) (h' : Blk w g' t' cs') (ht' : t' ≠ 57) : Off w [g, g'] := fun k hk cs'' hb => by
  simp only [List.mem_cons, List.not_mem_nil, or_false] at hk
  rcases hk with rfl | rfl
  · exact h.ne_ hb ht rfl
  · exact h'.ne_ hb ht' rfl
/-- F is the frame x, its members the run's own -/
def IsF (w : World) (base : Nat) (F : Array Value) (x : Fr) : Prop := Good x ∧ ∃ v, F = cut x v ∧ Own w base v x.2
theorem IsF.upd {w w' : World} {b : Nat} {F : Array Value} {x : Fr} {S : List Nat} (h : IsF w b F x) (u : Upd w w' S) (ho : Off w S) : IsF w' b F x := by
  obtain ⟨hg, v, hv, h⟩ := h
  exact ⟨hg, v, hv, h.upd u ho⟩
theorem IsF.size {w : World} {b : Nat} {F : Array Value} {x : Fr} (h : IsF w b F x) : F.size = 29 := by
  obtain ⟨hg, v, rfl, h⟩ := h
  rw [cut_size, hg.size]
theorem IsF.one {w : World} {b : Nat} {F : Array Value} {x : Fr} (h : IsF w b F x) : F.all (·.oneCell') = true := by
  obtain ⟨hg, v, rfl, h⟩ := h
  exact cut_one hg.one h.one
theorem info40 : (Try.prog.info? 40).map (·.size) = some 29 := by kernel_rfl
/-! ### the walk's own rules: a frame is read, and laid, as a whole -/
theorem loadVar_else {t : TypeId} (a : Addr) (h : (t == 40) = false) : loadVar t a = (do if ← isAgg t then pure (.agg (← loadCells a (← sizeOf t))) else load a) := rfl
theorem storeVar_else {t : TypeId} (a : Addr) (v : Value) (h : (t == 40) = false) : storeVar t a v = (do
  if v.cells.size ≠ (← sizeOf t) then stuck "storeVar: the value has not the size of the variable"
  storeCells a v.cells.toList) := rfl
/-- the frame that lies at a place -/
noncomputable def frameAt (w : World) (g o : Nat) : Option (Array Value) :=
  if (List.range 29).all (fun j => (w.cell? ⟨g, o + j, none⟩).isSome) then some ((List.range 29).map fun j => (w.cell? ⟨g, o + j, none⟩).getD undef).toArray else none
noncomputable def frameSlow (w : World) (g o : Nat) : Result Value := (loadVar 40 ⟨g, o, none⟩).run Try.prog w
theorem run_load40 (w : World) (g o : Nat) : (loadVar 40 ⟨g, o, none⟩).run Try.prog w = (match frameAt w g o with | some F => .ok (.agg F) w | none => frameSlow w g o) := by
  unfold frameAt
  split
  · next F h =>
    split at h
    · next ha =>
      injection h with h
      subst h
      have hl : ((List.range 29).map fun j => (w.cell? ⟨g, o + j, none⟩).getD undef).length = 29 := by simp
      refine run_loadVar_mid (P := Try.prog) w g o 40 _ _ (fun j v hv => ?_) Try.underlying40 rfl (by rw [info40, hl])
      have hj : j < 29 := by rw [← hl]; exact (List.getElem?_eq_some_iff.1 hv).1
      rw [List.all_eq_true] at ha
      have := ha j (List.mem_range.2 hj)
      obtain ⟨u, hu⟩ := Option.isSome_iff_exists.1 this
      simp only [List.getElem?_map, List.getElem?_range hj, Option.map_some, hu, Option.getD_some, Option.some.injEq] at hv
      rw [hu, hv]
    · cases h
  · rfl
/-- is there room for the frame F at a place? -/
noncomputable def roomAt (w : World) (g o : Nat) (F : Array Value) : Bool :=
  (List.range 29).all (fun j => (w.cell? ⟨g, o + j, none⟩).isSome && !(w.frozen? ⟨g, o + j, none⟩)) && F.size == 29 && F.all (·.oneCell')
noncomputable def roomSlow (w : World) (g o : Nat) (F : Array Value) : Result Unit := (storeVar 40 ⟨g, o, none⟩ (.agg F)).run Try.prog w
theorem run_store40 (w : World) (g o : Nat) (F : Array Value) : (storeVar 40 ⟨g, o, none⟩ (.agg F)).run Try.prog w = (match roomAt w g o F with | true => .ok () (w.setCells g o F.toList) | false => roomSlow w g o F) := by
  split
  · next h =>
    simp only [roomAt, Bool.and_eq_true, List.all_eq_true, List.mem_range, Bool.not_eq_true', beq_iff_eq] at h
    obtain ⟨⟨h1, h2⟩, h3⟩ := h
    exact run_storeVar_mid (P := Try.prog) w g o 40 F (by rw [h2]; exact h1) (by rw [info40, h2]) h3
  · rfl
theorem frameAt_drew (w : World) (g o : Nat) : frameAt w.drew g o = frameAt w g o := rfl
theorem frameAt_drewN (w : World) (n g o : Nat) : frameAt (w.drewN n) g o = frameAt w g o := rfl
theorem roomAt_drew (w : World) (g o : Nat) (F : Array Value) : roomAt w.drew g o F = roomAt w g o F := rfl
theorem roomAt_drewN (w : World) (n g o : Nat) (F : Array Value) : roomAt (w.drewN n) g o F = roomAt w g o F := rfl
theorem frameAt_of {w : World} {g o : Nat} {F : Array Value} (hF : F.size = 29) (h : ∀ j, j < 29 → w.cell? ⟨g, o + j, none⟩ = F[j]?) : frameAt w g o = some F := by
  have h1 : ∀ j, j < 29 → w.cell? ⟨g, o + j, none⟩ = some (F[j]?.getD undef) := fun j hj => by rw [h j hj, Array.getElem?_eq_getElem (by omega)]; rfl
  unfold frameAt
  rw [if_pos (by rw [List.all_eq_true]; intro j hj; rw [h1 j (List.mem_range.1 hj)]; rfl)]
  congr 1
  apply Array.ext
  · simp [hF]
  · intro j hj1 hj2
    have hj : j < 29 := by simpa using hj1
    simp only [List.getElem_toArray, List.getElem_map, List.getElem_range, h1 j hj, Option.getD_some]
    rw [Array.getElem?_eq_getElem hj2]; rfl
/-- a frame is read out of a block that is known whole -/
theorem Blk.frame {w : World} {g t : Nat} {cs F : Array Value} (o : Nat) (h : Blk w g t cs) (hF : F.size = 29) (hc : ∀ j, j < 29 → cs[o + j]? = F[j]?) : frameAt w g o = some F :=
  frameAt_of hF fun j hj => by rw [h.cell, hc j hj]
theorem Blk.frame0 {w : World} {g t : Nat} {F : Array Value} (h : Blk w g t F) (hF : F.size = 29) : frameAt w g 0 = some F := h.frame 0 hF fun j _ => by rw [Nat.zero_add]
theorem Blk.room {w : World} {g t : Nat} {cs F : Array Value} (o : Nat) (h : Blk w g t cs) (hs : o + 29 ≤ cs.size) (hF : F.size = 29) (h1 : F.all (·.oneCell') = true) : roomAt w g o F = true := by
  simp only [roomAt, Bool.and_eq_true, List.all_eq_true, List.mem_range, Bool.not_eq_true', beq_iff_eq]
  exact ⟨⟨h.there o 29 hs, hF⟩, h1⟩
theorem load_of_frameAt {w : World} {g o : Nat} {F : Array Value} (h : frameAt w g o = some F) : (loadVar 40 ⟨g, o, none⟩).run Try.prog w = .ok (.agg F) w := by
  rw [run_load40, h]
theorem results_frame {fn : Func} {p : Tmp} (h : fn.results = #[.cell p 40]) {tmps : Array Value} {w : World} {g : Nat} {F : Array Value} (hp : tmps.getD p undef = .pointer (some ⟨g, 0, none⟩)) (hL : frameAt w g 0 = some F) :
    (results fn tmps).run Try.prog w = .ok (.agg F) w := by
  have hp' : tmps[p]?.getD undef = .pointer (some ⟨g, 0, none⟩) := by simpa using hp
  simp [results, h, hp', asAddr, load_of_frameAt hL]
theorem results_frame2 {fn : Func} {p u : Tmp} (h : fn.results = #[.cell p 40, .tmp u]) {tmps : Array Value} {w : World} {g : Nat} {F : Array Value} (hp : tmps.getD p undef = .pointer (some ⟨g, 0, none⟩)) (hL : frameAt w g 0 = some F) :
    (results fn tmps).run Try.prog w = .ok (.tuple #[.agg F, tmps.getD u undef]) w := by
  have hp' : tmps[p]?.getD undef = .pointer (some ⟨g, 0, none⟩) := by simpa using hp
  rw [results_cell_tmp h]
  simp [hp', asAddr, load_of_frameAt hL, Result.andThen]
/-- as many cells as there are: all are turned -/
theorem putAt_all {cs F : Array Value} (h : F.size = cs.size) : putAt cs 0 F.toList = F := by
  apply Array.ext_getElem?
  intro i
  rw [putAt_get]
  simp only [Nat.zero_le, true_and, Nat.zero_add, Array.length_toList, Nat.sub_zero, Array.getElem?_toList]
  split
  · rfl
  · rw [Array.getElem?_eq_none (by omega), Array.getElem?_eq_none (by omega)]
end Go.Proofs.Ytkopocbcldjjbaa
