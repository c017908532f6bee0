/- Words on memory that every walk of this seat uses: a block that is known whole, and a world of which only some blocks have turned. No program in sight. -/
import Derived.WalkKit
import Derived.WalkLawsBesides
import Derived.WalkSpells
import Derived.Deep.QuietTactic
import Derived.BigQuiet
import Derived.Deep.LoopGhost
import Derived.Deep.RegionWith
namespace Go.Proofs.Ytkopocbcldjjbaa
open Go.RowKit
set_option linter.unusedVariables false

theorem hide {p : Prop} (h : p) : Hid p := h
theorem ret_int {k : IntKind} {a b : Int} (h : a = b) : Ending.returned (.int k a) = .returned (.int k b) := by rw [h]
theorem ret_bool {a b : Bool} (h : a = b) : Ending.returned (.bool a) = .returned (.bool b) := by rw [h]

/-- block g is the cells cs of element type t, none frozen -/
def Blk (w : World) (g : Nat) (t : TypeId) (cs : Array Value) : Prop := w.heap[g]? = some (.cells cs t (0, 0))

/-- beside the blocks of S, and new ones, w' is as w was -/
structure Upd (w w' : World) (S : List Nat) : Prop where
  os : w'.os = w.os
  tape : w'.tape = w.tape
  output : w'.output = w.output
  size : w.heap.size ≤ w'.heap.size
  block : ∀ k, k < w.heap.size → k ∉ S → w'.heap[k]? = w.heap[k]?

section
variable {w w' w'' : World} {g : Nat} {t : TypeId} {cs : Array Value} {S S' : List Nat}
theorem Blk.lt (h : Blk w g t cs) : g < w.heap.size := by
  rcases Nat.lt_or_ge g w.heap.size with hlt | hge
  · exact hlt
  · unfold Blk at h; rw [Array.getElem?_eq_none hge] at h; cases h
theorem Blk.cell (h : Blk w g t cs) (i : Nat) : w.cell? ⟨g, i, none⟩ = cs[i]? := cell_of_row w g i cs t (0, 0) h
theorem Blk.frozen (h : Blk w g t cs) (i : Nat) : w.frozen? ⟨g, i, none⟩ = false := by
  unfold Blk at h
  simp [World.frozen?, h]
theorem Blk.new (w : World) (t : TypeId) (cs : Array Value) : Blk (w.alloc (.cells cs t)) w.heap.size t cs := heap_alloc_new w _
theorem Blk.drew (h : Blk w g t cs) : Blk w.drew g t cs := h
theorem Blk.drewN (h : Blk w g t cs) (n : Nat) : Blk (w.drewN n) g t cs := h
theorem Blk.alloc (h : Blk w g t cs) (o : Obj) : Blk (w.alloc o) g t cs := (Below.heap_alloc w o g h.lt).trans h
theorem Blk.set_ (h : Blk w g t cs) (i : Nat) (u : Value) : Blk (w.setCell ⟨g, i, none⟩ u) g t (cs.setIfInBounds i u) := by
  unfold Blk at h ⊢
  simp [World.setCell, Array.getElem?_modify, h]
theorem Blk.far (h : Blk w g t cs) {p : Addr} (hp : g ≠ p.block) (u : Value) : Blk (w.setCell p u) g t cs := (Below.heap_setCell w p u g hp).trans h
theorem Blk.below {B : Nat} (h : Blk w g t cs) (hb : Below B w w') (hg : g < B) : Blk w' g t cs := (hb.block g hg).trans h
theorem Blk.ne_ {g' : Nat} {t' : TypeId} {cs' : Array Value} (h : Blk w g t cs) (h' : Blk w g' t' cs') (hne : t ≠ t') : g ≠ g' := by
  rintro rfl
  unfold Blk at h h'
  rw [h] at h'
  injection h' with h'
  injection h' with _ ht
  exact hne ht
theorem Blk.congr {cs' : Array Value} (h : Blk w g t cs) (e : cs = cs') : Blk w g t cs' := e ▸ h

theorem Upd.refl (w : World) (S : List Nat) : Upd w w S := ⟨rfl, rfl, rfl, Nat.le_refl _, fun _ _ _ => rfl⟩
theorem Upd.trans (h : Upd w w' S) (k : Upd w' w'' S') (hS : ∀ i ∈ S', i < w.heap.size → i ∈ S) : Upd w w'' S :=
  ⟨k.os.trans h.os, k.tape.trans h.tape, k.output.trans h.output, Nat.le_trans h.size k.size,
    fun i hi hn => (k.block i (Nat.lt_of_lt_of_le hi h.size) (fun hm => hn (hS i hm hi))).trans (h.block i hi hn)⟩
theorem Upd.mono (h : Upd w w' S) (hS : ∀ i ∈ S, i < w.heap.size → i ∈ S') : Upd w w' S' :=
  ⟨h.os, h.tape, h.output, h.size, fun i hi hn => h.block i hi (fun hm => hn (hS i hm hi))⟩
theorem Upd.drew (h : Upd w w' S) : Upd w w'.drew S := ⟨h.os, h.tape, h.output, h.size, h.block⟩
theorem Upd.drewN (h : Upd w w' S) (n : Nat) : Upd w (w'.drewN n) S := ⟨h.os, h.tape, h.output, h.size, h.block⟩
theorem Upd.alloc (h : Upd w w' S) (o : Obj) : Upd w (w'.alloc o) S :=
  ⟨h.os, h.tape, h.output, by have := h.size; simp; omega, fun i hi hn => (Below.heap_alloc w' o i (Nat.lt_of_lt_of_le hi h.size)).trans (h.block i hi hn)⟩
theorem Upd.setCell (h : Upd w w' S) {p : Addr} (hp : p.block < w.heap.size → p.block ∈ S) (u : Value) : Upd w (w'.setCell p u) S :=
  ⟨h.os, h.tape, h.output, by simpa [World.setCell] using h.size, fun i hi hn => (Below.heap_setCell w' p u i (by rintro rfl; exact hn (hp hi))).trans (h.block i hi hn)⟩
theorem Upd.blk (h : Upd w w' S) (hb : Blk w g t cs) (hg : g ∉ S) : Blk w' g t cs := (h.block g hb.lt hg).trans hb
theorem Upd.of_below {B : Nat} (h : Below w.heap.size w w') : Upd w w' S := ⟨h.os, h.tape, h.output, h.size, fun i hi _ => h.block i hi⟩
theorem Upd.below {B : Nat} (h : Upd w w' S) (hB : B ≤ w.heap.size) (hS : ∀ i ∈ S, B ≤ i) : Below B w w' :=
  ⟨h.os, h.tape, h.output, h.size, fun i hi => h.block i (by omega) (fun hm => by have := hS i hm; omega)⟩
theorem Upd.of_grown {row : Option Nat} (h : w.grownBy w' row) (hr : ∀ k, row = some k → k < w.heap.size → k ∈ S) : Upd w w' S :=
  ⟨h.os, h.tape, h.output, h.size, fun i hi hn => h.block i hi (fun e => hn (hr i e.symm hi))⟩
end

/-! ### a quiet callee inside a region that draws -/
theorem quiet_left {P : Program} {f : FuncId} {args : Array Value} {w : World} {n : Nat} {v : Value} (h : Calls P f args (w.drewN n) fun e w' => e = .returned v ∧ w.drewN n = w') :
    Calls P f args (w.drewN n) fun e w'' => e = .returned v ∧ ∃ m, w'' = w.drewN m :=
  h.mono fun _ _ ⟨he, hm⟩ => ⟨he, n, hm.symm⟩
/-! ### a slice of the run's own: its first cells are xs -/
def Sl (w : World) (v : Value) (e : TypeId) (size n : Nat) (xs : List Value) : Prop :=
  xs.length = n * size ∧ ∃ g cap cur, v = .slice (some ⟨g, 0, none⟩) n cap ∧ Blk w g e cur ∧ n ≤ cap ∧ cap ≤ maxLen ∧ cur.size = cap * size ∧ cur.toList.take (n * size) = xs
theorem Blk.sl {w : World} {g : Nat} {e : TypeId} {cs : Array Value} {size n : Nat} (h : Blk w g e cs) (hn : cs.size = n * size) (hm : n ≤ maxLen) : Sl w (.slice (some ⟨g, 0, none⟩) n n) e size n cs.toList :=
  ⟨by simpa using hn, g, n, cs, rfl, h, Nat.le_refl _, hm, hn, List.take_of_length_le (by simp [hn])⟩
theorem Sl.cells {w : World} {g cap n : Nat} {e : TypeId} {size : Nat} {xs : List Value} (h : Sl w (.slice (some ⟨g, 0, none⟩) n cap) e size n xs) (j : Nat) (u : Value) (hu : xs[j]? = some u) : w.cell? ⟨g, j, none⟩ = some u := by
  obtain ⟨hl, g', cap', cur, hv, hb, _, _, _, ht⟩ := h
  injection hv with h1 _ _
  injection h1 with h1
  injection h1 with h1 _ _
  subst h1
  rw [hb.cell, ← Array.getElem?_toList]
  rw [← ht] at hu
  rw [List.getElem?_take] at hu
  split at hu
  · exact hu
  · cases hu
theorem Sl.frozen {w : World} {g cap n : Nat} {e : TypeId} {size : Nat} {xs : List Value} (h : Sl w (.slice (some ⟨g, 0, none⟩) n cap) e size n xs) (j : Nat) : w.frozen? ⟨g, j, none⟩ = false := by
  obtain ⟨hl, g', cap', cur, hv, hb, _⟩ := h
  injection hv with h1 _ _
  injection h1 with h1
  injection h1 with h1 _ _
  subst h1
  exact hb.frozen j
theorem Sl.lt {w : World} {g cap n : Nat} {e : TypeId} {size : Nat} {xs : List Value} (h : Sl w (.slice (some ⟨g, 0, none⟩) n cap) e size n xs) : g < w.heap.size := by
  obtain ⟨hl, g', cap', cur, hv, hb, _⟩ := h
  injection hv with h1 _ _
  injection h1 with h1
  injection h1 with h1 _ _
  subst h1
  exact hb.lt
theorem Sl.upd {w w' : World} {g cap n : Nat} {e : TypeId} {size : Nat} {xs : List Value} {S : List Nat} (h : Sl w (.slice (some ⟨g, 0, none⟩) n cap) e size n xs) (u : Upd w w' S) (hg : g ∉ S) : Sl w' (.slice (some ⟨g, 0, none⟩) n cap) e size n xs := by
  obtain ⟨hl, g', cap', cur, hv, hb, r⟩ := h
  have hv' := hv
  injection hv with h1 _ _
  injection h1 with h1
  injection h1 with h1 _ _
  subst h1
  exact ⟨hl, g, cap', cur, hv', u.blk hb hg, r⟩
theorem Sl.set_ {w : World} {g cap n : Nat} {e : TypeId} {size : Nat} {xs : List Value} (h : Sl w (.slice (some ⟨g, 0, none⟩) n cap) e size n xs) (j : Nat) (u : Value) : Sl (w.setCell ⟨g, j, none⟩ u) (.slice (some ⟨g, 0, none⟩) n cap) e size n (xs.set j u) := by
  obtain ⟨hl, g', cap', cur, hv, hb, h1, h2, h3, h4⟩ := h
  have hv' := hv
  injection hv with k1 _ _
  injection k1 with k1
  injection k1 with k1 _ _
  subst k1
  refine ⟨by simpa using hl, g, cap', _, hv', hb.set_ j u, h1, h2, by simpa using h3, ?_⟩
  rw [Array.toList_setIfInBounds, List.take_set, h4]
theorem Sl.of_own {w : World} {base : Nat} {v : Value} {e : TypeId} {size n : Nat} {xs : List Value} (h : w.ownsRow base e size v n xs) (hn : 0 < n) : ∃ g cap, v = .slice (some ⟨g, 0, none⟩) n cap ∧ base ≤ g ∧ Sl w (.slice (some ⟨g, 0, none⟩) n cap) e size n xs := by
  obtain ⟨hl, h | ⟨g, cap, cur, hv, hb, r⟩⟩ := h
  · omega
  · exact ⟨g, cap, hv, hb, hl, g, cap, cur, rfl, r⟩
theorem Sl.own {w : World} {v : Value} {e : TypeId} {size n : Nat} {xs : List Value} (h : Sl w v e size n xs) : w.ownsRow 0 e size v n xs := by
  obtain ⟨hl, g, cap, cur, hv, hb, r⟩ := h
  exact ⟨hl, .inr ⟨g, cap, cur, hv, Nat.zero_le _, hb, r⟩⟩
/-! ### make -/
theorem madeCells_one (v : Value) (n : Nat) : madeCells #[v] n = (List.replicate n v).toArray := by
  apply Array.ext
  · simp [madeCells]
  · intro i h1 h2
    simp [madeCells, Nat.mod_one]
/-- make of n elements, n known to be small: of whatever element type -/
theorem run_make_rowN {P : Program} (t e : TypeId) {size bytes : Nat} {z : Value} (ht : P.underlying t = some (.slice e)) (hi : (P.info? e).map (fun i => (i.zero, i.size, i.bytes)) = some (some z, size, bytes))
    (n : Nat) (hbytes : bytes * n ≤ 281474976710656) (h63 : n ≤ 9223372036854775807) (w : World) :
    (Instr.makeSlice t (.int .i64 (n : Int)) (.int .i64 (n : Int))).run P w = .ok (.slice (some ⟨w.heap.size, 0, none⟩) n n) (w.alloc (.cells (madeCells z.cells (n * size)) e)) := by
  obtain ⟨i, hi, hz, hs, hb⟩ := info_parts hi
  have hb' : (i.bytes : Int) * (n : Int) ≤ 281474976710656 := by
    rw [hb]
    have h : ((bytes * n : Nat) : Int) ≤ 281474976710656 := by omega
    rwa [Int.natCast_mul] at h
  have hr := run_make (P := P) w t e i z ht hi hz .i64 .i64 n n (by omega) (by omega) hb' (by omega)
  simp only [Int.toNat_natCast, hs] at hr
  exact hr
theorem run_make_row1 {P : Program} (t e : TypeId) {bytes : Nat} {z v : Value} (hzv : z.cells = #[v]) (ht : P.underlying t = some (.slice e)) (hi : (P.info? e).map (fun i => (i.zero, i.size, i.bytes)) = some (some z, 1, bytes))
    (n : Nat) (hbytes : bytes * n ≤ 281474976710656) (h63 : n ≤ 9223372036854775807) (w : World) :
    (Instr.makeSlice t (.int .i64 (n : Int)) (.int .i64 (n : Int))).run P w = .ok (.slice (some ⟨w.heap.size, 0, none⟩) n n) (w.alloc (.cells (Array.replicate n v) e)) := by
  rw [run_make_rowN t e ht hi n hbytes h63 w, hzv, Nat.mul_one, madeCells_one, List.toArray_replicate]
end Go.Proofs.Ytkopocbcldjjbaa
