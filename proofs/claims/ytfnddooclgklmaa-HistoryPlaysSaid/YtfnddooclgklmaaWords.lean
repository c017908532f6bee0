/- Words of the layer history: operations, outcomes, records, events, and the history's own block. -/
import Derived.Test.YtfnddooclgklmaaDev
namespace Go.Proofs.Ytfnddooclgklmaa
open Go.RowKit
set_option linter.unusedVariables false
structure Op4 where
  kind : Int
  key : ByteArray
  val : ByteArray
  ver : Int
structure Out6 where
  kind : Int
  reason : Int
  code : Int
  val : ByteArray
  ver : Int
  at_ : Int
structure Rec where
  cl : Int
  seq : Int
  op : Op4
  frm : Int
  to : Int
  out : Out6
structure Ev where
  cl : Int
  seq : Int
  op : Op4
  out : Out6
abbrev Op4.cells (o : Op4) : Array Value := #[.int .i64 o.kind, .string o.key, .string o.val, .int .i64 o.ver]
abbrev Out6.cells (o : Out6) : Array Value := #[.int .i64 o.kind, .int .i64 o.reason, .int .i64 o.code, .string o.val, .int .i64 o.ver, .int .i64 o.at_]
abbrev Rec.cells (r : Rec) : Array Value := #[.int .i64 r.cl, .int .i64 r.seq, .int .i64 r.op.kind, .string r.op.key, .string r.op.val, .int .i64 r.op.ver, .int .i64 r.frm, .int .i64 r.to,
  .int .i64 r.out.kind, .int .i64 r.out.reason, .int .i64 r.out.code, .string r.out.val, .int .i64 r.out.ver, .int .i64 r.out.at_]
abbrev Ev.cells (r : Ev) : Array Value := #[.int .i64 r.cl, .int .i64 r.seq, .int .i64 r.op.kind, .string r.op.key, .string r.op.val, .int .i64 r.op.ver,
  .int .i64 r.out.kind, .int .i64 r.out.reason, .int .i64 r.out.code, .string r.out.val, .int .i64 r.out.ver, .int .i64 r.out.at_]
def zeroOp : Op4 := ⟨0, ⟨#[]⟩, ⟨#[]⟩, 0⟩
def zeroOut : Out6 := ⟨0, 0, 0, ⟨#[]⟩, 0, 0⟩
def recCells (l : List Rec) : List (Array Value) := l.map Rec.cells
def evCells (l : List Ev) : List (Array Value) := l.map Ev.cells
theorem rec_one (r : Rec) : ∀ u ∈ r.cells, u.oneCell' = true := by
  intro u hu
  simp only [Rec.cells, List.mem_toArray] at hu
  simp at hu
  repeat (first | (subst hu; rfl) | (rcases hu with h | hu; · subst h; rfl))
theorem ev_one (r : Ev) : ∀ u ∈ r.cells, u.oneCell' = true := by
  intro u hu
  simp only [Ev.cells, List.mem_toArray] at hu
  simp at hu
  repeat (first | (subst hu; rfl) | (rcases hu with h | hu; · subst h; rfl))
theorem rec_all (r : Rec) : r.cells.all (·.oneCell') = true := Array.all_eq_true_iff_forall_mem.2 (rec_one r)
/-! ### rules of the walk -/
theorem loadVar_else {t : TypeId} (a : Addr) (h : (t == 29 || t == 33 || t == 35 || t == 48 || t == 49 || t == 61) = false) : loadVar t a = (do if ← isAgg t then pure (.agg (← loadCells a (← sizeOf t))) else load a) := rfl
theorem storeVar_else {t : TypeId} (a : Addr) (v : Value) (h : (t == 29 || t == 33 || t == 35 || t == 48 || t == 49 || t == 61) = false) : storeVar t a v = (do
  if v.cells.size ≠ (← sizeOf t) then stuck "storeVar: the value has not the size of the variable"
  storeCells a v.cells.toList) := rfl
theorem run_load29 (w : World) (g o : Nat) : (loadVar 29 ⟨g, o, none⟩).run Try.prog w = (match aggAt 4 w g o with | some F => .ok (.agg F) w | none => aggSlow 29 w g o) := run_load_agg Try.underlying29 rfl (by kernel_rfl) w g o
theorem run_load33 (w : World) (g o : Nat) : (loadVar 33 ⟨g, o, none⟩).run Try.prog w = (match aggAt 6 w g o with | some F => .ok (.agg F) w | none => aggSlow 33 w g o) := run_load_agg Try.underlying33 rfl (by kernel_rfl) w g o
theorem run_load35 (w : World) (g o : Nat) : (loadVar 35 ⟨g, o, none⟩).run Try.prog w = (match aggAt 13 w g o with | some F => .ok (.agg F) w | none => aggSlow 35 w g o) := run_load_agg Try.underlying35 rfl (by kernel_rfl) w g o
theorem run_load48 (w : World) (g o : Nat) : (loadVar 48 ⟨g, o, none⟩).run Try.prog w = (match aggAt 14 w g o with | some F => .ok (.agg F) w | none => aggSlow 48 w g o) := run_load_agg Try.underlying48 rfl (by kernel_rfl) w g o
theorem run_load49 (w : World) (g o : Nat) : (loadVar 49 ⟨g, o, none⟩).run Try.prog w = (match aggAt 14 w g o with | some F => .ok (.agg F) w | none => aggSlow 49 w g o) := run_load_agg Try.underlying49 rfl (by kernel_rfl) w g o
theorem run_load61 (w : World) (g o : Nat) : (loadVar 61 ⟨g, o, none⟩).run Try.prog w = (match aggAt 12 w g o with | some F => .ok (.agg F) w | none => aggSlow 61 w g o) := run_load_agg Try.underlying61 rfl (by kernel_rfl) w g o
theorem run_store29 (w : World) (g o : Nat) (F : Array Value) : (storeVar 29 ⟨g, o, none⟩ (.agg F)).run Try.prog w = (match aggRoom 4 w g o F with | true => .ok () (w.setCells g o F.toList) | false => aggRoomSlow 29 w g o F) := run_store_agg (by kernel_rfl) w g o F
theorem run_store33 (w : World) (g o : Nat) (F : Array Value) : (storeVar 33 ⟨g, o, none⟩ (.agg F)).run Try.prog w = (match aggRoom 6 w g o F with | true => .ok () (w.setCells g o F.toList) | false => aggRoomSlow 33 w g o F) := run_store_agg (by kernel_rfl) w g o F
theorem run_store35 (w : World) (g o : Nat) (F : Array Value) : (storeVar 35 ⟨g, o, none⟩ (.agg F)).run Try.prog w = (match aggRoom 13 w g o F with | true => .ok () (w.setCells g o F.toList) | false => aggRoomSlow 35 w g o F) := run_store_agg (by kernel_rfl) w g o F
theorem run_store48 (w : World) (g o : Nat) (F : Array Value) : (storeVar 48 ⟨g, o, none⟩ (.agg F)).run Try.prog w = (match aggRoom 14 w g o F with | true => .ok () (w.setCells g o F.toList) | false => aggRoomSlow 48 w g o F) := run_store_agg (by kernel_rfl) w g o F
theorem run_store49 (w : World) (g o : Nat) (F : Array Value) : (storeVar 49 ⟨g, o, none⟩ (.agg F)).run Try.prog w = (match aggRoom 14 w g o F with | true => .ok () (w.setCells g o F.toList) | false => aggRoomSlow 49 w g o F) := run_store_agg (by kernel_rfl) w g o F
/-! ### the place of a client's last record -/
def placeL (c : Int) : List Int → Nat
  | [] => 0
  | x :: l => if placeL c l ≠ 0 then placeL c l + 1 else if x = c then 1 else 0
theorem placeL_snoc (c y : Int) : ∀ (l : List Int), placeL c (l ++ [y]) = if y = c then l.length + 1 else placeL c l
  | [] => by simp [placeL]
  | x :: l => by
    simp only [List.cons_append, placeL, placeL_snoc c y l, List.length_cons]
    by_cases h : y = c
    · simp [h]
    · simp [h]
theorem placeL_le (c : Int) : ∀ (l : List Int), placeL c l ≤ l.length
  | [] => by simp [placeL]
  | x :: l => by
    have := placeL_le c l
    simp only [placeL, List.length_cons]
    split
    · omega
    · split <;> omega
theorem placeL_zero (c : Int) : ∀ (l : List Int), placeL c l = 0 → ∀ j : Nat, l[j]? ≠ some c
  | [], _, j => by simp
  | a :: l, h, j => by
    simp only [placeL] at h
    split at h
    · omega
    · next h3 =>
      split at h
      · omega
      · next h4 =>
        match j with
        | 0 => simpa using h4
        | j + 1 => simpa using placeL_zero c l (by simpa using h3) j
theorem placeL_at (c : Int) : ∀ (l : List Int) (p : Nat), placeL c l = p + 1 → l[p]? = some c ∧ ∀ j : Nat, p < j → l[j]? ≠ some c
  | [], p, h => by simp [placeL] at h
  | x :: l, p, h => by
    simp only [placeL] at h
    split at h
    · next h0 =>
      obtain ⟨q, hq⟩ := Nat.exists_eq_succ_of_ne_zero h0
      obtain ⟨h1, h2⟩ := placeL_at c l q hq
      obtain rfl : p = q + 1 := by omega
      refine ⟨by simpa using h1, fun j hj => ?_⟩
      match j, hj with
      | j + 1, hj => simpa using h2 j (by omega)
    · next h0 =>
      split at h
      · next hx =>
        obtain rfl : p = 0 := by omega
        refine ⟨by simp [hx], fun j hj => ?_⟩
        match j, hj with
        | j + 1, _ =>
          have h0' : placeL c l = 0 := by simpa using h0
          intro hj2
          exact placeL_zero c l h0' j (by simpa using hj2)
      · omega
def place (c : Int) (rs : List Rec) : Nat := placeL c (rs.map (·.cl))
theorem place_le (c : Int) (rs : List Rec) : place c rs ≤ rs.length := by have := placeL_le c (rs.map (·.cl)); rwa [List.length_map] at this
theorem place_snoc (c : Int) (rs : List Rec) (r : Rec) : place c (rs ++ [r]) = if r.cl = c then rs.length + 1 else place c rs := by
  unfold place
  rw [List.map_append, List.map_cons, List.map_nil, placeL_snoc, List.length_map]
theorem place_set (c : Int) (rs : List Rec) (k : Nat) (r : Rec) (hk : k < rs.length) (h : r.cl = rs[k].cl) : place c (rs.set k r) = place c rs := by
  unfold place
  congr 1
  apply List.ext_getElem?
  intro i
  simp only [List.getElem?_map, List.getElem?_set]
  split
  · next e => subst e; simp [hk, h]
  · rfl
/-! ### the history's own block -/
def headOf (v : Value) (ev : Nat) (rs : List Rec) : Array Value := #[.bool true, v, .int .i64 ev, .int .i64 (place 0 rs), .int .i64 (place 1 rs), .int .i64 (place 2 rs), .int .i64 (place 3 rs), .int .i64 (place 4 rs), .int .i64 (place 5 rs)]
theorem headOf_at (v : Value) (ev : Nat) (rs : List Rec) (c : Nat) (hc : c < 6) : (headOf v ev rs)[3 + c]? = some (.int .i64 (place c rs)) := by
  match c, hc with
  | 0, _ => rfl
  | 1, _ => rfl
  | 2, _ => rfl
  | 3, _ => rfl
  | 4, _ => rfl
  | 5, _ => rfl
/-- at h lies a history of these records, v their slice, of so many events -/
structure Hist (w : World) (base h : Nat) (v : Value) (rs : List Rec) (ev : Nat) : Prop where
  ge : base ≤ h
  head : Blk w h 53 (headOf v ev rs)
  row : RowOf w base 49 14 v (recCells rs)
theorem recCells_len (rs : List Rec) : (recCells rs).length = rs.length := by simp [recCells]
section
variable {w w' : World} {base h : Nat} {v : Value} {rs : List Rec} {ev : Nat} {S : List Nat}
theorem Hist.upd (H : Hist w base h v rs ev) (u : Upd w w' S) (h1 : h ∉ S) (h2 : ∀ g ∈ blkOf v, g ∉ S) : Hist w' base h v rs ev :=
  ⟨H.ge, u.blk H.head h1, H.row.upd u h2⟩
theorem Hist.upd0 (H : Hist w base h v rs ev) (u : Upd w w' []) : Hist w' base h v rs ev := H.upd u (by simp) (by simp)
theorem Hist.c0 (H : Hist w base h v rs ev) : w.cell? ⟨h, 0, none⟩ = some (.bool true) := by rw [H.head.cell]; rfl
theorem Hist.c1 (H : Hist w base h v rs ev) : w.cell? ⟨h, 1, none⟩ = some v := by rw [H.head.cell]; rfl
theorem Hist.c2 (H : Hist w base h v rs ev) : w.cell? ⟨h, 2, none⟩ = some (.int .i64 ev) := by rw [H.head.cell]; rfl
theorem Hist.last (H : Hist w base h v rs ev) (c : Nat) (hc : c < 6) : w.cell? ⟨h, 3 + c, none⟩ = some (.int .i64 (place c rs)) := by rw [H.head.cell]; exact headOf_at v ev rs c hc
theorem Hist.few (H : Hist w base h v rs ev) : rs.length ≤ maxLen := by have := H.row.few; rwa [recCells_len] at this
/-- the slice's form -/
theorem Hist.slice (H : Hist w base h v rs ev) : (v = .slice none 0 0 ∧ rs = []) ∨ ∃ g cap, v = .slice (some ⟨g, 0, none⟩) rs.length cap ∧ base ≤ g ∧ g ≠ h ∧ g < w.heap.size := by
  rcases H.row.slice with ⟨h1, h2⟩ | ⟨g, cap, hv, hb, hc, cur, hg, _⟩
  · exact .inl ⟨h1, by simpa [recCells] using h2⟩
  · exact .inr ⟨g, cap, by rw [hv, recCells_len], hb, hg.ne_ H.head (by decide), hg.lt⟩
theorem Hist.rec_ {g cap : Nat} (H : Hist w base h (.slice (some ⟨g, 0, none⟩) rs.length cap) rs ev) (i : Nat) (hi : i < rs.length) : aggAt 14 w g (i * 14) = some rs[i].cells := by
  have := H.row
  rw [← recCells_len] at this
  have h2 := this.agg i (by simpa [recCells] using hi)
  simpa [recCells] using h2
end
/-- h is no history: no pointer, or one that New did not make -/
def NoHist (w : World) (v : Value) : Prop := v = .pointer none ∨ ∃ h, v = .pointer (some ⟨h, 0, none⟩) ∧ Blk w h 53 #[.bool false, .slice none 0 0, .int .i64 0, .int .i64 0, .int .i64 0, .int .i64 0, .int .i64 0, .int .i64 0, .int .i64 0]
theorem NoHist.upd {w w' : World} {v : Value} (h : NoHist w v) (u : Upd w w' []) : NoHist w' v := by
  rcases h with h | ⟨r, h, hb⟩
  · exact .inl h
  · exact .inr ⟨r, h, u.blk hb (by simp)⟩
/-- what Check answers -/
def chk (o : Op4) : Int := if o.kind < 1 ∨ 4 < o.kind ∨ o.key.size = 0 ∨ o.ver < 0 ∨ 4096 < o.ver ∨ (o.ver ≠ 0 ∧ o.kind ≠ 4) ∨ (o.val.size ≠ 0 ∧ (o.kind = 1 ∨ o.kind = 3)) then 2 else if 16 < o.key.size ∨ 64 < o.val.size then 3 else 0
theorem size_zero {s : ByteArray} : s.size = 0 ↔ s = ⟨#[]⟩ := by
  constructor
  · intro h
    obtain ⟨d⟩ := s
    congr
    exact Array.eq_empty_of_size_eq_zero h
  · rintro rfl; rfl
theorem empty_size (s : ByteArray) : s.toList.isEmpty = decide (s.size = 0) := by
  rw [ByteArray.toList_eq]
  have : s.size = s.data.toList.length := (Array.length_toList).symm
  rw [this]
  cases s.data.toList <;> simp
theorem empty_yes {s : ByteArray} (h : s.size = 0) : s.toList.isEmpty = true := by simp [empty_size, h]
theorem empty_no {s : ByteArray} (h : ¬ s.size = 0) : s.toList.isEmpty = false := by simp [empty_size, h]
end Go.Proofs.Ytfnddooclgklmaa
