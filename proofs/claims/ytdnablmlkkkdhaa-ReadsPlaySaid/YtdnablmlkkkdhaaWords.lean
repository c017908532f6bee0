/- Words of the layer reads: frames without members, results, reads, and the blocks that hold them. -/
import Derived.Test.YtdnablmlkkkdhaaDev
namespace Go.Proofs.Ytdnablmlkkkdhaa
open Go.RowKit
set_option linter.unusedVariables false
structure Op4 where
  kind : Int
  key : ByteArray
  val : ByteArray
  ver : Int
structure Res where
  code : Int
  val : ByteArray
  ver : Int
  at_ : Int
/-- what is looked at of a frame -/
structure Fd where
  kind : Int
  epoch : Int
  client : Int
  seq : Int
  try_ : Int
  cls : Int
  dl : Int
  op : Op4
abbrev Op4.cells (o : Op4) : Array Value := #[.int .i64 o.kind, .string o.key, .string o.val, .int .i64 o.ver]
abbrev Res.cells (o : Res) : Array Value := #[.int .i64 o.code, .string o.val, .int .i64 o.ver, .int .i64 o.at_]
deriving instance DecidableEq for Op4, Res, Fd
/-- F is the cells of a frame of which d is looked at; it has no members -/
structure Fit (F : Array Value) (d : Fd) : Prop where
  size : F.size = 29
  one : ∀ u ∈ F, u.oneCell' = true
  c0 : F[0]? = some (.int .i64 d.kind)
  c1 : F[1]? = some (.int .i64 d.epoch)
  c2 : F[2]? = some (.int .i64 d.client)
  c3 : F[3]? = some (.int .i64 d.seq)
  c4 : F[4]? = some (.int .i64 d.try_)
  c5 : F[5]? = some (.int .i64 d.cls)
  c6 : F[6]? = some (.int .i64 d.dl)
  op : ∀ j, j < 4 → F[7 + j]? = d.op.cells[j]?
  mem : ∃ a c, F[24]? = some (.slice a 0 c)
theorem Fit.all {F : Array Value} {d : Fd} (h : Fit F d) : F.all (·.oneCell') = true := Array.all_eq_true_iff_forall_mem.2 h.one
theorem Fit.set_ {F : Array Value} {d : Fd} (h : Fit F d) (a : Option Addr) (c : Nat) : Fit (F.setIfInBounds 24 (.slice a 0 c)) d := by
  have ne : ∀ i, i ≠ 24 → (F.setIfInBounds 24 (.slice a 0 c))[i]? = F[i]? := fun i hi => by simp [Ne.symm hi]
  refine ⟨by simp [h.size], fun u hu => ?_, ?_, ?_, ?_, ?_, ?_, ?_, ?_, fun j hj => ?_, a, c, by simp [h.size]⟩
  · rw [Array.mem_iff_getElem?] at hu
    obtain ⟨i, hi⟩ := hu
    rw [Array.getElem?_setIfInBounds] at hi
    split at hi
    · split at hi
      · cases hi; rfl
      · cases hi
    · exact h.one u (Array.mem_of_getElem? hi)
  · rw [ne _ (by decide), h.c0]
  · rw [ne _ (by decide), h.c1]
  · rw [ne _ (by decide), h.c2]
  · rw [ne _ (by decide), h.c3]
  · rw [ne _ (by decide), h.c4]
  · rw [ne _ (by decide), h.c5]
  · rw [ne _ (by decide), h.c6]
  · rw [ne _ (by omega), h.op j hj]
/-- a read -/
structure Rd where
  id : Int
  d : Fd
  x : Res
  F : Array Value
/-- the cells of a read -/
def rdOf (n : Int) (F X : Array Value) : Array Value := (#[.int .i64 n] ++ F) ++ X
def Rd.cells (r : Rd) : Array Value := rdOf r.id r.F r.x.cells
def Rd.ok (r : Rd) : Prop := Fit r.F r.d
theorem Rd.size {r : Rd} (h : r.ok) : r.cells.size = 34 := by simp [Rd.cells, rdOf, h.size]
theorem rdOf_size (n : Int) {F X : Array Value} (h : F.size = 29) (hX : X.size = 4) : (rdOf n F X).size = 34 := by simp [rdOf, h, hX]
theorem Rd.at0 (r : Rd) : r.cells[0]? = some (.int .i64 r.id) := by
  unfold Rd.cells rdOf
  rw [Array.getElem?_append_left (by simp; omega), Array.getElem?_append_left (by simp)]; rfl
theorem Rd.atF {r : Rd} (h : r.ok) (j : Nat) (hj : j < 29) : r.cells[1 + j]? = r.F[j]? := by
  unfold Rd.cells rdOf
  rw [Array.getElem?_append_left (by simp [h.size]; omega), Array.getElem?_append_right (by simp)]
  simp
theorem Rd.atX {r : Rd} (h : r.ok) (j : Nat) : r.cells[30 + j]? = r.x.cells[j]? := by
  unfold Rd.cells rdOf
  have h := h.size
  rw [Array.getElem?_append_right (by simp [h])]
  congr 1
  simp [h]
theorem Rd.one {r : Rd} (h : r.ok) : ∀ u ∈ r.cells, u.oneCell' = true := by
  intro u hu
  unfold Rd.cells rdOf at hu
  rw [Array.mem_append, Array.mem_append] at hu
  rcases hu with (hu | hu) | hu
  · simp at hu; subst hu; rfl
  · exact h.one u hu
  · simp only [Res.cells, List.mem_toArray] at hu
    simp at hu
    rcases hu with rfl | rfl | rfl | rfl <;> rfl
theorem Rd.all {r : Rd} (h : r.ok) : r.cells.all (·.oneCell') = true := Array.all_eq_true_iff_forall_mem.2 (Rd.one h)
def rdCells (l : List Rd) : List (Array Value) := l.map Rd.cells
theorem rdCells_len (l : List Rd) : (rdCells l).length = l.length := by simp [rdCells]
def zeroF : Array Value := #[.int .i64 0, .int .i64 0, .int .i64 0, .int .i64 0, .int .i64 0, .int .i64 0, .int .i64 0, .int .i64 0, .string ⟨#[]⟩, .string ⟨#[]⟩, .int .i64 0, .int .i64 0, .string ⟨#[]⟩, .int .i64 0, .int .i64 0,
  .int .i64 0, .int .i64 0, .int .i64 0, .int .i64 0, .int .i64 0, .string ⟨#[]⟩, .string ⟨#[]⟩, .int .i64 0, .int .i64 0, .slice none 0 0, .int .i64 0, .int .i64 0, .int .i64 0, .int .i64 0]
def zeroFd : Fd := ⟨0, 0, 0, 0, 0, 0, 0, ⟨0, ⟨#[]⟩, ⟨#[]⟩, 0⟩⟩
theorem zero_fit : Fit zeroF zeroFd := ⟨rfl, by
  intro u hu
  have := Array.all_eq_true_iff_forall_mem.1 (show zeroF.all (·.oneCell') = true by simp [zeroF, Value.oneCell'])
  exact this u hu, rfl, rfl, rfl, rfl, rfl, rfl, rfl, fun j hj => by match j, hj with | 0, _ => rfl | 1, _ => rfl | 2, _ => rfl | 3, _ => rfl, none, 0, rfl⟩
def zeroRd : Array Value := #[.int .i64 0, .int .i64 0, .int .i64 0, .int .i64 0, .int .i64 0, .int .i64 0, .int .i64 0, .int .i64 0, .int .i64 0, .string ⟨#[]⟩, .string ⟨#[]⟩, .int .i64 0, .int .i64 0, .string ⟨#[]⟩, .int .i64 0, .int .i64 0,
  .int .i64 0, .int .i64 0, .int .i64 0, .int .i64 0, .int .i64 0, .string ⟨#[]⟩, .string ⟨#[]⟩, .int .i64 0, .int .i64 0, .slice none 0 0, .int .i64 0, .int .i64 0, .int .i64 0, .int .i64 0, .int .i64 0, .string ⟨#[]⟩, .int .i64 0, .int .i64 0]
theorem info42 : (Try.prog.info? 42).map (fun i => (i.zero, i.size, i.bytes)) = some (some (.agg zeroF), 29, 288) := by kernel_rfl
theorem info49 : (Try.prog.info? 49).map (fun i => (i.zero, i.size, i.bytes)) = some (some (.agg zeroRd), 34, 336) := by kernel_rfl
theorem info72 : (Try.prog.info? 72).map (fun i => (i.zero, i.size, i.bytes)) = some (some (.agg zeroRd), 34, 336) := by kernel_rfl
/-! ### rules of the walk -/
def whole (t : TypeId) : Bool := t == 33 || t == 35 || t == 42 || t == 44 || t == 49 || t == 72
theorem loadVar_else {t : TypeId} (a : Addr) (h : (t == 33 || t == 35 || t == 42 || t == 44 || t == 49 || t == 72) = false) : loadVar t a = (do if ← isAgg t then pure (.agg (← loadCells a (← sizeOf t))) else load a) := rfl
theorem storeVar_else {t : TypeId} (a : Addr) (v : Value) (h : (t == 33 || t == 35 || t == 42 || t == 44 || t == 49 || t == 72) = false) : storeVar t a v = (do
  if v.cells.size ≠ (← sizeOf t) then stuck "storeVar: the value has not the size of the variable"
  storeCells a v.cells.toList) := rfl
theorem run_load33 (w : World) (g o : Nat) : (loadVar 33 ⟨g, o, none⟩).run Try.prog w = (match aggAt 4 w g o with | some F => .ok (.agg F) w | none => aggSlow 33 w g o) := run_load_agg Try.underlying33 rfl (by kernel_rfl) w g o
theorem run_load35 (w : World) (g o : Nat) : (loadVar 35 ⟨g, o, none⟩).run Try.prog w = (match aggAt 4 w g o with | some F => .ok (.agg F) w | none => aggSlow 35 w g o) := run_load_agg Try.underlying35 rfl (by kernel_rfl) w g o
theorem run_load42 (w : World) (g o : Nat) : (loadVar 42 ⟨g, o, none⟩).run Try.prog w = (match aggAt 29 w g o with | some F => .ok (.agg F) w | none => aggSlow 42 w g o) := run_load_agg Try.underlying42 rfl (by kernel_rfl) w g o
theorem run_load44 (w : World) (g o : Nat) : (loadVar 44 ⟨g, o, none⟩).run Try.prog w = (match aggAt 35 w g o with | some F => .ok (.agg F) w | none => aggSlow 44 w g o) := run_load_agg Try.underlying44 rfl (by kernel_rfl) w g o
theorem run_load49 (w : World) (g o : Nat) : (loadVar 49 ⟨g, o, none⟩).run Try.prog w = (match aggAt 34 w g o with | some F => .ok (.agg F) w | none => aggSlow 49 w g o) := run_load_agg Try.underlying49 rfl (by kernel_rfl) w g o
theorem run_load72 (w : World) (g o : Nat) : (loadVar 72 ⟨g, o, none⟩).run Try.prog w = (match aggAt 34 w g o with | some F => .ok (.agg F) w | none => aggSlow 72 w g o) := run_load_agg Try.underlying72 rfl (by kernel_rfl) w g o
theorem run_store35 (w : World) (g o : Nat) (F : Array Value) : (storeVar 35 ⟨g, o, none⟩ (.agg F)).run Try.prog w = (match aggRoom 4 w g o F with | true => .ok () (w.setCells g o F.toList) | false => aggRoomSlow 35 w g o F) := run_store_agg (by kernel_rfl) w g o F
theorem run_store42 (w : World) (g o : Nat) (F : Array Value) : (storeVar 42 ⟨g, o, none⟩ (.agg F)).run Try.prog w = (match aggRoom 29 w g o F with | true => .ok () (w.setCells g o F.toList) | false => aggRoomSlow 42 w g o F) := run_store_agg (by kernel_rfl) w g o F
theorem run_store44 (w : World) (g o : Nat) (F : Array Value) : (storeVar 44 ⟨g, o, none⟩ (.agg F)).run Try.prog w = (match aggRoom 35 w g o F with | true => .ok () (w.setCells g o F.toList) | false => aggRoomSlow 44 w g o F) := run_store_agg (by kernel_rfl) w g o F
theorem run_store49 (w : World) (g o : Nat) (F : Array Value) : (storeVar 49 ⟨g, o, none⟩ (.agg F)).run Try.prog w = (match aggRoom 34 w g o F with | true => .ok () (w.setCells g o F.toList) | false => aggRoomSlow 49 w g o F) := run_store_agg (by kernel_rfl) w g o F
/-! ### structs that are built, as one word -/
theorem foldl_off : ∀ (vs : List Value) (o k : Nat) (cs : Array Value), (vs.zipIdx k).foldl (fun cs x => cs.setIfInBounds (o + x.2) x.1) cs = putAt cs (o + k) vs
  | [], _, _, _ => rfl
  | v :: r, o, k, cs => by rw [List.zipIdx_cons, List.foldl_cons, foldl_off r, putAt, Nat.add_assoc]
theorem fill_cons {pl : Nat → Option (Nat × Nat)} {cells : Array Value} {i o s : Nat} {v : Value} {r : List (Nat × Value)} (hp : pl i = some (o, s)) (hv : v.cells.size = s) (hs : o + s ≤ cells.size) :
    Instr.fill pl cells ((i, v) :: r) = Instr.fill pl (putAt cells o v.cells.toList) r := by
  rw [Instr.fill, hp]
  dsimp only
  rw [if_neg (by simp [hv]; omega)]
  congr 1
  rw [← Array.foldl_toList, Array.toList_zipIdx]
  exact foldl_off _ _ _ _
theorem putAt_part {cs F G : Array Value} {o : Nat} (hs : G.size = cs.size) (ho : o + F.size ≤ cs.size) (h1 : ∀ j, j < F.size → G[o + j]? = F[j]?) (h2 : ∀ k, k < o ∨ o + F.size ≤ k → G[k]? = cs[k]?) : putAt cs o F.toList = G := by
  apply Array.ext_getElem?
  intro i
  rw [putAt_get]
  simp only [Array.length_toList, Array.getElem?_toList]
  split
  · next h =>
    have := h1 (i - o) (by omega)
    rw [show o + (i - o) = i by omega] at this
    exact this.symm
  · next h =>
    by_cases hi : i < cs.size
    · exact (h2 i (by omega)).symm
    · rw [Array.getElem?_eq_none (by omega), Array.getElem?_eq_none (by omega)]
theorem built49_ (l : List (Nat × Value)) : Try.prog.built 49 l = Instr.fill (fun x => #[(0, 1), (1, 29), (30, 4)][x]?) zeroRd l := by kernel_rfl
theorem built72_ (l : List (Nat × Value)) : Try.prog.built 72 l = Instr.fill (fun x => #[(0, 1), (1, 29), (30, 4)][x]?) zeroRd l := by kernel_rfl
theorem fill_read (n : Int) {F X : Array Value} (hF : F.size = 29) (hX : X.size = 4) : Instr.fill (fun x => (#[(0, 1), (1, 29), (30, 4)] : Array (Nat × Nat))[x]?) zeroRd [(0, .int .i64 n), (1, .agg F), (2, .agg X)] = some (rdOf n F X) := by
  have hz : zeroRd.size = 34 := rfl
  rw [fill_cons (o := 0) (s := 1) rfl rfl (by rw [hz]; decide), fill_cons (o := 1) (s := 29) (v := .agg F) rfl hF (by rw [putAt_size, hz]; decide), fill_cons (o := 30) (s := 4) (v := .agg X) rfl hX (by rw [putAt_size, putAt_size, hz]; decide)]
  rw [Instr.fill]
  congr 1
  show putAt (putAt (putAt zeroRd 0 [.int .i64 n]) 1 F.toList) 30 X.toList = _
  have e1 : putAt (putAt zeroRd 0 [.int .i64 n]) 1 F.toList = (#[.int .i64 n] ++ F) ++ #[.int .i64 0, .string ⟨#[]⟩, .int .i64 0, .int .i64 0] := by
    apply putAt_part
    · simp [putAt_size, hz, hF]
    · simp [putAt_size, hz, hF]
    · intro j hj
      rw [Array.getElem?_append_left (by simp; omega), Array.getElem?_append_right (by simp)]
      simp
    · intro k hk
      rw [putAt_get]
      rcases hk with hk | hk
      · obtain rfl : k = 0 := by omega
        rw [Array.getElem?_append_left (by simp; omega), Array.getElem?_append_left (by simp)]
        simp [hz]
      · rw [if_neg (by simp; omega)]
        by_cases h34 : k < 34
        · obtain ⟨m, rfl⟩ : ∃ m, k = 30 + m := ⟨k - 30, by omega⟩
          rw [Array.getElem?_append_right (by simp [hF])]
          have : m < 4 := by omega
          have hm : 30 + m - (#[Value.int .i64 n] ++ F).size = m := by simp [hF]
          rw [hm]
          match m, this with
          | 0, _ => rfl
          | 1, _ => rfl
          | 2, _ => rfl
          | 3, _ => rfl
        · rw [Array.getElem?_eq_none (by simp [hF]; omega), Array.getElem?_eq_none (by omega)]
  rw [e1]
  unfold rdOf
  apply putAt_part
  · simp [hX]
  · simp [hF, hX]
  · intro j hj
    rw [Array.getElem?_append_right (by simp [hF])]
    congr 1
    simp [hF]
  · intro k hk
    rcases hk with hk | hk
    · have h1 : k < (#[Value.int .i64 n] ++ F).size := by simp [hF]; omega
      rw [Array.getElem?_append_left h1, Array.getElem?_append_left h1]
    · rw [Array.getElem?_eq_none (by simp [hF]; omega), Array.getElem?_eq_none (by simp [hF]; omega)]
/-- a read is built, as one word -/
theorem wpList_read49 {ops : Array Oper} {rest : List Oper} {o : Oper} {a : Act} {w : World} {Q : Exit → Act → World → Prop} (hg : o.guard = none) (x y z : Operand) (ho : o.op = .build 49 #[(0, x), (1, y), (2, z)])
    (n : Int) (F X : Array Value) (hx : a.eval x = .int .i64 n) (hy : a.eval y = .agg F) (hz : a.eval z = .agg X) (hF : F.size = 29) (hX : X.size = 4)
    (h : wpList Try.prog ops Q rest (a.put o.dst (.agg (rdOf n F X))) w) : wpList Try.prog ops Q (o :: rest) a w := by
  have e : (#[(0, x), (1, y), (2, z)].map fun (x : Nat × Operand) => (x.1, a.eval x.2)).toList = [(0, .int .i64 n), (1, .agg F), (2, .agg X)] := by simp [hx, hy, hz]
  refine wpList_build hg 49 #[(0, x), (1, y), (2, z)] ho ?_ ?_
  · rw [e, built49_, fill_read n hF hX]; rfl
  · rw [e, built49_, fill_read n hF hX]; exact h
end Go.Proofs.Ytdnablmlkkkdhaa
