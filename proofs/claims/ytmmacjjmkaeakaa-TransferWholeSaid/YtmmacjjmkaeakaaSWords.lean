/- Words of the layer transfer: a sender: its text's bytes, and the row of its pieces. -/
import Derived.Test.YtmmacjjmkaeakaaWords
import Derived.BigQuiet
import Derived.Laws.IdiomStrings
namespace Go.Proofs.Ytmmacjjmkaeakaa
open Go.RowKit
set_option linter.unusedVariables false
/-- where piece i ends -/
def cutHi (size n i : Nat) : Nat := min (i * size + size) n
def cutB (t : ByteArray) (size i : Nat) : ByteArray := ⟨((t.data.toList.drop (i * size)).take (cutHi size t.size i - i * size)).toArray⟩
def cutV (bb size n i : Nat) : Value := .slice (some ⟨bb, i * size, none⟩) (cutHi size n i - i * size) (cutHi size n i - i * size)
def cutCells (bb size n k : Nat) : List (Array Value) := (List.range k).map fun i => #[cutV bb size n i]
theorem cutCells_len (bb size n k : Nat) : (cutCells bb size n k).length = k := by simp [cutCells]
theorem cutCells_succ (bb size n k : Nat) : cutCells bb size n (k + 1) = cutCells bb size n k ++ [#[cutV bb size n k]] := by simp [cutCells, List.range_succ]
theorem flat_cut (bb size n : Nat) : ∀ k, flat (cutCells bb size n k) = (List.range k).map (cutV bb size n) := by
  intro k
  unfold cutCells
  generalize List.range k = l
  induction l with
  | nil => rfl
  | cons a l ih => show #[cutV bb size n a].toList ++ flat (l.map _) = _; rw [ih]; rfl
/-- a block whose cells are a text's bytes -/
def Bytes (w : World) (bb : Nat) (t : ByteArray) : Prop := ∃ C fr, w.heap[bb]? = some (.cells C 5 fr) ∧ ∀ (j : Nat) (h : j < t.data.toList.length), C[j]? = some (.int .u8 ((t.data.toList[j]).toNat : Int))
theorem Bytes.lt {w : World} {bb : Nat} {t : ByteArray} (h : Bytes w bb t) : bb < w.heap.size := by
  obtain ⟨C, fr, h, _⟩ := h
  rcases Nat.lt_or_ge bb w.heap.size with hlt | hge
  · exact hlt
  · rw [Array.getElem?_eq_none hge] at h; cases h
theorem Bytes.upd {w w' : World} {bb : Nat} {t : ByteArray} {S : List Nat} (h : Bytes w bb t) (u : Upd w w' S) (hS : bb ∉ S) : Bytes w' bb t := by
  have hl := h.lt
  obtain ⟨C, fr, h1, h2⟩ := h
  exact ⟨C, fr, (u.block bb hl hS).trans h1, h2⟩
theorem Bytes.ne {w : World} {bb g : Nat} {ty : TypeId} {cs : Array Value} {t : ByteArray} (h : Bytes w bb t) (hb : Blk w g ty cs) (hne : ty ≠ 5) : bb ≠ g := by
  rintro rfl
  obtain ⟨C, fr, h1, _⟩ := h
  unfold Blk at hb
  rw [hb] at h1
  injection h1 with h1
  injection h1 with _ h1 _
  exact hne h1
theorem Bytes.cell {w : World} {bb : Nat} {t : ByteArray} (h : Bytes w bb t) (j : Nat) (hj : j < t.data.toList.length) : w.cell? ⟨bb, j, none⟩ = some (.int .u8 ((t.data.toList[j]).toNat : Int)) := by
  obtain ⟨C, fr, h1, h2⟩ := h
  rw [← h2 j hj]
  unfold World.cell?
  rw [h1]
  simp
/-- string(b) at a piece -/
theorem cut_string {w : World} {bb size i : Nat} {t : ByteArray} (h : Bytes w bb t) : (convert 73 9 (cutV bb size t.size i)).run Try.prog w = .ok (.string (cutB t size i)) w := by
  have hl : ((t.data.toList.drop (i * size)).take (cutHi size t.size i - i * size)).length = cutHi size t.size i - i * size := by
    rw [List.length_take, List.length_drop]
    have : t.data.toList.length = t.size := Array.length_toList
    unfold cutHi
    omega
  have := run_convert_bytes_back (P := Try.prog) w 73 9 5 ⟨bb, i * size, none⟩ (cutHi size t.size i - i * size) ((t.data.toList.drop (i * size)).take (cutHi size t.size i - i * size)) Try.underlying73 Try.underlying5 Try.underlying9
    (fun j hj => by
      rw [hl] at hj
      rw [Addr.add_mid]
      have hj2 : i * size + j < t.data.toList.length := by
        have : t.data.toList.length = t.size := Array.length_toList
        unfold cutHi at hj
        omega
      rw [h.cell _ hj2]
      simp)
  rw [hl] at this
  exact this
/-- a sender: of which transfer, its pieces, its window, what is known to be there, what is sent -/
structure Snd (w : World) (base r : Nat) (v : Value) (bb : Nat) (t : ByteArray) (size k : Nat) (id win hv sent : Int) : Prop where
  ge : base ≤ r
  head : Blk w r 64 #[.int .i64 id, v, .int .i64 win, .int .i64 hv, .int .i64 sent]
  row : RowOf w base 73 1 v (cutCells bb size t.size k)
  mem : Bytes w bb t
section
variable {w w' : World} {base r : Nat} {v : Value} {bb : Nat} {t : ByteArray} {size k : Nat} {id win hv sent : Int} {S : List Nat}
theorem Snd.upd (H : Snd w base r v bb t size k id win hv sent) (u : Upd w w' S) (h1 : r ∉ S) (h2 : ∀ g ∈ blkOf v, g ∉ S) (h3 : bb ∉ S) : Snd w' base r v bb t size k id win hv sent :=
  ⟨H.ge, u.blk H.head h1, H.row.upd u h2, H.mem.upd u h3⟩
theorem Snd.upd0 (H : Snd w base r v bb t size k id win hv sent) (u : Upd w w' []) : Snd w' base r v bb t size k id win hv sent := H.upd u (by simp) (by simp) (by simp)
theorem Snd.a0 (H : Snd w base r v bb t size k id win hv sent) : w.cell? ⟨r, 0, none⟩ = some (.int .i64 id) := by rw [H.head.cell]; rfl
theorem Snd.a1 (H : Snd w base r v bb t size k id win hv sent) : w.cell? ⟨r, 1, none⟩ = some v := by rw [H.head.cell]; rfl
theorem Snd.a2 (H : Snd w base r v bb t size k id win hv sent) : w.cell? ⟨r, 2, none⟩ = some (.int .i64 win) := by rw [H.head.cell]; rfl
theorem Snd.a3 (H : Snd w base r v bb t size k id win hv sent) : w.cell? ⟨r, 3, none⟩ = some (.int .i64 hv) := by rw [H.head.cell]; rfl
theorem Snd.a4 (H : Snd w base r v bb t size k id win hv sent) : w.cell? ⟨r, 4, none⟩ = some (.int .i64 sent) := by rw [H.head.cell]; rfl
theorem Snd.form (H : Snd w base r v bb t size k id win hv sent) : ∃ ga c, v = .slice ga k c ∧ (0 < k → ∃ g, ga = some ⟨g, 0, none⟩) := by
  have := H.row.form
  rwa [cutCells_len] at this
theorem Snd.piece {ga : Option Addr} {c g : Nat} (H : Snd w base r (.slice (some ⟨g, 0, none⟩) k c) bb t size k id win hv sent) (i : Nat) (hi : i < k) : w.cell? ⟨g, i, none⟩ = some (cutV bb size t.size i) := by
  have := RowOf.src H.row i (cutV bb size t.size i) (by rw [flat_cut, List.getElem?_map, List.getElem?_range hi]; rfl)
  rw [Addr.add_mid, Nat.zero_add] at this
  exact this
/-- its window, what is there, and what is sent, set -/
theorem Snd.put_ (H : Snd w base r v bb t size k id win hv sent) (n : Nat) (x : Int) (hv' sent' : Int) (hcs : (#[.int .i64 id, v, .int .i64 win, .int .i64 hv, .int .i64 sent] : Array Value).setIfInBounds n (.int .i64 x) = #[.int .i64 id, v, .int .i64 win, .int .i64 hv', .int .i64 sent']) :
    Snd (w.setCell ⟨r, n, none⟩ (.int .i64 x)) base r v bb t size k id win hv' sent' := by
  have k1 : Upd w (w.setCell ⟨r, n, none⟩ (.int .i64 x)) [r] := (Upd.refl _ _).setCell (p := ⟨r, n, none⟩) (by simp) _
  exact ⟨H.ge, hcs ▸ H.head.set_ n _, H.row.upd k1 (H.row.ne H.head (by decide)), H.mem.upd k1 (by simpa using H.mem.ne H.head (by decide))⟩
theorem Snd.put3 (H : Snd w base r v bb t size k id win hv sent) (x : Int) : Snd (w.setCell ⟨r, 3, none⟩ (.int .i64 x)) base r v bb t size k id win x sent := H.put_ 3 x x sent rfl
theorem Snd.put4 (H : Snd w base r v bb t size k id win hv sent) (x : Int) : Snd (w.setCell ⟨r, 4, none⟩ (.int .i64 x)) base r v bb t size k id win hv x := H.put_ 4 x hv x rfl
end
set_option maxHeartbeats 1000000 in
theorem made_ok {w : World} {base r : Nat} {v : Value} {bb : Nat} {t : ByteArray} {size k : Nat} {id win hv sent : Int} (H : Snd w base r v bb t size k id win hv sent) (hk : 0 < k) :
    Calls Try.prog 26 #[.pointer (some ⟨r, 0, none⟩)] w fun e w' => e = .returned (.bool true) ∧ w' = w := by
  have a1 := H.a1
  obtain ⟨ga, c, hv1, _⟩ := H.form
  subst hv1
  clear H
  go_enter Try.func26, Try.ntmps26
  go_wp2_with fail
  go_ret
  exact ⟨rfl, rfl⟩
theorem made_none (w : World) : Calls Try.prog 26 #[.pointer none] w fun e w' => e = .returned (.bool false) ∧ w' = w := by
  go_enter Try.func26, Try.ntmps26
  go_wp2_with fail
  go_ret
  exact ⟨rfl, rfl⟩
end Go.Proofs.Ytmmacjjmkaeakaa
