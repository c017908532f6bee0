/- The walks of the layer counts, 2: List and Copy. -/
import Derived.Test.YtibpbnhchlojmaaWalks
namespace Go.Proofs.Ytibpbnhchlojmaa
open Go.RowKit
set_option linter.unusedVariables false

theorem info2 : (Try.prog.info? 2).map (fun i => (i.zero, i.size, i.bytes)) = some (some (.int .i64 0), 1, 8) := by kernel_rfl
/-- the first k numbers of l, then noughts -/
def part (l : List Int) (k : Nat) : List Int := l.take k ++ List.replicate (l.length - k) 0
theorem part_zero (l : List Int) : part l 0 = List.replicate l.length 0 := by simp [part]
theorem part_full (l : List Int) : part l l.length = l := by simp [part]
theorem part_len (l : List Int) (k : Nat) (hk : k ≤ l.length) : (part l k).length = l.length := by simp [part]; omega
theorem part_set (l : List Int) (k : Nat) (hk : k < l.length) : (part l k).set k (l[k]?.getD 0) = part l (k + 1) := by
  apply List.ext_getElem
  · simp [part]; omega
  · intro i h1 h2
    rw [List.getElem_set]
    by_cases hi : k = i
    · subst hi
      simp only [part, List.getElem?_eq_getElem hk, Option.getD_some, ↓reduceIte]
      rw [List.getElem_append_left (by simp; omega)]
      simp
    · rw [if_neg hi]
      simp only [part, List.getElem_append, List.length_take, List.getElem_take, List.getElem_replicate]
      split <;> split <;> first | rfl | omega
theorem blk_fill {w : World} {B t : Nat} {l : List Int} {k : Nat} (h : Blk w B t ((part l k).map (Value.int .i64)).toArray) (hk : k < l.length) :
    Blk (w.setCell ⟨B, k, none⟩ (.int .i64 (l[k]?.getD 0))) B t ((part l (k + 1)).map (Value.int .i64)).toArray :=
  (h.set_ k _).congr (by rw [← part_set l k hk]; simp)
theorem blk_at {w : World} {B t : Nat} {l : List Int} {k : Nat} (h : Blk w B t ((part l k).map (Value.int .i64)).toArray) (hk : k < l.length) : w.cell? ⟨B, k, none⟩ = some (.int .i64 0) := by
  rw [h.cell]
  simp [part, hk, Nat.le_of_lt hk]
theorem list_ok (g h : Nat) (l : List Int) (w : World) (c : Cnt w g h l) (h1 : 1 ≤ l.length) (hlen : l.length ≤ 64) :
    Calls Try.prog 14 #[.pointer (some ⟨g, 0, none⟩)] w fun e w' => ∃ k, e = .returned (.slice (some ⟨k, 0, none⟩) l.length l.length) ∧ w.heap.size ≤ k ∧ Blk w' k 2 (l.map (Value.int .i64)).toArray ∧ Upd w w' [] := by
  have hmk := run_make_row1 (P := Try.prog) 34 2 (v := .int .i64 0) rfl Try.underlying34 info2 l.length (by omega) (by omega)
  have h0 : w.cell? ⟨g, 0, none⟩ = some (.slice (some ⟨h, 0, none⟩) l.length l.length) := by rw [c.1.cell]; rfl
  have C := hide c
  clear c
  go_enter Try.func14, Try.ntmps14
  go_wp2_with fail
  refine (none_no _ _ _ _ h0).mono ?_
  rintro e w' ⟨rfl, rfl⟩
  go_wp2_with fail
  have hB : Blk (w.alloc (.cells (Array.replicate l.length (.int .i64 0)) 2)) w.heap.size 2 ((part l 0).map (Value.int .i64)).toArray := (Blk.new w 2 _).congr (by rw [part_zero]; simp)
  have hBig : g < w.heap.size ∧ h < w.heap.size := ⟨C.out.1.lt, C.out.2.lt⟩
  go_loopw [15] (fun v wr => ∃ k : Nat, k ≤ l.length ∧ v = .int .i64 k ∧ Blk wr w.heap.size 2 ((part l k).map (Value.int .i64)).toArray ∧ Upd w wr []) (fun v _ => l.length - (intOf v).toNat)
  case atStart => exact ⟨0, by omega, rfl, hB, (Upd.refl _ _).alloc _⟩
  case round =>
    obtain ⟨k, hk, rfl, hb, hu⟩ := hrel
    have c := C.out.upd hu (by simp) (by simp)
    have h0r : wr.cell? ⟨g, 0, none⟩ = some (.slice (some ⟨h, 0, none⟩) l.length l.length) := by rw [c.1.cell]; rfl
    by_cases hlt : k < l.length
    · have hx := c.at_ k hlt
      have hy := blk_at hb hlt
      have hf := hb.frozen k
      have HB := hide (blk_fill hb hlt)
      have HU := hide hu
      clear c hu hb hB
      generalize l[k]?.getD 0 = x at *
      go_wp2_with fail
      refine (load_at _ _ _ hx).mono ?_
      rintro e w' ⟨rfl, rfl⟩
      go_wp2_with fail
      go_roundw
      case rel => exact ⟨k + 1, by omega, by go_num, HB.out, HU.out.setCell (by simp) _⟩
      case measure => simp [intOf]; omega
    · obtain rfl : k = l.length := by omega
      rw [part_full] at hb
      have HB := hide hb
      have HU := hide hu
      clear c hu hb hB
      go_wp2_with fail
      go_ret
      exact ⟨_, rfl, Nat.le_refl _, HB.out, HU.out⟩
theorem copy_ok (g h : Nat) (l : List Int) (w : World) (c : Cnt w g h l) (h1 : 1 ≤ l.length) (hlen : l.length ≤ 64) :
    Calls Try.prog 11 #[.pointer (some ⟨g, 0, none⟩)] w fun e w' => ∃ g' h', e = .returned (.pointer (some ⟨g', 0, none⟩)) ∧ w.heap.size ≤ g' ∧ w.heap.size ≤ h' ∧ Cnt w' g' h' l ∧ Upd w w' [] := by
  have hmk := run_make_row1 (P := Try.prog) 43 51 (v := .int .i64 0) rfl Try.underlying43 info51 l.length (by omega) (by omega)
  have h0 : w.cell? ⟨g, 0, none⟩ = some (.slice (some ⟨h, 0, none⟩) l.length l.length) := by rw [c.1.cell]; rfl
  have C := hide c
  clear c
  go_enter Try.func11, Try.ntmps11
  go_wp2_with fail
  refine (none_no _ _ _ _ h0).mono ?_
  rintro e w' ⟨rfl, rfl⟩
  go_wp2_with fail
  refine (list_ok g h l _ ((C.out.upd (((Upd.refl w []).alloc _).alloc _)) (by simp) (by simp)) h1 hlen).mono ?_
  rintro e w1 ⟨r, rfl, hr, hR, hU⟩
  go_wp2_with fail
  have HC := hide (C.out.upd (w' := w1) ((((Upd.refl w []).alloc _).alloc _).trans hU (by simp)) (by simp) (by simp))
  have hB1 : Blk w1 (w.heap.size + 1) 45 #[.slice (some ⟨w.heap.size, 0, none⟩) l.length l.length] := hU.blk (by have := Blk.new (w.alloc (.cells (Array.replicate l.length (.int .i64 0)) 51)) 45 #[.slice (some ⟨w.heap.size, 0, none⟩) l.length l.length]; simpa using this) (by simp)
  have hB2 : Blk w1 w.heap.size 51 ((part l 0).map (Value.int .i64)).toArray := hU.blk (((Blk.new w 51 _).alloc _).congr (by rw [part_zero]; simp)) (by simp)
  have hU1 : Upd w w1 [] := (((Upd.refl w []).alloc _).alloc _).trans hU (by simp)
  have hr2 : w.heap.size + 2 ≤ r := by simpa using hr
  clear hU hr hmk h0
  have HC := HC
  go_loopw [19] (fun v wr => ∃ k : Nat, k ≤ l.length ∧ v = .int .i64 k ∧ Blk wr (w.heap.size + 1) 45 #[.slice (some ⟨w.heap.size, 0, none⟩) l.length l.length] ∧ Blk wr w.heap.size 51 ((part l k).map (Value.int .i64)).toArray ∧ Blk wr r 2 (l.map (Value.int .i64)).toArray ∧ Upd w wr []) (fun v _ => l.length - (intOf v).toNat)
  case atStart => exact ⟨0, by omega, rfl, hB1, hB2, hR, hU1⟩
  case round =>
    obtain ⟨k, hk, rfl, b1, b2, b3, hu⟩ := hrel
    clear hB1 hB2 hR hU1
    by_cases hlt : k < l.length
    · have hx : wr.cell? ⟨r, k, none⟩ = some (.int .i64 (l[k]?.getD 0)) := by rw [b3.cell]; simp [hlt]
      have hy := blk_at b2 hlt
      have hf := b2.frozen k
      have hz : wr.cell? ⟨w.heap.size + 1, 0, none⟩ = some (.slice (some ⟨w.heap.size, 0, none⟩) l.length l.length) := by rw [b1.cell]; rfl
      have H1 := hide (b1.far (p := ⟨w.heap.size, k, none⟩) (by simp) (.int .i64 (l[k]?.getD 0)))
      have H2 := hide (blk_fill b2 hlt)
      have H3 := hide (b3.far (p := ⟨w.heap.size, k, none⟩) (by simp; omega) (.int .i64 (l[k]?.getD 0)))
      have H4 := hide hu
      clear b1 b2 b3 hu
      generalize l[k]?.getD 0 = x at *
      go_wp2_with fail
      refine (store_at _ _ _ _ hy hf).mono ?_
      rintro e w' ⟨rfl, rfl⟩
      go_wp2_with fail
      go_roundw
      case rel => exact ⟨k + 1, by omega, by go_num, H1.out, H2.out, H3.out, H4.out.setCell (by simp) _⟩
      case measure => simp [intOf]; omega
    · obtain rfl : k = l.length := by omega
      rw [part_full] at b2
      have H1 := hide b1
      have H2 := hide b2
      have H4 := hide hu
      clear b1 b2 b3 hu
      go_wp2_with fail
      go_ret
      exact ⟨_, _, rfl, by omega, by omega, ⟨H1.out, H2.out⟩, H4.out⟩
end Go.Proofs.Ytibpbnhchlojmaa
