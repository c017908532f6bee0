/- The walks of the layer rings, 2: a ring; New, Cap, Len, place. -/
import Derived.Test.YtkopocbcldjjbaaRing
namespace Go.Proofs.Ytkopocbcldjjbaa
open Go.RowKit
set_option linter.unusedVariables false
attribute [-go_sem] loadVar storeVar
attribute [local go_sem] loadVar_else storeVar_else run_load40 run_store40
/-- the head of a ring lies at r: its places lie in pb -/
def headOf (pb cap first cnt : Nat) : Array Value := #[.slice (some ⟨pb, 0, none⟩) cap cap, .int .i64 first, .int .i64 cnt]
/-- block pb is so many frames -/
def Places (w : World) (pb cap : Nat) (fs : Nat → Fr) : Prop :=
  ∃ cs, Blk w pb 40 cs ∧ cs.size = cap * 29 ∧ ∀ i, i < cap → ∃ F, F.size = 29 ∧ (∀ j, j < 29 → cs[i * 29 + j]? = F[j]?) ∧ IsF w 0 F (fs i)
structure Ring (w : World) (r pb cap first cnt : Nat) (fs : Nat → Fr) : Prop where
  head : Blk w r 62 (headOf pb cap first cnt)
  row : Places w pb cap fs
  hf : first < cap
  hc : cnt ≤ cap
  h64 : cap ≤ 64
/-- the frame without anything -/
def zeroF : Array Value := #[.int .i64 0, .int .i64 0, .int .i64 0, .int .i64 0, .int .i64 0, .int .i64 0, .int .i64 0, .int .i64 0, .string ⟨#[]⟩, .string ⟨#[]⟩, .int .i64 0, .int .i64 0, .string ⟨#[]⟩, .int .i64 0, .int .i64 0,
  .int .i64 0, .int .i64 0, .int .i64 0, .int .i64 0, .int .i64 0, .string ⟨#[]⟩, .string ⟨#[]⟩, .int .i64 0, .int .i64 0, .slice none 0 0, .int .i64 0, .int .i64 0, .int .i64 0, .int .i64 0]
def zeroFr : Fr := (zeroF, [])
theorem zero_good : Good zeroFr := ⟨rfl, by decide, by simp [zeroFr], by simp [zeroFr]⟩
theorem zero_isF (w : World) (b : Nat) : IsF w b zeroF zeroFr := ⟨zero_good, .slice none 0 0, rfl, 0, rfl, .inl ⟨rfl, rfl⟩⟩
theorem info40z : (Try.prog.info? 40).map (fun i => (i.zero, i.size, i.bytes)) = some (some (.agg zeroF), 29, 288) := by kernel_rfl
section
variable {w w' : World} {r pb cap first cnt : Nat} {fs : Nat → Fr} {S : List Nat}
theorem Places.upd (h : Places w pb cap fs) (u : Upd w w' S) (hp : pb ∉ S) (ho : Off w S) : Places w' pb cap fs := by
  obtain ⟨cs, hb, hs, hf⟩ := h
  refine ⟨cs, u.blk hb hp, hs, fun i hi => ?_⟩
  obtain ⟨F, h1, h2, h3⟩ := hf i hi
  exact ⟨F, h1, h2, h3.upd u ho⟩
theorem Places.lt (h : Places w pb cap fs) : pb < w.heap.size := by
  obtain ⟨cs, hb, _⟩ := h
  exact hb.lt
theorem Ring.upd (h : Ring w r pb cap first cnt fs) (u : Upd w w' S) (hr : r ∉ S) (hp : pb ∉ S) (ho : Off w S) : Ring w' r pb cap first cnt fs :=
  ⟨u.blk h.head hr, h.row.upd u hp ho, h.hf, h.hc, h.h64⟩
theorem Ring.c0 (h : Ring w r pb cap first cnt fs) : w.cell? ⟨r, 0, none⟩ = some (.slice (some ⟨pb, 0, none⟩) cap cap) := by rw [h.head.cell]; rfl
theorem Ring.c1 (h : Ring w r pb cap first cnt fs) : w.cell? ⟨r, 1, none⟩ = some (.int .i64 first) := by rw [h.head.cell]; rfl
theorem Ring.c2 (h : Ring w r pb cap first cnt fs) : w.cell? ⟨r, 2, none⟩ = some (.int .i64 cnt) := by rw [h.head.cell]; rfl
end
theorem none_no (r pb cap : Nat) (w : World) (h0 : w.cell? ⟨r, 0, none⟩ = some (.slice (some ⟨pb, 0, none⟩) cap cap)) :
    Calls Try.prog 23 #[.pointer (some ⟨r, 0, none⟩)] w fun e w' => e = .returned (.bool false) ∧ w = w' := by
  have hs := fun (a : Option Addr) (n c : Nat) (w : World) => Lib.run_eql_slice_nil (P := Try.prog) w 52 40 a n c 0 0 Try.underlying52
  go_enter Try.func23, Try.ntmps23
  go_wp2
  go_ret
  exact ⟨rfl, rfl⟩
theorem none_empty (r : Nat) (w : World) (h0 : w.cell? ⟨r, 0, none⟩ = some (.slice none 0 0)) :
    Calls Try.prog 23 #[.pointer (some ⟨r, 0, none⟩)] w fun e w' => e = .returned (.bool true) ∧ w = w' := by
  have hs := fun (a : Option Addr) (n c : Nat) (w : World) => Lib.run_eql_slice_nil (P := Try.prog) w 52 40 a n c 0 0 Try.underlying52
  go_enter Try.func23, Try.ntmps23
  go_wp2
  go_ret
  exact ⟨rfl, rfl⟩
theorem none_nil (w : World) :
    Calls Try.prog 23 #[.pointer none] w fun e w' => e = .returned (.bool true) ∧ w = w' := by
  go_enter Try.func23, Try.ntmps23
  go_wp2
  go_ret
  exact ⟨rfl, rfl⟩
theorem new_bad (n : Int) (w : World) (h : n < 1 ∨ 64 < n) :
    Calls Try.prog 7 #[.int .i64 n] w fun e w' => e = .returned (.tuple #[.pointer none, .int .i64 2]) ∧ w = w' := by
  by_cases h1 : n < 1
  · clear h
    go_enter Try.func7, Try.ntmps7
    go_wp2
    go_ret2
    exact ⟨rfl, rfl⟩
  · have h2 : 64 < n := by omega
    clear h
    go_enter Try.func7, Try.ntmps7
    go_wp2
    go_ret2
    exact ⟨rfl, rfl⟩
theorem places_new (w : World) (n : Nat) : Places (w.alloc (.cells (madeCells zeroF (n * 29)) 40)) w.heap.size n (fun _ => zeroFr) := by
  refine ⟨_, Blk.new w 40 _, by simp [madeCells], fun i hi => ⟨zeroF, rfl, fun j hj => ?_, zero_isF _ _⟩⟩
  have h29 : zeroF.size = 29 := rfl
  have hlt : i * 29 + j < n * 29 := by omega
  have hm : (i * 29 + j) % 29 = j := by omega
  rw [Array.getElem?_eq_getElem (by simp [madeCells]; omega), Array.getElem?_eq_getElem (by omega)]
  simp only [madeCells, Array.getElem_map, Array.getElem_range, h29, hm]
  rw [Array.getElem!_eq_getD, Array.getD, dif_pos (by omega)]
  rfl
theorem new_ok (n : Nat) (w : World) (h1 : 1 ≤ n) (h2 : n ≤ 64) :
    Calls Try.prog 7 #[.int .i64 (n : Int)] w fun e w' => ∃ r pb, e = .returned (.tuple #[.pointer (some ⟨r, 0, none⟩), .int .i64 0]) ∧ w.heap.size ≤ r ∧ w.heap.size ≤ pb ∧ Ring w' r pb n 0 0 (fun _ => zeroFr) ∧ Upd w w' [] := by
  have hmk := run_make_rowN (P := Try.prog) 52 40 Try.underlying52 info40z n (by omega) (by omega)
  go_enter Try.func7, Try.ntmps7
  go_wp2
  go_ret2
  have hh : Blk ((w.alloc (.cells (madeCells zeroF (n * 29)) 40)).alloc (.cells (headOf w.heap.size n 0 0) 62)) (w.heap.size + 1) 62 (headOf w.heap.size n 0 0) := by
    have := Blk.new (w.alloc (.cells (madeCells zeroF (n * 29)) 40)) 62 (headOf w.heap.size n 0 0)
    rwa [World.size_alloc] at this
  exact ⟨_, _, rfl, by omega, Nat.le_refl _, ⟨hh, (places_new w n).upd ((Upd.refl _ []).alloc _) (by simp) (Off.nil _), by omega, by omega, h2⟩, ((Upd.refl _ _).alloc _).alloc _⟩
theorem cap_ok (r pb cap first cnt : Nat) (fs : Nat → Fr) (w : World) (h : Ring w r pb cap first cnt fs) :
    Calls Try.prog 8 #[.pointer (some ⟨r, 0, none⟩)] w fun e w' => e = .returned (.int .i64 cap) ∧ w = w' := by
  have h0 := h.c0
  clear h
  go_enter Try.func8, Try.ntmps8
  go_wp2_with fail
  refine (none_no _ _ _ _ h0).mono ?_
  rintro e w' ⟨rfl, rfl⟩
  go_wp2_with fail
  go_ret
  exact ⟨rfl, rfl⟩
theorem len_ok (r pb cap first cnt : Nat) (fs : Nat → Fr) (w : World) (h : Ring w r pb cap first cnt fs) :
    Calls Try.prog 11 #[.pointer (some ⟨r, 0, none⟩)] w fun e w' => e = .returned (.int .i64 cnt) ∧ w = w' := by
  have h0 := h.c0
  have h2 := h.c2
  clear h
  go_enter Try.func11, Try.ntmps11
  go_wp2_with fail
  refine (none_no _ _ _ _ h0).mono ?_
  rintro e w' ⟨rfl, rfl⟩
  go_wp2_with fail
  go_ret
  exact ⟨rfl, rfl⟩
theorem place_ok (r pb cap first cnt : Nat) (fs : Nat → Fr) (i : Nat) (w : World) (h : Ring w r pb cap first cnt fs) (hi : i ≤ 64) :
    Calls Try.prog 25 #[.pointer (some ⟨r, 0, none⟩), .int .i64 i] w fun e w' => e = .returned (.int .i64 ((first + i) % cap : Nat)) ∧ ∃ m, w' = w.drewN m := by
  have h0 := h.c0
  have h1 := h.c1
  have e1 := h.hf
  have e2 := h.h64
  have e3 : (cap : Int) ≠ 0 := by omega
  clear h
  go_enter Try.func25, Try.ntmps25
  go_wp2
  go_region
  go_wp2
  go_ret
  exact ⟨ret_int (by simp), 1, rfl⟩
end Go.Proofs.Ytkopocbcldjjbaa
