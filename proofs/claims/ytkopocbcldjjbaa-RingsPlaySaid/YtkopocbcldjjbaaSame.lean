/- The walks of the layer rings: Same, of two frames that are one. (Printed by gen03same.py.) -/
import Derived.Test.YtkopocbcldjjbaaRingI
import Derived.BigQuiet
import Derived.Deep.CutRange
namespace Go.Proofs.Ytkopocbcldjjbaa
open Go.RowKit
set_option linter.unusedVariables false
set_option linter.unusedSimpArgs false
attribute [-go_sem] loadVar storeVar
attribute [local go_sem] loadVar_else storeVar_else run_load40 run_store40 frameAt_drew frameAt_drewN roomAt_drew roomAt_drewN
/-- what kind of value lies at a place of a frame -/
def fineV (f : Nat → Int) (g : Nat → ByteArray) (i : Nat) : Value := if i = 8 ∨ i = 9 ∨ i = 12 ∨ i = 20 ∨ i = 21 then .string (g i) else .int .i64 (f i)
/-- the cells of a frame, but its members' slice, and its members, are numbers and texts -/
structure FineBy (x : Fr) (f : Nat → Int) (g : Nat → ByteArray) (m : Nat → Int) : Prop where
  cell : ∀ i, i < 29 → i ≠ 24 → x.1[i]? = some (fineV f g i)
  mem : ∀ i, i < x.2.length → x.2[i]? = some (.int .i64 (m i))
theorem fine_at {x : Fr} {f : Nat → Int} {g : Nat → ByteArray} {m : Nat → Int} (hf : FineBy x f g m) {w : World} {p : Nat} {v : Value} (B : Blk w p 40 (cut x v)) (i : Nat) (h1 : i < 29) (h2 : i ≠ 24) : w.cell? ⟨p, i, none⟩ = some (fineV f g i) := by
  rw [B.cell, cut_else v i h2, hf.cell i h1 h2]
theorem own_mem {w : World} {b : Nat} {v : Value} {ms : List Value} (h : Own w b v ms) : ∃ ga n c, v = .slice ga n c ∧ ms.length = n * 2 ∧ (0 < n → ∃ gg, ga = some ⟨gg, 0, none⟩ ∧ ∀ i, i < n * 2 → w.cell? ⟨gg, i, none⟩ = ms[i]?) := by
  obtain ⟨n, hl, ⟨rfl, rfl⟩ | ⟨g, cap, cur, rfl, _, hb, _, _, _, ht⟩⟩ := h
  · exact ⟨none, 0, 0, rfl, hl, fun h => absurd h (by omega)⟩
  · refine ⟨_, n, cap, rfl, hl, fun _ => ⟨g, rfl, fun i hi => ?_⟩⟩
    rw [cell_of_row w g i cur 57 (0, 0) hb, ← Array.getElem?_toList, ← ht, List.getElem?_take, if_pos hi]
set_option maxRecDepth 100000 in
set_option maxHeartbeats 8000000 in
theorem same_ok (Fa Fb : Array Value) (x : Fr) (f : Nat → Int) (g : Nat → ByteArray) (m : Nat → Int) (w : World) (hA : IsF w 0 Fa x) (hB : IsF w 0 Fb x) (hf : FineBy x f g m) :
    Calls Try.prog 21 #[.agg Fa, .agg Fb] w fun e w' => e = .returned (.bool true) ∧ Upd w w' [] := by
  obtain ⟨hg, va, rfl, oa⟩ := hA
  obtain ⟨_, vb, rfl, ob⟩ := hB
  have U := ((Upd.refl w []).alloc (.cells (cut x va) 40)).alloc (.cells (cut x vb) 40)
  have BA := (Blk.new w 40 (cut x va)).alloc (.cells (cut x vb) 40)
  have BB := Blk.new (w.alloc (.cells (cut x va) 40)) 40 (cut x vb)
  rw [World.size_alloc] at BB
  have oa2 := oa.upd U (Off.nil _)
  have ob2 := ob.upd U (Off.nil _)
  obtain ⟨ga, n, ca, rfl, hla, pa⟩ := own_mem oa2
  obtain ⟨gb, n', cb, rfl, hlb, pb⟩ := own_mem ob2
  obtain rfl : n = n' := by omega
  have nn : n ≤ 10 := by have := hg.few; omega
  have hs := hg.size
  have a0 : ((w.alloc (.cells (cut x (.slice ga n ca)) 40)).alloc (.cells (cut x (.slice gb n cb)) 40)).cell? ⟨w.heap.size, 0, none⟩ = some (.int .i64 (f 0)) := fine_at hf BA 0 (by decide) (by decide)
  have a1 : ((w.alloc (.cells (cut x (.slice ga n ca)) 40)).alloc (.cells (cut x (.slice gb n cb)) 40)).cell? ⟨w.heap.size, 1, none⟩ = some (.int .i64 (f 1)) := fine_at hf BA 1 (by decide) (by decide)
  have a2 : ((w.alloc (.cells (cut x (.slice ga n ca)) 40)).alloc (.cells (cut x (.slice gb n cb)) 40)).cell? ⟨w.heap.size, 2, none⟩ = some (.int .i64 (f 2)) := fine_at hf BA 2 (by decide) (by decide)
  have a3 : ((w.alloc (.cells (cut x (.slice ga n ca)) 40)).alloc (.cells (cut x (.slice gb n cb)) 40)).cell? ⟨w.heap.size, 3, none⟩ = some (.int .i64 (f 3)) := fine_at hf BA 3 (by decide) (by decide)
  have a4 : ((w.alloc (.cells (cut x (.slice ga n ca)) 40)).alloc (.cells (cut x (.slice gb n cb)) 40)).cell? ⟨w.heap.size, 4, none⟩ = some (.int .i64 (f 4)) := fine_at hf BA 4 (by decide) (by decide)
  have a5 : ((w.alloc (.cells (cut x (.slice ga n ca)) 40)).alloc (.cells (cut x (.slice gb n cb)) 40)).cell? ⟨w.heap.size, 5, none⟩ = some (.int .i64 (f 5)) := fine_at hf BA 5 (by decide) (by decide)
  have a6 : ((w.alloc (.cells (cut x (.slice ga n ca)) 40)).alloc (.cells (cut x (.slice gb n cb)) 40)).cell? ⟨w.heap.size, 6, none⟩ = some (.int .i64 (f 6)) := fine_at hf BA 6 (by decide) (by decide)
  have a7 : ((w.alloc (.cells (cut x (.slice ga n ca)) 40)).alloc (.cells (cut x (.slice gb n cb)) 40)).cell? ⟨w.heap.size, 7, none⟩ = some (.int .i64 (f 7)) := fine_at hf BA 7 (by decide) (by decide)
  have a8 : ((w.alloc (.cells (cut x (.slice ga n ca)) 40)).alloc (.cells (cut x (.slice gb n cb)) 40)).cell? ⟨w.heap.size, 8, none⟩ = some (.string (g 8)) := fine_at hf BA 8 (by decide) (by decide)
  have a9 : ((w.alloc (.cells (cut x (.slice ga n ca)) 40)).alloc (.cells (cut x (.slice gb n cb)) 40)).cell? ⟨w.heap.size, 9, none⟩ = some (.string (g 9)) := fine_at hf BA 9 (by decide) (by decide)
  have a10 : ((w.alloc (.cells (cut x (.slice ga n ca)) 40)).alloc (.cells (cut x (.slice gb n cb)) 40)).cell? ⟨w.heap.size, 10, none⟩ = some (.int .i64 (f 10)) := fine_at hf BA 10 (by decide) (by decide)
  have a11 : ((w.alloc (.cells (cut x (.slice ga n ca)) 40)).alloc (.cells (cut x (.slice gb n cb)) 40)).cell? ⟨w.heap.size, 11, none⟩ = some (.int .i64 (f 11)) := fine_at hf BA 11 (by decide) (by decide)
  have a12 : ((w.alloc (.cells (cut x (.slice ga n ca)) 40)).alloc (.cells (cut x (.slice gb n cb)) 40)).cell? ⟨w.heap.size, 12, none⟩ = some (.string (g 12)) := fine_at hf BA 12 (by decide) (by decide)
  have a13 : ((w.alloc (.cells (cut x (.slice ga n ca)) 40)).alloc (.cells (cut x (.slice gb n cb)) 40)).cell? ⟨w.heap.size, 13, none⟩ = some (.int .i64 (f 13)) := fine_at hf BA 13 (by decide) (by decide)
  have a14 : ((w.alloc (.cells (cut x (.slice ga n ca)) 40)).alloc (.cells (cut x (.slice gb n cb)) 40)).cell? ⟨w.heap.size, 14, none⟩ = some (.int .i64 (f 14)) := fine_at hf BA 14 (by decide) (by decide)
  have a15 : ((w.alloc (.cells (cut x (.slice ga n ca)) 40)).alloc (.cells (cut x (.slice gb n cb)) 40)).cell? ⟨w.heap.size, 15, none⟩ = some (.int .i64 (f 15)) := fine_at hf BA 15 (by decide) (by decide)
  have a16 : ((w.alloc (.cells (cut x (.slice ga n ca)) 40)).alloc (.cells (cut x (.slice gb n cb)) 40)).cell? ⟨w.heap.size, 16, none⟩ = some (.int .i64 (f 16)) := fine_at hf BA 16 (by decide) (by decide)
  have a17 : ((w.alloc (.cells (cut x (.slice ga n ca)) 40)).alloc (.cells (cut x (.slice gb n cb)) 40)).cell? ⟨w.heap.size, 17, none⟩ = some (.int .i64 (f 17)) := fine_at hf BA 17 (by decide) (by decide)
  have a18 : ((w.alloc (.cells (cut x (.slice ga n ca)) 40)).alloc (.cells (cut x (.slice gb n cb)) 40)).cell? ⟨w.heap.size, 18, none⟩ = some (.int .i64 (f 18)) := fine_at hf BA 18 (by decide) (by decide)
  have a19 : ((w.alloc (.cells (cut x (.slice ga n ca)) 40)).alloc (.cells (cut x (.slice gb n cb)) 40)).cell? ⟨w.heap.size, 19, none⟩ = some (.int .i64 (f 19)) := fine_at hf BA 19 (by decide) (by decide)
  have a20 : ((w.alloc (.cells (cut x (.slice ga n ca)) 40)).alloc (.cells (cut x (.slice gb n cb)) 40)).cell? ⟨w.heap.size, 20, none⟩ = some (.string (g 20)) := fine_at hf BA 20 (by decide) (by decide)
  have a21 : ((w.alloc (.cells (cut x (.slice ga n ca)) 40)).alloc (.cells (cut x (.slice gb n cb)) 40)).cell? ⟨w.heap.size, 21, none⟩ = some (.string (g 21)) := fine_at hf BA 21 (by decide) (by decide)
  have a22 : ((w.alloc (.cells (cut x (.slice ga n ca)) 40)).alloc (.cells (cut x (.slice gb n cb)) 40)).cell? ⟨w.heap.size, 22, none⟩ = some (.int .i64 (f 22)) := fine_at hf BA 22 (by decide) (by decide)
  have a23 : ((w.alloc (.cells (cut x (.slice ga n ca)) 40)).alloc (.cells (cut x (.slice gb n cb)) 40)).cell? ⟨w.heap.size, 23, none⟩ = some (.int .i64 (f 23)) := fine_at hf BA 23 (by decide) (by decide)
  have a25 : ((w.alloc (.cells (cut x (.slice ga n ca)) 40)).alloc (.cells (cut x (.slice gb n cb)) 40)).cell? ⟨w.heap.size, 25, none⟩ = some (.int .i64 (f 25)) := fine_at hf BA 25 (by decide) (by decide)
  have a26 : ((w.alloc (.cells (cut x (.slice ga n ca)) 40)).alloc (.cells (cut x (.slice gb n cb)) 40)).cell? ⟨w.heap.size, 26, none⟩ = some (.int .i64 (f 26)) := fine_at hf BA 26 (by decide) (by decide)
  have a27 : ((w.alloc (.cells (cut x (.slice ga n ca)) 40)).alloc (.cells (cut x (.slice gb n cb)) 40)).cell? ⟨w.heap.size, 27, none⟩ = some (.int .i64 (f 27)) := fine_at hf BA 27 (by decide) (by decide)
  have a28 : ((w.alloc (.cells (cut x (.slice ga n ca)) 40)).alloc (.cells (cut x (.slice gb n cb)) 40)).cell? ⟨w.heap.size, 28, none⟩ = some (.int .i64 (f 28)) := fine_at hf BA 28 (by decide) (by decide)
  have b0 : ((w.alloc (.cells (cut x (.slice ga n ca)) 40)).alloc (.cells (cut x (.slice gb n cb)) 40)).cell? ⟨(w.heap.size + 1), 0, none⟩ = some (.int .i64 (f 0)) := fine_at hf BB 0 (by decide) (by decide)
  have b1 : ((w.alloc (.cells (cut x (.slice ga n ca)) 40)).alloc (.cells (cut x (.slice gb n cb)) 40)).cell? ⟨(w.heap.size + 1), 1, none⟩ = some (.int .i64 (f 1)) := fine_at hf BB 1 (by decide) (by decide)
  have b2 : ((w.alloc (.cells (cut x (.slice ga n ca)) 40)).alloc (.cells (cut x (.slice gb n cb)) 40)).cell? ⟨(w.heap.size + 1), 2, none⟩ = some (.int .i64 (f 2)) := fine_at hf BB 2 (by decide) (by decide)
  have b3 : ((w.alloc (.cells (cut x (.slice ga n ca)) 40)).alloc (.cells (cut x (.slice gb n cb)) 40)).cell? ⟨(w.heap.size + 1), 3, none⟩ = some (.int .i64 (f 3)) := fine_at hf BB 3 (by decide) (by decide)
  have b4 : ((w.alloc (.cells (cut x (.slice ga n ca)) 40)).alloc (.cells (cut x (.slice gb n cb)) 40)).cell? ⟨(w.heap.size + 1), 4, none⟩ = some (.int .i64 (f 4)) := fine_at hf BB 4 (by decide) (by decide)
  have b5 : ((w.alloc (.cells (cut x (.slice ga n ca)) 40)).alloc (.cells (cut x (.slice gb n cb)) 40)).cell? ⟨(w.heap.size + 1), 5, none⟩ = some (.int .i64 (f 5)) := fine_at hf BB 5 (by decide) (by decide)
  have b6 : ((w.alloc (.cells (cut x (.slice ga n ca)) 40)).alloc (.cells (cut x (.slice gb n cb)) 40)).cell? ⟨(w.heap.size + 1), 6, none⟩ = some (.int .i64 (f 6)) := fine_at hf BB 6 (by decide) (by decide)
  have b7 : ((w.alloc (.cells (cut x (.slice ga n ca)) 40)).alloc (.cells (cut x (.slice gb n cb)) 40)).cell? ⟨(w.heap.size + 1), 7, none⟩ = some (.int .i64 (f 7)) := fine_at hf BB 7 (by decide) (by decide)
  have b8 : ((w.alloc (.cells (cut x (.slice ga n ca)) 40)).alloc (.cells (cut x (.slice gb n cb)) 40)).cell? ⟨(w.heap.size + 1), 8, none⟩ = some (.string (g 8)) := fine_at hf BB 8 (by decide) (by decide)
  have b9 : ((w.alloc (.cells (cut x (.slice ga n ca)) 40)).alloc (.cells (cut x (.slice gb n cb)) 40)).cell? ⟨(w.heap.size + 1), 9, none⟩ = some (.string (g 9)) := fine_at hf BB 9 (by decide) (by decide)
  have b10 : ((w.alloc (.cells (cut x (.slice ga n ca)) 40)).alloc (.cells (cut x (.slice gb n cb)) 40)).cell? ⟨(w.heap.size + 1), 10, none⟩ = some (.int .i64 (f 10)) := fine_at hf BB 10 (by decide) (by decide)
  have b11 : ((w.alloc (.cells (cut x (.slice ga n ca)) 40)).alloc (.cells (cut x (.slice gb n cb)) 40)).cell? ⟨(w.heap.size + 1), 11, none⟩ = some (.int .i64 (f 11)) := fine_at hf BB 11 (by decide) (by decide)
  have b12 : ((w.alloc (.cells (cut x (.slice ga n ca)) 40)).alloc (.cells (cut x (.slice gb n cb)) 40)).cell? ⟨(w.heap.size + 1), 12, none⟩ = some (.string (g 12)) := fine_at hf BB 12 (by decide) (by decide)
  have b13 : ((w.alloc (.cells (cut x (.slice ga n ca)) 40)).alloc (.cells (cut x (.slice gb n cb)) 40)).cell? ⟨(w.heap.size + 1), 13, none⟩ = some (.int .i64 (f 13)) := fine_at hf BB 13 (by decide) (by decide)
  have b14 : ((w.alloc (.cells (cut x (.slice ga n ca)) 40)).alloc (.cells (cut x (.slice gb n cb)) 40)).cell? ⟨(w.heap.size + 1), 14, none⟩ = some (.int .i64 (f 14)) := fine_at hf BB 14 (by decide) (by decide)
  have b15 : ((w.alloc (.cells (cut x (.slice ga n ca)) 40)).alloc (.cells (cut x (.slice gb n cb)) 40)).cell? ⟨(w.heap.size + 1), 15, none⟩ = some (.int .i64 (f 15)) := fine_at hf BB 15 (by decide) (by decide)
  have b16 : ((w.alloc (.cells (cut x (.slice ga n ca)) 40)).alloc (.cells (cut x (.slice gb n cb)) 40)).cell? ⟨(w.heap.size + 1), 16, none⟩ = some (.int .i64 (f 16)) := fine_at hf BB 16 (by decide) (by decide)
  have b17 : ((w.alloc (.cells (cut x (.slice ga n ca)) 40)).alloc (.cells (cut x (.slice gb n cb)) 40)).cell? ⟨(w.heap.size + 1), 17, none⟩ = some (.int .i64 (f 17)) := fine_at hf BB 17 (by decide) (by decide)
  have b18 : ((w.alloc (.cells (cut x (.slice ga n ca)) 40)).alloc (.cells (cut x (.slice gb n cb)) 40)).cell? ⟨(w.heap.size + 1), 18, none⟩ = some (.int .i64 (f 18)) := fine_at hf BB 18 (by decide) (by decide)
  have b19 : ((w.alloc (.cells (cut x (.slice ga n ca)) 40)).alloc (.cells (cut x (.slice gb n cb)) 40)).cell? ⟨(w.heap.size + 1), 19, none⟩ = some (.int .i64 (f 19)) := fine_at hf BB 19 (by decide) (by decide)
  have b20 : ((w.alloc (.cells (cut x (.slice ga n ca)) 40)).alloc (.cells (cut x (.slice gb n cb)) 40)).cell? ⟨(w.heap.size + 1), 20, none⟩ = some (.string (g 20)) := fine_at hf BB 20 (by decide) (by decide)
  have b21 : ((w.alloc (.cells (cut x (.slice ga n ca)) 40)).alloc (.cells (cut x (.slice gb n cb)) 40)).cell? ⟨(w.heap.size + 1), 21, none⟩ = some (.string (g 21)) := fine_at hf BB 21 (by decide) (by decide)
  have b22 : ((w.alloc (.cells (cut x (.slice ga n ca)) 40)).alloc (.cells (cut x (.slice gb n cb)) 40)).cell? ⟨(w.heap.size + 1), 22, none⟩ = some (.int .i64 (f 22)) := fine_at hf BB 22 (by decide) (by decide)
  have b23 : ((w.alloc (.cells (cut x (.slice ga n ca)) 40)).alloc (.cells (cut x (.slice gb n cb)) 40)).cell? ⟨(w.heap.size + 1), 23, none⟩ = some (.int .i64 (f 23)) := fine_at hf BB 23 (by decide) (by decide)
  have b25 : ((w.alloc (.cells (cut x (.slice ga n ca)) 40)).alloc (.cells (cut x (.slice gb n cb)) 40)).cell? ⟨(w.heap.size + 1), 25, none⟩ = some (.int .i64 (f 25)) := fine_at hf BB 25 (by decide) (by decide)
  have b26 : ((w.alloc (.cells (cut x (.slice ga n ca)) 40)).alloc (.cells (cut x (.slice gb n cb)) 40)).cell? ⟨(w.heap.size + 1), 26, none⟩ = some (.int .i64 (f 26)) := fine_at hf BB 26 (by decide) (by decide)
  have b27 : ((w.alloc (.cells (cut x (.slice ga n ca)) 40)).alloc (.cells (cut x (.slice gb n cb)) 40)).cell? ⟨(w.heap.size + 1), 27, none⟩ = some (.int .i64 (f 27)) := fine_at hf BB 27 (by decide) (by decide)
  have b28 : ((w.alloc (.cells (cut x (.slice ga n ca)) 40)).alloc (.cells (cut x (.slice gb n cb)) 40)).cell? ⟨(w.heap.size + 1), 28, none⟩ = some (.int .i64 (f 28)) := fine_at hf BB 28 (by decide) (by decide)
  have a24 : ((w.alloc (.cells (cut x (.slice ga n ca)) 40)).alloc (.cells (cut x (.slice gb n cb)) 40)).cell? ⟨w.heap.size, 24, none⟩ = some (.slice ga n ca) := by rw [BA.cell]; exact cut_at hs _
  have b24 : ((w.alloc (.cells (cut x (.slice ga n ca)) 40)).alloc (.cells (cut x (.slice gb n cb)) 40)).cell? ⟨w.heap.size + 1, 24, none⟩ = some (.slice gb n cb) := by rw [BB.cell]; exact cut_at hs _
  replace U := hide U
  have MEM := hide hf.mem
  replace pa := hide pa
  replace pb := hide pb
  replace hla := hide hla
  clear oa ob oa2 ob2 hlb BA BB hs hg hf
  go_enter Try.func21, Try.ntmps21
  go_wp2_with fail
  generalize ((w.alloc (.cells (cut x (.slice ga n ca)) 40)).alloc (.cells (cut x (.slice gb n cb)) 40)) = w2 at *
  generalize w.heap.size = p0 at *
  generalize p0 + 1 = p1 at *
  go_loopw [5] (fun vi wr => ∃ (i q : Nat), i ≤ n ∧ vi = .int .i64 i ∧ wr = w2.drewN q) (fun vi _ => n - (intOf vi).toNat)
  case atStart => exact ⟨0, 0, by omega, rfl, rfl⟩
  case round =>
    obtain ⟨i, q, hi, rfl, rfl⟩ := hrel
    by_cases h2 : (i : Int) < n
    · obtain ⟨gg, rfl, ma⟩ := pa.out (by omega)
      obtain ⟨gh, rfl, mb⟩ := pb.out (by omega)
      have hl := hla.out
      have x0 : w2.cell? ⟨gg, i * 2, none⟩ = some (.int .i64 (m (i * 2))) := by rw [ma _ (by omega), MEM.out _ (by omega)]
      have x1 : w2.cell? ⟨gg, i * 2 + 1, none⟩ = some (.int .i64 (m (i * 2 + 1))) := by rw [ma _ (by omega), MEM.out _ (by omega)]
      have y0 : w2.cell? ⟨gh, i * 2, none⟩ = some (.int .i64 (m (i * 2))) := by rw [mb _ (by omega), MEM.out _ (by omega)]
      have y1 : w2.cell? ⟨gh, i * 2 + 1, none⟩ = some (.int .i64 (m (i * 2 + 1))) := by rw [mb _ (by omega), MEM.out _ (by omega)]
      have hi0 : (0 : Int) ≤ (i : Int) := by omega
      clear ma mb hl
      go_wp2_with fail
      go_quiet (fail)
      go_wp2_with fail
      case roundEnd =>
        refine ⟨⟨i + 1, q + nq, by omega, by simp, ?_⟩, ?_⟩
        · first | rfl | simp | exact World.drewN_drewN _ _ _
        · simp only [intOf]; omega
    · go_wp2_with fail
      go_ret
      exact ⟨rfl, U.out.drewN _⟩
end Go.Proofs.Ytkopocbcldjjbaa

