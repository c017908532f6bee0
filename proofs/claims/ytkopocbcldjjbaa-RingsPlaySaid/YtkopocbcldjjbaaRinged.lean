/- The chapter's ring. -/
import Derived.Test.YtkopocbcldjjbaaRingH
namespace Go.Proofs.Ytkopocbcldjjbaa
open Go.RowKit
set_option linter.unusedVariables false
attribute [-go_sem] loadVar storeVar
attribute [local go_sem] loadVar_else storeVar_else run_load40 run_store40 frameAt_drew frameAt_drewN roomAt_drew roomAt_drewN
/-- three new blocks -/
def W0 (w : World) : World := ((w.alloc (.cells zeroF 40)).alloc (.cells zeroF 40)).alloc (.cells zeroF 40)
def W1 (w : World) : World := (W0 w).setCells w.heap.size 0 (seqF 1).toList
def W2 (w : World) : World := (W1 w).setCells (w.heap.size + 1) 0 (seqF 2).toList
def W3 (w : World) : World := (W2 w).setCells (w.heap.size + 2) 0 (seqF 3).toList
theorem seq_isF (w : World) (b : Nat) (n : Int) : IsF w b (seqF n) (seqFr n) := ⟨seq_good n, .slice none 0 0, (seq_cut n).symm, 0, rfl, .inl ⟨rfl, rfl⟩⟩
theorem three (w : World) : roomAt (W0 w) w.heap.size 0 (seqF 1) = true ∧ roomAt (W1 w) (w.heap.size + 1) 0 (seqF 2) = true ∧ roomAt (W2 w) (w.heap.size + 2) 0 (seqF 3) = true ∧
    Blk (W3 w) w.heap.size 40 (seqF 1) ∧ Blk (W3 w) (w.heap.size + 1) 40 (seqF 2) ∧ Blk (W3 w) (w.heap.size + 2) 40 (seqF 3) ∧ Upd w (W3 w) [] := by
  have b0 : Blk (W0 w) w.heap.size 40 zeroF := ((Blk.new w 40 zeroF).alloc _).alloc _
  have b1 : Blk (W0 w) (w.heap.size + 1) 40 zeroF := by
    have := (Blk.new (w.alloc (.cells zeroF 40)) 40 zeroF).alloc (.cells zeroF 40)
    rwa [World.size_alloc] at this
  have b2 : Blk (W0 w) (w.heap.size + 2) 40 zeroF := by
    have := Blk.new ((w.alloc (.cells zeroF 40)).alloc (.cells zeroF 40)) 40 zeroF
    rwa [World.size_alloc, World.size_alloc] at this
  obtain ⟨p1, _, p3, _⟩ := (seq_isF (W0 w) 0 1).lay b0 rfl
  have b1' : Blk (W1 w) (w.heap.size + 1) 40 zeroF := Blk.farCells (by omega) _ _ b1
  have b2' : Blk (W1 w) (w.heap.size + 2) 40 zeroF := Blk.farCells (by omega) _ _ b2
  obtain ⟨q1, _, q3, _⟩ := (seq_isF (W1 w) 0 2).lay b1' rfl
  have b2'' : Blk (W2 w) (w.heap.size + 2) 40 zeroF := Blk.farCells (by omega) _ _ b2'
  obtain ⟨r1, _, r3, _⟩ := (seq_isF (W2 w) 0 3).lay b2'' rfl
  refine ⟨p1, q1, r1, ?_, ?_, r3, ?_⟩
  · exact Blk.farCells (by omega) _ _ (Blk.farCells (by omega) _ _ p3)
  · exact Blk.farCells (by omega) _ _ q3
  · exact Upd.setCells (b := w.heap.size + 2) (by simp) _ _ (Upd.setCells (b := w.heap.size + 1) (by simp) _ _ (Upd.setCells (b := w.heap.size) (by simp) _ _ ((((Upd.refl w []).alloc _).alloc _).alloc _)))
theorem at_none {r pb cap first cnt : Nat} {fs : Nat → Fr} {w : World} (h : Ring w r pb cap first cnt fs) (i : Int) (hi : (cnt : Int) ≤ i) :
    Calls Try.prog 17 #[.pointer (some ⟨r, 0, none⟩), .int .i64 i] w fun e w' => ∃ F, e = .returned (.tuple #[.agg F, .bool false]) ∧ IsF w' 0 F zeroFr ∧ Upd w w' [] :=
  (at_no r pb cap first cnt fs w h i (.inr hi)).mono fun e w' ⟨h1, h2⟩ => ⟨_, h1, zero_isF _ _, h2⟩
set_option maxRecDepth 100000 in
set_option maxHeartbeats 4000000 in
theorem ringed_any (w : World) : Calls Try.prog 6 #[] w fun e w' => e = .returned (.bool true) ∧ Upd w w' [] := by
  have hN := hide (new_ok 2 w (by omega) (by omega))
  go_enter Try.func6, Try.ntmps6
  go_wp2_with fail
  refine hN.out.mono ?_
  rintro e w1 ⟨r, pb, rfl, gr, gp, R1, u1⟩
  obtain ⟨t1, t2, t3, B1, B2, B3, U3⟩ := three w1
  have lr := R1.head.lt
  have lp := R1.row.lt
  have R3 := R1.upd U3 (by simp) (by simp) (Off.nil _)
  have f1 := B1.frame0 rfl
  have P := hide (push_seq r pb 2 0 0 _ 1 _ R3 (by omega))
  have u3 := hide (u1.trans U3 (by simp))
  replace B1 := hide B1
  replace B2 := hide B2
  replace B3 := hide B3
  clear R1 u1 U3 R3 hN
  unfold W2 W1 W0 at t3
  unfold W1 W0 at t2
  unfold W0 at t1
  unfold W3 W2 W1 W0 at f1
  unfold zeroF at t1 t2 t3 f1
  go_wp2_with (refine wpList_seq rfl _ rfl _ rfl ?_)
  refine P.out.mono ?_
  rintro e w2 ⟨rfl, R2, v2⟩
  replace R2 : Ring w2 r pb 2 0 1 (put (fun _ => zeroFr) 0 (seqFr 1)) := R2
  have C2 := v2.blk B2.out (by simp; omega)
  have C3 := v2.blk B3.out (by simp; omega)
  have u2 := hide (((u3.out.mono (S' := [r, pb]) (by simp)).trans v2 (fun i h _ => h)).mono (S' := []) (by simp; omega))
  have f2 := C2.frame0 rfl
  have P2 := hide (push_seq r pb 2 0 1 _ 2 _ R2 (by omega))
  have z2 := v2.size
  have z2' := B3.out.lt
  clear P B1 B2 B3 u3 t1 t2 t3 f1 v2 R2
  replace C3 := hide C3
  clear C2
  go_wp2_with fail
  refine P2.out.mono ?_
  rintro e w3 ⟨rfl, R3, v3⟩
  replace R3 : Ring w3 r pb 2 0 2 (put (put (fun _ => zeroFr) 0 (seqFr 1)) 1 (seqFr 2)) := R3
  have D3 := v3.blk C3.out (by simp; omega)
  have u3 := hide (((u2.out.mono (S' := [r, pb]) (by simp)).trans v3 (fun i h _ => h)).mono (S' := []) (by simp; omega))
  have f3 := D3.frame0 rfl
  have P3 := hide (push_full r pb 2 0 _ (seqF 3) _ R3)
  have z3 := v3.size
  replace R3 := hide R3
  replace D3 := hide D3
  clear P2 C3 u2 f2 v3
  go_wp2_with fail
  refine P3.out.mono ?_
  rintro e w4 ⟨rfl, v4⟩
  have R4 := R3.out.upd v4 (by simp) (by simp) (Off.nil _)
  have D4 := v4.blk D3.out (by simp)
  have u4 := hide (u3.out.trans v4 (by simp))
  have P4 := hide (pop_ok r pb 2 0 2 _ _ R4 (by omega))
  have z4 := v4.size
  replace D4 := hide D4
  clear P3 D3 u3 f3 v4 R3 R4
  go_wp2_with fail
  refine P4.out.mono ?_
  rintro e w5 ⟨F, rfl, hF, R5, v5⟩
  replace R5 : Ring w5 r pb 2 1 1 (put (put (put (fun _ => zeroFr) 0 (seqFr 1)) 1 (seqFr 2)) 0 zeroFr) := R5
  replace hF : IsF w5 w4.heap.size F (seqFr 1) := hF
  have D5 := v5.blk D4.out (by simp; omega)
  obtain ⟨q1, q2, q3⟩ := hF.lay_new
  have q4 : ((w5.alloc (.cells zeroF 40)).setCells w5.heap.size 0 F.toList).cell? ⟨w5.heap.size, 3, none⟩ = some (.int .i64 1) := by rw [q2.cell]; exact hF.seq
  have R6 := R5.upd q3 (by simp) (by simp) (Off.nil _)
  have D6 := q3.blk D5 (by simp)
  have f6 := D6.frame0 rfl
  have u6 := hide ((((u4.out.mono (S' := [r, pb]) (by simp)).trans v5 (fun i h _ => h)).mono (S' := []) (by simp; omega)).trans q3 (by simp))
  have P6 := hide (push_seq r pb 2 1 1 _ 3 _ R6 (by omega))
  have z6 := v5.size
  have z6' := q3.size
  unfold zeroF at q1 q4 f6
  clear P4 D4 u4 v5 R5 hF D5 q2 q3 R6 D6
  go_wp2_with fail
  refine P6.out.mono ?_
  rintro e w6 ⟨rfl, R7, v6⟩
  replace R7 : Ring w6 r pb 2 1 2 (put (put (put (put (fun _ => zeroFr) 0 (seqFr 1)) 1 (seqFr 2)) 0 zeroFr) 0 (seqFr 3)) := R7
  have u7 := hide (((u6.out.mono (S' := [r, pb]) (by simp)).trans v6 (fun i h _ => h)).mono (S' := []) (by simp; omega))
  have P7 := hide (at_ok r pb 2 1 2 _ _ R7 0 (by omega))
  replace R7 := hide R7
  clear P6 u6 v6 q1 q4 f6
  go_wp2_with fail
  refine P7.out.mono ?_
  rintro e w7 ⟨F7, rfl, hF7, v7⟩
  replace hF7 : IsF w7 w6.heap.size F7 (seqFr 2) := hF7
  obtain ⟨q1, q2, q3⟩ := hF7.lay_new
  have hS7 := hide hF7.seq
  have R8 := (R7.out.upd v7 (by simp) (by simp) (Off.nil _)).upd q3 (by simp) (by simp) (Off.nil _)
  have u8 := hide ((u7.out.trans v7 (by simp)).trans q3 (by simp))
  have P8 := hide (at_ok r pb 2 1 2 _ _ R8 1 (by omega))
  replace R8 := hide R8
  replace q2 := hide q2
  unfold zeroF at q1
  clear P7 R7 u7 hF7 v7 q3
  go_wp2_with fail
  refine P8.out.mono ?_
  rintro e w8 ⟨F8, rfl, hF8, v8⟩
  replace hF8 : IsF w8 _ F8 (seqFr 3) := hF8
  obtain ⟨x1, x2, x3⟩ := hF8.lay_new
  have hS8 := hide hF8.seq
  have R9 := (R8.out.upd v8 (by simp) (by simp) (Off.nil _)).upd x3 (by simp) (by simp) (Off.nil _)
  have u9 := hide ((u8.out.trans v8 (by simp)).trans x3 (by simp))
  have y2 := hide (x3.blk (v8.blk q2.out (by simp)) (by simp))
  have P9 := hide (at_none R9 2 (by omega))
  replace x2 := hide x2
  unfold zeroF at x1
  clear P8 R8 u8 hF8 v8 x3 q1 q2 R9
  go_wp2_with fail
  refine P9.out.mono ?_
  rintro e w9 ⟨F9, rfl, hF9, v9⟩
  obtain ⟨k1, k2, k3⟩ := hF9.lay_new
  have u10 := hide ((u9.out.trans v9 (by simp)).trans k3 (by simp))
  have y3 := k3.blk (v9.blk y2.out (by simp)) (by simp)
  have y4 := k3.blk (v9.blk x2.out (by simp)) (by simp)
  have c1 : ((w9.alloc (.cells zeroF 40)).setCells w9.heap.size 0 F9.toList).cell? ⟨w7.heap.size, 3, none⟩ = some (.int .i64 2) := by rw [y3.cell]; exact hS7.out
  have c2 : ((w9.alloc (.cells zeroF 40)).setCells w9.heap.size 0 F9.toList).cell? ⟨w8.heap.size, 3, none⟩ = some (.int .i64 3) := by rw [y4.cell]; exact hS8.out
  unfold zeroF at k1 c1 c2
  clear P9 u9 y2 x2 x1 hF9 v9 k2 k3 y3 y4 hS7 hS8
  go_wp2_with fail
  go_ret
  exact ⟨rfl, u10.out⟩
end Go.Proofs.Ytkopocbcldjjbaa
