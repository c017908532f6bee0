/- The walks of the layer history: the document's End, that puts an event behind the others. -/
import Derived.Test.YtfnddooclgklmaaRefB
import Derived.Deep.RegionLaw
namespace Go.Proofs.Ytfnddooclgklmaa
open Go.RowKit
set_option linter.unusedVariables false
attribute [-go_sem] loadVar storeVar
attribute [local go_sem] loadVar_else storeVar_else run_load29 run_load33 run_load35 run_load48 run_load49 run_load61 run_store29 run_store33 run_store35 run_store48 run_store49 aggAt_drew aggAt_drewN aggRoom_drew aggRoom_drewN
def zeroEv : Array Value := #[.int .i64 0, .int .i64 0, .int .i64 0, .string ⟨#[]⟩, .string ⟨#[]⟩, .int .i64 0, .int .i64 0, .int .i64 0, .int .i64 0, .string ⟨#[]⟩, .int .i64 0, .int .i64 0]
theorem info61 : (Try.prog.info? 61).map (fun i => (i.zero, i.size, i.bytes)) = some (some (.agg zeroEv), 12, 120) := by kernel_rfl
/-- behind the append of an event -/
theorem ev_push {w2 : World} {base : Nat} {v2 : Value} {es : List Ev} {e : Ev} (hs : ∀ G ∈ evCells es, G.size = 12) (ho : ∀ G ∈ evCells es, ∀ u ∈ G, u.oneCell' = true)
    (hown : w2.ownsRow base 61 12 v2 (es.length + 1) (flat (evCells es) ++ e.cells.toList)) : RowOf w2 base 61 12 v2 (evCells (es ++ [e])) := by
  have := RowOf.push (F := e.cells) hs ho rfl (ev_one e) (by rw [evCells_len]; exact hown)
  simpa [evCells] using this
theorem Upd.own {W w1 w2 : World} {v1 : Value} {base k : Nat} {e : TypeId} {n : Nat} {xs : List Value} (u : Upd W w1 []) (hb : W.heap.size ≤ base) (hown : w1.ownsRow base e n v1 k xs) (hgr : w1.grownBy w2 v1.ownBlock) : Upd W w2 [] := by
  refine u.trans (Upd.of_grown (S := blkOf v1) hgr (by intro k hk _; simp [blkOf, hk])) fun i hi hl => ?_
  exfalso
  obtain ⟨_, ⟨rfl, _⟩ | ⟨g, cap, cur, rfl, hg, _⟩⟩ := hown
  · simp [blkOf, Value.ownBlock] at hi
  · simp [blkOf, Value.ownBlock] at hi; omega
set_option maxHeartbeats 4000000 in
theorem rend_ok (g cap : Nat) (es : List Ev) (c s : Int) (o : Out6) (w : World) (base : Nat) (R : RowOf w base 61 12 (.slice (some ⟨g, 0, none⟩) es.length cap) (evCells es)) (hn : es.length ≤ 1000) (h : ¬ (o.kind < 1 ∨ 3 < o.kind))
    (hx : ¬ (lastE c es).1 = 0) (hy : (lastE c es).2 = false) (hz : (lastE c es).1 = s) :
    Calls Try.prog 11 #[.slice (some ⟨g, 0, none⟩) es.length cap, .int .i64 c, .int .i64 s, .agg o.cells] w fun e w' => ∃ u', e = .returned (.tuple #[u', .int .i64 0]) ∧ RowOf w' w.heap.size 61 12 u' (evCells (es ++ [endEv c s o])) ∧ Upd w w' [] := by
  obtain ⟨i0, hi0, hz0, hz1, hz2⟩ := info_parts info61
  have U := hide ((Upd.refl w []).alloc (.cells o.cells 33))
  have R1 := R.upd U.out (by simp)
  have L := hide (rlast_ok _ es c _ base R1 hn)
  have A1 := (Blk.new w 33 o.cells).agg0 (n := 6) rfl
  have h1 : ¬ o.kind < 1 := by omega
  have h2 : ¬ 3 < o.kind := by omega
  replace R1 := hide R1
  clear h R
  rw [hy, hz] at L
  rw [hz] at hx
  have q2 : (s == 0) = false := by simpa using hx
  clear hy hz hx
  go_enter Try.func11, Try.ntmps11
  go_wp2_with fail
  refine L.out.mono ?_
  rintro e w' ⟨rfl, m, rfl⟩
  go_wp2_with fail
  have U1 := hide (U.out.drewN m)
  have R2 := hide (R1.out.upd ((Upd.refl _ []).drewN m) (by simp))
  have A2 : aggAt 6 ((w.alloc (.cells o.cells 33)).drewN m) w.heap.size 0 = some o.cells := A1
  clear A1 R1 U L
  generalize (w.alloc (.cells o.cells 33)).drewN m = W at *
  have hzW := U1.out.size
  have hl := hide (flat_length (n := 12) _ R2.out.sizes)
  have ONE := hide R2.out.flat_one
  have sz1 := hide R2.out.sizes
  have sz2 := hide R2.out.ones
  have S1 := hide (R2.out.upd ((Upd.refl W []).drew) (by simp)).src
  have S2 := hide (R2.out.upd ((Upd.refl W []).drew.alloc (.cells (endEv c s o).cells 61)) (by simp)).src
  have NE := hide fun (W' : World) (k : Nat) (B : Blk W' k 61 (endEv c s o).cells) => show ∀ j u, (endEv c s o).cells.toList[j]? = some u → W'.cell? ((⟨k, 0, none⟩ : Addr).add j) = some u from fun j u hu => by
    rw [Addr.add_mid, Nat.zero_add, B.cell, ← Array.getElem?_toList]; exact hu
  have HE := hide (show ∀ u ∈ (endEv c s o).cells.toList, u.oneCell' = true from fun u hu => ev_one _ u (by simpa using hu))
  have U2 := hide (U1.out.drew)
  have hU3 := hide (show Upd W W.drew [] from (Upd.refl W []).drew)
  have hU4 := hide (show Upd W (W.drew.alloc (.cells (endEv c s o).cells 61)) [] from (Upd.refl W []).drew.alloc _)
  have BE := hide (show Blk (W.drew.alloc (.cells (endEv c s o).cells 61)) W.heap.size 61 (endEv c s o).cells from Blk.new W.drew 61 _)
  have hzS1 := hide (show w.heap.size ≤ W.drew.heap.size from hzW)
  have hzS2 := hide (show w.heap.size ≤ (W.drew.alloc (.cells (endEv c s o).cells 61)).heap.size from (U2.out.alloc (.cells (endEv c s o).cells 61)).size)
  go_region_law (first
    | (refine step_append_own rfl (.tmp 39) (.tmp 44) 27 rfl w.heap.size 61 i0 (.agg zeroEv) 12 120 Try.underlying27 hi0 hz0 hz1 hz2 rfl (by decide) v1 es.length (flat (evCells es)) (by first | (simp [Act.eval]; done) | simp [Act.eval, Act.put]) KA.out ⟨w1.heap.size, 0, none⟩ 1 1 (endEv c s o).cells.toList (by first | (simp [Act.eval]; done) | simp [Act.eval, Act.put]) rfl (NE.out _ _ (Blk.new w1 61 _)) HE.out (by unfold maxLen; omega) (by omega) hbA.out ?_; intro v2 w2 hown2 hgr2 hnil2; have F1 := hide (ev_push sz1.out sz2.out hown2); have F2 := hide (Upd.own (UA.out.alloc (.cells (endEv c s o).cells 61)) (Nat.le_refl _) KA.out hgr2); clear hown2 hgr2 hnil2)
    | (refine step_append_own rfl (.tmp 39) (.tmp 44) 27 rfl w.heap.size 61 i0 (.agg zeroEv) 12 120 Try.underlying27 hi0 hz0 hz1 hz2 rfl (by decide) v1 es.length (flat (evCells es)) (by first | (simp [Act.eval]; done) | simp [Act.eval, Act.put]) KB.out ⟨W.heap.size, 0, none⟩ 1 1 (endEv c s o).cells.toList (by first | (simp [Act.eval]; done) | simp [Act.eval, Act.put]) rfl (NE.out _ _ BB.out) HE.out (by unfold maxLen; omega) (by omega) hbB.out ?_; intro v2 w2 hown2 hgr2 hnil2; have F1 := hide (ev_push sz1.out sz2.out hown2); have F2 := hide (Upd.own UB.out (Nat.le_refl _) KB.out hgr2); clear hown2 hgr2 hnil2)
    | (refine step_append_own rfl (.const (.slice none 0 0)) (.tmp 38) 27 rfl w.heap.size 61 i0 (.agg zeroEv) 12 120 Try.underlying27 hi0 hz0 hz1 hz2 rfl (by decide) (.slice none 0 0) 0 [] rfl (World.ownsRow_nil _ _ _ _) ⟨g, 0, none⟩ es.length cap (flat (evCells es)) (by first | (simp [Act.eval]; done) | simp [Act.eval, Act.put]) (by rw [hl.out, evCells_len]) S1.out ONE.out (by unfold maxLen; omega) (by omega) hzS1.out ?_; intro v1 w1 hown1 hgr1 hnil1; rw [Nat.zero_add, List.nil_append] at hown1; have g1 := Upd.of_grown (S := []) hgr1 (by simp [Value.ownBlock]); have UA := hide (U2.out.trans g1 (by simp)); have A3 : aggAt 6 w1 w.heap.size 0 = some o.cells := aggAt_upd (by decide) A2 (hU3.out.trans g1 (by simp)) (by simp); have KA := hide ((RowOf.mk sz1.out sz2.out (by rw [evCells_len]; exact hown1) : RowOf w1 w.heap.size 61 12 v1 (evCells es)).upd ((Upd.refl w1 []).alloc (.cells (endEv c s o).cells 61)) (by simp)).own; rw [evCells_len] at KA; have hbA := hide (show w.heap.size ≤ (w1.alloc (.cells (endEv c s o).cells 61)).heap.size from ((UA.out.alloc (.cells (endEv c s o).cells 61)).size)); clear hown1 hgr1 hnil1 g1)
    | (refine step_append_own rfl (.const (.slice none 0 0)) (.tmp 38) 27 rfl w.heap.size 61 i0 (.agg zeroEv) 12 120 Try.underlying27 hi0 hz0 hz1 hz2 rfl (by decide) (.slice none 0 0) 0 [] rfl (World.ownsRow_nil _ _ _ _) ⟨g, 0, none⟩ es.length cap (flat (evCells es)) (by first | (simp [Act.eval]; done) | simp [Act.eval, Act.put]) (by rw [hl.out, evCells_len]) S2.out ONE.out (by unfold maxLen; omega) (by omega) hzS2.out ?_; intro v1 w1 hown1 hgr1 hnil1; rw [Nat.zero_add, List.nil_append] at hown1; have g1 := Upd.of_grown (S := []) hgr1 (by simp [Value.ownBlock]); have UB := hide ((U2.out.alloc (.cells (endEv c s o).cells 61)).trans g1 (by simp)); have KB := hide hown1; have BB := hide (g1.blk BE.out (by simp)); have hbB := hide UB.out.size; clear hown1 hgr1 hnil1 g1))
  all_goals
    go_wp2_with fail
    go_ret2
    exact ⟨_, rfl, F1.out, F2.out⟩
end Go.Proofs.Ytfnddooclgklmaa
