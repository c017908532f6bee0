/- The walks of the layer history: End, of a call that goes on. -/
import Derived.Test.YtfnddooclgklmaaWalkF
namespace Go.Proofs.Ytfnddooclgklmaa
open Go.RowKit
set_option linter.unusedVariables false
attribute [-go_sem] loadVar storeVar
attribute [local go_sem] loadVar_else storeVar_else run_load29 run_load33 run_load35 run_load48 run_load49 run_load61 run_store29 run_store33 run_store35 run_store48 run_store49 aggAt_drew aggAt_drewN aggRoom_drew aggRoom_drewN
variable {base h : Nat} {v : Value} {rs : List Rec} {ev : Nat}
theorem out_one (o : Out6) : o.cells.all (·.oneCell') = true := by simp [Value.oneCell']
theorem out_one' (o : Out6) : ∀ u ∈ o.cells.toList, u.oneCell' = true := by
  have := Array.all_eq_true_iff_forall_mem.1 (out_one o)
  exact fun u hu => this u (by simpa using hu)
theorem rec_end (r : Rec) (ev : Nat) (o : Out6) : putAt (putAt r.cells 7 [.int .i64 ev]) 8 o.cells.toList = (endRec r ev o).cells := by
  simp [putAt, endRec]
theorem recs_end (rs : List Rec) (p : Nat) (hp : p < rs.length) (ev : Nat) (o : Out6) (hp2 : p < ((recCells rs).set p (putAt rs[p].cells 7 [.int .i64 ev])).length) :
    ((recCells rs).set p (putAt rs[p].cells 7 [.int .i64 ev])).set p (putAt ((recCells rs).set p (putAt rs[p].cells 7 [.int .i64 ev]))[p] 8 o.cells.toList) = recCells (rs.set p (endRec rs[p] ev o)) := by
  rw [List.set_set, List.getElem_set_self, rec_end]
  simp only [recCells, List.map_set]
/-- a record gets its end -/
theorem Hist.ends {w : World} {g cap : Nat} (H : Hist w base h (.slice (some ⟨g, 0, none⟩) rs.length cap) rs ev) (hgh : g ≠ h) (p : Nat) (hp : p < rs.length) (o : Out6) :
    Hist ((((w.setCell ⟨g, p * 14 + 7, none⟩ (.int .i64 ev)).setCells g (p * 14 + 8) o.cells.toList)).setCell ⟨h, 2, none⟩ (.int .i64 (ev + 1))) base h (.slice (some ⟨g, 0, none⟩) rs.length cap) (rs.set p (endRec rs[p] ev o)) (ev + 1) := by
  have R := H.row
  rw [← recCells_len rs] at R
  have hp' : p < (recCells rs).length := by rw [recCells_len]; exact hp
  have R1 := R.put p hp' 7 [.int .i64 ev] (by simp) (by simp [Value.oneCell'])
  have hp2 : p < ((recCells rs).set p (putAt (recCells rs)[p] 7 [.int .i64 ev])).length := by simpa using hp'
  rw [show (recCells rs).length = ((recCells rs).set p (putAt (recCells rs)[p] 7 [.int .i64 ev])).length by simp] at R1
  have R2 := R1.put p hp2 8 o.cells.toList (by simp) (out_one' o)
  have B := H.head
  have B1 := ((B.far (p := ⟨g, p * 14 + 7, none⟩) (by exact fun e => hgh e.symm) (.int .i64 ev)).farCells (fun e => hgh e.symm) o.cells.toList (p * 14 + 8)).set_ 2 (.int .i64 (ev + 1))
  refine ⟨H.ge, B1.congr (head_end _ ev p rs hp _ rfl), ?_⟩
  have e0 : (recCells rs)[p] = rs[p].cells := by simp only [recCells, List.getElem_map]
  simp only [e0] at R2
  have e := recs_end rs p hp ev o (by simpa [recCells] using hp)
  rw [e] at R2
  have hl : ((recCells rs).set p (putAt rs[p].cells 7 [.int .i64 ev])).length = rs.length := by simp [recCells]
  rw [hl] at R2
  exact R2.upd ((Upd.refl _ [h]).setCell (p := ⟨h, 2, none⟩) (by simp) _) (by simp [blkOf, Value.ownBlock]; exact hgh)
set_option maxHeartbeats 4000000 in
theorem end_ok (c : Nat) (s : Int) (o : Out6) (w : World) (H : Hist w base h v rs ev) (he : ev ≤ 1000) (hc : c < 6) (hk : o.kind = 1 ∨ o.kind = 2 ∨ o.kind = 3) (p : Nat) (hp : place c rs = p + 1) (hpl : p < rs.length) (hx : rs[p].seq = s) (hy : rs[p].to < 0) :
    Calls Try.prog 10 #[.pointer (some ⟨h, 0, none⟩), .int .i64 c, .int .i64 s, .agg o.cells] w fun e w' => e = .returned (.int .i64 0) ∧ Hist w' base h v (rs.set p (endRec rs[p] ev o)) (ev + 1) ∧ Upd w w' (h :: blkOf v) := by
  rcases H.slice with ⟨_, rfl⟩ | ⟨g, cap, rfl, _, hgh, hgl⟩
  · simp at hpl
  have U := hide ((Upd.refl w []).alloc (.cells o.cells 33))
  have H1 := hide (H.upd0 U.out)
  have N := hide (none_no h _ H1.out.c0)
  have N2 := hide (last_yes c _ H1.out hc p hp)
  have t1 : (w.alloc (.cells o.cells 33)).cell? ⟨g, p * 14 + 7, none⟩ = some (.int .i64 rs[p].to) := aggAt_cell (H1.out.rec_ p hpl) 7 (by decide)
  have t2 : (w.alloc (.cells o.cells 33)).cell? ⟨g, p * 14 + 1, none⟩ = some (.int .i64 rs[p].seq) := aggAt_cell (H1.out.rec_ p hpl) 1 (by decide)
  have t3 := H1.out.c2
  have HR := H1.out.row
  rw [← recCells_len rs] at HR
  have hp' : p < (recCells rs).length := by rw [recCells_len]; exact hpl
  have t4 := HR.frozen (p * 14 + 7)
  have A1 : aggAt 6 (w.alloc (.cells o.cells 33)) w.heap.size 0 = some o.cells := (Blk.new w 33 o.cells).agg0 rfl
  have key : ∀ n, aggRoom 6 (((w.alloc (.cells o.cells 33)).drewN n).setCell ⟨g, p * 14 + 7, none⟩ (.int .i64 ev)) g (p * 14 + 8) o.cells = true ∧
      Blk ((((w.alloc (.cells o.cells 33)).drewN n).setCell ⟨g, p * 14 + 7, none⟩ (.int .i64 ev)).setCells g (p * 14 + 8) o.cells.toList) h 53 (headOf (.slice (some ⟨g, 0, none⟩) rs.length cap) ev rs) := fun n => by
    have H1n := H1.out.upd0 ((Upd.refl _ []).drewN n)
    have HRn := H1n.row
    rw [← recCells_len rs] at HRn
    have R1 := HRn.put p hp' 7 [.int .i64 ev] (by simp) (by simp [Value.oneCell'])
    rw [show (recCells rs).length = ((recCells rs).set p (putAt (recCells rs)[p] 7 [.int .i64 ev])).length by simp] at R1
    exact ⟨R1.room p (by simpa using hp') 8 6 (by decide) rfl (out_one o), ((H1n.head.far (p := ⟨g, p * 14 + 7, none⟩) (by exact fun e => hgh e.symm) (.int .i64 ev)).farCells (fun e => hgh e.symm) o.cells.toList (p * 14 + 8))⟩
  have A2 := fun n => (key n).1
  have A3 : ∀ n, aggAt 6 (((w.alloc (.cells o.cells 33)).drewN n).setCell ⟨g, p * 14 + 7, none⟩ (.int .i64 ev)) w.heap.size 0 = some o.cells := fun n =>
    aggAt_upd (by decide) A1 (((Upd.refl _ [g]).drewN n).setCell (p := ⟨g, p * 14 + 7, none⟩) (by simp) (.int .i64 ev)) (by simp; omega)
  have t5 : ∀ n, ((((w.alloc (.cells o.cells 33)).drewN n).setCell ⟨g, p * 14 + 7, none⟩ (.int .i64 ev)).setCells g (p * 14 + 8) o.cells.toList).cell? ⟨h, 2, none⟩ = some (.int .i64 ev) := fun n => by rw [(key n).2.cell]; rfl
  have t6 := fun n => (key n).2.frozen 2
  have HE := hide fun n => (H1.out.upd0 ((Upd.refl _ []).drewN n)).ends hgh p hpl o
  have U6 := hide fun n => (((((U.out.drewN n).mono (S' := [h, g]) (by simp)).setCell (p := ⟨g, p * 14 + 7, none⟩) (by simp) (.int .i64 ev)).setCells (b := g) (by simp) o.cells.toList (p * 14 + 8)).setCell (p := ⟨h, 2, none⟩) (by simp) (.int .i64 (ev + 1)))
  clear H H1 HR U key
  generalize rs[p].to = rt at *
  generalize rs[p].seq = rq at *
  subst hx
  have k0 : (w.alloc (.cells o.cells 33)).cell? ⟨w.heap.size, 0, none⟩ = some (.int .i64 o.kind) := by rw [(Blk.new w 33 o.cells).cell]; rfl
  have k1 : o.cells[0]? = some (.int .i64 o.kind) := rfl
  generalize hO : o.cells = O at *
  clear hO
  generalize hK : o.kind = K at *
  clear hK
  rcases hk with rfl | rfl | rfl
  all_goals
    go_enter Try.func10, Try.ntmps10
    go_wp2_with fail
    refine N.out.mono ?_
    rintro e w' ⟨rfl, rfl⟩
    go_wp2_with fail
    refine N2.out.mono ?_
    rintro e w' ⟨rfl, m, rfl⟩
    go_wp2_with fail
    go_region
    go_wp2_with fail
    go_ret
    exact ⟨rfl, HE.out _, (U6.out _).mono (by simp [blkOf, Value.ownBlock])⟩
end Go.Proofs.Ytfnddooclgklmaa
