/- The walks of the layer transfer: the document's receiver takes a piece: one that does not fit. (Printed by gen28ref.py.) -/
import Derived.Test.YtmmacjjmkaeakaaRefW
namespace Go.Proofs.Ytmmacjjmkaeakaa
open Go.RowKit
set_option linter.unusedVariables false
set_option linter.unusedSimpArgs false
variable {base q : Nat} {v : Value} {id total : Int} {ps : List ByteArray}
set_option maxHeartbeats 8000000 in
theorem rtake_bad (p : Pc) (w : World) (H : Rfv w base q v id total ps) (hb : base ≤ w.heap.size) (hn : ps.length ≤ 100000) (hf : fitsB id total p = false) :
    Calls Try.prog 11 #[.pointer (some ⟨q, 0, none⟩), .agg p.cells] w fun e w' => ∃ v', e = .returned (.tuple #[.int .i64 (takeId id total p), .int .i64 (takePs id total ps p).length]) ∧ Rfv w' base q v' (takeId id total p) (takeTotal id total p) (takePs id total ps p) ∧ Upd w w' [q] ∧ Fresh w v v' := by
  obtain ⟨i0, hi0, hz0, hz1, hz2⟩ := info_parts info9
  have U := hide ((Upd.refl w []).alloc (.cells p.cells 35))
  have H1 := H.upd0 U.out
  have rl := H.head.lt
  have B1 := hide (Blk.new w 35 p.cells)
  obtain ⟨ga, c, hv, hgn, _⟩ := H1.form
  subst hv
  replace hgn := hide hgn
  have a0 := H1.a0
  have a1 := H1.a1
  have a2 := H1.a2
  replace H1 := hide H1
  clear H
  generalize hpb : w.heap.size = pb at *
  have hpb2 : Hid (w.heap.size = pb) := Lib.hid hpb
  have x0 : (w.alloc (.cells p.cells 35)).cell? ⟨pb, 0, none⟩ = some (.int .i64 p.id) := by rw [B1.out.cell]; rfl
  have x1 : (w.alloc (.cells p.cells 35)).cell? ⟨pb, 1, none⟩ = some (.int .i64 p.at_) := by rw [B1.out.cell]; rfl
  have x2 : (w.alloc (.cells p.cells 35)).cell? ⟨pb, 2, none⟩ = some (.int .i64 p.total) := by rw [B1.out.cell]; rfl
  have x3 : (w.alloc (.cells p.cells 35)).cell? ⟨pb, 3, none⟩ = some (.string p.data) := by rw [B1.out.cell]; rfl
  by_cases h0 : p.id < id
  · skip
    have e : fitsB id total p = false := by simp [fitsB, h0]
    have eId := hide (show takeId id total p = id by simp [takeId, e])
    have eTot := hide (show takeTotal id total p = total by simp [takeTotal, e])
    have ePs := hide (show takePs id total ps p = ps by simp [takePs, takeOld, e])
    clear e
    have d0 : decide (p.id < id) = true := by simpa using h0
    clear h0
    go_enter Try.func11, Try.ntmps11
    go_wp2_with fail
    go_quiet (fail)
    go_wp2_with fail
    go_quiet (fail)
    go_wp2_with fail
    go_quiet (fail)
    go_wp2_with fail
    go_quiet (fail)
    go_wp2_with fail
    go_ret2
    exact ⟨_, by rw [eId.out, ePs.out]; rfl, by rw [eId.out, eTot.out, ePs.out]; exact H1.out.upd0 (((((Upd.refl _ []).drewN _).drewN _).drewN _).drewN _), ((((U.out.mono (S' := [q]) (by simp)).drewN _).drewN _).drewN _).drewN _, Fresh.refl _ _⟩
  by_cases h1 : p.id < 1
  · skip
    have e : fitsB id total p = false := by simp [fitsB, h0, h1]
    have eId := hide (show takeId id total p = id by simp [takeId, e])
    have eTot := hide (show takeTotal id total p = total by simp [takeTotal, e])
    have ePs := hide (show takePs id total ps p = ps by simp [takePs, takeOld, e])
    clear e
    have d0 : decide (p.id < id) = false := by simpa using h0
    have d1 : decide (p.id < 1) = true := by simpa using h1
    clear h0 h1
    go_enter Try.func11, Try.ntmps11
    go_wp2_with fail
    go_quiet (fail)
    go_wp2_with fail
    go_quiet (fail)
    go_wp2_with fail
    go_quiet (fail)
    go_wp2_with fail
    go_quiet (fail)
    go_wp2_with fail
    go_ret2
    exact ⟨_, by rw [eId.out, ePs.out]; rfl, by rw [eId.out, eTot.out, ePs.out]; exact H1.out.upd0 (((((Upd.refl _ []).drewN _).drewN _).drewN _).drewN _), ((((U.out.mono (S' := [q]) (by simp)).drewN _).drewN _).drewN _).drewN _, Fresh.refl _ _⟩
  by_cases h2 : p.total < 1
  · skip
    have e : fitsB id total p = false := by simp [fitsB, h0, h1, h2]
    have eId := hide (show takeId id total p = id by simp [takeId, e])
    have eTot := hide (show takeTotal id total p = total by simp [takeTotal, e])
    have ePs := hide (show takePs id total ps p = ps by simp [takePs, takeOld, e])
    clear e
    have d0 : decide (p.id < id) = false := by simpa using h0
    have d1 : decide (p.id < 1) = false := by simpa using h1
    have d2 : decide (p.total < 1) = true := by simpa using h2
    clear h0 h1 h2
    go_enter Try.func11, Try.ntmps11
    go_wp2_with fail
    go_quiet (fail)
    go_wp2_with fail
    go_quiet (fail)
    go_wp2_with fail
    go_quiet (fail)
    go_wp2_with fail
    go_quiet (fail)
    go_wp2_with fail
    go_ret2
    exact ⟨_, by rw [eId.out, ePs.out]; rfl, by rw [eId.out, eTot.out, ePs.out]; exact H1.out.upd0 (((((Upd.refl _ []).drewN _).drewN _).drewN _).drewN _), ((((U.out.mono (S' := [q]) (by simp)).drewN _).drewN _).drewN _).drewN _, Fresh.refl _ _⟩
  by_cases h3 : 4096 < p.total
  · skip
    have e : fitsB id total p = false := by simp [fitsB, h0, h1, h2, h3]
    have eId := hide (show takeId id total p = id by simp [takeId, e])
    have eTot := hide (show takeTotal id total p = total by simp [takeTotal, e])
    have ePs := hide (show takePs id total ps p = ps by simp [takePs, takeOld, e])
    clear e
    have d0 : decide (p.id < id) = false := by simpa using h0
    have d1 : decide (p.id < 1) = false := by simpa using h1
    have d2 : decide (p.total < 1) = false := by simpa using h2
    have d3 : decide (4096 < p.total) = true := by simpa using h3
    clear h0 h1 h2 h3
    go_enter Try.func11, Try.ntmps11
    go_wp2_with fail
    go_quiet (fail)
    go_wp2_with fail
    go_quiet (fail)
    go_wp2_with fail
    go_quiet (fail)
    go_wp2_with fail
    go_quiet (fail)
    go_wp2_with fail
    go_ret2
    exact ⟨_, by rw [eId.out, ePs.out]; rfl, by rw [eId.out, eTot.out, ePs.out]; exact H1.out.upd0 (((((Upd.refl _ []).drewN _).drewN _).drewN _).drewN _), ((((U.out.mono (S' := [q]) (by simp)).drewN _).drewN _).drewN _).drewN _, Fresh.refl _ _⟩
  by_cases h4 : p.at_ < 0
  · skip
    have e : fitsB id total p = false := by simp [fitsB, h0, h1, h2, h3, h4]
    have eId := hide (show takeId id total p = id by simp [takeId, e])
    have eTot := hide (show takeTotal id total p = total by simp [takeTotal, e])
    have ePs := hide (show takePs id total ps p = ps by simp [takePs, takeOld, e])
    clear e
    have d0 : decide (p.id < id) = false := by simpa using h0
    have d1 : decide (p.id < 1) = false := by simpa using h1
    have d2 : decide (p.total < 1) = false := by simpa using h2
    have d3 : decide (4096 < p.total) = false := by simpa using h3
    have d4 : decide (p.at_ < 0) = true := by simpa using h4
    clear h0 h1 h2 h3 h4
    go_enter Try.func11, Try.ntmps11
    go_wp2_with fail
    go_quiet (fail)
    go_wp2_with fail
    go_quiet (fail)
    go_wp2_with fail
    go_quiet (fail)
    go_wp2_with fail
    go_quiet (fail)
    go_wp2_with fail
    go_ret2
    exact ⟨_, by rw [eId.out, ePs.out]; rfl, by rw [eId.out, eTot.out, ePs.out]; exact H1.out.upd0 (((((Upd.refl _ []).drewN _).drewN _).drewN _).drewN _), ((((U.out.mono (S' := [q]) (by simp)).drewN _).drewN _).drewN _).drewN _, Fresh.refl _ _⟩
  by_cases h5 : p.total ≤ p.at_
  · skip
    have e : fitsB id total p = false := by simp [fitsB, h0, h1, h2, h3, h4, h5]
    have eId := hide (show takeId id total p = id by simp [takeId, e])
    have eTot := hide (show takeTotal id total p = total by simp [takeTotal, e])
    have ePs := hide (show takePs id total ps p = ps by simp [takePs, takeOld, e])
    clear e
    have d0 : decide (p.id < id) = false := by simpa using h0
    have d1 : decide (p.id < 1) = false := by simpa using h1
    have d2 : decide (p.total < 1) = false := by simpa using h2
    have d3 : decide (4096 < p.total) = false := by simpa using h3
    have d4 : decide (p.at_ < 0) = false := by simpa using h4
    have d5 : decide (p.total ≤ p.at_) = true := by simpa using h5
    clear h0 h1 h2 h3 h4 h5
    go_enter Try.func11, Try.ntmps11
    go_wp2_with fail
    go_quiet (fail)
    go_wp2_with fail
    go_quiet (fail)
    go_wp2_with fail
    go_quiet (fail)
    go_wp2_with fail
    go_quiet (fail)
    go_wp2_with fail
    go_ret2
    exact ⟨_, by rw [eId.out, ePs.out]; rfl, by rw [eId.out, eTot.out, ePs.out]; exact H1.out.upd0 (((((Upd.refl _ []).drewN _).drewN _).drewN _).drewN _), ((((U.out.mono (S' := [q]) (by simp)).drewN _).drewN _).drewN _).drewN _, Fresh.refl _ _⟩
  by_cases h6 : 512 < (p.data.size : Int)
  · skip
    have e : fitsB id total p = false := by simp [fitsB, h0, h1, h2, h3, h4, h5, h6]
    have eId := hide (show takeId id total p = id by simp [takeId, e])
    have eTot := hide (show takeTotal id total p = total by simp [takeTotal, e])
    have ePs := hide (show takePs id total ps p = ps by simp [takePs, takeOld, e])
    clear e
    have d0 : decide (p.id < id) = false := by simpa using h0
    have d1 : decide (p.id < 1) = false := by simpa using h1
    have d2 : decide (p.total < 1) = false := by simpa using h2
    have d3 : decide (4096 < p.total) = false := by simpa using h3
    have d4 : decide (p.at_ < 0) = false := by simpa using h4
    have d5 : decide (p.total ≤ p.at_) = false := by simpa using h5
    have d6 : decide (512 < (p.data.size : Int)) = true := by simpa using h6
    clear h0 h1 h2 h3 h4 h5 h6
    go_enter Try.func11, Try.ntmps11
    go_wp2_with fail
    go_quiet (fail)
    go_wp2_with fail
    go_quiet (fail)
    go_wp2_with fail
    go_quiet (fail)
    go_wp2_with fail
    go_quiet (fail)
    go_wp2_with fail
    go_ret2
    exact ⟨_, by rw [eId.out, ePs.out]; rfl, by rw [eId.out, eTot.out, ePs.out]; exact H1.out.upd0 (((((Upd.refl _ []).drewN _).drewN _).drewN _).drewN _), ((((U.out.mono (S' := [q]) (by simp)).drewN _).drewN _).drewN _).drewN _, Fresh.refl _ _⟩
  by_cases h9 : p.id = id ∧ p.total ≠ total
  · have b1 : (p.id == id) = true := by simp [h9.1]
    have b2 : (p.total == total) = false := beq_false_of_ne h9.2
    have b3 : (p.total != total) = true := by simp [h9.2]
    have e : fitsB id total p = false := by simp [fitsB, h9.1, h9.2]
    have eId := hide (show takeId id total p = id by simp [takeId, e])
    have eTot := hide (show takeTotal id total p = total by simp [takeTotal, e])
    have ePs := hide (show takePs id total ps p = ps by simp [takePs, takeOld, e])
    clear e
    replace h9 := hide h9
    have d0 : decide (p.id < id) = false := by simpa using h0
    have d1 : decide (p.id < 1) = false := by simpa using h1
    have d2 : decide (p.total < 1) = false := by simpa using h2
    have d3 : decide (4096 < p.total) = false := by simpa using h3
    have d4 : decide (p.at_ < 0) = false := by simpa using h4
    have d5 : decide (p.total ≤ p.at_) = false := by simpa using h5
    have d6 : decide (512 < (p.data.size : Int)) = false := by simpa using h6
    clear h0 h1 h2 h3 h4 h5 h6
    go_enter Try.func11, Try.ntmps11
    go_wp2_with fail
    go_quiet (fail)
    go_wp2_with fail
    go_quiet (fail)
    go_wp2_with fail
    go_quiet (fail)
    go_wp2_with fail
    go_quiet (fail)
    go_wp2_with fail
    go_ret2
    exact ⟨_, by rw [eId.out, ePs.out]; rfl, by rw [eId.out, eTot.out, ePs.out]; exact H1.out.upd0 (((((Upd.refl _ []).drewN _).drewN _).drewN _).drewN _), ((((U.out.mono (S' := [q]) (by simp)).drewN _).drewN _).drewN _).drewN _, Fresh.refl _ _⟩
  exfalso
  simp [fitsB] at hf
  omega
end Go.Proofs.Ytmmacjjmkaeakaa
