/- HistoryNone: the walk. -/
import Derived.Test.YtfnddooclgklmaaTold
import Derived.Test.YtfnddooclgklmaaGreat
namespace Go.Proofs.Ytfnddooclgklmaa
open Go.RowKit
set_option linter.unusedVariables false
attribute [-go_sem] loadVar storeVar
attribute [local go_sem] loadVar_else storeVar_else run_load29 run_load33 run_load35 run_load48 run_load49 run_load61 run_store29 run_store33 run_store35 run_store48 run_store49 aggAt_drew aggAt_drewN aggRoom_drew aggRoom_drewN
theorem great_one (a : Ac) {m : Nat} (hm : 0 < m) : great [a] m = decide a.wide := by
  have : ¬ m < 1 := by omega
  simp [great, this]
set_option maxHeartbeats 4000000 in
theorem hnone_walk (a : Ac) (w : World) : Calls Try.prog 4 #[.agg a.cells] w fun e w' => e = .returned (.bool true) ∧ Upd w w' [] := by
  have B1 := Blk.new w 35 a.cells
  have L1 : aggAt 13 (w.alloc (.cells a.cells 35)) w.heap.size 0 = some a.cells := B1.agg0 rfl
  have U2 := hide (((Upd.refl w []).alloc (.cells a.cells 35)).alloc (.cells a.cells 35))
  have B2 := Blk.new (w.alloc (.cells a.cells 35)) 35 a.cells
  have B1' := hide (B1.alloc (.cells a.cells 35))
  rw [World.size_alloc] at B2
  have X : Acts ((w.alloc (.cells a.cells 35)).alloc (.cells a.cells 35)) (w.heap.size + 1) 0 [a] := by
    intro j hj
    obtain rfl : j = 0 := by simpa using hj
    exact B2.agg 0 rfl (fun j _ => by rw [Nat.zero_add]; rfl)
  have G := hide (great_walk (some ⟨w.heap.size + 1, 0, none⟩) (w.heap.size + 1) 0 1 [a] 1 _ (fun _ => rfl) X (by simp))
  rw [great_one a (by omega)] at G
  have facts : ∀ W, Blk W w.heap.size 35 a.cells → W.cell? ⟨w.heap.size, 1, none⟩ = some (.int .i64 a.cl) ∧ W.cell? ⟨w.heap.size, 2, none⟩ = some (.int .i64 a.seq) ∧ aggAt 4 W w.heap.size 3 = some a.op.cells ∧ aggAt 6 W w.heap.size 7 = some a.out.cells := fun W B =>
    ⟨by rw [B.cell]; rfl, by rw [B.cell]; rfl, B.agg 3 rfl (fun j hj => by match j, hj with | 0, _ => rfl | 1, _ => rfl | 2, _ => rfl | 3, _ => rfl), B.agg 7 rfl (fun j hj => by match j, hj with | 0, _ => rfl | 1, _ => rfl | 2, _ => rfl | 3, _ => rfl | 4, _ => rfl | 5, _ => rfl)⟩
  replace facts := hide facts
  have h13 : a.cells.size = 13 := rfl
  clear B1 B2 X
  generalize hA : a.cells = A at *
  replace hA := hide hA
  go_enter Try.func4, Try.ntmps4
  go_wp2_with fail
  rw [laid_all h13 rfl]
  refine G.out.mono ?_
  rintro e w1 ⟨rfl, rfl⟩
  clear G L1
  generalize (w.alloc (.cells A 35)).alloc (.cells A 35) = w1 at *
  by_cases hw : a.wide
  · go_wp2_with fail
    refine (told_any _).mono ?_
    rintro e w2 ⟨rfl, u2⟩
    replace u2 := hide (U2.out.trans u2 (by simp))
    go_wp2_with fail
    go_ret
    exact ⟨rfl, u2.out⟩
  · go_wp2_with fail
    go_loopw [3, 4] (fun c v wr => ∃ k : Nat, k ≤ 2 ∧ v = .int .i64 k ∧ NoHist wr c ∧ Blk wr w.heap.size 35 A ∧ Upd w wr []) (fun _ v _ => 2 - (intOf v).toNat)
    case atStart => exact ⟨0, by omega, rfl, .inl rfl, B1'.out, U2.out⟩
    case round =>
      clear B1' U2
      obtain ⟨k, hk, rfl, hc, hB, hu⟩ := hrel
      by_cases hlt : k < 2
      · have hki : (k : Int) < 2 := by omega
        obtain ⟨f1, f2, f3, f4⟩ := facts.out _ hB
        have P := hide (call_none _ a.cl a.seq a.op _ hc)
        replace hu := hide hu
        replace hc := hide hc
        replace hB := hide hB
        go_wp2_with fail
        refine P.out.mono ?_
        rintro e w2 ⟨rfl, v2⟩
        have hB2 := hide (v2.blk hB.out (by simp))
        obtain ⟨g1, g2, g3, g4⟩ := facts.out _ hB2.out
        have hc2 := hide (hc.out.upd v2)
        have U2 := hide (hu.out.trans v2 (by simp))
        have P2 := hide (end_none _ a.cl a.seq a.out _ hc2.out)
        clear P v2 hu f1 f2 f3 f4 hB g3
        go_wp2_with fail
        refine P2.out.mono ?_
        rintro e w3 ⟨rfl, v3⟩
        have hB3 := hide (v3.blk hB2.out (by simp))
        have hc3 := hide (hc2.out.upd v3)
        have U3 := hide (U2.out.trans v3 (by simp))
        have P3 := hide (records_none _ _ hc3.out)
        have P4 := hide (events_none _ _ hc3.out)
        clear P2 v3 U2 g1 g2 g4 hB2
        go_wp2_with fail
        refine P3.out.mono ?_
        rintro e w' ⟨rfl, rfl⟩
        go_wp2_with fail
        refine P4.out.mono ?_
        rintro e w' ⟨rfl, rfl⟩
        go_wp2_with fail
        go_roundw
        case rel => exact ⟨k + 1, by omega, by go_num, .inr ⟨_, rfl, Blk.new _ _ _⟩, hB3.out.alloc _, U3.out.alloc _⟩
        case measure => simp [intOf]; omega
      · obtain rfl : k = 2 := by omega
        replace hu := hide hu
        clear hc hB
        go_wp2_with fail
        refine (told_any _).mono ?_
        rintro e w6 ⟨rfl, u6⟩
        replace u6 := hide u6
        go_wp2_with fail
        go_ret
        exact ⟨rfl, hu.out.trans u6.out (by simp)⟩
end Go.Proofs.Ytfnddooclgklmaa
