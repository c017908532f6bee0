/- The chapter's calls. -/
import Derived.Test.YtfnddooclgklmaaSpec
import Derived.Deep.CutRange
namespace Go.Proofs.Ytfnddooclgklmaa
open Go.RowKit
set_option linter.unusedVariables false
attribute [-go_sem] loadVar storeVar
attribute [local go_sem] loadVar_else storeVar_else run_load29 run_load33 run_load35 run_load48 run_load49 run_load61 run_store29 run_store33 run_store35 run_store48 run_store49 aggAt_drew aggAt_drewN aggRoom_drew aggRoom_drewN
variable {base h : Nat} {v : Value} {rs : List Rec} {ev : Nat}
theorem Hist.step {W w w' : World} (H : Hist w base h v rs ev) (U : Upd W w []) (hb : W.heap.size ≤ base) (u : Upd w w' (h :: blkOf v)) : Upd W w' [] := by
  refine U.trans u fun i hi hl => ?_
  exfalso
  have := H.ge
  rcases List.mem_cons.1 hi with rfl | hi
  · omega
  · rcases H.slice with ⟨rfl, _⟩ | ⟨g, cap, rfl, hg, _, _⟩
    · simp [blkOf, Value.ownBlock] at hi
    · simp [blkOf, Value.ownBlock] at hi; omega
theorem Hist.far {w : World} (H : Hist w base h v rs ev) {b t : Nat} {cs : Array Value} (B : Blk w b t cs) (h1 : t ≠ 53) (h2 : t ≠ 49) : b ∉ h :: blkOf v := by
  intro hi
  rcases List.mem_cons.1 hi with rfl | hi
  · exact B.ne_ H.head h1 rfl
  · rcases H.row.slice with ⟨rfl, _⟩ | ⟨g, cap, rfl, _, _, cur, hg, _⟩
    · simp [blkOf, Value.ownBlock] at hi
    · simp [blkOf, Value.ownBlock] at hi
      subst hi
      exact B.ne_ hg h2 rfl
def oK : Op4 := ⟨3, ⟨#[107]⟩, ⟨#[]⟩, 0⟩
def o1 : Out6 := ⟨1, 0, 0, ⟨#[]⟩, 0, 0⟩
def R1 : List Rec := [newRec 0 1 oK 0]
def R2 : List Rec := [newRec 0 1 oK 0, newRec 1 1 oK 1]
def R4 : List Rec := [endRec (newRec 0 1 oK 0) 2 o1, newRec 1 1 oK 1]
theorem ck : chk oK = 0 := by decide
theorem t1 (w : World) (H : Hist w base h v [] 0) (hb : base ≤ w.heap.size) : Calls Try.prog 12 #[.pointer (some ⟨h, 0, none⟩), .int .i64 0, .int .i64 1, .agg oK.cells] w fun e w' => ∃ v', e = .returned (.int .i64 0) ∧ Hist w' base h v' R1 1 ∧ Upd w w' (h :: blkOf v) := by
  have e : callE [] 0 1 oK = 0 := by decide
  have := call_all 0 1 oK w H hb (by simp) (by omega)
  unfold callR callN at this
  rwa [e, if_pos rfl, if_pos rfl] at this
theorem t2 (w : World) (H : Hist w base h v R1 1) (hb : base ≤ w.heap.size) : Calls Try.prog 12 #[.pointer (some ⟨h, 0, none⟩), .int .i64 1, .int .i64 1, .agg oK.cells] w fun e w' => ∃ v', e = .returned (.int .i64 0) ∧ Hist w' base h v' R2 2 ∧ Upd w w' (h :: blkOf v) := by
  have e : callE R1 1 1 oK = 0 := by decide
  have := call_all 1 1 oK w H hb (by simp [R1]) (by omega)
  unfold callR callN at this
  rwa [e, if_pos rfl, if_pos rfl] at this
theorem t3 (w : World) (H : Hist w base h v R2 2) (hb : base ≤ w.heap.size) : Calls Try.prog 12 #[.pointer (some ⟨h, 0, none⟩), .int .i64 0, .int .i64 2, .agg oK.cells] w fun e w' => ∃ v', e = .returned (.int .i64 63) ∧ Hist w' base h v' R2 2 ∧ Upd w w' (h :: blkOf v) := by
  have e : callE R2 0 2 oK = 63 := by decide
  have := call_all 0 2 oK w H hb (by simp [R2]) (by omega)
  unfold callR callN at this
  rwa [e, if_neg (by decide), if_neg (by decide)] at this
theorem t4 (w : World) (H : Hist w base h v R2 2) : Calls Try.prog 10 #[.pointer (some ⟨h, 0, none⟩), .int .i64 0, .int .i64 1, .agg o1.cells] w fun e w' => ∃ v', e = .returned (.int .i64 0) ∧ Hist w' base h v' R4 3 ∧ Upd w w' (h :: blkOf v) := by
  have e : endE R2 0 1 o1 = 0 := by decide
  have := end_all 0 1 o1 w H (by omega)
  unfold endR endN at this
  rwa [e, if_pos rfl, if_pos rfl] at this
theorem t5 (w : World) (H : Hist w base h v R4 3) : Calls Try.prog 10 #[.pointer (some ⟨h, 0, none⟩), .int .i64 0, .int .i64 1, .agg o1.cells] w fun e w' => ∃ v', e = .returned (.int .i64 4) ∧ Hist w' base h v' R4 3 ∧ Upd w w' (h :: blkOf v) := by
  have e : endE R4 0 1 o1 = 4 := by decide
  have := end_all 0 1 o1 w H (by omega)
  unfold endR endN at this
  rwa [e, if_neg (by decide), if_neg (by decide)] at this
set_option maxHeartbeats 4000000 in
theorem told_any (w : World) : Calls Try.prog 8 #[] w fun e w' => e = .returned (.bool true) ∧ Upd w w' [] := by
  have N := hide (new_ok w)
  go_enter Try.func8, Try.ntmps8
  go_wp2_with fail
  refine N.out.mono ?_
  rintro e w1 ⟨rfl, H, u⟩
  have hu := u.size
  have b0 := (Blk.new w1 29 #[.int .i64 0, .string ⟨#[]⟩, .string ⟨#[]⟩, .int .i64 0])
  have r0 : aggRoom 4 (w1.alloc (.cells #[.int .i64 0, .string ⟨#[]⟩, .string ⟨#[]⟩, .int .i64 0] 29)) w1.heap.size 0 #[.int .i64 3, .string ⟨#[107]⟩, .string ⟨#[]⟩, .int .i64 0] = true := b0.aggRoom 0 (by decide) rfl (by simp [Value.oneCell'])
  have b1 : Blk ((w1.alloc (.cells #[.int .i64 0, .string ⟨#[]⟩, .string ⟨#[]⟩, .int .i64 0] 29)).setCells w1.heap.size 0 [.int .i64 3, .string ⟨#[107]⟩, .string ⟨#[]⟩, .int .i64 0]) w1.heap.size 29 oK.cells := b0.laid (cs' := oK.cells) rfl
  have u1 := (Upd.setCells (b := w1.heap.size) (by simp; omega) [.int .i64 3, .string ⟨#[107]⟩, .string ⟨#[]⟩, .int .i64 0] 0 (u.alloc (.cells #[.int .i64 0, .string ⟨#[]⟩, .string ⟨#[]⟩, .int .i64 0] 29)))
  have H1 := (H.upd0 (Upd.setCells (b := w1.heap.size) (by simp) [.int .i64 3, .string ⟨#[107]⟩, .string ⟨#[]⟩, .int .i64 0] 0 ((Upd.refl w1 []).alloc (.cells #[.int .i64 0, .string ⟨#[]⟩, .string ⟨#[]⟩, .int .i64 0] 29))))
  clear N b0 u H
  generalize hW : (w1.alloc (.cells #[.int .i64 0, .string ⟨#[]⟩, .string ⟨#[]⟩, .int .i64 0] 29)).setCells w1.heap.size 0 [.int .i64 3, .string ⟨#[107]⟩, .string ⟨#[]⟩, .int .i64 0] = W at *
  replace b1 := hide b1
  replace u1 := hide u1
  replace H1 := hide H1
  replace hW := hide hW
  go_wp2_with fail
  rw [hW.out]
  clear hW r0
  have hz := u1.out.size
  have a1 : aggAt 4 W w1.heap.size 0 = some oK.cells := b1.out.agg0 rfl
  have hH1 := hide (H1.out.upd0 ((Upd.refl _ []).drewN 1))
  have b1 := hide (b1.out.drewN 1)
  have u1 := hide (u1.out.drewN 1)
  have hC1 := hide (t1 (W.drewN 1) hH1.out (by show w.heap.size ≤ W.heap.size; omega))
  clear H1
  go_cut [3, 4, 5] from 11 to 19 (fun sa sb sc wx => sa = .int .i64 0 ∧ sb = .int .i64 0 ∧ sc = .int .i64 63 ∧ (∃ v4, Hist wx w.heap.size w.heap.size v4 R2 2) ∧ Upd w wx [])
  case first =>
    go_region_with (first
      | (go_at_call 12; refine (hC3.out).mono ?_; rintro e w4 ⟨v4, rfl, hH4, k4⟩; have b4 := k4.blk b3.out (hH3.out.far b3.out (by decide) (by decide)); have a4 : aggAt 4 w4 w1.heap.size 0 = some oK.cells := b4.agg0 rfl; have u4 := hH3.out.step u3.out (Nat.le_refl _) k4; have z4 := u4.size; replace b4 := hide b4; replace u4 := hide u4; replace hH4 := hide hH4; clear k4 hC3)
      | (go_at_call 12; refine (hC2.out).mono ?_; rintro e w3 ⟨v3, rfl, hH3, k3⟩; have b3 := k3.blk b2.out (hH2.out.far b2.out (by decide) (by decide)); have a3 : aggAt 4 w3 w1.heap.size 0 = some oK.cells := b3.agg0 rfl; have u3 := hH2.out.step u2.out (Nat.le_refl _) k3; have z3 := u3.size; have hC3 := hide (t3 w3 hH3 (by omega)); replace b3 := hide b3; replace u3 := hide u3; replace hH3 := hide hH3; clear k3 hC2)
      | (go_at_call 12; refine (hC1.out).mono ?_; rintro e w2 ⟨v2, rfl, hH2, k2⟩; have b2 := k2.blk b1.out (hH1.out.far b1.out (by decide) (by decide)); have a2 : aggAt 4 w2 w1.heap.size 0 = some oK.cells := b2.agg0 rfl; have u2 := hH1.out.step u1.out (Nat.le_refl _) k2; have z2 := u2.size; have hC2 := hide (t2 w2 hH2 (by omega)); replace b2 := hide b2; replace u2 := hide u2; replace hH2 := hide hH2; clear k2 hC1))
    all_goals
      go_wp2_with fail
      go_simp
      go_meet
      exact ⟨rfl, rfl, rfl, ⟨_, hH4.out⟩, u4.out⟩
  case rest =>
    clear hC1 a1 b1 u1 hH1
    obtain ⟨rfl, rfl, rfl, ⟨v4, H4⟩, u4⟩ := hcut
    obtain ⟨w4, rfl⟩ : ∃ w4 : World, w4 = wc := ⟨_, rfl⟩
    have C4 := hide (t4 _ H4)
    replace H4 := hide H4
    replace u4 := hide u4
    go_wp2_with fail
    refine C4.out.mono ?_
    rintro e w5 ⟨v5, rfl, H5, k5⟩
    have C5 := hide (t5 _ H5)
    have u5 := hide (H4.out.step u4.out (Nat.le_refl _) k5)
    replace H5 := hide H5
    clear C4 k5 H4 u4
    go_wp2_with fail
    refine C5.out.mono ?_
    rintro e w6 ⟨v6, rfl, H6, k6⟩
    have u6 := hide (H5.out.step u5.out (Nat.le_refl _) k6)
    have C6 := hide (records_ok _ H6 (by simp [R4]))
    replace H6 := hide H6
    clear C5 k6 H5 u5
    go_wp2_with fail
    refine C6.out.mono ?_
    rintro e w7 ⟨v7, rfl, R7, k7⟩
    have C7 := hide (events_ok _ (H6.out.upd0 k7))
    have u7 := hide (u6.out.trans k7 (by simp))
    rcases R7.slice with ⟨_, h2⟩ | ⟨g, cap, rfl, _, _, _⟩
    · simp [recCells, R4] at h2
    have q0 := R7.agg 0 (by simp [recCells, R4])
    have q1 := R7.agg 1 (by simp [recCells, R4])
    have f1 := aggAt_cell q0 6 (by decide)
    have f2 := aggAt_cell q0 7 (by decide)
    have f3 := aggAt_cell q1 6 (by decide)
    have f4 := aggAt_cell q1 7 (by decide)
    simp [recCells, R4, endRec, newRec] at f1 f2 f3 f4
    rw [show (recCells R4).length = 2 from rfl]
    clear C6 k7 H6 u6 R7 q0 q1
    go_wp2_with fail
    refine C7.out.mono ?_
    rintro e w' ⟨rfl, rfl⟩
    go_wp2_with fail
    go_ret
    exact ⟨rfl, u7.out⟩
end Go.Proofs.Ytfnddooclgklmaa
