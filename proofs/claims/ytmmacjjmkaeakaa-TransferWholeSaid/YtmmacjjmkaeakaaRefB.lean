/- The walks of the layer transfer: the document's receiver takes a piece: of a newer transfer. (Printed by gen28ref.py.) -/
import Derived.Test.YtmmacjjmkaeakaaRefW
namespace Go.Proofs.Ytmmacjjmkaeakaa
open Go.RowKit
set_option linter.unusedVariables false
set_option linter.unusedSimpArgs false
variable {base q : Nat} {v : Value} {id total : Int} {ps : List ByteArray}
set_option maxHeartbeats 8000000 in
theorem rtake_new (p : Pc) (w : World) (H : Rfv w base q v id total ps) (hb : base ≤ w.heap.size) (hn : ps.length ≤ 100000) (hf : fitsB id total p = true) (hid : id < p.id) :
    Calls Try.prog 11 #[.pointer (some ⟨q, 0, none⟩), .agg p.cells] w fun e w' => ∃ v', e = .returned (.tuple #[.int .i64 (takeId id total p), .int .i64 (takePs id total ps p).length]) ∧ Rfv w' base q v' (takeId id total p) (takeTotal id total p) (takePs id total ps p) ∧ Upd w w' [q] ∧ Fresh w v v' := by
  obtain ⟨i0, hi0, hz0, hz1, hz2⟩ := info_parts info9
  have U := hide ((Upd.refl w []).alloc (.cells p.cells 35))
  have H1 := H.upd0 U.out
  have rl := H.head.lt
  have B1 := hide (Blk.new w 35 p.cells)
  obtain ⟨ga, c, hv, hgn, _⟩ := H1.form
  subst hv
  replace hgn := hide hgn
  have a0 := H1.a0
  have a1 := H1.a1
  have a2 := H1.a2
  replace H1 := hide H1
  clear H
  generalize hpb : w.heap.size = pb at *
  have hpb2 : Hid (w.heap.size = pb) := Lib.hid hpb
  have x0 : (w.alloc (.cells p.cells 35)).cell? ⟨pb, 0, none⟩ = some (.int .i64 p.id) := by rw [B1.out.cell]; rfl
  have x1 : (w.alloc (.cells p.cells 35)).cell? ⟨pb, 1, none⟩ = some (.int .i64 p.at_) := by rw [B1.out.cell]; rfl
  have x2 : (w.alloc (.cells p.cells 35)).cell? ⟨pb, 2, none⟩ = some (.int .i64 p.total) := by rw [B1.out.cell]; rfl
  have x3 : (w.alloc (.cells p.cells 35)).cell? ⟨pb, 3, none⟩ = some (.string p.data) := by rw [B1.out.cell]; rfl
  have h0 : ¬ p.id < id := by simp [fitsB] at hf; omega
  have h1 : ¬ p.id < 1 := by simp [fitsB] at hf; omega
  have h2 : ¬ p.total < 1 := by simp [fitsB] at hf; omega
  have h3 : ¬ 4096 < p.total := by simp [fitsB] at hf; omega
  have h4 : ¬ p.at_ < 0 := by simp [fitsB] at hf; omega
  have h5 : ¬ p.total ≤ p.at_ := by simp [fitsB] at hf; omega
  have h6 : ¬ 512 < (p.data.size : Int) := by simp [fitsB] at hf; omega
  have h9 : ¬ (p.id = id ∧ p.total ≠ total) := by simp [fitsB] at hf; rintro ⟨h, g⟩; rcases hf.2 with k | k; exact k h; exact g k
  have h7 := h9
  have e := hf
  clear hf
  have b1 : (p.id == id) = false := beq_false_of_ne (by omega)
  have eId := hide (show takeId id total p = p.id by simp [takeId, e, hid])
  have eTot := hide (show takeTotal id total p = p.total by simp [takeTotal, e, hid])
  have eOld := hide (show takeOld id total ps p = [] by simp [takeOld, e, hid])
  have hf2 := hide e
  clear e
  replace h9 := hide h9
  replace h7 := hide h7
  have d7 : decide (id < p.id) = true := by simpa using hid
  replace hid := hide hid
  have d0 : decide (p.id < id) = false := by simpa using h0
  have d1 : decide (p.id < 1) = false := by simpa using h1
  have d2 : decide (p.total < 1) = false := by simpa using h2
  have d3 : decide (4096 < p.total) = false := by simpa using h3
  have d4 : decide (p.at_ < 0) = false := by simpa using h4
  have d5 : decide (p.total ≤ p.at_) = false := by simpa using h5
  have d6 : decide (512 < (p.data.size : Int)) = false := by simpa using h6
  clear h0 h1 h2 h3 h4 h5 h6
  go_enter Try.func11, Try.ntmps11
  go_wp2_with fail
  go_quiet (fail)
  generalize nq = nq1 at *
  go_wp2_with fail
  go_quiet (fail)
  have H2b := H1.out.upd0 (((Upd.refl _ []).drewN nq1).drewN nq)
  have B2b := hide ((B1.out.drewN nq1).drewN nq)
  have U2b := hide ((U.out.drewN nq1).drewN nq)
  clear H1 B1 U a0 a1 a2 x0 x1 x2 x3
  generalize ((w.alloc (.cells p.cells 35)).drewN nq1).drewN nq = wq at *
  have x0 : wq.cell? ⟨pb, 0, none⟩ = some (.int .i64 p.id) := by rw [B2b.out.cell]; rfl
  have x2 : wq.cell? ⟨pb, 2, none⟩ = some (.int .i64 p.total) := by rw [B2b.out.cell]; rfl
  have g0 := H2b.head.frozen 0
  have g1 := H2b.head.frozen 1
  have g2 := H2b.head.frozen 2
  have y0 := H2b.a0
  have y1 := H2b.a1
  have y2 := H2b.a2
  have H3 := hide (show Rfv (((wq.setCell ⟨q, 0, none⟩ (.int .i64 p.id)).setCell ⟨q, 1, none⟩ (.int .i64 p.total)).setCell ⟨q, 2, none⟩ (.slice none 0 0)) base q (.slice none 0 0) p.id p.total [] from
    ⟨H2b.ge, ((H2b.head.set_ 0 _).set_ 1 _).set_ 2 _, RowOf.nil _ _ _ _⟩)
  have k3 : Upd wq (((wq.setCell ⟨q, 0, none⟩ (.int .i64 p.id)).setCell ⟨q, 1, none⟩ (.int .i64 p.total)).setCell ⟨q, 2, none⟩ (.slice none 0 0)) [q] := (((Upd.refl wq [q]).setCell (p := ⟨q, 0, none⟩) (by simp) _).setCell (p := ⟨q, 1, none⟩) (by simp) _).setCell (p := ⟨q, 2, none⟩) (by simp) _
  have rp : q ≠ pb := H2b.head.ne_ B2b.out (by decide)
  have B3 := hide (k3.blk B2b.out (by simpa using rp.symm))
  have U3 := hide ((U2b.out.mono (S' := [q]) (by simp)).trans k3 (fun i hi _ => hi))
  clear H2b B2b U2b k3
  go_wp2_with fail
  generalize (((wq.setCell ⟨q, 0, none⟩ (.int .i64 p.id)).setCell ⟨q, 1, none⟩ (.int .i64 p.total)).setCell ⟨q, 2, none⟩ (.slice none 0 0)) = w3 at *
  clear y0 y1 y2 g0 g1 g2 x0 x2
  have hgn := hide (show (none : Option Addr) = none → ([] : List ByteArray).length = 0 ∧ 0 = 0 from fun _ => ⟨rfl, rfl⟩)
  have e1 : w3.cell? ⟨pb, 1, none⟩ = some (.int .i64 p.at_) := by rw [B3.out.cell]; rfl
  have e2 := H3.out.a2
  by_cases hat : p.at_ = (0 : Int)
  · skip
    have bq : (p.at_ == (0 : Int)) = true := by simp [hat]
    have ePs := hide (show takePs id total ps p = ([] : List ByteArray) ++ [p.data] by unfold takePs; rw [eOld.out, hf2.out]; exact if_pos ⟨rfl, by simpa using hat⟩)
    replace hat := hide hat
    go_quiet (fail)
    go_wp2_with fail
    have HH := hide (H3.out.upd0 ((Upd.refl _ []).drewN nq))
    have B4 := hide (B3.out.drewN nq)
    have UA := hide (U3.out.drewN nq)
    clear H3 B3 U3 e1 e2
    generalize w3.drewN nq = W1 at *
    have e3 := HH.out.a2
    have e4 : W1.cell? ⟨pb, 3, none⟩ = some (.string p.data) := by rw [B4.out.cell]; rfl
    have SS := hide (keepD ⟨e3, e4⟩)
    have hbW := hide (show base ≤ W1.heap.size from (by have := UA.out.size; have := hpb2.out; omega))
    have SRC := hide (fun (W : World) (u : Upd W1 W []) (ad : Addr) (h : none = some ad) => (HH.out.row.upd u (by simp)).src2 h)
    clear e3 e4 B4
    refine F_start 12 (fun w' => w'.cell? ⟨q, 2, none⟩ = some (.slice none ([] : List ByteArray).length 0) ∧ w'.cell? ⟨pb, 3, none⟩ = some (.string p.data)) (by kernel_rfl) ?_
    have hS := SS.out W1.drew (Upd.refl _ _).drew
    refine F_take (i := 0) [11, 10] (v := ?_) rfl (by kernel_rfl) (by kernel_rfl) (by kernel_rfl) (by kernel_rfl) (fun _ _ _ h => h) rfl ?_ hS ?_
    rotate_left
    · intro w hSw
      try dsimp only at hSw
      go_simp
      try with_reducible rfl
    try simp only [Act.put, List.setIfInBounds_toArray, List.set_cons_zero, List.set_cons_succ]
    refine F_take (i := 1) [9, 5, 4, 3, 2] (v := ?_) rfl (by kernel_rfl) (by kernel_rfl) (by kernel_rfl) (by kernel_rfl) (fun _ _ _ h => h) rfl ?_ hS ?_
    rotate_left
    · intro w hSw
      try dsimp only at hSw
      go_simp
      try with_reducible rfl
    try simp only [Act.put, List.setIfInBounds_toArray, List.set_cons_zero, List.set_cons_succ]
    refine F_take (i := 2) [9, 5, 4, 3] (v := ?_) rfl (by kernel_rfl) (by kernel_rfl) (by kernel_rfl) (by kernel_rfl) (fun _ _ _ h => h) rfl ?_ hS ?_
    rotate_left
    · intro w hSw
      try dsimp only at hSw
      go_simp
      try with_reducible rfl
    try simp only [Act.put, List.setIfInBounds_toArray, List.set_cons_zero, List.set_cons_succ]
    refine F_take (i := 3) [9, 5, 4] (v := ?_) rfl (by kernel_rfl) (by kernel_rfl) (by kernel_rfl) (by kernel_rfl) (fun _ _ _ h => h) rfl ?_ hS ?_
    rotate_left
    · intro w hSw
      try dsimp only at hSw
      go_simp
      try with_reducible rfl
    try simp only [Act.put, List.setIfInBounds_toArray, List.set_cons_zero, List.set_cons_succ]
    refine F_take (i := 4) [9, 5] (v := ?_) rfl (by kernel_rfl) (by kernel_rfl) (by kernel_rfl) (by kernel_rfl) (fun _ _ _ h => h) rfl ?_ hS ?_
    rotate_left
    · intro w hSw
      try dsimp only at hSw
      go_simp
      try with_reducible rfl
    try simp only [Act.put, List.setIfInBounds_toArray, List.set_cons_zero, List.set_cons_succ]
    refine F_take (i := 6) [9, 8, 7] (v := ?_) rfl (by kernel_rfl) (by kernel_rfl) (by kernel_rfl) (by kernel_rfl) (fun _ _ _ h => h) rfl ?_ hS ?_
    rotate_left
    · intro w hSw
      try dsimp only at hSw
      go_simp
      try with_reducible rfl
    try simp only [Act.put, List.setIfInBounds_toArray, List.set_cons_zero, List.set_cons_succ]
    refine F_take (i := 7) [9, 8] (v := ?_) rfl (by kernel_rfl) (by kernel_rfl) (by kernel_rfl) (by kernel_rfl) (fun _ _ _ h => h) rfl ?_ hS ?_
    rotate_left
    · intro w hSw
      try dsimp only at hSw
      go_simp
      try with_reducible rfl
    try simp only [Act.put, List.setIfInBounds_toArray, List.set_cons_zero, List.set_cons_succ]
    refine F_two (i := 5) (j := 8) rfl rfl (by kernel_rfl) (fun K hK => ?_) (fun K hK => ?_)
    · refine step_append_src rfl (.tmp 99) 27 rfl W1.heap.size 9 i0 (.string ⟨#[]⟩) 1 16 Try.underlying27 hi0 hz0 hz1 hz2 rfl (by decide) none ([] : List ByteArray).length 0 (flat (strCells ([] : List ByteArray))) (by simp [Act.eval]) (by rw [flat_length _ (str_size _), strCells_len]) (fun _ => ⟨rfl, rfl⟩) (SRC.out _ (Upd.refl _ _).drew) (str_one2 _) (by unfold maxLen; (try simp only [List.length_nil]); omega) (by (try simp only [List.length_nil]); omega) (Nat.le_refl _) ?_
      intro v1 w2 hown1 ua
      have ua : Upd W1 w2 [] := ⟨ua.os, ua.tape, ua.output, ua.size, ua.block⟩
      clear hS
      have hS := SS.out w2 ua
      have OW := hide (show (w2.alloc (.cells #[.string p.data] 9)).ownsRow W1.heap.size 9 1 v1 ([] : List ByteArray).length (flat (strCells ([] : List ByteArray))) from by
        have k := (RowOf.mk (str_size _) (str_one _) (by rw [strCells_len]; exact hown1) : RowOf w2 W1.heap.size 9 1 v1 (strCells ([] : List ByteArray))).upd ((Upd.refl w2 []).alloc (.cells #[.string p.data] 9)) (by simp)
        have k := k.own
        rwa [strCells_len] at k)
      replace ua := hide ua
      have hb2 := hide (show W1.heap.size ≤ (w2.alloc (.cells #[.string p.data] 9)).heap.size from (by have := ua.out.size; simp; omega))
      clear hown1
      refine hK.out _ _ (Or.inr hS) ?_
      clear hK K
      try simp only [Act.put, List.setIfInBounds_toArray, List.set_cons_zero, List.set_cons_succ]
      refine F_step (i := 8) rfl (by kernel_rfl) (fun K hK => ?_)
      go_simp
      clear hS
      have hS := SS.out _ (ua.out.alloc (.cells #[.string p.data] 9))
      refine hK.out _ _ (Or.inr hS) ?_
      clear hK K
      try simp only [Act.put, List.setIfInBounds_toArray, List.set_cons_zero, List.set_cons_succ]
      refine F_step (i := 9) rfl (by kernel_rfl) (fun K hK => ?_)
      refine step_append_fresh rfl (.tmp 100) (.tmp 103) 27 rfl W1.heap.size 9 i0 (.string ⟨#[]⟩) 1 16 Try.underlying27 hi0 hz0 hz1 hz2 rfl (by decide) v1 ([] : List ByteArray).length (flat (strCells ([] : List ByteArray))) (by simp [Act.eval]) OW.out ⟨w2.heap.size, 0, none⟩ 1 1 [.string p.data] (by simp [Act.eval]) rfl (news_at (R := #[.string p.data]) (Blk.new w2 9 _)) (by intro u hu; simp at hu; subst hu; rfl) (by unfold maxLen; (try simp only [List.length_nil]); omega) (by (try simp only [List.length_nil]); omega) hb2.out ?_
      intro v2 w3 hown hgr hnil
      have FR := hide (show Fresh w (.slice ga ps.length c) v2 from fun k hk => .inr (Nat.le_trans UA.out.size (hown.lt k (by simpa [blkOf] using hk)).1))
      obtain ⟨g3, c3, rfl⟩ := own_slice hown
      have k3 : Upd W1 w3 [] := Upd.own (ua.out.alloc _) (Nat.le_refl _) OW.out hgr
      obtain ⟨fz, fin⟩ := rtake_after HH.out hbW.out k3 hown
      clear hS
      have hS := SS.out _ k3
      replace fin := hide (show Rfv _ _ _ _ _ _ _ ∧ Upd w _ [q] from ⟨fin.1, UA.out.trans fin.2 (fun i h _ => h)⟩)
      replace k3 := hide k3
      clear hown hgr hnil OW hb2
      refine hK.out _ _ (Or.inr hS) ?_
      clear hK K
      try simp only [Act.put, List.setIfInBounds_toArray, List.set_cons_zero, List.set_cons_succ]
      refine F_take (i := 10) [11] (v := ?_) rfl (by kernel_rfl) (by kernel_rfl) (by kernel_rfl) (by kernel_rfl) (fun _ _ _ h => h) rfl ?_ hS ?_
      rotate_left
      · intro w hSw
        try dsimp only at hSw
        go_simp
        try with_reducible rfl
      try simp only [Act.put, List.setIfInBounds_toArray, List.set_cons_zero, List.set_cons_succ]
      refine F_take (i := 11) [] (v := ?_) rfl (by kernel_rfl) (by kernel_rfl) (by kernel_rfl) (by kernel_rfl) (fun _ _ _ h => h) rfl ?_ hS ?_
      rotate_left
      · intro w hSw
        try dsimp only at hSw
        go_simp
        try with_reducible rfl
      try simp only [Act.put, List.setIfInBounds_toArray, List.set_cons_zero, List.set_cons_succ]
      refine F_step (i := 12) rfl (by kernel_rfl) (fun K hK => ?_)
      have cz := hS.1
      have cy := hS.2
      go_simp
      refine hK.out _ _ (Or.inl rfl) ?_
      clear hK K
      try simp only [Act.put, List.setIfInBounds_toArray, List.set_cons_zero, List.set_cons_succ]
      refine F_done (by kernel_rfl) ?_ _
      have H7 := hide fin.out.1
      have U7 := hide fin.out.2
      clear fin hS cz fz
      go_wp2_with fail
      generalize hwz : World.setCell _ _ _ = wz at *
      clear hwz
      have z0 := H7.out.a0
      have z2 := H7.out.a2
      (try simp only [List.length_nil, Nat.zero_add] at z2 H7)
      go_quiet (fail)
      go_wp2_with fail
      go_ret2
      exact ⟨_, by rw [eId.out, ePs.out]; simp, by rw [eId.out, eTot.out, ePs.out]; exact H7.out.upd0 ((Upd.refl _ []).drewN _), U7.out.drewN _, FR.out⟩
    · go_simp
      have ub : Upd W1 ((W1.alloc (.cells #[.string p.data] 9)).drew) [] := ((Upd.refl W1 []).alloc _).drew
      clear hS
      have hS := SS.out _ ub
      have Bn := Blk.new W1 9 #[.string p.data]
      have hzb : W1.heap.size ≤ (W1.alloc (.cells #[.string p.data] 9)).drew.heap.size := by have := ub.size; omega
      refine hK.out _ _ (Or.inr hS) ?_
      clear hK K
      try simp only [Act.put, List.setIfInBounds_toArray, List.set_cons_zero, List.set_cons_succ]
      have Bn : Blk ((W1.alloc (.cells #[.string p.data] 9)).drew) W1.heap.size 9 #[.string p.data] := Bn
      generalize (W1.alloc (.cells #[.string p.data] 9)).drew = w5 at *
      refine F_step (i := 5) rfl (by kernel_rfl) (fun K hK => ?_)
      refine step_append_src rfl (.tmp 99) 27 rfl W1.heap.size 9 i0 (.string ⟨#[]⟩) 1 16 Try.underlying27 hi0 hz0 hz1 hz2 rfl (by decide) none ([] : List ByteArray).length 0 (flat (strCells ([] : List ByteArray))) (by simp [Act.eval]) (by rw [flat_length _ (str_size _), strCells_len]) (fun _ => ⟨rfl, rfl⟩) (SRC.out _ ub) (str_one2 _) (by unfold maxLen; (try simp only [List.length_nil]); omega) (by (try simp only [List.length_nil]); omega) hzb ?_
      intro v1 w2 hown1 ua
      have uc := hide (ub.trans ua (by simp))
      clear hS
      have hS := SS.out w2 uc.out
      have B2 := ua.blk Bn (by simp)
      have OW := hide hown1
      have hb2 := hide (show W1.heap.size ≤ w2.heap.size from (by have := uc.out.size; omega))
      clear hown1 ua
      refine hK.out _ _ (Or.inr hS) ?_
      clear hK K
      try simp only [Act.put, List.setIfInBounds_toArray, List.set_cons_zero, List.set_cons_succ]
      refine F_step (i := 9) rfl (by kernel_rfl) (fun K hK => ?_)
      refine step_append_fresh rfl (.tmp 100) (.tmp 103) 27 rfl W1.heap.size 9 i0 (.string ⟨#[]⟩) 1 16 Try.underlying27 hi0 hz0 hz1 hz2 rfl (by decide) v1 ([] : List ByteArray).length (flat (strCells ([] : List ByteArray))) (by simp [Act.eval]) OW.out ⟨W1.heap.size, 0, none⟩ 1 1 [.string p.data] (by simp [Act.eval]) rfl (news_at (R := #[.string p.data]) (B2)) (by intro u hu; simp at hu; subst hu; rfl) (by unfold maxLen; (try simp only [List.length_nil]); omega) (by (try simp only [List.length_nil]); omega) hb2.out ?_
      intro v2 w3 hown hgr hnil
      have FR := hide (show Fresh w (.slice ga ps.length c) v2 from fun k hk => .inr (Nat.le_trans UA.out.size (hown.lt k (by simpa [blkOf] using hk)).1))
      obtain ⟨g3, c3, rfl⟩ := own_slice hown
      have k3 : Upd W1 w3 [] := Upd.own (uc.out) (Nat.le_refl _) OW.out hgr
      obtain ⟨fz, fin⟩ := rtake_after HH.out hbW.out k3 hown
      clear hS
      have hS := SS.out _ k3
      replace fin := hide (show Rfv _ _ _ _ _ _ _ ∧ Upd w _ [q] from ⟨fin.1, UA.out.trans fin.2 (fun i h _ => h)⟩)
      replace k3 := hide k3
      clear hown hgr hnil OW hb2
      refine hK.out _ _ (Or.inr hS) ?_
      clear hK K
      try simp only [Act.put, List.setIfInBounds_toArray, List.set_cons_zero, List.set_cons_succ]
      refine F_take (i := 10) [11] (v := ?_) rfl (by kernel_rfl) (by kernel_rfl) (by kernel_rfl) (by kernel_rfl) (fun _ _ _ h => h) rfl ?_ hS ?_
      rotate_left
      · intro w hSw
        try dsimp only at hSw
        go_simp
        try with_reducible rfl
      try simp only [Act.put, List.setIfInBounds_toArray, List.set_cons_zero, List.set_cons_succ]
      refine F_take (i := 11) [] (v := ?_) rfl (by kernel_rfl) (by kernel_rfl) (by kernel_rfl) (by kernel_rfl) (fun _ _ _ h => h) rfl ?_ hS ?_
      rotate_left
      · intro w hSw
        try dsimp only at hSw
        go_simp
        try with_reducible rfl
      try simp only [Act.put, List.setIfInBounds_toArray, List.set_cons_zero, List.set_cons_succ]
      refine F_step (i := 12) rfl (by kernel_rfl) (fun K hK => ?_)
      have cz := hS.1
      have cy := hS.2
      go_simp
      refine hK.out _ _ (Or.inl rfl) ?_
      clear hK K
      try simp only [Act.put, List.setIfInBounds_toArray, List.set_cons_zero, List.set_cons_succ]
      refine F_done (by kernel_rfl) ?_ _
      have H7 := hide fin.out.1
      have U7 := hide fin.out.2
      clear fin hS cz fz
      go_wp2_with fail
      generalize hwz : World.setCell _ _ _ = wz at *
      clear hwz
      have z0 := H7.out.a0
      have z2 := H7.out.a2
      (try simp only [List.length_nil, Nat.zero_add] at z2 H7)
      go_quiet (fail)
      go_wp2_with fail
      go_ret2
      exact ⟨_, by rw [eId.out, ePs.out]; simp, by rw [eId.out, eTot.out, ePs.out]; exact H7.out.upd0 ((Upd.refl _ []).drewN _), U7.out.drewN _, FR.out⟩
  · skip
    have bq : (p.at_ == (0 : Int)) = false := beq_false_of_ne hat
    have ePs := hide (show takePs id total ps p = ([] : List ByteArray) by unfold takePs; rw [eOld.out, hf2.out]; exact if_neg (fun h => hat (by simpa using h.2)))
    replace hat := hide hat
    go_quiet (fail)
    go_wp2_with fail
    have z0 := H3.out.a0
    go_quiet (fail)
    go_wp2_with fail
    go_ret2
    exact ⟨_, by rw [eId.out, ePs.out]; rfl, by rw [eId.out, eTot.out, ePs.out]; exact H3.out.upd0 (((Upd.refl _ []).drewN _).drewN _), (U3.out.drewN _).drewN _, Fresh.zero _ _⟩
end Go.Proofs.Ytmmacjjmkaeakaa
