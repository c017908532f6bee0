/- The walks of the layer transfer: Take. (Printed by gen28take.py.) -/
import Derived.Test.YtmmacjjmkaeakaaFits
import Derived.Test.YtmmacjjmkaeakaaFresh
import Derived.Test.YtmmacjjmkaeakaaRegF
import Derived.Deep.CutRange
import Derived.Lib.Hide
namespace Go.Proofs.Ytmmacjjmkaeakaa
open Go.RowKit
set_option linter.unusedVariables false
variable {base r : Nat} {v : Value} {id total : Int} {ps : List ByteArray}
def NoRcv (w : World) (v : Value) : Prop := v = .pointer none ∨ ∃ r, v = .pointer (some ⟨r, 0, none⟩) ∧ Blk w r 66 #[.bool false, .int .i64 0, .int .i64 0, .slice none 0 0]
theorem NoRcv.upd {w w' : World} {v : Value} (h : NoRcv w v) (u : Upd w w' []) : NoRcv w' v := by
  rcases h with h | ⟨r, h, hb⟩
  · exact .inl h
  · exact .inr ⟨r, h, u.blk hb (by simp)⟩
theorem take_none (v : Value) (p : Pc) (w : World) (h : NoRcv w v) : Calls Try.prog 10 #[v, .agg p.cells] w fun e w' => e = .returned (.tuple #[.int .i64 0, .int .i64 0]) ∧ Upd w w' [] := by
  have U := hide ((Upd.refl w []).alloc (.cells p.cells 31))
  have h1 := h.upd U.out
  clear h
  rcases h1 with rfl | ⟨r, rfl, hb⟩
  · go_enter Try.func10, Try.ntmps10
    go_wp2_with fail
    go_ret2
    exact ⟨rfl, U.out⟩
  · have a0 : (w.alloc (.cells p.cells 31)).cell? ⟨r, 0, none⟩ = some (.bool false) := by rw [hb.cell]; rfl
    clear hb
    go_enter Try.func10, Try.ntmps10
    go_wp2_with fail
    go_ret2
    exact ⟨rfl, U.out⟩
/-- what a receiver has, behind a piece -/
def takeId (id total : Int) (p : Pc) : Int := if fitsB id total p = true ∧ id < p.id then p.id else id
def takeTotal (id total : Int) (p : Pc) : Int := if fitsB id total p = true ∧ id < p.id then p.total else total
def takeOld (id total : Int) (ps : List ByteArray) (p : Pc) : List ByteArray := if fitsB id total p = true ∧ id < p.id then [] else ps
def takePs (id total : Int) (ps : List ByteArray) (p : Pc) : List ByteArray := if fitsB id total p = true ∧ p.at_ = (takeOld id total ps p).length then takeOld id total ps p ++ [p.data] else takeOld id total ps p
/-- the receiver's block and, if any, the row of its pieces have turned -/
structure RTook (W w' : World) (base r : Nat) (id total : Int) (ps : List ByteArray) (S : List Nat) : Prop where
  rcv : ∃ v', Rcv w' base r v' id total ps
  upd : Upd W w' S
theorem str_push {w2 : World} {base : Nat} {v2 : Value} {ps : List ByteArray} {s : ByteArray} (hs : ∀ G ∈ strCells ps, G.size = 1) (ho : ∀ G ∈ strCells ps, ∀ u ∈ G, u.oneCell' = true)
    (hown : w2.ownsRow base 9 1 v2 (ps.length + 1) (flat (strCells ps) ++ [.string s])) : RowOf w2 base 9 1 v2 (strCells (ps ++ [s])) := by
  have := RowOf.push (F := #[.string s]) hs ho rfl (by intro u hu; simp at hu; subst hu; rfl) (by rw [strCells_len]; exact hown)
  simpa [strCells] using this
theorem keepR {W : World} {r pb : Nat} {v : Value} {s : ByteArray} (h : W.cell? ⟨r, 3, none⟩ = some v ∧ W.cell? ⟨pb, 3, none⟩ = some (.string s)) :
    ∀ S w', Upd W w' S → r ∉ S → pb ∉ S → w'.cell? ⟨r, 3, none⟩ = some v ∧ w'.cell? ⟨pb, 3, none⟩ = some (.string s) := fun S w' u h1 h2 =>
  ⟨cell_upd h.1 u h1, cell_upd h.2 u h2⟩
/-- what is there behind the append of a piece -/
theorem take_after {W w2 w3 : World} {s : ByteArray} {v2 : Value} (H : Rcv W base r v id total ps) (k2 : Upd W w2 [])
    (hown : w3.ownsRow base 9 1 v2 (ps.length + 1) (flat (strCells ps) ++ [.string s])) (hgr : w2.grownBy w3 v.ownBlock) :
    Upd W w3 (blkOf v) ∧ w3.frozen? ⟨r, 3, none⟩ = false ∧ (Rcv (w3.setCell ⟨r, 3, none⟩ v2) base r v2 id total (ps ++ [s]) ∧ Upd W (w3.setCell ⟨r, 3, none⟩ v2) (r :: blkOf v)) := by
  have k3 : Upd W w3 (blkOf v) := (k2.mono (S' := blkOf v) (by simp)).trans (Upd.of_grown (S := blkOf v) hgr (by intro k hk _; simp [blkOf, hk])) (fun i h _ => h)
  have sep := H.row.ne H.head (by decide)
  have hd3 := k3.blk H.head (fun h => sep r h (by simp))
  have R3 := str_push H.row.sizes H.row.ones hown
  exact ⟨k3, hd3.frozen 3, ⟨H.ge, (hd3.set_ 3 v2).congr (by simp), R3.upd ((Upd.refl _ [r]).setCell (p := ⟨r, 3, none⟩) (by simp) _) (R3.ne hd3 (by decide))⟩, (k3.mono (S' := r :: blkOf v) (by intro i hi _; exact List.mem_cons_of_mem _ hi)).setCell (by simp) _⟩
set_option maxHeartbeats 4000000 in
theorem take_ok (p : Pc) (w : World) (H : Rcv w base r v id total ps) (hb : base ≤ w.heap.size) (hn : ps.length ≤ 100000) :
    Calls Try.prog 10 #[.pointer (some ⟨r, 0, none⟩), .agg p.cells] w fun e w' => ∃ v', e = .returned (.tuple #[.int .i64 (takeId id total p), .int .i64 (takePs id total ps p).length]) ∧ Rcv w' base r v' (takeId id total p) (takeTotal id total p) (takePs id total ps p) ∧ Upd w w' (r :: blkOf v) ∧ Fresh w v v' := by
  obtain ⟨i0, hi0, hz0, hz1, hz2⟩ := info_parts info9
  have U := hide ((Upd.refl w []).alloc (.cells p.cells 31))
  have H1 := H.upd0 U.out
  have rl := H.head.lt
  have B1 := hide (Blk.new w 31 p.cells)
  have a0 := H1.a0
  have FT := hide (fits_ok r id total p _ H1.a1 H1.a2)
  replace H1 := hide H1
  clear H
  go_enter Try.func10, Try.ntmps10
  go_wp2_with fail
  refine FT.out.mono ?_
  rintro e w1 ⟨rfl, u1⟩
  have H2 := H1.out.upd0 u1
  have B2 := hide (u1.blk B1.out (by simp))
  have U2 := hide (U.out.trans u1 (by simp))
  replace H2 := hide H2
  clear FT u1 H1 U B1 a0
  generalize hpb : w.heap.size = pb at *
  have hpb2 : Hid (w.heap.size = pb) := Lib.hid hpb
  clear hpb
  cases hf : fitsB id total p with
  | false =>
    have eId := hide (show takeId id total p = id by simp [takeId, hf])
    have eTot := hide (show takeTotal id total p = total by simp [takeTotal, hf])
    have ePs := hide (show takePs id total ps p = ps by simp [takePs, takeOld, hf])
    replace hf := hide hf
    go_wp2_with fail
    have H7 := H2
    have z1 := H7.out.a1
    have z3 := H7.out.a3
    obtain ⟨gz, cz, rfl, _⟩ := H7.out.form
    go_quiet (fail)
    go_wp2_with fail
    go_ret2
    exact ⟨_, by rw [eId.out, ePs.out]; rfl, by rw [eId.out, eTot.out, ePs.out]; exact H7.out.upd0 ((Upd.refl _ []).drewN _), (U2.out.mono (S' := _) (by simp)).drewN _, Fresh.refl _ _⟩
  | true =>
    have e1 := H2.out.a1
    have x0 : w1.cell? ⟨pb, 0, none⟩ = some (.int .i64 p.id) := by rw [B2.out.cell]; rfl
    have x2 : w1.cell? ⟨pb, 2, none⟩ = some (.int .i64 p.total) := by rw [B2.out.cell]; rfl
    by_cases hid : id < p.id
    · have eId := hide (show takeId id total p = p.id by simp [takeId, hf, hid])
      have eTot := hide (show takeTotal id total p = p.total by simp [takeTotal, hf, hid])
      have eOld := hide (show takeOld id total ps p = [] by simp [takeOld, hf, hid])
      have hf2 := hide hf
      clear hf
      go_wp2_with fail
      go_quiet (fail)
      have H2b := H2.out.upd0 ((Upd.refl _ []).drewN nq)
      have B2b := hide (B2.out.drewN nq)
      have U2b := hide (U2.out.drewN nq)
      clear H2 B2 U2 e1 x0 x2
      generalize w1.drewN nq = wq at *
      have x0 : wq.cell? ⟨pb, 0, none⟩ = some (.int .i64 p.id) := by rw [B2b.out.cell]; rfl
      have x2 : wq.cell? ⟨pb, 2, none⟩ = some (.int .i64 p.total) := by rw [B2b.out.cell]; rfl
      have y1 := H2b.a1
      have y2 := H2b.a2
      have y3 := H2b.a3
      have g1 := H2b.head.frozen 1
      have g2 := H2b.head.frozen 2
      have g3 := H2b.head.frozen 3
      have H3 := hide (show Rcv (((wq.setCell ⟨r, 1, none⟩ (.int .i64 p.id)).setCell ⟨r, 2, none⟩ (.int .i64 p.total)).setCell ⟨r, 3, none⟩ (.slice none 0 0)).drew base r (.slice none 0 0) p.id p.total [] from
        ⟨H2b.ge, ((H2b.head.set_ 1 _).set_ 2 _).set_ 3 _, RowOf.nil _ _ _ _⟩)
      have k3 : Upd wq (((wq.setCell ⟨r, 1, none⟩ (.int .i64 p.id)).setCell ⟨r, 2, none⟩ (.int .i64 p.total)).setCell ⟨r, 3, none⟩ (.slice none 0 0)).drew [r] := ((((Upd.refl wq [r]).setCell (p := ⟨r, 1, none⟩) (by simp) _).setCell (p := ⟨r, 2, none⟩) (by simp) _).setCell (p := ⟨r, 3, none⟩) (by simp) _).drew
      have rp : r ≠ pb := H2b.head.ne_ B2b.out (by decide)
      have B3 := hide (k3.blk B2b.out (by simpa using rp.symm))
      have U3 : Hid (Upd w _ (r :: blkOf v)) := Lib.hid ((U2b.out.mono (S' := r :: blkOf v) (by simp)).trans k3 (fun i hi _ => by simp at hi; simp [hi]))
      clear H2b B2b U2b k3
      go_wp2_with fail
      go_region
      generalize (((wq.setCell ⟨r, 1, none⟩ (.int .i64 p.id)).setCell ⟨r, 2, none⟩ (.int .i64 p.total)).setCell ⟨r, 3, none⟩ (.slice none 0 0)).drew = w3 at *
      clear y1 y2 y3 g1 g2 g3 x0 x2
      have SUB := hide (show ∀ (i : Nat), i ∈ r :: blkOf (.slice none 0 0) → i < w.heap.size → i ∈ r :: blkOf v from fun i hi hl => by simp [blkOf, Value.ownBlock] at hi; simp [hi])
      have e1 : w3.cell? ⟨pb, 1, none⟩ = some (.int .i64 p.at_) := by rw [B3.out.cell]; rfl
      have e2 := H3.out.a3
      go_wp2_with fail
      by_cases hat : p.at_ = (0 : Int)
      · skip
        have bq : (p.at_ == (0 : Int)) = true := by simp [hat]
        have ePs := hide (show takePs id total ps p = ([] : List ByteArray) ++ [p.data] by unfold takePs; rw [eOld.out, hf2.out]; exact if_pos ⟨rfl, by simpa using hat⟩)
        replace hat := hide hat
        go_quiet (fail)
        go_wp2_with fail
        have H4 := hide (H3.out.upd0 ((Upd.refl _ []).drewN nq))
        have B4 := hide (B3.out.drewN nq)
        have U4 := hide (U3.out.drewN nq)
        clear H3 B3 U3 e1 e2
        generalize w3.drewN nq = w4 at *
        have e3 := H4.out.a3
        have e4 : w4.cell? ⟨pb, 3, none⟩ = some (.string p.data) := by rw [B4.out.cell]; rfl
        have SS := hide (keepR ⟨e3, e4⟩)
        have rp : r ≠ pb := H4.out.head.ne_ B4.out (by decide)
        have nm1 := hide (show r ∉ blkOf (.slice none 0 0) from fun h => H4.out.row.ne H4.out.head (by decide) r h (by simp))
        have nm2 := hide (show pb ∉ blkOf (.slice none 0 0) from fun h => H4.out.row.ne B4.out (by decide) pb h (by simp))
        have OW := (H4.out.row.upd ((Upd.refl w4 []).drew.alloc (.cells #[.string p.data] 9)) (by simp)).own
        rw [strCells_len] at OW
        replace OW := hide OW
        have hszw := hide (show w.heap.size ≤ (w4.drew.alloc (.cells #[.string p.data] 9)).heap.size from (by have := U4.out.size; have := ((Upd.refl w4 []).drew.alloc (.cells #[.string p.data] 9)).size; omega))
        have hbs := hide (show base ≤ (w4.drew.alloc (.cells #[.string p.data] 9)).heap.size from (by have := hpb2.out; have := U4.out.size; have := ((Upd.refl w4 []).drew.alloc (.cells #[.string p.data] 9)).size; omega))
        refine F_start 11 (fun w' => w'.cell? ⟨r, 3, none⟩ = some ((.slice none 0 0)) ∧ w'.cell? ⟨pb, 3, none⟩ = some (.string p.data)) (by kernel_rfl) ?_
        have hS := SS.out [] w4.drew ((Upd.refl _ _).drew) (by simp) (by simp)
        refine F_take (i := 0) [10, 9] (v := ?_) rfl (by kernel_rfl) (by kernel_rfl) (by kernel_rfl) (by kernel_rfl) (fun _ _ _ h => h) rfl ?_ hS ?_
        rotate_left
        · intro w hSw
          try dsimp only at hSw
          go_simp
          try with_reducible rfl
        try simp only [Act.put, List.setIfInBounds_toArray, List.set_cons_zero, List.set_cons_succ]
        refine F_take (i := 1) [8, 4, 3, 2] (v := ?_) rfl (by kernel_rfl) (by kernel_rfl) (by kernel_rfl) (by kernel_rfl) (fun _ _ _ h => h) rfl ?_ hS ?_
        rotate_left
        · intro w hSw
          try dsimp only at hSw
          go_simp
          try with_reducible rfl
        try simp only [Act.put, List.setIfInBounds_toArray, List.set_cons_zero, List.set_cons_succ]
        refine F_take (i := 2) [8, 4, 3] (v := ?_) rfl (by kernel_rfl) (by kernel_rfl) (by kernel_rfl) (by kernel_rfl) (fun _ _ _ h => h) rfl ?_ hS ?_
        rotate_left
        · intro w hSw
          try dsimp only at hSw
          go_simp
          try with_reducible rfl
        try simp only [Act.put, List.setIfInBounds_toArray, List.set_cons_zero, List.set_cons_succ]
        refine F_take (i := 3) [8, 4] (v := ?_) rfl (by kernel_rfl) (by kernel_rfl) (by kernel_rfl) (by kernel_rfl) (fun _ _ _ h => h) rfl ?_ hS ?_
        rotate_left
        · intro w hSw
          try dsimp only at hSw
          go_simp
          try with_reducible rfl
        try simp only [Act.put, List.setIfInBounds_toArray, List.set_cons_zero, List.set_cons_succ]
        refine F_take (i := 4) [8] (v := ?_) rfl (by kernel_rfl) (by kernel_rfl) (by kernel_rfl) (by kernel_rfl) (fun _ _ _ h => h) rfl ?_ hS ?_
        rotate_left
        · intro w hSw
          try dsimp only at hSw
          go_simp
          try with_reducible rfl
        try simp only [Act.put, List.setIfInBounds_toArray, List.set_cons_zero, List.set_cons_succ]
        refine F_take (i := 5) [8, 7, 6] (v := ?_) rfl (by kernel_rfl) (by kernel_rfl) (by kernel_rfl) (by kernel_rfl) (fun _ _ _ h => h) rfl ?_ hS ?_
        rotate_left
        · intro w hSw
          try dsimp only at hSw
          go_simp
          try with_reducible rfl
        try simp only [Act.put, List.setIfInBounds_toArray, List.set_cons_zero, List.set_cons_succ]
        refine F_take (i := 6) [8, 7] (v := ?_) rfl (by kernel_rfl) (by kernel_rfl) (by kernel_rfl) (by kernel_rfl) (fun _ _ _ h => h) rfl ?_ hS ?_
        rotate_left
        · intro w hSw
          try dsimp only at hSw
          go_simp
          try with_reducible rfl
        try simp only [Act.put, List.setIfInBounds_toArray, List.set_cons_zero, List.set_cons_succ]
        refine F_step (i := 7) rfl (by kernel_rfl) (fun K hK => ?_)
        go_simp
        clear hS
        have hS := SS.out [] _ ((Upd.refl w4 []).drew.alloc (.cells #[.string p.data] 9)) (by simp) (by simp)
        refine hK.out _ _ (Or.inr hS) ?_
        clear hK K
        try simp only [Act.put, List.setIfInBounds_toArray, List.set_cons_zero, List.set_cons_succ]
        refine F_step (i := 8) rfl (by kernel_rfl) (fun K hK => ?_)
        refine step_append_fresh rfl (.tmp 50) (.tmp 53) 27 rfl base 9 i0 (.string ⟨#[]⟩) 1 16 Try.underlying27 hi0 hz0 hz1 hz2 rfl (by decide) ((.slice none 0 0)) ([] : List ByteArray).length (flat (strCells ([] : List ByteArray))) (by simp [Act.eval]) OW.out ⟨w4.heap.size, 0, none⟩ 1 1 [.string p.data] (by simp [Act.eval]) rfl (news_at (R := #[.string p.data]) (Blk.new w4.drew 9 _)) (by intro u hu; simp at hu; subst hu; rfl) (by unfold maxLen; (try simp only [List.length_nil]); omega) (by (try simp only [List.length_nil]); omega) hbs.out ?_
        intro v5 w6 hown hgr hnil
        obtain ⟨g5, c5, rfl⟩ := own_slice hown
        have FR := hide ((show Fresh w v _ from (Fresh.from hnil hszw.out).nil))
        obtain ⟨k3, fz, fin⟩ := take_after H4.out ((Upd.refl w4 []).drew.alloc (.cells #[.string p.data] 9)) hown hgr
        have cz := cell_upd e3 k3 nm1.out
        clear hS
        have hS := SS.out _ _ k3 nm1.out nm2.out
        replace fin := hide fin
        clear hown hgr hnil OW hbs k3
        refine hK.out _ _ (Or.inr hS) ?_
        clear hK K
        try simp only [Act.put, List.setIfInBounds_toArray, List.set_cons_zero, List.set_cons_succ]
        refine F_take (i := 9) [10] (v := ?_) rfl (by kernel_rfl) (by kernel_rfl) (by kernel_rfl) (by kernel_rfl) (fun _ _ _ h => h) rfl ?_ hS ?_
        rotate_left
        · intro w hSw
          try dsimp only at hSw
          go_simp
          try with_reducible rfl
        try simp only [Act.put, List.setIfInBounds_toArray, List.set_cons_zero, List.set_cons_succ]
        refine F_take (i := 10) [] (v := ?_) rfl (by kernel_rfl) (by kernel_rfl) (by kernel_rfl) (by kernel_rfl) (fun _ _ _ h => h) rfl ?_ hS ?_
        rotate_left
        · intro w hSw
          try dsimp only at hSw
          go_simp
          try with_reducible rfl
        try simp only [Act.put, List.setIfInBounds_toArray, List.set_cons_zero, List.set_cons_succ]
        refine F_step (i := 11) rfl (by kernel_rfl) (fun K hK => ?_)
        go_simp
        refine hK.out _ _ (Or.inl rfl) ?_
        clear hK K
        try simp only [Act.put, List.setIfInBounds_toArray, List.set_cons_zero, List.set_cons_succ]
        refine F_done (by kernel_rfl) ?_ _
        have H7 := hide fin.out.1
        have U7 := hide (U4.out.trans fin.out.2 (fun i hi hl => SUB.out i hi hl))
        clear fin hS cz fz e3 e4 H4
        (try simp only [List.length_nil, Nat.zero_add] at H7 U7)
        go_wp2_with fail

        have z1 := H7.out.a1
        have z3 := H7.out.a3
        go_quiet (fail)
        go_wp2_with fail
        go_ret2

        exact ⟨_, by rw [eId.out, ePs.out]; simp, by rw [eId.out, eTot.out, ePs.out]; exact H7.out.upd0 ((Upd.refl _ []).drewN _), U7.out.drewN _, FR.out⟩
      · skip
        have bq : (p.at_ == (0 : Int)) = false := beq_false_of_ne hat
        have ePs := hide (show takePs id total ps p = ([] : List ByteArray) by unfold takePs; rw [eOld.out, hf2.out]; exact if_neg (fun h => hat (by simpa using h.2)))
        replace hat := hide hat
        go_quiet (fail)
        go_wp2_with fail
        have H7 := hide (H3.out.upd0 ((Upd.refl _ []).drewN nq))
        have U7 := hide (U3.out.drewN nq)
        clear H3 B3 U3 e1 e2
        generalize w3.drewN nq = w4 at *

        have z1 := H7.out.a1
        have z3 := H7.out.a3
        go_quiet (fail)
        go_wp2_with fail
        go_ret2

        exact ⟨_, by rw [eId.out, ePs.out]; rfl, by rw [eId.out, eTot.out, ePs.out]; exact H7.out.upd0 ((Upd.refl _ []).drewN _), U7.out.drewN _, Fresh.zero _ _⟩
    · have eId := hide (show takeId id total p = id by simp [takeId, hid])
      have eTot := hide (show takeTotal id total p = total by simp [takeTotal, hid])
      have eOld := hide (show takeOld id total ps p = ps by simp [takeOld, hid])
      have hf2 := hide hf
      clear hf
      go_wp2_with fail
      go_quiet (fail)
      have H3 := hide (H2.out.upd0 ((Upd.refl _ []).drewN nq))
      have B3 := hide (B2.out.drewN nq)
      have U3 : Hid (Upd w (w1.drewN nq) (r :: blkOf v)) := Lib.hid ((U2.out.mono (S' := r :: blkOf v) (by simp)).drewN nq)
      clear H2 B2 U2 e1 x0 x2
      generalize w1.drewN nq = w3 at *
      go_wp2_with fail
      have SUB := hide (fun (i : Nat) (hi : i ∈ r :: blkOf v) (hl : i < w.heap.size) => hi)
      have e1 : w3.cell? ⟨pb, 1, none⟩ = some (.int .i64 p.at_) := by rw [B3.out.cell]; rfl
      have e2 := H3.out.a3
      obtain ⟨ga3, c3, hv3, _⟩ := H3.out.form
      rw [hv3] at e2
      replace hv3 := hide hv3
      by_cases hat : p.at_ = (ps.length : Int)
      · skip
        have bq : (p.at_ == (ps.length : Int)) = true := by simp [hat]
        have ePs := hide (show takePs id total ps p = ps ++ [p.data] by unfold takePs; rw [eOld.out, hf2.out]; exact if_pos ⟨rfl, by simpa using hat⟩)
        replace hat := hide hat
        go_quiet (fail)
        go_wp2_with fail
        have H4 := hide (H3.out.upd0 ((Upd.refl _ []).drewN nq))
        have B4 := hide (B3.out.drewN nq)
        have U4 := hide (U3.out.drewN nq)
        clear H3 B3 U3 e1 e2
        generalize w3.drewN nq = w4 at *
        have e3 := H4.out.a3
        have e4 : w4.cell? ⟨pb, 3, none⟩ = some (.string p.data) := by rw [B4.out.cell]; rfl
        have SS := hide (keepR ⟨e3, e4⟩)
        have rp : r ≠ pb := H4.out.head.ne_ B4.out (by decide)
        have nm1 := hide (show r ∉ blkOf v from fun h => H4.out.row.ne H4.out.head (by decide) r h (by simp))
        have nm2 := hide (show pb ∉ blkOf v from fun h => H4.out.row.ne B4.out (by decide) pb h (by simp))
        have OW := (H4.out.row.upd ((Upd.refl w4 []).drew.alloc (.cells #[.string p.data] 9)) (by simp)).own
        rw [strCells_len] at OW
        replace OW := hide OW
        have hszw := hide (show w.heap.size ≤ (w4.drew.alloc (.cells #[.string p.data] 9)).heap.size from (by have := U4.out.size; have := ((Upd.refl w4 []).drew.alloc (.cells #[.string p.data] 9)).size; omega))
        have hbs := hide (show base ≤ (w4.drew.alloc (.cells #[.string p.data] 9)).heap.size from (by have := hpb2.out; have := U4.out.size; have := ((Upd.refl w4 []).drew.alloc (.cells #[.string p.data] 9)).size; omega))
        refine F_start 11 (fun w' => w'.cell? ⟨r, 3, none⟩ = some (v) ∧ w'.cell? ⟨pb, 3, none⟩ = some (.string p.data)) (by kernel_rfl) ?_
        have hS := SS.out [] w4.drew ((Upd.refl _ _).drew) (by simp) (by simp)
        refine F_take (i := 0) [10, 9] (v := ?_) rfl (by kernel_rfl) (by kernel_rfl) (by kernel_rfl) (by kernel_rfl) (fun _ _ _ h => h) rfl ?_ hS ?_
        rotate_left
        · intro w hSw
          try dsimp only at hSw
          go_simp
          try with_reducible rfl
        try simp only [Act.put, List.setIfInBounds_toArray, List.set_cons_zero, List.set_cons_succ]
        refine F_take (i := 1) [8, 4, 3, 2] (v := ?_) rfl (by kernel_rfl) (by kernel_rfl) (by kernel_rfl) (by kernel_rfl) (fun _ _ _ h => h) rfl ?_ hS ?_
        rotate_left
        · intro w hSw
          try dsimp only at hSw
          go_simp
          try with_reducible rfl
        try simp only [Act.put, List.setIfInBounds_toArray, List.set_cons_zero, List.set_cons_succ]
        refine F_take (i := 2) [8, 4, 3] (v := ?_) rfl (by kernel_rfl) (by kernel_rfl) (by kernel_rfl) (by kernel_rfl) (fun _ _ _ h => h) rfl ?_ hS ?_
        rotate_left
        · intro w hSw
          try dsimp only at hSw
          go_simp
          try with_reducible rfl
        try simp only [Act.put, List.setIfInBounds_toArray, List.set_cons_zero, List.set_cons_succ]
        refine F_take (i := 3) [8, 4] (v := ?_) rfl (by kernel_rfl) (by kernel_rfl) (by kernel_rfl) (by kernel_rfl) (fun _ _ _ h => h) rfl ?_ hS ?_
        rotate_left
        · intro w hSw
          try dsimp only at hSw
          go_simp
          try with_reducible rfl
        try simp only [Act.put, List.setIfInBounds_toArray, List.set_cons_zero, List.set_cons_succ]
        refine F_take (i := 4) [8] (v := ?_) rfl (by kernel_rfl) (by kernel_rfl) (by kernel_rfl) (by kernel_rfl) (fun _ _ _ h => h) rfl ?_ hS ?_
        rotate_left
        · intro w hSw
          try dsimp only at hSw
          go_simp
          try with_reducible rfl
        try simp only [Act.put, List.setIfInBounds_toArray, List.set_cons_zero, List.set_cons_succ]
        refine F_take (i := 5) [8, 7, 6] (v := ?_) rfl (by kernel_rfl) (by kernel_rfl) (by kernel_rfl) (by kernel_rfl) (fun _ _ _ h => h) rfl ?_ hS ?_
        rotate_left
        · intro w hSw
          try dsimp only at hSw
          go_simp
          try with_reducible rfl
        try simp only [Act.put, List.setIfInBounds_toArray, List.set_cons_zero, List.set_cons_succ]
        refine F_take (i := 6) [8, 7] (v := ?_) rfl (by kernel_rfl) (by kernel_rfl) (by kernel_rfl) (by kernel_rfl) (fun _ _ _ h => h) rfl ?_ hS ?_
        rotate_left
        · intro w hSw
          try dsimp only at hSw
          go_simp
          try with_reducible rfl
        try simp only [Act.put, List.setIfInBounds_toArray, List.set_cons_zero, List.set_cons_succ]
        refine F_step (i := 7) rfl (by kernel_rfl) (fun K hK => ?_)
        go_simp
        clear hS
        have hS := SS.out [] _ ((Upd.refl w4 []).drew.alloc (.cells #[.string p.data] 9)) (by simp) (by simp)
        refine hK.out _ _ (Or.inr hS) ?_
        clear hK K
        try simp only [Act.put, List.setIfInBounds_toArray, List.set_cons_zero, List.set_cons_succ]
        refine F_step (i := 8) rfl (by kernel_rfl) (fun K hK => ?_)
        refine step_append_fresh rfl (.tmp 50) (.tmp 53) 27 rfl base 9 i0 (.string ⟨#[]⟩) 1 16 Try.underlying27 hi0 hz0 hz1 hz2 rfl (by decide) (v) ps.length (flat (strCells ps)) (by simp [Act.eval]) OW.out ⟨w4.heap.size, 0, none⟩ 1 1 [.string p.data] (by simp [Act.eval]) rfl (news_at (R := #[.string p.data]) (Blk.new w4.drew 9 _)) (by intro u hu; simp at hu; subst hu; rfl) (by unfold maxLen; (try simp only [List.length_nil]); omega) (by (try simp only [List.length_nil]); omega) hbs.out ?_
        intro v5 w6 hown hgr hnil
        obtain ⟨g5, c5, rfl⟩ := own_slice hown
        have FR := hide (Fresh.from hnil hszw.out)
        obtain ⟨k3, fz, fin⟩ := take_after H4.out ((Upd.refl w4 []).drew.alloc (.cells #[.string p.data] 9)) hown hgr
        have cz := cell_upd e3 k3 nm1.out
        clear hS
        have hS := SS.out _ _ k3 nm1.out nm2.out
        replace fin := hide fin
        clear hown hgr hnil OW hbs k3
        refine hK.out _ _ (Or.inr hS) ?_
        clear hK K
        try simp only [Act.put, List.setIfInBounds_toArray, List.set_cons_zero, List.set_cons_succ]
        refine F_take (i := 9) [10] (v := ?_) rfl (by kernel_rfl) (by kernel_rfl) (by kernel_rfl) (by kernel_rfl) (fun _ _ _ h => h) rfl ?_ hS ?_
        rotate_left
        · intro w hSw
          try dsimp only at hSw
          go_simp
          try with_reducible rfl
        try simp only [Act.put, List.setIfInBounds_toArray, List.set_cons_zero, List.set_cons_succ]
        refine F_take (i := 10) [] (v := ?_) rfl (by kernel_rfl) (by kernel_rfl) (by kernel_rfl) (by kernel_rfl) (fun _ _ _ h => h) rfl ?_ hS ?_
        rotate_left
        · intro w hSw
          try dsimp only at hSw
          go_simp
          try with_reducible rfl
        try simp only [Act.put, List.setIfInBounds_toArray, List.set_cons_zero, List.set_cons_succ]
        refine F_step (i := 11) rfl (by kernel_rfl) (fun K hK => ?_)
        go_simp
        refine hK.out _ _ (Or.inl rfl) ?_
        clear hK K
        try simp only [Act.put, List.setIfInBounds_toArray, List.set_cons_zero, List.set_cons_succ]
        refine F_done (by kernel_rfl) ?_ _
        have H7 := hide fin.out.1
        have U7 := hide (U4.out.trans fin.out.2 (fun i hi hl => SUB.out i hi hl))
        clear fin hS cz fz e3 e4 H4
        (try simp only [List.length_nil, Nat.zero_add] at H7 U7)
        go_wp2_with fail

        have z1 := H7.out.a1
        have z3 := H7.out.a3
        go_quiet (fail)
        go_wp2_with fail
        go_ret2

        exact ⟨_, by rw [eId.out, ePs.out]; simp, by rw [eId.out, eTot.out, ePs.out]; exact H7.out.upd0 ((Upd.refl _ []).drewN _), U7.out.drewN _, FR.out⟩
      · skip
        have bq : (p.at_ == (ps.length : Int)) = false := beq_false_of_ne hat
        have ePs := hide (show takePs id total ps p = ps by unfold takePs; rw [eOld.out, hf2.out]; exact if_neg (fun h => hat (by simpa using h.2)))
        replace hat := hide hat
        go_quiet (fail)
        go_wp2_with fail
        have H7 := hide (H3.out.upd0 ((Upd.refl _ []).drewN nq))
        have U7 := hide (U3.out.drewN nq)
        clear H3 B3 U3 e1 e2
        generalize w3.drewN nq = w4 at *

        have z1 := H7.out.a1
        have z3 := H7.out.a3
        rw [hv3.out] at z3
        go_quiet (fail)
        go_wp2_with fail
        go_ret2

        exact ⟨_, by rw [eId.out, ePs.out]; rfl, by rw [eId.out, eTot.out, ePs.out]; exact H7.out.upd0 ((Upd.refl _ []).drewN _), U7.out.drewN _, Fresh.refl _ _⟩
end Go.Proofs.Ytmmacjjmkaeakaa
