/- The walks of the layer history: Call. -/
import Derived.Test.YtfnddooclgklmaaWalkC
namespace Go.Proofs.Ytfnddooclgklmaa
open Go.RowKit
set_option linter.unusedVariables false
attribute [-go_sem] loadVar storeVar
attribute [local go_sem] loadVar_else storeVar_else run_load29 run_load33 run_load35 run_load48 run_load49 run_load61 run_store29 run_store33 run_store35 run_store48 run_store49 aggAt_drew aggAt_drewN aggRoom_drew aggRoom_drewN
variable {base h : Nat} {v : Value} {rs : List Rec} {ev : Nat}
def newRec (c : Int) (s : Int) (o : Op4) (ev : Nat) : Rec := ⟨c, s, o, ev, -1, zeroOut⟩
theorem head_push (v v' : Value) (ev c : Nat) (rs : List Rec) (r : Rec) (hc : c < 6) (hr : r.cl = c) :
    ((((headOf v ev rs).setIfInBounds 1 v').setIfInBounds (3 + c) (.int .i64 (rs.length + 1))).setIfInBounds 2 (.int .i64 (ev + 1))) = headOf v' (ev + 1) (rs ++ [r]) := by
  match c, hc with
  | 0, _ => simp [headOf, place_snoc, hr]
  | 1, _ => simp [headOf, place_snoc, hr]
  | 2, _ => simp [headOf, place_snoc, hr]
  | 3, _ => simp [headOf, place_snoc, hr]
  | 4, _ => simp [headOf, place_snoc, hr]
  | 5, _ => simp [headOf, place_snoc, hr]
/-- what lies at hand behind the append of a record -/
theorem Hist.grow {w w3 : World} (H : Hist w base h v rs ev) {r : Rec} {v1 : Value} (hown : w3.ownsRow base 49 14 v1 (rs.length + 1) (flat (recCells rs) ++ r.cells.toList)) (hgr : w.grownBy w3 v.ownBlock) :
    ∃ g cap, v1 = .slice (some ⟨g, 0, none⟩) (rs.length + 1) cap ∧ g ≠ h ∧ Blk w3 h 53 (headOf v ev rs) ∧ RowOf w3 base 49 14 v1 (recCells (rs ++ [r])) ∧ Upd w w3 (blkOf v) := by
  have u : Upd w w3 (blkOf v) := Upd.of_grown hgr (by intro k hk _; simp [blkOf, hk])
  have hh : h ∉ blkOf v := by
    intro hm
    rcases H.slice with ⟨rfl, _⟩ | ⟨g, cap, rfl, _, hne, _⟩
    · simp [blkOf, Value.ownBlock] at hm
    · simp [blkOf, Value.ownBlock] at hm; exact hne hm.symm
  have B := u.blk H.head hh
  have R : RowOf w3 base 49 14 v1 (recCells (rs ++ [r])) := by
    have := RowOf.push (F := r.cells) H.row.sizes H.row.ones rfl (rec_one r) (by rw [recCells_len]; exact hown)
    simpa [recCells] using this
  rcases R.slice with ⟨_, h2⟩ | ⟨g, cap, hv, _, _, cur, hg, _⟩
  · simp [recCells] at h2
  · refine ⟨g, cap, ?_, hg.ne_ B (by decide), B, R, u⟩
    rw [hv, recCells_len]; simp
/-- a client's last record -/
def lastRec (c : Int) (rs : List Rec) : Option Rec := if c < 0 ∨ 5 < c then none else if place c rs = 0 then none else rs[place c rs - 1]?
set_option maxHeartbeats 4000000 in
theorem call_ok (c : Nat) (s : Int) (o : Op4) (w : World) (H : Hist w base h v rs ev) (hb : base ≤ w.heap.size) (hn : rs.length ≤ 1000) (he : ev ≤ 1000) (hc : c < 6) (hs : 1 ≤ s) (ho : chk o = 0) (hl : ∀ r, lastRec c rs = some r → 0 ≤ r.to ∧ r.seq < s)
    (hk : ∀ w, Calls Try.prog 20 #[.agg o.cells] w fun e w' => e = .returned (.int .i64 (chk o)) ∧ Upd w w' []) :
    Calls Try.prog 12 #[.pointer (some ⟨h, 0, none⟩), .int .i64 c, .int .i64 s, .agg o.cells] w fun e w' => ∃ v', e = .returned (.int .i64 0) ∧ Hist w' base h v' (rs ++ [newRec c s o ev]) (ev + 1) ∧ Upd w w' (h :: blkOf v) := by
  obtain ⟨i0, hi0, hz0, hz1, hz2⟩ := info_parts info49
  have B1 := hide (Blk.new w 29 o.cells)
  have U1 := hide ((Upd.refl w []).alloc (.cells o.cells 29))
  have H1 := hide (H.upd0 U1.out)
  have HK := hide hk
  have hh := H.head.lt
  have N1 := hide (none_no h _ H1.out.c0)
  have hc' : ¬ (6 : Int) ≤ c := by omega
  have hc0 : ¬ (c : Int) < 0 := by omega
  have hs' : ¬ s < 1 := by omega
  have L1 : aggAt 4 (w.alloc (.cells o.cells 29)) w.heap.size 0 = some o.cells := B1.out.agg0 rfl
  clear H hk
  rw [ho] at HK
  go_enter Try.func12, Try.ntmps12
  go_wp2_with fail
  refine N1.out.mono ?_
  rintro e w' ⟨rfl, rfl⟩
  go_wp2_with fail
  refine (HK.out _).mono ?_
  rintro e w1 ⟨rfl, u1⟩
  have H2 := hide (H1.out.upd0 u1)
  have L2 : aggAt 4 w1 w.heap.size 0 = some o.cells := (u1.blk B1.out (by simp)).agg0 rfl
  have U2 := hide (U1.out.trans u1 (by simp))
  by_cases hp : place c rs = 0
  · clear hl
    have N2 := hide (last_no c w1 H2.out hc hp)
    have hz := u1.size
    simp at hz
    clear L1 N1 HK B1 H1 U1 u1
    go_wp2_with fail
    refine N2.out.mono ?_
    rintro e w' ⟨rfl, rfl⟩
    have a1 := H2.out.c1
    have a2 := H2.out.c2
    have a3 : ∀ cs, (w1.alloc (.cells cs 49)).cell? ⟨h, 1, none⟩ = some v := fun cs => (H2.out.upd0 ((Upd.refl w1 []).alloc (.cells cs 49))).c1
    have UW := (Upd.refl w1 []).drew.alloc (.cells (newRec c s o ev).cells 49)
    have H3 := hide (H2.out.upd0 UW)
    have HO := hide H3.out.row.own
    rw [recCells_len] at HO
    have HN : Hid (∀ j u, (newRec c s o ev).cells.toList[j]? = some u → (w1.drew.alloc (.cells (newRec c s o ev).cells 49)).cell? ((⟨w1.heap.size, 0, none⟩ : Addr).add j) = some u) := hide fun j u hu => by
      rw [Addr.add_mid, Nat.zero_add]
      have := Blk.new w1.drew 49 (newRec c s o ev).cells
      rw [show w1.drew.heap.size = w1.heap.size from rfl] at this
      rw [this.cell, ← Array.getElem?_toList]
      exact hu
    have HE := hide (show ∀ u ∈ (newRec c s o ev).cells.toList, u.oneCell' = true from fun u hu => rec_one _ u (by simpa using hu))
    have hb' : base ≤ (w1.drew.alloc (.cells (newRec c s o ev).cells 49)).heap.size := by rw [World.size_alloc]; show base ≤ w1.heap.size + 1; omega
    replace hb' := hide hb'
    go_wp2_with fail
    go_region_law (refine step_append_own rfl (.tmp 47) (.tmp 56) 42 rfl base 49 i0 (.agg zeroRec) 14 136 Try.underlying42 hi0 hz0 hz1 hz2 rfl (by decide) _ rs.length (flat (recCells rs)) (by simp [Act.eval]) HO.out ⟨w1.heap.size, 0, none⟩ 1 1 (newRec c s o ev).cells.toList (by simp [Act.eval]) rfl HN.out HE.out (by unfold maxLen; omega) (by omega) hb'.out ?_; intro v1 w3 hown hgr hnil; obtain ⟨g, cap, rfl, hg, hB, hR, hU⟩ := H3.out.grow hown hgr; have k1 : w3.cell? ⟨h, 1, none⟩ = some v := (by rw [hB.cell]; rfl); have k2 := hB.frozen 1; replace hB := hide hB; replace hR := hide hR; replace hU := hide hU; clear hown hgr hnil)
    all_goals
      have B4 := hB.out.set_ 1 (.slice (some ⟨g, 0, none⟩) (rs.length + 1) cap)
      have m1 : (w3.setCell ⟨h, 1, none⟩ (.slice (some ⟨g, 0, none⟩) (rs.length + 1) cap)).cell? ⟨h, 1, none⟩ = some (.slice (some ⟨g, 0, none⟩) (rs.length + 1) cap) := by rw [B4.cell]; rfl
      have m2 : (w3.setCell ⟨h, 1, none⟩ (.slice (some ⟨g, 0, none⟩) (rs.length + 1) cap)).cell? ⟨h, 3 + c, none⟩ = some (.int .i64 (place c rs)) := by
        rw [B4.cell, Array.getElem?_setIfInBounds_ne (by omega), headOf_at _ ev rs c hc]
      have m3 := B4.frozen (3 + c)
      have B5 := B4.set_ (3 + c) (.int .i64 (rs.length + 1))
      have m4 : ((w3.setCell ⟨h, 1, none⟩ (.slice (some ⟨g, 0, none⟩) (rs.length + 1) cap)).setCell ⟨h, 3 + c, none⟩ (.int .i64 (rs.length + 1))).cell? ⟨h, 2, none⟩ = some (.int .i64 ev) := by
        rw [B5.cell, Array.getElem?_setIfInBounds_ne (by omega)]; rfl
      have m5 := B5.frozen 2
      have B6 := hide ((B5.set_ 2 (.int .i64 (ev + 1))).congr (head_push _ (.slice (some ⟨g, 0, none⟩) (rs.length + 1) cap) ev c rs (newRec c s o ev) hc rfl))
      have U6 := hide (((((Upd.refl w3 [h]).setCell (p := ⟨h, 1, none⟩) (by simp) (.slice (some ⟨g, 0, none⟩) (rs.length + 1) cap))).setCell (p := ⟨h, 3 + c, none⟩) (by simp) (.int .i64 (rs.length + 1))).setCell (p := ⟨h, 2, none⟩) (by simp) (.int .i64 (ev + 1)))
      clear B4 B5 k1 k2 a1 a2 a3 L2
    all_goals
      go_wp2_with fail
      go_region
    all_goals
      go_wp2_with fail
      go_ret
      exact ⟨_, rfl, ⟨H2.out.ge, B6.out, (hR.out.upd U6.out (by simp [blkOf, Value.ownBlock]; exact hg)).upd (Upd.refl _ []).drew (by simp)⟩,
        ((((U2.out.trans UW (by simp)).mono (S' := h :: blkOf _) (by simp)).trans hU.out (fun i hi _ => List.mem_cons_of_mem _ hi)).trans U6.out (fun i hi _ => by rw [List.mem_singleton.1 hi]; exact List.mem_cons_self)).drew⟩
  · obtain ⟨p, hp⟩ := Nat.exists_eq_succ_of_ne_zero hp
    rcases H2.out.slice with ⟨_, rfl⟩ | ⟨g0, cap0, hv, _, _, _⟩
    · simp [place, placeL] at hp
    have H2v : Hist w1 base h (.slice (some ⟨g0, 0, none⟩) rs.length cap0) rs ev := by rw [← hv]; exact H2.out
    have hple := place_le c rs
    have hpl : p < rs.length := by omega
    obtain ⟨l1, l2⟩ := hl rs[p] (by unfold lastRec; rw [if_neg (by omega), if_neg (by omega), hp]; simp [hpl])
    clear hl
    have N2 := hide (last_yes c w1 H2v hc p hp)
    have hz := u1.size
    simp at hz
    clear L1 N1 HK B1 H1 U1 u1
    go_wp2_with fail
    refine N2.out.mono ?_
    rintro e w' ⟨rfl, m, rfl⟩
    clear N2
    replace H2 := hide (H2.out.upd0 ((Upd.refl _ []).drewN m))
    replace U2 := hide (U2.out.drewN m)
    have hz' : w.heap.size + 1 ≤ (w1.drewN m).heap.size := hz
    have L2' : aggAt 4 (w1.drewN m) w.heap.size 0 = some o.cells := L2
    clear hz L2
    have H2w := H2v.upd0 ((Upd.refl _ []).drewN m)
    clear H2v hv
    generalize w1.drewN m = w1 at *
    have t1 : w1.cell? ⟨g0, p * 14 + 7, none⟩ = some (.int .i64 rs[p].to) := aggAt_cell (H2w.rec_ p hpl) 7 (by decide)
    have t2 : w1.cell? ⟨g0, p * 14 + 1, none⟩ = some (.int .i64 rs[p].seq) := aggAt_cell (H2w.rec_ p hpl) 1 (by decide)
    clear H2w
    have e1 : ¬ rs[p].to < 0 := by omega
    have e2 : ¬ s ≤ rs[p].seq := by omega
    generalize rs[p].to = rt at *
    generalize rs[p].seq = rq at *
    have L2 := L2'
    clear L2'
    have a1 := H2.out.c1
    have a2 := H2.out.c2
    have a3 : ∀ cs, (w1.alloc (.cells cs 49)).cell? ⟨h, 1, none⟩ = some v := fun cs => (H2.out.upd0 ((Upd.refl w1 []).alloc (.cells cs 49))).c1
    have UW := (Upd.refl w1 []).drew.alloc (.cells (newRec c s o ev).cells 49)
    have H3 := hide (H2.out.upd0 UW)
    have HO := hide H3.out.row.own
    rw [recCells_len] at HO
    have HN : Hid (∀ j u, (newRec c s o ev).cells.toList[j]? = some u → (w1.drew.alloc (.cells (newRec c s o ev).cells 49)).cell? ((⟨w1.heap.size, 0, none⟩ : Addr).add j) = some u) := hide fun j u hu => by
      rw [Addr.add_mid, Nat.zero_add]
      have := Blk.new w1.drew 49 (newRec c s o ev).cells
      rw [show w1.drew.heap.size = w1.heap.size from rfl] at this
      rw [this.cell, ← Array.getElem?_toList]
      exact hu
    have HE := hide (show ∀ u ∈ (newRec c s o ev).cells.toList, u.oneCell' = true from fun u hu => rec_one _ u (by simpa using hu))
    have hb' : base ≤ (w1.drew.alloc (.cells (newRec c s o ev).cells 49)).heap.size := by rw [World.size_alloc]; show base ≤ w1.heap.size + 1; omega
    replace hb' := hide hb'
    go_wp2_with fail
    go_region_law (refine step_append_own rfl (.tmp 47) (.tmp 56) 42 rfl base 49 i0 (.agg zeroRec) 14 136 Try.underlying42 hi0 hz0 hz1 hz2 rfl (by decide) _ rs.length (flat (recCells rs)) (by simp [Act.eval]) HO.out ⟨w1.heap.size, 0, none⟩ 1 1 (newRec c s o ev).cells.toList (by simp [Act.eval]) rfl HN.out HE.out (by unfold maxLen; omega) (by omega) hb'.out ?_; intro v1 w3 hown hgr hnil; obtain ⟨g, cap, rfl, hg, hB, hR, hU⟩ := H3.out.grow hown hgr; have k1 : w3.cell? ⟨h, 1, none⟩ = some v := (by rw [hB.cell]; rfl); have k2 := hB.frozen 1; replace hB := hide hB; replace hR := hide hR; replace hU := hide hU; clear hown hgr hnil)
    all_goals
      have B4 := hB.out.set_ 1 (.slice (some ⟨g, 0, none⟩) (rs.length + 1) cap)
      have m1 : (w3.setCell ⟨h, 1, none⟩ (.slice (some ⟨g, 0, none⟩) (rs.length + 1) cap)).cell? ⟨h, 1, none⟩ = some (.slice (some ⟨g, 0, none⟩) (rs.length + 1) cap) := by rw [B4.cell]; rfl
      have m2 : (w3.setCell ⟨h, 1, none⟩ (.slice (some ⟨g, 0, none⟩) (rs.length + 1) cap)).cell? ⟨h, 3 + c, none⟩ = some (.int .i64 (place c rs)) := by
        rw [B4.cell, Array.getElem?_setIfInBounds_ne (by omega), headOf_at _ ev rs c hc]
      have m3 := B4.frozen (3 + c)
      have B5 := B4.set_ (3 + c) (.int .i64 (rs.length + 1))
      have m4 : ((w3.setCell ⟨h, 1, none⟩ (.slice (some ⟨g, 0, none⟩) (rs.length + 1) cap)).setCell ⟨h, 3 + c, none⟩ (.int .i64 (rs.length + 1))).cell? ⟨h, 2, none⟩ = some (.int .i64 ev) := by
        rw [B5.cell, Array.getElem?_setIfInBounds_ne (by omega)]; rfl
      have m5 := B5.frozen 2
      have B6 := hide ((B5.set_ 2 (.int .i64 (ev + 1))).congr (head_push _ (.slice (some ⟨g, 0, none⟩) (rs.length + 1) cap) ev c rs (newRec c s o ev) hc rfl))
      have U6 := hide (((((Upd.refl w3 [h]).setCell (p := ⟨h, 1, none⟩) (by simp) (.slice (some ⟨g, 0, none⟩) (rs.length + 1) cap))).setCell (p := ⟨h, 3 + c, none⟩) (by simp) (.int .i64 (rs.length + 1))).setCell (p := ⟨h, 2, none⟩) (by simp) (.int .i64 (ev + 1)))
      clear B4 B5 k1 k2 a1 a2 a3 L2
    all_goals
      go_wp2_with fail
      go_region
    all_goals
      go_wp2_with fail
      go_ret
      exact ⟨_, rfl, ⟨H2.out.ge, B6.out, (hR.out.upd U6.out (by simp [blkOf, Value.ownBlock]; exact hg)).upd (Upd.refl _ []).drew (by simp)⟩,
        ((((U2.out.trans UW (by simp)).mono (S' := h :: blkOf _) (by simp)).trans hU.out (fun i hi _ => List.mem_cons_of_mem _ hi)).trans U6.out (fun i hi _ => by rw [List.mem_singleton.1 hi]; exact List.mem_cons_self)).drew⟩
end Go.Proofs.Ytfnddooclgklmaa
