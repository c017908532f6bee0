/- The walks of the layer history: the document's Records. -/
import Derived.Test.YtfnddooclgklmaaPlayPlain
import Derived.Test.YtfnddooclgklmaaRefC
import Derived.Deep.CutRange
namespace Go.Proofs.Ytfnddooclgklmaa
open Go.RowKit
set_option linter.unusedVariables false
attribute [-go_sem] loadVar storeVar
attribute [local go_sem] loadVar_else storeVar_else run_load29 run_load33 run_load35 run_load48 run_load49 run_load61 run_store29 run_store33 run_store35 run_store48 run_store49 aggAt_drew aggAt_drewN aggRoom_drew aggRoom_drewN
theorem info48 : (Try.prog.info? 48).map (fun i => (i.zero, i.size, i.bytes)) = some (some (.agg zeroRec), 14, 136) := by kernel_rfl
theorem RowOf.form4 {w : World} {base : Nat} {e : TypeId} {n : Nat} {v : Value} {Fs : List (Array Value)} (h : RowOf w base e n v Fs) : ∃ ga cap, v = .slice ga Fs.length cap ∧ (0 < Fs.length → ∃ g, ga = some ⟨g, 0, none⟩) := h.form3
theorem recsOf_drop (es : List Ev) (i : Nat) (h : i < es.length) : recsOf i (es.drop i) = if es[i].out.kind ≠ 0 then recsOf (i + 1) (es.drop (i + 1)) else ⟨es[i].cl, es[i].seq, es[i].op, i, (findEnd es[i].cl es[i].seq (i + 1) (es.drop (i + 1))).1, (findEnd es[i].cl es[i].seq (i + 1) (es.drop (i + 1))).2⟩ :: recsOf (i + 1) (es.drop (i + 1)) := by
  rw [List.drop_eq_getElem_cons h, recsOf]
theorem findEnd_drop (c s : Int) (es : List Ev) (k : Nat) (h : k < es.length) : findEnd c s k (es.drop k) = if es[k].cl = c ∧ es[k].seq = s ∧ es[k].out.kind ≠ 0 then ((k : Int), es[k].out) else findEnd c s (k + 1) (es.drop (k + 1)) := by
  rw [List.drop_eq_getElem_cons h, findEnd]
set_option maxRecDepth 100000 in
set_option maxHeartbeats 8000000 in
theorem rrecords_ok (u : Value) (es : List Ev) (w : World) (R : RowOf w 0 61 12 u (evCells es)) (hn : es.length ≤ 1000) :
    Calls Try.prog 15 #[u] w fun e w' => ∃ v', e = .returned v' ∧ RowOf w' w.heap.size 48 14 v' (recCells (recsOf 0 es)) ∧ Upd w w' [] := by
  obtain ⟨i0, hi0, hz0, hz1, hz2⟩ := info_parts info48
  obtain ⟨ga, cap, rfl, hga⟩ := R.form3
  rw [evCells_len] at hga R
  rw [evCells_len]
  replace R := hide R
  replace hga := hide hga
  go_enter Try.func15, Try.ntmps15
  go_wp2_with fail
  go_loopw [3, 4] (fun vo vi wr => ∃ (i : Nat) (pre : List Rec), i ≤ es.length ∧ vi = .int .i64 i ∧ recsOf 0 es = pre ++ recsOf i (es.drop i) ∧ pre.length ≤ i ∧ RowOf wr w.heap.size 48 14 vo (recCells pre) ∧ Upd w wr []) (fun _ vi _ => es.length - (intOf vi).toNat)
  case atStart => exact ⟨0, [], by omega, rfl, rfl, by simp, RowOf.nil _ _ _ _, Upd.refl _ _⟩
  case round =>
    obtain ⟨i, pre, hi, rfl, hrec, hpl, hO, hu⟩ := hrel
    by_cases hlt : i < es.length
    · obtain ⟨g, rfl⟩ := hga.out (by omega)
      have hii : (i : Int) < es.length := by omega
      have A := (R.out.upd hu (by simp)).ev_ i hlt
      have a0 : wr.cell? ⟨g, i * 12, none⟩ = some (.int .i64 es[i].cl) := aggAt_cell A 0 (by decide)
      have a1 : wr.cell? ⟨g, i * 12 + 1, none⟩ = some (.int .i64 es[i].seq) := aggAt_cell A 1 (by decide)
      have a6 : wr.cell? ⟨g, i * 12 + 6, none⟩ = some (.int .i64 es[i].out.kind) := aggAt_cell A 6 (by decide)
      have a2 : aggAt 4 wr g (i * 12 + 2) = some es[i].op.cells := aggAt_part A (by decide) rfl (fun j hj => by match j, hj with | 0, _ => rfl | 1, _ => rfl | 2, _ => rfl | 3, _ => rfl)
      rw [recsOf_drop es i hlt] at hrec
      by_cases hk : es[i].out.kind = 0
      · rw [if_neg (by simp [hk])] at hrec
        rw [hk] at a6
        obtain ⟨e, he⟩ : ∃ e, e = es[i] := ⟨_, rfl⟩
        rw [← he] at a0 a1 a2 hrec hk
        replace he := hide he
        replace hrec := hide hrec
        replace hO := hide hO
        replace hu := hide hu
        have a2' : ∀ cs, aggAt 4 (wr.alloc (.cells cs 48)) g (i * 12 + 2) = some e.op.cells := fun cs => aggAt_upd (by decide) a2 ((Upd.refl wr []).alloc _) (by simp)
        have a0' : ∀ cs, (wr.alloc (.cells cs 48)).cell? ⟨g, i * 12, none⟩ = some (.int .i64 e.cl) := fun cs => cell_upd a0 ((Upd.refl wr []).alloc _) (by simp)
        have a1' : ∀ cs, (wr.alloc (.cells cs 48)).cell? ⟨g, i * 12 + 1, none⟩ = some (.int .i64 e.seq) := fun cs => cell_upd a1 ((Upd.refl wr []).alloc _) (by simp)
        have b0 := Blk.new wr 48 zeroRec
        have r0 : aggRoom 14 (wr.alloc (.cells #[.int .i64 0, .int .i64 0, .int .i64 0, .string ⟨#[]⟩, .string ⟨#[]⟩, .int .i64 0, .int .i64 0, .int .i64 0, .int .i64 0, .int .i64 0, .int .i64 0, .string ⟨#[]⟩, .int .i64 0, .int .i64 0] 48)) wr.heap.size 0
            #[.int .i64 e.cl, .int .i64 e.seq, .int .i64 e.op.kind, .string e.op.key, .string e.op.val, .int .i64 e.op.ver, .int .i64 i, .int .i64 (-1), .int .i64 0, .int .i64 0, .int .i64 0, .string ⟨#[]⟩, .int .i64 0, .int .i64 0] = true :=
          b0.aggRoom 0 (by decide) rfl (by simp [Value.oneCell'])
        replace b0 := hide b0
        clear A
        go_wp2_with fail
        go_region
        have d1 : Upd wr ((wr.alloc (.cells #[.int .i64 0, .int .i64 0, .int .i64 0, .string ⟨#[]⟩, .string ⟨#[]⟩, .int .i64 0, .int .i64 0, .int .i64 0, .int .i64 0, .int .i64 0, .int .i64 0, .string ⟨#[]⟩, .int .i64 0, .int .i64 0] 48)).drew.setCells wr.heap.size 0
            [.int .i64 e.cl, .int .i64 e.seq, .int .i64 e.op.kind, .string e.op.key, .string e.op.val, .int .i64 e.op.ver, .int .i64 i, .int .i64 (-1), .int .i64 0, .int .i64 0, .int .i64 0, .string ⟨#[]⟩, .int .i64 0, .int .i64 0]) [] :=
          Upd.setCells (b := wr.heap.size) (by simp) _ 0 ((Upd.refl wr []).alloc _).drew
        have b1 : Blk ((wr.alloc (.cells #[.int .i64 0, .int .i64 0, .int .i64 0, .string ⟨#[]⟩, .string ⟨#[]⟩, .int .i64 0, .int .i64 0, .int .i64 0, .int .i64 0, .int .i64 0, .int .i64 0, .string ⟨#[]⟩, .int .i64 0, .int .i64 0] 48)).drew.setCells wr.heap.size 0
            [.int .i64 e.cl, .int .i64 e.seq, .int .i64 e.op.kind, .string e.op.key, .string e.op.val, .int .i64 e.op.ver, .int .i64 i, .int .i64 (-1), .int .i64 0, .int .i64 0, .int .i64 0, .string ⟨#[]⟩, .int .i64 0, .int .i64 0]) wr.heap.size 48 (Rec.cells ⟨e.cl, e.seq, e.op, i, -1, zeroOut⟩) :=
          (b0.out.drew).laid (cs' := Rec.cells ⟨e.cl, e.seq, e.op, i, -1, zeroOut⟩) rfl
        have hO2 := hide (hO.out.upd d1 (by simp))
        have U2 := hide (hu.out.trans d1 (by simp))
        have gl : g < wr.heap.size := World.block_lt_of_cell? wr _ a0
        have sepx : ∀ x ∈ blkOf u3, x < wr.heap.size := fun x hx => by
          rcases hO.out.slice with ⟨h1, _⟩ | ⟨g', cap', h1, _, _, cur, hb, _⟩
          · rw [h1] at hx; simp [blkOf, Value.ownBlock] at hx
          · rw [h1] at hx; simp [blkOf, Value.ownBlock] at hx; subst hx; exact hb.lt
        have wl : w.heap.size ≤ wr.heap.size := hu.out.size
        replace sepx := hide sepx
        replace b1 := hide b1
        clear d1 r0 b0 a2' a0' a1' a0 a1 a2 a6 hO hu
        generalize (wr.alloc (.cells #[.int .i64 0, .int .i64 0, .int .i64 0, .string ⟨#[]⟩, .string ⟨#[]⟩, .int .i64 0, .int .i64 0, .int .i64 0, .int .i64 0, .int .i64 0, .int .i64 0, .string ⟨#[]⟩, .int .i64 0, .int .i64 0] 48)).drew.setCells wr.heap.size 0
            [.int .i64 e.cl, .int .i64 e.seq, .int .i64 e.op.kind, .string e.op.key, .string e.op.val, .int .i64 e.op.ver, .int .i64 i, .int .i64 (-1), .int .i64 0, .int .i64 0, .int .i64 0, .string ⟨#[]⟩, .int .i64 0, .int .i64 0] = wv at *
        have hwz := U2.out.size
        generalize wr.heap.size = xb at *
        go_wp2_with fail
        go_loopw [6] (fun vk wz => ∃ (k : Nat) (r : Rec), i + 1 ≤ k ∧ k ≤ es.length ∧ vk = .int .i64 k ∧ Blk wz xb 48 r.cells ∧ r.cl = e.cl ∧ r.seq = e.seq ∧ r.op = e.op ∧ r.frm = i ∧
          ((r.to < 0 ∧ r.to = -1 ∧ r.out = zeroOut ∧ findEnd e.cl e.seq (i + 1) (es.drop (i + 1)) = findEnd e.cl e.seq k (es.drop k)) ∨ (0 ≤ r.to ∧ findEnd e.cl e.seq (i + 1) (es.drop (i + 1)) = (r.to, r.out))) ∧ Upd wv wz [xb]) (fun vk _ => es.length - (intOf vk).toNat)
        case atStart => exact ⟨i + 1, ⟨e.cl, e.seq, e.op, i, -1, zeroOut⟩, by omega, by omega, by go_num, b1.out, rfl, rfl, rfl, rfl, .inl ⟨by simp, rfl, rfl, rfl⟩, Upd.refl _ _⟩
        case round =>
          obtain ⟨k, r, hk1, hk2, rfl, hB, r1, r2, r3, r4, hr, hux⟩ := hrel
          have x0 : wr.cell? ⟨xb, 0, none⟩ = some (.int .i64 e.cl) := by rw [hB.cell, ← r1]; rfl
          have x1 : wr.cell? ⟨xb, 1, none⟩ = some (.int .i64 e.seq) := by rw [hB.cell, ← r2]; rfl
          have x7 : wr.cell? ⟨xb, 7, none⟩ = some (.int .i64 r.to) := by rw [hB.cell]; rfl
          by_cases hgo : k < es.length ∧ r.to < 0
          · obtain ⟨hkl, hto⟩ := hgo
            obtain ⟨_, hr7, hr8, hfe⟩ : r.to < 0 ∧ r.to = -1 ∧ r.out = zeroOut ∧ findEnd e.cl e.seq (i + 1) (es.drop (i + 1)) = findEnd e.cl e.seq k (es.drop k) := by
              rcases hr with h | h
              · exact h
              · omega
            clear hr
            have hkli : (k : Int) < es.length := by omega
            rw [findEnd_drop _ _ es k hkl] at hfe
            have A := (R.out.upd ((U2.out.mono (S' := [xb]) (by simp)).trans hux (fun i h _ => h)) (by simp [blkOf, Value.ownBlock]; omega)).ev_ k hkl
            have y0 : wr.cell? ⟨g, k * 12, none⟩ = some (.int .i64 es[k].cl) := aggAt_cell A 0 (by decide)
            have y1 : wr.cell? ⟨g, k * 12 + 1, none⟩ = some (.int .i64 es[k].seq) := aggAt_cell A 1 (by decide)
            have y6 : wr.cell? ⟨g, k * 12 + 6, none⟩ = some (.int .i64 es[k].out.kind) := aggAt_cell A 6 (by decide)
            have y7 := hide (show aggAt 6 wr g (k * 12 + 6) = some es[k].out.cells from aggAt_part A (by decide) rfl (fun j hj => by match j, hj with | 0, _ => rfl | 1, _ => rfl | 2, _ => rfl | 3, _ => rfl | 4, _ => rfl | 5, _ => rfl))
            have q1 := hide r1
            have q2 := hide r2
            have q3 := hide r3
            have q4 := hide r4
            replace hB := hide hB
            replace hux := hide hux
            replace hr8 := hide hr8
            clear r1 r2 r3 r4 A
            by_cases h1 : es[k].cl = e.cl
            · by_cases h2 : es[k].seq = e.seq
              · by_cases h3 : es[k].out.kind = 0
                · rw [if_neg (fun h => h.2.2 h3)] at hfe
                  replace hfe := hide hfe
                  rw [h1] at y0
                  rw [h2] at y1
                  rw [h3] at y6
                  clear h1 h2 h3
                  go_wp2_with fail
                  go_quiet (fail)
                  go_wp2_with fail
                  go_roundw
                  case rel => exact ⟨k + 1, r, by omega, by omega, by go_num, hB.out.drewN _, q1.out, q2.out, q3.out, q4.out, .inl ⟨hto, hr7, hr8.out, hfe.out⟩, hux.out.drewN _⟩
                  case measure => simp [intOf]; omega
                · rw [if_pos ⟨h1, h2, h3⟩] at hfe
                  replace hfe := hide hfe
                  have hb3 : (es[k].out.kind == 0) = false := by simpa using h3
                  rw [h1] at y0
                  rw [h2] at y1
                  clear h1 h2 h3
                  have oo := out_one es[k].out
                  have o6 : es[k].out.cells.size = 6 := rfl
                  have k2 := hide (show putAt (r.cells.setIfInBounds 7 (.int .i64 k)) 8 es[k].out.cells.toList = Rec.cells ⟨r.cl, r.seq, r.op, r.frm, k, es[k].out⟩ from rfl)
                  generalize es[k].out.cells = O at *
                  generalize hK : es[k].out.kind = K at *
                  clear hK
                  go_wp2_with fail
                  go_quiet (fail)
                  have b1q := hide (hB.out.drewN nq)
                  have uq := hide (hux.out.drewN nq)
                  have z7q : aggAt 6 (wr.drewN nq) g (k * 12 + 6) = some O := y7.out
                  have x7q : (wr.drewN nq).cell? ⟨xb, 7, none⟩ = some (.int .i64 r.to) := x7
                  clear hB hux y0 y1 y6 y7 x0 x1 x7
                  generalize wr.drewN nq = wy at *
                  have fr7 : wy.frozen? ⟨xb, 7, none⟩ = false := b1q.out.frozen 7
                  have e1 : Upd wy (wy.setCell ⟨xb, 7, none⟩ (.int .i64 k)) [xb] := (Upd.refl _ _).setCell (p := ⟨xb, 7, none⟩) (by simp) _
                  have z4 := aggAt_upd (by decide) z7q e1 (by simp; omega)
                  have b2 := b1q.out.set_ 7 (.int .i64 k)
                  have z5 : aggRoom 6 (wy.setCell ⟨xb, 7, none⟩ (.int .i64 k)) xb 8 O = true := b2.aggRoom 8 (by simp) o6 oo
                  replace e1 := hide e1
                  replace b2 := hide b2
                  go_wp2_with fail
                  go_region
                  have dv := Upd.setCells (b := xb) (by simp) O.toList 8 (e1.out.drew)
                  have bv := hide (((b2.out.drew).setCells O.toList 8).congr k2.out)
                  have uv := hide (uq.out.trans dv (by simp))
                  clear dv b2 e1 z4 z5 z7q x7q fr7 b1q uq
                  generalize (wy.setCell ⟨xb, 7, none⟩ (.int .i64 k)).drew.setCells xb 8 O.toList = wv2 at *
                  go_wp2_with fail
                  go_roundw
                  case rel => exact ⟨k + 1, ⟨r.cl, r.seq, r.op, r.frm, k, es[k].out⟩, by omega, by omega, by go_num, bv.out, q1.out, q2.out, q3.out, q4.out, .inr ⟨by simp, hfe.out⟩, uv.out⟩
                  case measure => simp [intOf]; omega
              · rw [if_neg (fun h => h2 h.2.1)] at hfe
                replace hfe := hide hfe
                have hb : (es[k].seq == e.seq) = false := by simpa using h2
                rw [h1] at y0
                clear h1 h2
                generalize es[k].seq = S at *
                go_wp2_with fail
                go_quiet (fail)
                go_wp2_with fail
                go_roundw
                case rel => exact ⟨k + 1, r, by omega, by omega, by go_num, hB.out.drewN _, q1.out, q2.out, q3.out, q4.out, .inl ⟨hto, hr7, hr8.out, hfe.out⟩, hux.out.drewN _⟩
                case measure => simp [intOf]; omega
            · rw [if_neg (fun h => h1 h.1)] at hfe
              replace hfe := hide hfe
              have hb : (es[k].cl == e.cl) = false := by simpa using h1
              clear h1
              generalize es[k].cl = C at *
              go_wp2_with fail
              go_quiet (fail)
              go_wp2_with fail
              go_roundw
              case rel => exact ⟨k + 1, r, by omega, by omega, by go_num, hB.out.drewN _, q1.out, q2.out, q3.out, q4.out, .inl ⟨hto, hr7, hr8.out, hfe.out⟩, hux.out.drewN _⟩
              case measure => simp [intOf]; omega
          · have hend : findEnd e.cl e.seq (i + 1) (es.drop (i + 1)) = (r.to, r.out) := by
              rcases hr with ⟨h1, h2, h3, h4⟩ | ⟨_, h⟩
              · have : k = es.length := by
                  by_cases h : k < es.length
                  · exact absurd ⟨h, h1⟩ hgo
                  · omega
                rw [h4, this, List.drop_length, findEnd, h2, h3]
              · exact h
            have hR : r = ⟨e.cl, e.seq, e.op, i, (findEnd e.cl e.seq (i + 1) (es.drop (i + 1))).1, (findEnd e.cl e.seq (i + 1) (es.drop (i + 1))).2⟩ := by
              rw [hend, ← r1, ← r2, ← r3, ← r4]
            have hrec2 := hrec.out
            rw [← hR] at hrec2
            replace hrec2 := hide hrec2
            clear hR
            have X : aggAt 14 wr xb 0 = some r.cells := hB.agg0 rfl
            have hO3 := hO2.out.upd hux (by
              intro x hx hm
              have := sepx.out x hx
              rw [List.mem_singleton.1 hm] at this
              omega)
            have UA := (((U2.out.mono (S' := [xb]) (by simp)).trans hux (fun i h _ => h)).mono (S' := []) (by simp; omega)).alloc (.cells r.cells 48)
            have RA := hO3.upd ((Upd.refl wr []).alloc (.cells r.cells 48)) (by simp)
            have OWN := hide RA.own
            rw [recCells_len] at OWN
            have NE := hide (show ∀ j u, r.cells.toList[j]? = some u → (wr.alloc (.cells r.cells 48)).cell? ((⟨wr.heap.size, 0, none⟩ : Addr).add j) = some u from fun j u hu => by
              rw [Addr.add_mid, Nat.zero_add, (Blk.new wr 48 r.cells).cell, ← Array.getElem?_toList]; exact hu)
            have HE := hide (show ∀ u ∈ r.cells.toList, u.oneCell' = true from fun u hu => rec_one _ u (by simpa using hu))
            have hbs := hide UA.size
            have sz1 := hide RA.sizes
            have sz2 := hide RA.ones
            replace UA := hide UA
            clear hr hend hB hO3 RA hux hrec b1 U2 hO2 x0 x1
            clear r1 r2 r3 r4
            by_cases hkl : k < es.length
            · have hto : ¬ r.to < 0 := fun h => hgo ⟨hkl, h⟩
              have hkli : (k : Int) < es.length := by omega
              clear hgo
              go_wp2_with (at_builtin; refine wpList_append_own _ rfl (.tmp 85) (.tmp 87) 44 rfl w.heap.size 48 i0 (.agg zeroRec) 14 136 Try.underlying44 hi0 hz0 hz1 hz2 rfl (by decide) u3 pre.length (flat (recCells pre)) rfl OWN.out ⟨wr.heap.size, 0, none⟩ 1 1 r.cells.toList rfl rfl NE.out HE.out (by unfold maxLen; omega) (by omega) hbs.out ?_; intro v1 w1 hown hgr hnil)
              have F1 := hide (RowOf.push (F := r.cells) sz1.out sz2.out rfl (rec_one r) (by rw [recCells_len]; exact hown))
              have F2 := hide (Upd.own UA.out (Nat.le_refl _) OWN.out hgr)
              clear hown hgr hnil OWN UA NE HE
              go_wp2_with fail
              go_roundw
              case rel => exact ⟨i + 1, pre ++ [r], by omega, by go_num, by rw [hrec2.out]; simp, by simp; omega, by simpa [recCells] using F1.out, F2.out⟩
              case measure => simp [intOf]; omega
            · obtain rfl : k = es.length := by omega
              clear hgo
              go_wp2_with (at_builtin; refine wpList_append_own _ rfl (.tmp 85) (.tmp 87) 44 rfl w.heap.size 48 i0 (.agg zeroRec) 14 136 Try.underlying44 hi0 hz0 hz1 hz2 rfl (by decide) u3 pre.length (flat (recCells pre)) rfl OWN.out ⟨wr.heap.size, 0, none⟩ 1 1 r.cells.toList rfl rfl NE.out HE.out (by unfold maxLen; omega) (by omega) hbs.out ?_; intro v1 w1 hown hgr hnil)
              have F1 := hide (RowOf.push (F := r.cells) sz1.out sz2.out rfl (rec_one r) (by rw [recCells_len]; exact hown))
              have F2 := hide (Upd.own UA.out (Nat.le_refl _) OWN.out hgr)
              clear hown hgr hnil OWN UA NE HE
              go_wp2_with fail
              go_roundw
              case rel => exact ⟨i + 1, pre ++ [r], by omega, by go_num, by rw [hrec2.out]; simp, by simp; omega, by simpa [recCells] using F1.out, F2.out⟩
              case measure => simp [intOf]; omega
      · rw [if_pos hk] at hrec
        have hkb : (es[i].out.kind == 0) = false := by simpa using hk
        replace hrec := hide hrec
        replace hO := hide hO
        replace hu := hide hu
        clear A a0 a1 a2
        generalize es[i].out.kind = K at *
        go_wp2_with fail
        all_goals (try (exfalso; simp_all; done))
        go_roundw
        case rel => exact ⟨i + 1, pre, by omega, by go_num, hrec.out, by omega, hO.out, hu.out⟩
        case measure => simp [intOf]; omega
    · obtain rfl : i = es.length := by omega
      rw [List.drop_length, recsOf, List.append_nil] at hrec
      replace hO := hide hO
      replace hu := hide hu
      replace hrec := hide hrec
      go_wp2_with fail
      go_ret
      exact ⟨_, rfl, by rw [hrec.out]; exact hO.out, hu.out⟩
end Go.Proofs.Ytfnddooclgklmaa
