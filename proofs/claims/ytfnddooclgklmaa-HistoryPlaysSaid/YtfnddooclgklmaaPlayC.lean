/- HistoryPlays: the walk through the acts. -/
import Derived.Test.YtfnddooclgklmaaPlayA
import Derived.Test.YtfnddooclgklmaaGrowC
namespace Go.Proofs.Ytfnddooclgklmaa
open Go.RowKit
set_option linter.unusedVariables false
attribute [-go_sem] loadVar storeVar run_neq_struct
attribute [local go_sem] loadVar_else storeVar_else run_load29 run_load33 run_load35 run_load48 run_load49 run_load61 run_store29 run_store33 run_store35 run_store48 run_store49 aggAt_drew aggAt_drewN aggRoom_drew aggRoom_drewN
set_option maxRecDepth 100000 in
set_option maxHeartbeats 8000000 in
theorem play_walk (a0 : Option Addr) (b off cap : Nat) (xs : List Ac) (w : World) (ha : 0 < xs.length → a0 = some ⟨b, off, none⟩) (hx : Acts w b off xs) (hg : great xs 80 = false) :
    Calls Try.prog 3 #[.slice a0 xs.length cap] w fun e w' => e = .returned (.bool true) ∧ Upd w w' [] := by
  have hlen := great_few hg
  have G := hide (great_walk a0 b off cap xs 80 w ha hx (by omega))
  rw [hg] at G
  have N := hide (new_ok w)
  have X := hide hx
  have HA := hide ha
  clear hx ha hg
  go_enter Try.func3, Try.ntmps3
  go_wp2_with fail
  refine G.out.mono ?_
  rintro e w' ⟨rfl, rfl⟩
  clear G
  go_wp2_with fail
  refine N.out.mono ?_
  rintro e w1 ⟨rfl, H1, u1⟩
  replace H1 := hide H1
  replace u1 := hide u1
  clear N
  go_wp2_with fail
  go_loopw [4, 5] (fun vr vi wr => ∃ (k : Nat) (es : List Ev) (rs : List Rec) (ev : Nat) (v : Value), k ≤ xs.length ∧ vi = .int .i64 k ∧ Hist wr w.heap.size w.heap.size v rs ev ∧ RowOf wr 0 61 12 vr (evCells es) ∧ Rel rs ev es ∧ ev ≤ k ∧ Upd w wr []) (fun _ vi _ => xs.length - (intOf vi).toNat)
  case atStart => exact ⟨0, [], [], 0, _, by omega, rfl, H1.out, RowOf.nil _ _ _ _, Rel.zero, by omega, u1.out⟩
  case round =>
    clear H1 u1
    obtain ⟨k, es, rs, ev, v, hk, rfl, hH, hR, hI, hev, hu⟩ := hrel
    by_cases hlt : k < xs.length
    · obtain rfl := HA.out (by omega)
      have q1 := X.out.upd hu k hlt
      obtain ⟨a, ha⟩ : ∃ a, a = xs[k] := ⟨_, rfl⟩
      rw [← ha] at q1
      clear ha
      have rl := hI.ord.inv.few
      have el : es.length ≤ ev := Nat.le_of_eq hI.len.symm
      have hsz := hu.size
      have b0 := Blk.new wr 35 zeroA
      have r0 : aggRoom 13 (wr.alloc (.cells #[.bool false, .int .i64 0, .int .i64 0, .int .i64 0, .string ⟨#[]⟩, .string ⟨#[]⟩, .int .i64 0, .int .i64 0, .int .i64 0, .int .i64 0, .string ⟨#[]⟩, .int .i64 0, .int .i64 0] 35)) wr.heap.size 0 a.cells = true := b0.aggRoom 0 (by decide) rfl (act_one a)
      have b2 := b0.laid (cs' := a.cells) rfl
      have d2 := Upd.setCells (b := wr.heap.size) (S := []) (by simp) a.cells.toList 0 ((Upd.refl wr []).alloc (.cells zeroA 35))
      have H2 := hH.upd0 d2
      have R2 := hide (hR.upd d2 (by simp))
      have U2 := hide (hu.trans d2 (by simp))
      have facts := hide (fun (W : World) (B : Blk W wr.heap.size 35 a.cells) => act_facts a B)
      generalize hA : a.cells = A at *
      replace hA := hide hA
      replace b2 := hide b2
      replace H2 := hide H2
      replace hI := hide hI
      clear b0 d2 hH hu hR
      unfold zeroA at b2 H2 R2 U2
      obtain ⟨f0, f1, f2, f3, f4⟩ := facts.out _ b2.out
      go_upto_if 27 with fail
      clear q1 r0
      generalize (wr.alloc (.cells #[.bool false, .int .i64 0, .int .i64 0, .int .i64 0, .string ⟨#[]⟩, .string ⟨#[]⟩, .int .i64 0, .int .i64 0, .int .i64 0, .int .i64 0, .string ⟨#[]⟩, .int .i64 0, .int .i64 0] 35)).setCells wr.heap.size 0 A.toList = w2 at *
      generalize wr.heap.size = ab at *
      go_cut [4, 7, 8] from 16 to 105 (fun vr vf vg wx => ∃ (es' : List Ev) (rs' : List Rec) (ev' : Nat) (v' : Value) (z : Int), vf = .int .i64 z ∧ vg = .int .i64 z ∧ Hist wx w.heap.size w.heap.size v' rs' ev' ∧ RowOf wx 0 61 12 vr (evCells es') ∧ Rel rs' ev' es' ∧ ev' ≤ ev + 1 ∧ Upd w2 wx (w.heap.size :: blkOf v))
      case first =>
        as_aux_lemma =>
        have sepu := H2.out.farRow R2.out (by decide) (by decide)
        have sepa := H2.out.far b2.out (by decide) (by decide)
        cases hf : a.fin with
        | true =>
          rw [hf] at f0
          have E := hide (end_all a.cl a.seq a.out w2 H2.out (by omega))
          have he := hI.out.endE a.cl a.seq a.out
          have hi := hide (hI.out.ends a.cl a.seq a.out)
          have hn := hide (endN_le2 rs a.cl a.seq a.out ev)
          replace he := hide he
          replace sepu := hide sepu
          replace sepa := hide sepa
          replace hf := hide hf
          go_wp2_with fail
          refine E.out.mono ?_
          rintro e w4 ⟨v4, rfl, H4, k4⟩
          have R4 := R2.out.upd k4 sepu.out
          have b4 := k4.blk b2.out sepa.out
          obtain ⟨g0, g1, g2, g3, g4⟩ := facts.out _ b4
          have E2 := rend_all _ es a.cl a.seq a.out w4 R4 (by omega)
          rw [← he.out] at E2
          replace E2 := hide E2
          generalize endE rs a.cl a.seq a.out = z at *
          replace H4 := hide H4
          replace k4 := hide k4
          clear R4 b4 f0 f1 f2 f3 f4 E
          go_wp2_with fail
          refine E2.out.mono ?_
          rintro e w5 ⟨u5, rfl, R5, k5⟩
          have H5 := hide (H4.out.upd0 k5)
          have U5 := hide (k4.out.trans k5 (by simp))
          replace R5 := hide R5
          clear H4 k4 k5 E2
          go_wp2_with fail
          go_simp
          go_meet
          exact ⟨_, _, _, _, _, rfl, rfl, H5.out, R5.out, hi.out, hn.out, U5.out⟩
        | false =>
          rw [hf] at f0
          have E := hide (call_all a.cl a.seq a.op w2 H2.out (by have := U2.out.size; omega) (by omega) (by omega))
          have he := hI.out.callE a.cl a.seq a.op
          have hi := hide (hI.out.call a.cl a.seq a.op)
          have hn := hide (callN_le2 rs a.cl a.seq a.op ev)
          replace he := hide he
          replace sepu := hide sepu
          replace sepa := hide sepa
          replace hf := hide hf
          go_wp2_with fail
          refine E.out.mono ?_
          rintro e w4 ⟨v4, rfl, H4, k4⟩
          have R4 := R2.out.upd k4 sepu.out
          have b4 := k4.blk b2.out sepa.out
          obtain ⟨g0, g1, g2, g3, g4⟩ := facts.out _ b4
          have E2 := rcall_all _ es a.cl a.seq a.op w4 R4 (by omega)
          rw [← he.out] at E2
          replace E2 := hide E2
          generalize callE rs a.cl a.seq a.op = z at *
          replace H4 := hide H4
          replace k4 := hide k4
          clear R4 b4 f0 f1 f2 f3 f4 E
          go_wp2_with fail
          refine E2.out.mono ?_
          rintro e w5 ⟨u5, rfl, R5, k5⟩
          have H5 := hide (H4.out.upd0 k5)
          have U5 := hide (k4.out.trans k5 (by simp))
          replace R5 := hide R5
          clear H4 k4 k5 E2
          go_wp2_with fail
          go_simp
          go_meet
          exact ⟨_, _, _, _, _, rfl, rfl, H5.out, R5.out, hi.out, hn.out, U5.out⟩
      case rest =>
        obtain ⟨es', rs', ev', v', z, rfl, rfl, H4, R4, I4, hn, k4⟩ := hcut
        obtain ⟨w4, rfl⟩ : ∃ w4 : World, w4 = wc := ⟨_, rfl⟩
        have U4 := H2.out.step U2.out (Nat.le_refl _) k4
        have nf := I4.ord.inv.few
        have el' := I4.len
        have C4 := hide (records_ok _ H4 (by omega))
        have hrec := I4.recs
        replace H4 := hide H4
        replace U4 := hide U4
        replace R4 := hide R4
        replace I4 := hide I4
        clear k4 b2 H2 R2 U2 f0 f1 f2 f3 f4 hI facts hA
        go_wp2_with fail
        refine C4.out.mono ?_
        rintro e w5 ⟨v5, rfl, R5, u5⟩
        have sep := hide (H4.out.sep R5)
        have ge5 := hide (fun x hx => Nat.le_trans U4.out.size (R5.ge x hx))
        have H5 := H4.out.upd0 u5
        have Q5 := R4.out.upd u5 (by simp)
        have U5 := U4.out.trans u5 (by simp)
        have C5 := rrecords_ok _ es' w5 Q5 (by omega)
        rw [← hrec] at C5
        replace C5 := hide C5
        replace H5 := hide H5
        replace Q5 := hide Q5
        replace U5 := hide U5
        replace R5 := hide (R5.mono (b' := 0) (Nat.zero_le _))
        clear C4 u5 H4 R4 U4
        go_wp2_with fail
        refine C5.out.mono ?_
        rintro e w6 ⟨v6, rfl, R6, u6⟩
        have A6 := R5.out.upd u6 (by simp)
        have ap := hide (R6.apart A6 (by decide))
        have H6 := H5.out.upd0 u6
        have Q6 := Q5.out.upd u6 (by simp)
        have apu := hide (Q6.apart A6 (by decide))
        have U6 := hide (U5.out.trans u6 (by simp))
        have E6 := hide (events_ok _ H6)
        replace H6 := hide H6
        obtain ⟨ga, ca, rfl, hga⟩ := A6.form
        obtain ⟨gb, cb, rfl, hgb⟩ := R6.form
        obtain ⟨gu, cu, rfl, hgu⟩ := Q6.form
        rw [recCells_len] at hga hgb A6 R6 ap sep ge5 apu
        rw [evCells_len, ← el'] at Q6 apu hgu
        rw [recCells_len, evCells_len, ← el']
        replace A6 := hide A6
        replace R6 := hide R6
        replace Q6 := hide Q6
        replace hga := hide hga
        replace hgb := hide hgb
        clear hgu
        replace el' := hide el'
        replace hrec := hide hrec
        clear C5 u6 H5 Q5 U5 R5
        go_wp2_with fail
        refine E6.out.mono ?_
        rintro e w' ⟨rfl, rfl⟩
        clear E6
        go_wp2_with fail
        go_loopw [11] (fun vj wz => ∃ (j : Nat) (Fs : List (Array Value)), j ≤ rs'.length ∧ vj = .int .i64 j ∧ Fs.length = rs'.length ∧ (∀ i (h : i < rs'.length), j ≤ i → Fs[i]? = some rs'[i].cells) ∧ RowOf wz 0 49 14 (.slice ga rs'.length ca) Fs ∧ Upd w6 wz (blkOf (.slice ga rs'.length ca))) (fun vj _ => rs'.length - (intOf vj).toNat)
        case atStart => exact ⟨0, recCells rs', by omega, rfl, recCells_len _, fun i h _ => by simp [recCells, h], A6.out, Upd.refl _ _⟩
        case round =>
          obtain ⟨j, Fs, hj, rfl, hfl, hfs, hrow, hux⟩ := hrel
          by_cases hjl : j < rs'.length
          · obtain ⟨g, rfl⟩ := hga.out (by omega)
            obtain ⟨g2, rfl⟩ := hgb.out (by omega)
            have hji : (j : Int) < rs'.length := by omega
            have A2 := (R6.out.upd hux ap.out).rec48 j hjl
            have A1 := hrow.recAt hfl j hjl (hfs j hjl (Nat.le_refl _))
            have hs : ∀ w, (binOp .neq 48 (.agg rs'[j].cells) (.agg rs'[j].cells)).run Try.prog w = .ok (.bool false) w := fun w => by
              rw [run_neq48]; simp
            generalize rs'[j].cells = K at *
            replace hrow := hide hrow
            replace hux := hide hux
            replace hfs := hide hfs
            replace hfl := hide hfl
            go_wp2_with fail
            go_quiet (fail)
            obtain ⟨q1, q2⟩ := (hrow.out.upd ((Upd.refl wr []).drewN nq) (by simp)).wipe hfl.out j hjl
            have q3 := hide (Upd.setCells (b := g) (S := blkOf (.slice (some ⟨g, 0, none⟩) rs'.length ca)) (by simp [blkOf, Value.ownBlock]) zeroRec.toList (j * 14) (hux.out.drewN nq))
            replace q2 := hide q2
            clear hux hrow A1 A2 hs
            go_wp2_with (refine wpList_zero rfl rfl ?_)
            go_roundw
            case rel => exact ⟨j + 1, Fs.set j zeroRec, by omega, by go_num, by rw [List.length_set]; exact hfl.out, fun i h hi => by rw [List.getElem?_set_ne (by omega)]; exact hfs.out i h (by omega), q2.out, q3.out⟩
            case measure => simp [intOf]; omega
          · obtain rfl : j = rs'.length := by omega
            have Hz := hide (H6.out.upd hux (fun h => sep.out _ h List.mem_cons_self) (fun g hg hm => sep.out _ hm (List.mem_cons_of_mem _ hg)))
            have Qz := hide (Q6.out.upd hux apu.out)
            have Uz := hide (U6.out.trans hux (fun i hi hl => by have := ge5.out i hi; omega))
            clear hux hrow hfs hfl H6 Q6 U6 A6 R6
            go_wp2_with fail
            go_roundw
            case rel => exact ⟨k + 1, es', rs', ev', v', by omega, by go_num, Hz.out, Qz.out, I4.out, by omega, Uz.out⟩
            case measure => simp [intOf]; omega
    · obtain rfl : k = xs.length := by omega
      have U := hide hu
      clear hH hI hu hR
      go_wp2_with fail
      refine (told_any _).mono ?_
      rintro e w2 ⟨rfl, u2⟩
      replace u2 := hide u2
      go_wp2_with fail
      go_ret
      exact ⟨rfl, U.out.trans u2.out (by simp)⟩
end Go.Proofs.Ytfnddooclgklmaa
