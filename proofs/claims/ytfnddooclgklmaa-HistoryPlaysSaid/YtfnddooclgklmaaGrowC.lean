/- HistoryGrows: the walk. -/
import Derived.Test.YtfnddooclgklmaaGrowB
namespace Go.Proofs.Ytfnddooclgklmaa
open Go.RowKit
set_option linter.unusedVariables false
attribute [-go_sem] loadVar storeVar run_neq_struct
attribute [local go_sem] loadVar_else storeVar_else run_load29 run_load33 run_load35 run_load48 run_load49 run_load61 run_store29 run_store33 run_store35 run_store48 run_store49 aggAt_drew aggAt_drewN aggRoom_drew aggRoom_drewN
theorem RowOf.form {w : World} {base : Nat} {e : TypeId} {n : Nat} {v : Value} {Fs : List (Array Value)} (h : RowOf w base e n v Fs) : ∃ ga cap, v = .slice ga Fs.length cap ∧ (0 < Fs.length → ∃ g, ga = some ⟨g, 0, none⟩) := by
  rcases h.slice with ⟨rfl, rfl⟩ | ⟨g, cap, rfl, _⟩
  · exact ⟨none, 0, rfl, fun h => absurd h (by simp)⟩
  · exact ⟨_, cap, rfl, fun _ => ⟨g, rfl⟩⟩
theorem RowOf.rec_ {w : World} {b g cap : Nat} {rs : List Rec} (R : RowOf w b 49 14 (.slice (some ⟨g, 0, none⟩) rs.length cap) (recCells rs)) (i : Nat) (hi : i < rs.length) : aggAt 14 w g (i * 14) = some rs[i].cells := by
  rw [← recCells_len] at R
  have h2 := R.agg i (by simpa [recCells] using hi)
  simpa [recCells] using h2
theorem Hist.sep {base h : Nat} {v : Value} {rs : List Rec} {ev : Nat} {W w3 : World} (H : Hist W base h v rs ev) {e : TypeId} {n : Nat} {v3 : Value} {Fs : List (Array Value)} (R : RowOf w3 W.heap.size e n v3 Fs) : ∀ x ∈ blkOf v3, x ∉ h :: blkOf v := by
  intro x hx hm
  rcases R.slice with ⟨rfl, _⟩ | ⟨g, cap, rfl, hg, _⟩
  · simp [blkOf, Value.ownBlock] at hx
  · simp [blkOf, Value.ownBlock] at hx
    subst hx
    have := H.head.lt
    rcases List.mem_cons.1 hm with rfl | hm
    · omega
    · rcases H.slice with ⟨rfl, _⟩ | ⟨g', cap', rfl, _, _, hl⟩
      · simp [blkOf, Value.ownBlock] at hm
      · simp [blkOf, Value.ownBlock] at hm; omega
theorem great_few {xs : List Ac} {most : Nat} (h : great xs most = false) : xs.length ≤ most := by
  unfold great at h
  simp at h
  exact h.2
theorem act_facts (a : Ac) {W : World} {b t : Nat} (B : Blk W b t a.cells) : W.cell? ⟨b, 0, none⟩ = some (.bool a.fin) ∧ W.cell? ⟨b, 1, none⟩ = some (.int .i64 a.cl) ∧ W.cell? ⟨b, 2, none⟩ = some (.int .i64 a.seq) ∧ aggAt 4 W b 3 = some a.op.cells ∧ aggAt 6 W b 7 = some a.out.cells :=
  ⟨by rw [B.cell]; rfl, by rw [B.cell]; rfl, by rw [B.cell]; rfl, B.agg 3 rfl (fun j hj => by match j, hj with | 0, _ => rfl | 1, _ => rfl | 2, _ => rfl | 3, _ => rfl), B.agg 7 rfl (fun j hj => by match j, hj with | 0, _ => rfl | 1, _ => rfl | 2, _ => rfl | 3, _ => rfl | 4, _ => rfl | 5, _ => rfl)⟩
theorem act_one (a : Ac) : a.cells.all (·.oneCell') = true := by simp [Value.oneCell']
def zeroA : Array Value := #[.bool false, .int .i64 0, .int .i64 0, .int .i64 0, .string ⟨#[]⟩, .string ⟨#[]⟩, .int .i64 0, .int .i64 0, .int .i64 0, .int .i64 0, .string ⟨#[]⟩, .int .i64 0, .int .i64 0]
set_option maxRecDepth 100000 in
theorem grow_long (a0 : Option Addr) (b off cap : Nat) (xs : List Ac) (w : World) (ha : 0 < xs.length → a0 = some ⟨b, off, none⟩) (hx : Acts w b off xs) (hm : xs.length < 9223372036854775807) (hg : great xs 50 = true) :
    Calls Try.prog 6 #[.slice a0 xs.length cap] w fun e w' => e = .returned (.bool true) ∧ Upd w w' [] := by
  have G := hide (great_walk a0 b off cap xs 50 w ha hx hm)
  rw [hg] at G
  go_enter Try.func6, Try.ntmps6
  go_wp2_with fail
  refine G.out.mono ?_
  rintro e w' ⟨rfl, rfl⟩
  go_wp2_with fail
  refine (told_any _).mono ?_
  rintro e w2 ⟨rfl, u2⟩
  replace u2 := hide u2
  go_wp2_with fail
  go_ret
  exact ⟨rfl, u2.out⟩
set_option maxRecDepth 100000 in
set_option maxHeartbeats 8000000 in
theorem grow_walk (a0 : Option Addr) (b off cap : Nat) (xs : List Ac) (w : World) (ha : 0 < xs.length → a0 = some ⟨b, off, none⟩) (hx : Acts w b off xs) (hg : great xs 50 = false) :
    Calls Try.prog 6 #[.slice a0 xs.length cap] w fun e w' => e = .returned (.bool true) ∧ Upd w w' [] := by
  have hlen := great_few hg
  have G := hide (great_walk a0 b off cap xs 50 w ha hx (by omega))
  rw [hg] at G
  have N := hide (new_ok w)
  have X := hide hx
  have HA := hide ha
  clear hx ha hg
  go_enter Try.func6, Try.ntmps6
  go_wp2_with fail
  refine G.out.mono ?_
  rintro e w' ⟨rfl, rfl⟩
  clear G
  go_wp2_with fail
  refine N.out.mono ?_
  rintro e w1 ⟨rfl, H1, u1⟩
  replace H1 := hide H1
  replace u1 := hide u1
  clear N
  go_wp2_with fail
  go_loopw [4] (fun vi wr => ∃ (k : Nat) (rs : List Rec) (ev : Nat) (v : Value), k ≤ xs.length ∧ vi = .int .i64 k ∧ Hist wr w.heap.size w.heap.size v rs ev ∧ Inv rs ev ∧ ev ≤ k ∧ Upd w wr []) (fun vi _ => xs.length - (intOf vi).toNat)
  case atStart => exact ⟨0, [], 0, _, by omega, rfl, H1.out, Inv.zero, by omega, u1.out⟩
  case round =>
    clear H1 u1
    obtain ⟨k, rs, ev, v, hk, rfl, hH, hI, hev, hu⟩ := hrel
    by_cases hlt : k < xs.length
    · obtain rfl := HA.out (by omega)
      have q1 := X.out.upd hu k hlt
      obtain ⟨a, ha⟩ : ∃ a, a = xs[k] := ⟨_, rfl⟩
      rw [← ha] at q1
      clear ha
      have rl := hI.few
      have hsz := hu.size
      have b0 := Blk.new wr 35 zeroA
      have r0 : aggRoom 13 (wr.alloc (.cells #[.bool false, .int .i64 0, .int .i64 0, .int .i64 0, .string ⟨#[]⟩, .string ⟨#[]⟩, .int .i64 0, .int .i64 0, .int .i64 0, .int .i64 0, .string ⟨#[]⟩, .int .i64 0, .int .i64 0] 35)) wr.heap.size 0 a.cells = true := b0.aggRoom 0 (by decide) rfl (act_one a)
      have b2 := b0.laid (cs' := a.cells) rfl
      have d2 := Upd.setCells (b := wr.heap.size) (S := []) (by simp) a.cells.toList 0 ((Upd.refl wr []).alloc (.cells zeroA 35))
      have H2 := hH.upd0 d2
      have U2 := hide (hu.trans d2 (by simp))
      have facts := hide (fun (W : World) (B : Blk W wr.heap.size 35 a.cells) => act_facts a B)
      generalize hA : a.cells = A at *
      replace hA := hide hA
      replace b2 := hide b2
      have C1 := hide (records_ok _ H2 (by omega))
      replace H2 := hide H2
      replace hI := hide hI
      clear b0 d2 hH hu
      go_wp2_with fail
      refine C1.out.mono ?_
      rintro e w3 ⟨v3, rfl, R3, u3⟩
      have H3 := hide (H2.out.upd0 u3)
      have E3 := hide (events_ok _ H3.out)
      have U3 := hide (U2.out.trans u3 (by simp))
      have b3 := hide (u3.blk b2.out (by simp))
      have sep := hide (H2.out.sep R3)
      obtain ⟨ga, c3, rfl, hga⟩ := R3.form
      rw [recCells_len] at hga sep R3
      rw [recCells_len]
      replace R3 := hide (R3.mono (b' := 0) (Nat.zero_le _))
      replace hga := hide hga
      obtain ⟨f0, f1, f2, f3, f4⟩ := facts.out _ b3.out
      clear C1 u3 U2 H2 b2 q1 r0
      go_wp2_with fail
      refine E3.out.mono ?_
      rintro e w' ⟨rfl, rfl⟩
      clear E3
      go_upto_if 33 with fail
      go_cut [8] from 18 to 188 (fun s wx => ∃ (rs' : List Rec) (ev' : Nat) (v' : Value) (ok : Bool), s = .bool ok ∧ Step a rs ev rs' ev' ok ∧ Hist wx w.heap.size w.heap.size v' rs' ev' ∧ Upd w3 wx (w.heap.size :: blkOf v))
      case first =>
        as_aux_lemma =>
        cases hf : a.fin with
        | true =>
          rw [hf] at f0
          have S := step_end a rs ev hI.out hf
          have E := hide (end_all a.cl a.seq a.out w3 H3.out (by omega))
          generalize endE rs a.cl a.seq a.out = z at *
          replace S := hide S
          replace hf := hide hf
          go_wp2_with fail
          refine E.out.mono ?_
          rintro e w4 ⟨v4, rfl, H4, k4⟩
          replace H4 := hide H4
          replace k4 := hide k4
          go_wp2_with fail
          go_simp
          go_meet
          exact ⟨_, _, _, _, rfl, S.out, H4.out, k4.out⟩
        | false =>
          rw [hf] at f0
          have S := step_call a rs ev hf
          have E := hide (call_all a.cl a.seq a.op w3 H3.out (by have := U3.out.size; omega) (by omega) (by omega))
          generalize callE rs a.cl a.seq a.op = z at *
          replace S := hide S
          replace hf := hide hf
          go_wp2_with fail
          refine E.out.mono ?_
          rintro e w4 ⟨v4, rfl, H4, k4⟩
          replace H4 := hide H4
          replace k4 := hide k4
          go_wp2_with fail
          go_simp
          go_meet
          exact ⟨_, _, _, _, rfl, S.out, H4.out, k4.out⟩
      case rest =>
        obtain ⟨rs', ev', v', ok, rfl, S, H4, k4⟩ := hcut
        obtain ⟨w4, rfl⟩ : ∃ w4 : World, w4 = wc := ⟨_, rfl⟩
        have R4 := R3.out.upd k4 sep.out
        have b4 := k4.blk b3.out (by rw [← hA.out] at b3; exact H3.out.far b3.out (by decide) (by decide))
        have U4 := H3.out.step U3.out (Nat.le_refl _) k4
        have I4 := S.inv hI.out
        have C4 := hide (records_ok _ H4 (by have := I4.few; have := S.le; omega))
        have nn := S.le
        have nf := I4.few
        replace S := hide S
        replace R4 := hide R4
        replace b4 := hide b4
        replace U4 := hide U4
        replace I4 := hide I4
        replace H4 := hide H4
        clear k4 R3 b3 U3 H3 sep hI f0 f1 f2 f3 f4
        go_wp2_with fail
        refine C4.out.mono ?_
        rintro e w5 ⟨v5, rfl, R5, u5⟩
        have H5 := hide (H4.out.upd0 u5)
        have U5 := hide (U4.out.trans u5 (by simp))
        have b5 := hide (u5.blk b4.out (by simp))
        have Q5 := hide (R4.out.upd u5 (by simp))
        obtain ⟨gb, c5, rfl, hgb⟩ := R5.form
        rw [recCells_len] at hgb R5
        rw [recCells_len]
        replace R5 := hide (R5.mono (b' := 0) (Nat.zero_le _))
        replace hgb := hide hgb
        obtain ⟨q, hch, hq⟩ := S.out.chg
        replace hch := hide hch
        replace hq := hide hq
        clear C4 u5 H4 U4 b4 R4
        go_wp2_with fail
        go_loopw [11, 12] (fun vo vj wx => ∃ (j : Nat) (n : Int), j ≤ rs.length ∧ vj = .int .i64 j ∧ vo = .int .i64 n ∧ (q < j → n = 1) ∧ (¬ q < j → n = 0) ∧ Upd w5 wx []) (fun _ vj _ => rs.length - (intOf vj).toNat)
        case atStart => exact ⟨0, 0, by omega, rfl, rfl, fun h => absurd h (by omega), fun _ => rfl, Upd.refl _ _⟩
        case round =>
          obtain ⟨j, n, hj, rfl, rfl, hn1, hn2, hux⟩ := hrel
          by_cases hjl : j < rs.length
          · obtain ⟨g, rfl⟩ := hga.out (by omega)
            obtain ⟨g2, rfl⟩ := hgb.out (by omega)
            have hji : (j : Int) < rs.length := by omega
            have hji' : (j : Int) < rs'.length := by omega
            have A1 := (Q5.out.upd hux (by simp)).rec_ j hjl
            have A2 := (R5.out.upd hux (by simp)).rec_ j (by omega)
            have bx := hide (hux.blk b5.out (by simp))
            by_cases hjq : j = q
            · subst hjq
              obtain ⟨p1, p2, p3, p4⟩ := hch.out.at_ hjl (by omega)
              have hs : ∀ w, (binOp .neq 49 (.agg rs[j].cells) (.agg rs'[j].cells)).run Try.prog w = .ok (.bool true) w := fun w => by
                rw [run_neq49, p1, decide_eq_false (fun e => by have := congrArg Rec.to e; rw [p2] at this; simp [endRec] at this)]; rfl
              have hs2 : ∀ w, (binOp .neq 49 (.agg rs'[j].cells) (.agg rs'[j].cells)).run Try.prog w = .ok (.bool false) w := fun w => by rw [run_neq49]; simp
              have k2 := rec_end rs[j] ev a.out
              rw [← p1] at k2
              have k1 : rs[j].cells.size = 14 := rfl
              have k3 := rec_all rs[j]
              have k4 : ∀ W g, aggAt 14 W g (j * 14) = some rs[j].cells → W.cell? ⟨g, j * 14 + 7, none⟩ = some (.int .i64 (-1)) := fun W g h => by rw [aggAt_cell h 7 (by decide), ← p2]; rfl
              have k5 : ∀ W g, aggAt 14 W g (j * 14) = some rs'[j].cells → W.cell? ⟨g, j * 14, none⟩ = some (.int .i64 a.cl) ∧ W.cell? ⟨g, j * 14 + 1, none⟩ = some (.int .i64 a.seq) := fun W g h => by
                have h0 := aggAt_cell h 0 (by decide)
                have h1 := aggAt_cell h 1 (by decide)
                rw [p1] at h0 h1
                exact ⟨by rw [← p3]; exact h0, by rw [← p4]; exact h1⟩
              have oo := out_one a.out
              have o6 : a.out.cells.size = 6 := rfl
              have k6 : rs[j].cells[7]? = some (.int .i64 (-1)) := by rw [← p2]; rfl
              obtain rfl : n = 0 := hn2 (by omega)
              generalize rs[j].cells = K1 at *
              generalize rs'[j].cells = K2 at *
              generalize hO : a.out.cells = O at *
              replace hux := hide hux
              replace hn1 := hide hn1
              replace hn2 := hide hn2
              replace k4 := hide k4
              replace k5 := hide k5
              replace k2 := hide k2
              go_wp2_with fail
              go_quiet (fail)
              have A1y : aggAt 14 (wr.drewN nq) g (j * 14) = some K1 := A1
              have A2y : aggAt 14 (wr.drewN nq) g2 (j * 14) = some K2 := A2
              have bxy := hide (bx.out.drewN nq)
              have uy := hide (hux.out.drewN nq)
              have hux0 := uy
              clear A1 A2 bx hux
              generalize wr.drewN nq = wy at *
              have b0 := Blk.new wy 49 zeroRec
              have r0 : aggRoom 14 (wy.alloc (.cells #[.int .i64 0, .int .i64 0, .int .i64 0, .string ⟨#[]⟩, .string ⟨#[]⟩, .int .i64 0, .int .i64 0, .int .i64 0, .int .i64 0, .int .i64 0, .int .i64 0, .string ⟨#[]⟩, .int .i64 0, .int .i64 0] 49)) wy.heap.size 0 K1 = true := b0.aggRoom 0 (by decide) k1 k3
              have b1 := b0.laid (cs' := K1) (by rw [k1]; rfl)
              have d1 := Upd.setCells (b := wy.heap.size) (S := []) (by simp) K1.toList 0 ((Upd.refl wy []).alloc (.cells zeroRec 49))
              have gl : g < wy.heap.size ∧ g2 < wy.heap.size := by
                constructor
                · have := aggAt_cell A1y 0 (by decide)
                  rw [Array.getElem?_eq_getElem (by omega)] at this
                  exact World.block_lt_of_cell? wy _ this
                · have := (k5.out _ _ A2y).2
                  exact World.block_lt_of_cell? wy _ this
              have xl := bxy.out.lt
              have bz := hide (d1.blk bxy.out (by simp))
              have A1z := aggAt_upd (by decide) A1y d1 (by simp)
              have A2z := aggAt_upd (by decide) A2y d1 (by simp)
              have uz := hide (uy.out.trans d1 (by simp))
              clear b0 d1 bxy uy
              replace b1 := hide b1
              go_wp2_with fail
              unfold zeroRec at bz A1z A2z uz b1
              clear r0
              generalize (wy.alloc (.cells #[.int .i64 0, .int .i64 0, .int .i64 0, .string ⟨#[]⟩, .string ⟨#[]⟩, .int .i64 0, .int .i64 0, .int .i64 0, .int .i64 0, .int .i64 0, .int .i64 0, .string ⟨#[]⟩, .int .i64 0, .int .i64 0] 49)).setCells wy.heap.size 0 K1.toList = wz at *
              have z1 : wz.cell? ⟨wy.heap.size, 7, none⟩ = some (.int .i64 (-1)) := by rw [b1.out.cell]; exact k6
              have z2 := b1.out.frozen 7
              obtain ⟨_, _, _, _, z3⟩ := facts.out _ bz.out
              have e1 : Upd wz (wz.setCell ⟨wy.heap.size, 7, none⟩ (.int .i64 ev)) [wy.heap.size] := (Upd.refl _ _).setCell (p := ⟨wy.heap.size, 7, none⟩) (by simp) _
              have z4 := aggAt_upd (by decide) z3 e1 (by simp; omega)
              have b2 := b1.out.set_ 7 (.int .i64 ev)
              have z5 : aggRoom 6 (wz.setCell ⟨wy.heap.size, 7, none⟩ (.int .i64 ev)) wy.heap.size 8 O = true := b2.aggRoom 8 (by simp [k1]) o6 oo
              replace e1 := hide e1
              replace b2 := hide b2
              go_region
              have dv := Upd.setCells (b := wy.heap.size) (by simp) O.toList 8 (e1.out.drew)
              have bv := ((b2.out.drew).setCells O.toList 8).congr (show putAt (K1.setIfInBounds 7 (.int .i64 ev)) 8 O.toList = K2 from k2.out)
              have A1v := aggAt_upd (by decide) A1z dv (by simp; omega)
              have A2v := aggAt_upd (by decide) A2z dv (by simp; omega)
              have bxv := dv.blk bz.out (by simp; omega)
              have uv := hide (((uz.out.mono (S' := [wy.heap.size]) (by simp)).trans dv (fun i h _ => h)).mono (S' := []) (by have := hux0.out.size; simp; omega))
              have yv : aggAt 14 ((wz.setCell ⟨wy.heap.size, 7, none⟩ (.int .i64 ev)).drew.setCells wy.heap.size 8 O.toList) wy.heap.size 0 = some K2 := bv.agg0 (aggAt_cells A2v).1
              have m4 := k4.out _ _ A1v
              obtain ⟨m5, m6⟩ := k5.out _ _ A2v
              obtain ⟨_, m1, m2, _, _⟩ := facts.out _ bxv
              clear dv bv bxv A1z A2z z1 z2 z3 z4 z5 bz uz b1 e1 b2
              generalize (wz.setCell ⟨wy.heap.size, 7, none⟩ (.int .i64 ev)).drew.setCells wy.heap.size 8 O.toList = wv at *
              go_wp2_with fail
              go_quiet (fail)
              go_wp2_with fail
              go_roundw
              case rel => exact ⟨j + 1, 1, by omega, by go_num, rfl, fun _ => rfl, fun h => absurd (by omega) h, uv.out.drewN _⟩
              case measure => simp [intOf]; omega
            · as_aux_lemma =>
              have p1 := hch.out.same j hjl (by omega) hjq
              have hs : ∀ w, (binOp .neq 49 (.agg rs[j].cells) (.agg rs'[j].cells)).run Try.prog w = .ok (.bool false) w := fun w => by rw [run_neq49, p1]; simp
              generalize rs[j].cells = K1 at *
              generalize rs'[j].cells = K2 at *
              replace hux := hide hux
              replace hn1 := hide hn1
              replace hn2 := hide hn2
              go_wp2_with fail
              go_quiet (fail)
              go_wp2_with fail
              go_roundw
              case rel => exact ⟨j + 1, n, by omega, by go_num, rfl, fun h => hn1.out (by omega), fun h => hn2.out (by omega), hux.out.drewN _⟩
              case measure => simp [intOf]; omega
          · obtain rfl : j = rs.length := by omega
            have E5 := hide (fun (n : Nat) => events_ok _ ((H5.out.upd0 hux).upd0 ((Upd.refl _ []).drewN n)))
            have Rx := R5.out.upd hux (by simp)
            have bx := hide (hux.blk b5.out (by simp))
            obtain ⟨f0, f1, f2, f3, f4⟩ := facts.out _ bx.out
            have H6 := hide (H5.out.upd0 hux)
            have U6 := hide (U5.out.trans hux (by simp))
            have hok : a.op = a.op := rfl
            rcases hq.out with ⟨e1, e2, e3, e4, e5, e6⟩ | ⟨e1, e2, e3, e4, e5⟩ | ⟨e1, e2, e3, e4⟩
            · obtain rfl : n = 0 := hn2 (by omega)
              obtain ⟨g2, rfl⟩ := hgb.out (by omega)
              have hnew : rs'[rs.length]'(by omega) = newRec a.cl a.seq a.op ev := by
                rw [List.getElem?_eq_getElem (by omega)] at e6; exact Option.some.inj e6
              have A := Rx.rec_ rs.length (by omega)
              rw [hnew] at A
              have l1 := aggAt_cell A 6 (by decide)
              have l2 : aggAt 4 wr g2 (rs.length * 14 + 2) = some a.op.cells := aggAt_part A (by decide) rfl (fun j hj => by match j, hj with | 0, _ => rfl | 1, _ => rfl | 2, _ => rfl | 3, _ => rfl)
              have hs : ∀ w, (binOp .neq 29 (.agg a.op.cells) (.agg a.op.cells)).run Try.prog w = .ok (.bool false) w := fun w => by rw [run_neq29]; simp
              as_aux_lemma =>
              have hd : (rs'.length : Int) - (rs.length : Int) = 1 := by omega
              have hz : (ev' : Int) - (ev : Int) = 1 := by omega
              have hlt' : (rs.length : Int) < rs'.length := by omega
              rw [hd]
              clear hd
              have l1' : wr.cell? ⟨g2, rs.length * 14 + 6, none⟩ = some (.int .i64 ev) := l1
              rw [e5] at f0
              subst e4
              replace e1 := hide e1
              replace e2 := hide e2
              replace e3 := hide e3
              clear hq hch S Q5 R5 Rx bx b5 H5 U5 A l1 hnew e6 hux
              go_wp2_with fail
              go_quiet ((first | (go_at_call 16; exact quiet_left (E5.out _))))
              go_wp2_with fail
              go_roundw
              case rel => exact ⟨k + 1, rs', ev', v', by omega, by go_num, H6.out.upd0 ((Upd.refl _ []).drewN _), I4.out, by have := nn; omega, U6.out.drewN _⟩
              case measure => simp [intOf]; omega
            · as_aux_lemma =>
              obtain rfl : n = 1 := hn1 (by omega)
              have hd : (rs'.length : Int) - (rs.length : Int) = 0 := by omega
              have hz : (ev' : Int) - (ev : Int) = 1 := by omega
              rw [e5] at f0
              subst e4
              replace e1 := hide e1
              replace e2 := hide e2
              replace e3 := hide e3
              clear hq hch S Q5 R5 Rx bx b5 H5 U5 hux
              go_wp2_with fail
              go_quiet ((first | (go_at_call 16; exact quiet_left (E5.out _))))
              go_wp2_with fail
              go_roundw
              case rel => exact ⟨k + 1, rs', ev', v', by omega, by go_num, H6.out.upd0 ((Upd.refl _ []).drewN _), I4.out, by have := nn; omega, U6.out.drewN _⟩
              case measure => simp [intOf]; omega
            · as_aux_lemma =>
              obtain rfl : n = 0 := hn2 (by omega)
              have hd : (rs'.length : Int) - (rs.length : Int) = 0 := by omega
              have hz : (ev' : Int) - (ev : Int) = 0 := by omega
              subst e4
              replace e1 := hide e1
              replace e2 := hide e2
              replace e3 := hide e3
              clear hq hch S Q5 R5 Rx bx b5 H5 U5 hux
              go_wp2_with fail
              go_quiet ((first | (go_at_call 16; exact quiet_left (E5.out _))))
              go_wp2_with fail
              go_roundw
              case rel => exact ⟨k + 1, rs', ev', v', by omega, by go_num, H6.out.upd0 ((Upd.refl _ []).drewN _), I4.out, by have := nn; omega, U6.out.drewN _⟩
              case measure => simp [intOf]; omega
    · obtain rfl : k = xs.length := by omega
      have U := hide hu
      clear hH hI hu
      go_wp2_with fail
      refine (told_any _).mono ?_
      rintro e w2 ⟨rfl, u2⟩
      replace u2 := hide u2
      go_wp2_with fail
      go_ret
      exact ⟨rfl, U.out.trans u2.out (by simp)⟩
end Go.Proofs.Ytfnddooclgklmaa
