/- The walks of the layer reads: the chapter's reads. -/
import Derived.Test.YtdnablmlkkkdhaaCopy
namespace Go.Proofs.Ytdnablmlkkkdhaa
open Go.RowKit
set_option linter.unusedVariables false
attribute [-go_sem] loadVar storeVar
attribute [local go_sem] loadVar_else storeVar_else run_load33 run_load35 run_load42 run_load44 run_load49 run_load72 run_store35 run_store42 run_store44 run_store49 aggAt_drew aggAt_drewN aggRoom_drew aggRoom_drewN
theorem numbers_true (v : Value) (L : List Rd) (ws : List Int) (b g c : Nat) (w : World) (R : RowOf w b 49 34 v (rdCells L)) (hw : ∀ i (h : i < ws.length), w.cell? ⟨g, i, none⟩ = some (.int .i64 ws[i])) (hl : L.length = ws.length) (hs : ws.length ≤ 1000)
    (he : ∀ i (h : i < L.length), ws[i]? = some L[i].id) : Calls Try.prog 23 #[v, .slice (some ⟨g, 0, none⟩) ws.length c] w fun e w' => e = .returned (.bool true) ∧ Upd w w' [] := by
  obtain ⟨ga, cc, rfl, hga⟩ := R.form
  rw [rdCells_len, hl] at hga R
  rw [rdCells_len, hl]
  have HW := hide hw
  have HE := hide he
  have HL := hide hl
  replace R := hide R
  replace hga := hide hga
  clear hw he hl
  go_enter Try.func23, Try.ntmps23
  go_wp2_with fail
  go_loopw [5] (fun vi wr => ∃ i : Nat, i ≤ ws.length ∧ vi = .int .i64 i ∧ Upd w wr []) (fun vi _ => ws.length - (intOf vi).toNat)
  case atStart => exact ⟨0, by omega, rfl, Upd.refl _ _⟩
  case round =>
    obtain ⟨i, hi, rfl, hu⟩ := hrel
    by_cases hlt : i < ws.length
    · obtain ⟨gb, rfl⟩ := hga.out (by omega)
      have hll := HL.out
      have RR := (R.out.upd hu (by simp))
      rw [← hll] at RR
      have A := RR.rd i (by omega)
      have A0 := aggAt_cell A 0 (by decide)
      have hid : (L[i]).id = ws[i] := by
        have := HE.out i (by omega)
        rw [List.getElem?_eq_getElem hlt] at this
        exact (Option.some.inj this).symm
      rw [Rd.at0, hid] at A0
      have A0 : wr.cell? ⟨gb, i * 34, none⟩ = some (.int .i64 ws[i]) := A0
      have B0 := cell_upd (HW.out i hlt) hu (by simp)
      have hii : (i : Int) < ws.length := by omega
      replace hu := hide hu
      clear RR A hll hid
      generalize ws[i] = z at *
      go_wp2_with fail
      go_quiet (fail)
      go_wp2_with fail
      go_roundw
      case rel => exact ⟨i + 1, by omega, by go_num, hu.out.drewN _⟩
      case measure => simp [intOf]; omega
    · obtain rfl : i = ws.length := by omega
      replace hu := hide hu
      go_wp2_with fail
      go_ret
      exact ⟨rfl, hu.out⟩
def zeroRes : Res := ⟨0, ⟨#[]⟩, 0, 0⟩
theorem Rds.step {W w w' : World} {base r : Nat} {v : Value} {cap last : Nat} {L : List Rd} (H : Rds w base r v cap last L) (U : Upd W w []) (hb : W.heap.size ≤ base) (u : Upd w w' (r :: blkOf v)) : Upd W w' [] :=
  U.trans u fun i hi hl => by
    exfalso
    rcases List.mem_cons.1 hi with rfl | hi
    · have := H.ge; omega
    · have := H.row.ge i hi; omega
theorem Rds.step1 {W w w' : World} {base r : Nat} {v : Value} {cap last : Nat} {L : List Rd} (H : Rds w base r v cap last L) (U : Upd W w []) (hb : W.heap.size ≤ base) (u : Upd w w' [r]) : Upd W w' [] :=
  H.step U hb (u.mono (S' := r :: blkOf v) (by intro i hi _; simp at hi; simp [hi]))
set_option maxRecDepth 100000 in
set_option maxHeartbeats 4000000 in
theorem waited_any (w : World) : Calls Try.prog 7 #[] w fun e w' => e = .returned (.bool true) ∧ Upd w w' [] := by
  have N := hide (new_ok 2 w (by decide) (by decide))
  go_enter Try.func7, Try.ntmps7
  go_wp2_with fail
  refine N.out.mono ?_
  rintro e w1 ⟨rfl, H1, U1⟩
  generalize hr : w.heap.size = r at *
  have bb : ∀ w', Upd w w' [] → r ≤ w'.heap.size := fun w' u => hr ▸ u.size
  have P1 := hide (put_ok zeroF zeroFd zeroRes w1 H1 (bb _ U1) zero_fit (by decide) (by decide))
  replace hr := hide hr
  replace bb := hide bb
  replace H1 := hide H1
  replace U1 := hide U1
  clear N
  go_wp2_with fail
  refine P1.out.mono ?_
  rintro e w2 ⟨v2, F2, rfl, hF2, H2, u2⟩
  have U2 := H1.out.step U1.out (Nat.le_of_eq hr.out) u2
  have P2 := hide (put_ok zeroF zeroFd zeroRes w2 H2 (bb.out _ U2) zero_fit (by simp) (by decide))
  replace H2 := hide H2
  replace U2 := hide U2
  clear P1 u2 H1 U1 hF2
  go_wp2_with fail
  refine P2.out.mono ?_
  rintro e w3 ⟨v3, F3, rfl, hF3, H3, u3⟩
  have U3 := H2.out.step U2.out (Nat.le_of_eq hr.out) u3
  have P3 := hide (put_full zeroF zeroRes w3 H3 rfl (by simp))
  replace H3 := hide H3
  replace U3 := hide U3
  clear P2 u3 H2 U2 hF3
  go_wp2_with fail
  refine P3.out.mono ?_
  rintro e w4 ⟨rfl, u4⟩
  have H4 := H3.out.upd0 u4
  have U4 := U3.out.trans u4 (by simp)
  have S4 := hide (sure_ok 1 w4 H4 (bb.out _ U4))
  replace H4 := hide H4
  replace U4 := hide U4
  clear P3 u4 H3 U3
  go_wp2_with fail
  refine S4.out.mono ?_
  rintro e w5 ⟨vg, vk, rfl, G5, H5, ap5, u5⟩
  have U5 := H4.out.step1 U4.out (Nat.le_of_eq hr.out) u5
  have g5 : List.filter (fun x => !sureP 1 x) (([] ++ [Rd.mk ((0 + 1 : Nat) : Int) zeroFd zeroRes F2]) ++ [Rd.mk ((0 + 1 + 1 : Nat) : Int) zeroFd zeroRes F3]) = [Rd.mk 1 zeroFd zeroRes F2] := by
    simp [sureP]
  have g6 : List.filter (sureP 1) (([] ++ [Rd.mk ((0 + 1 : Nat) : Int) zeroFd zeroRes F2]) ++ [Rd.mk ((0 + 1 + 1 : Nat) : Int) zeroFd zeroRes F3]) = [Rd.mk 2 zeroFd zeroRes F3] := by
    simp [sureP]
  rw [g5] at G5
  rw [g6] at H5
  clear g5 g6
  have P5 := hide (put_ok zeroF zeroFd zeroRes w5 H5 (bb.out _ U5) zero_fit (by simp) (by decide))
  have sep5 := H5.sep
  have hr5 := G5.ne H5.head (by decide)
  replace H5 := hide H5
  replace U5 := hide U5
  replace G5 := hide G5
  replace ap5 := hide ap5
  replace hr5 := hide hr5
  clear S4 u5 H4 U4 sep5
  go_wp2_with fail
  refine P5.out.mono ?_
  rintro e w6 ⟨v6, F6, rfl, hF6, H6, u6⟩
  have U6 := H5.out.step U5.out (Nat.le_of_eq hr.out) u6
  have G6 := G5.out.upd u6 (fun g hg hm => by
    rcases List.mem_cons.1 hm with rfl | hm
    · exact hr5.out _ hg (by simp)
    · exact ap5.out _ hm hg)
  have L6 := hide (last_ok w6 H6)
  replace H6 := hide H6
  replace U6 := hide U6
  replace G6 := hide G6
  clear P5 u6 H5 U5 G5 ap5 hr5 hF6
  have eL : lastA ([(⟨2, zeroFd, zeroRes, F3⟩ : Rd)] ++ [⟨((2 + 1 : Nat) : Int), zeroFd, zeroRes, F6⟩]) = (3, true) := rfl
  rw [eL] at L6
  clear eL
  go_wp2_with fail
  refine L6.out.mono ?_
  rintro e w7 ⟨rfl, u7⟩
  have H7 := H6.out.upd0 u7
  have U7 := U6.out.trans u7 (by simp)
  have G7 := G6.out.upd (u7.alloc (.cells #[.int .i64 1] 3)) (by simp)
  have B7 := Blk.new w7 3 #[.int .i64 1]
  have NB := hide (numbers_true vg [Rd.mk 1 zeroFd zeroRes F2] [1] _ w7.heap.size 1 (w7.alloc (.cells #[.int .i64 1] 3)) G7 (fun i h => by
    obtain rfl : i = 0 := by simpa using h
    rw [B7.cell]; rfl) rfl (by decide) (fun i h => by
    obtain rfl : i = 0 := by simpa using h
    rfl))
  clear B7
  have H8 := hide (H7.upd0 ((Upd.refl w7 []).alloc (.cells #[.int .i64 1] 3)))
  have U8 := hide (U7.alloc (.cells #[.int .i64 1] 3))
  clear L6 u7 H6 U6 G6 H7 U7 G7
  go_wp2_with fail
  refine NB.out.mono ?_
  rintro e w8 ⟨rfl, u8⟩
  have H9 := H8.out.upd0 u8
  have U9 := U8.out.trans u8 (by simp)
  have S9 := hide (flush_ok w8 H9 (bb.out _ U9))
  replace H9 := hide H9
  replace U9 := hide U9
  clear NB u8 H8 U8
  go_wp2_with fail
  refine S9.out.mono ?_
  rintro e w9 ⟨vh, vl, rfl, G9, H10, _, u9⟩
  have U10 := H9.out.step1 U9.out (Nat.le_of_eq hr.out) u9
  have g9 : List.filter (fun x => !flushP x) ([Rd.mk 2 zeroFd zeroRes F3] ++ [Rd.mk ((2 + 1 : Nat) : Int) zeroFd zeroRes F6]) = [Rd.mk 2 zeroFd zeroRes F3, Rd.mk 3 zeroFd zeroRes F6] := by
    simp [flushP]
  rw [g9] at G9
  have G11 := G9.upd ((Upd.refl w9 []).alloc (.cells #[.int .i64 2, .int .i64 3] 3)) (by simp)
  have B9 := Blk.new w9 3 #[.int .i64 2, .int .i64 3]
  have ND := hide (numbers_true vh [Rd.mk 2 zeroFd zeroRes F3, Rd.mk 3 zeroFd zeroRes F6] [2, 3] _ w9.heap.size 2 (w9.alloc (.cells #[.int .i64 2, .int .i64 3] 3)) G11 (fun i h => by
    match i, h with
    | 0, _ => rw [B9.cell]; rfl
    | 1, _ => rw [B9.cell]; rfl) rfl (by decide) (fun i h => by
    match i, h with
    | 0, _ => rfl
    | 1, _ => rfl))
  have U11 := hide (U10.alloc (.cells #[.int .i64 2, .int .i64 3] 3))
  clear S9 u9 H9 U9 g9 G9 G11 B9 H10 U10
  go_wp2_with fail
  refine ND.out.mono ?_
  rintro e w10 ⟨rfl, u10⟩
  have U12 := hide (U11.out.trans u10 (by simp))
  clear ND u10 U11
  go_wp2_with fail
  go_ret
  exact ⟨rfl, U12.out⟩
end Go.Proofs.Ytdnablmlkkkdhaa
