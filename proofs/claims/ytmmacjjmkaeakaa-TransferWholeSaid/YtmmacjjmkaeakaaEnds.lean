/- The walk of TransferEnds (f4). (Printed by gen28ends.py.) -/
import Derived.Test.YtmmacjjmkaeakaaPair
import Derived.Test.YtmmacjjmkaeakaaRegF
import Derived.Test.YtmmacjjmkaeakaaDsn
namespace Go.Proofs.Ytmmacjjmkaeakaa
open Go.RowKit
set_option linter.unusedVariables false
set_option linter.unusedSimpArgs false
set_option maxRecDepth 100000 in
set_option maxHeartbeats 16000000 in
theorem ends_walk (ta tb : ByteArray) (s0 s1 : Int) (p0 : 0 ≤ s0) (p1 : s0 ≤ 255) (p2 : 0 ≤ s1) (p3 : s1 ≤ 255) (w : World) :
    Calls Try.prog 4 #[.string ta, .string tb, .agg #[.int .u8 s0, .int .u8 s1]] w fun e w' => e = .returned (.bool true) ∧ Upd w w' [] := by
  have B := Blk.new w 39 #[.int .u8 s0, .int .u8 s1]
  have U := (Upd.refl w []).alloc (.cells #[.int .u8 s0, .int .u8 s1] 39)
  by_cases h6 : 400 < (ta.size : Int)
  · replace B := hide B
    replace U := hide U
    go_enter Try.func4, Try.ntmps4
    go_wp2_with fail
    refine (gone_ok _).mono ?_
    rintro e w2 ⟨rfl, k1⟩
    replace k1 := hide (U.out.trans k1 (by simp))
    go_wp2_with fail
    go_ret
    exact ⟨rfl, k1.out⟩
  by_cases h7 : 400 < (tb.size : Int)
  · replace B := hide B
    replace U := hide U
    go_enter Try.func4, Try.ntmps4
    go_wp2_with fail
    refine (gone_ok _).mono ?_
    rintro e w2 ⟨rfl, k1⟩
    replace k1 := hide (U.out.trans k1 (by simp))
    go_wp2_with fail
    go_ret
    exact ⟨rfl, k1.out⟩
  have lta : ta.size ≤ 400 := by omega
  have ltb : tb.size ≤ 400 := by omega
  replace B := hide B
  replace U := hide U
  obtain ⟨W, hW⟩ : ∃ W : Nat, 1 + s1 % 16 = (W : Int) := ⟨(1 + s1 % 16).toNat, by omega⟩
  obtain ⟨Z, hZ⟩ : ∃ Z : Nat, 1 + s0 % 60 = (Z : Int) := ⟨(1 + s0 % 60).toNat, by omega⟩
  have W1 : 1 ≤ W := by omega
  have W2 : W ≤ 16 := by omega
  have Z1 : 1 ≤ Z := by omega
  have Z2 : Z ≤ 60 := by omega
  have wW : IntKind.i64.wrap (1 + s1 % 16) = (W : Int) := by rw [hW]; exact IntWalk.i64_in _ (by omega)
  have wZ : IntKind.i64.wrap (1 + s0 % 60) = (Z : Int) := by rw [hZ]; exact IntWalk.i64_in _ (by omega)
  have ws0 : IntKind.i64.wrap s0 = s0 := IntWalk.i64_in _ (by omega)
  have tm0 : s0.tmod 60 = s0 % 60 := Int.tmod_eq_emod_of_nonneg p0
  have wZ2 : IntKind.i64.wrap (Z : Int) = (Z : Int) := IntWalk.i64_in _ (by omega)
  go_enter Try.func4, Try.ntmps4
  go_wp2_with fail
  generalize hpb : w.heap.size = pb at *
  have hpb2 : Hid (w.heap.size = pb) := Lib.hid hpb
  clear hpb
  generalize w.alloc (.cells #[.int .u8 s0, .int .u8 s1] 39) = w1 at *
  refine (newr_ok w1).mono ?_
  rintro e w2 ⟨rfl, R1, k1⟩
  have lw1 := U.out.size
  have B2 := hide (k1.blk B.out (by simp))
  have U2 := hide (U.out.trans k1 (by simp))
  have k2 := (Upd.refl w2 []).alloc (.cells #[.string ta, .string tb] 40)
  have R3 := hide (R1.upd0 k2)
  have B3 := hide (k2.blk B2.out (by simp))
  have U3 := hide (U2.out.trans k2 (by simp))
  have T3 := hide (Blk.new w2 40 #[.string ta, .string tb])
  have bc : (w2.alloc (.cells #[.string ta, .string tb] 40)).cell? ⟨pb, 1, none⟩ = some (.int .u8 s1) := by rw [B3.out.cell]; rfl
  have lb := hide (show w.heap.size ≤ w1.heap.size from lw1)
  clear R1 k1 B U B2 U2 k2 lw1
  go_wp2_with fail
  clear bc
  generalize w2.alloc (.cells #[.string ta, .string tb] 40) = w3 at *
  generalize w2.heap.size = pt at *
  generalize w1.heap.size = rr at *
  go_loopw [10] (fun vi wr => ∃ (tu : Nat) (id total : Int) (ps : List ByteArray) (rv : Value), tu ≤ 2 ∧ vi = .int .i64 tu ∧ Rcv wr rr rr rv id total ps ∧ Okr id total ps ∧ id < 3 + (tu : Int) ∧ (tu = 2 → id = 4) ∧ Blk wr pt 40 #[.string ta, .string tb] ∧ Blk wr pb 39 #[.int .u8 s0, .int .u8 s1] ∧ Upd w wr []) (fun vi _ => 2 - (intOf vi).toNat)
  case atStart => exact ⟨0, 0, 0, [], _, by omega, rfl, R3.out, Okr.zero, by omega, by omega, T3.out, B3.out, U3.out⟩
  case round =>
    clear R3 T3 B3 U3
    obtain ⟨tu, id, total, ps, rv, htu, rfl, R, ok, hid, hid4, T, B, hu⟩ := hrel
    have few := ok.few
    have lrr := hide (show w.heap.size ≤ wr.heap.size from hu.size)
    have lr2 := R.head.lt
    by_cases h2 : (tu : Int) < 2
    · obtain ⟨t, ctx, lt⟩ : ∃ t, (∀ X : World, Blk X pt 40 #[.string ta, .string tb] → X.cell? ⟨pt, tu, none⟩ = some (.string t)) ∧ t.size ≤ 400 := by
        by_cases h : tu = 0
        · subst h; exact ⟨ta, fun X T => by rw [T.cell]; rfl, lta⟩
        · obtain rfl : tu = 1 := by omega
          exact ⟨tb, fun X T => by rw [T.cell]; rfl, ltb⟩
      have ct := ctx wr T
      have cs : wr.cell? ⟨pb, 0, none⟩ = some (.int .u8 s0) := by rw [B.cell]; rfl
      have hnn : (0 : Int) ≤ (tu : Int) := by omega
      have w3t : IntKind.i64.wrap (3 + (tu : Int)) = 3 + (tu : Int) := IntWalk.i64_in _ (by omega)
      have hbad : openBad (3 + (tu : Int)) Z W = false := by simp [openBad]; omega
      replace R := hide R
      replace T := hide T
      replace B := hide B
      replace hu := hide hu
      replace ok := hide ok
      replace hid4 := hide hid4
      go_wp2_with fail
      refine F_start 16 (fun w' => w'.cell? ⟨pt, tu, none⟩ = some (.string t) ∧ w'.cell? ⟨pb, 0, none⟩ = some (.int .u8 s0)) (by kernel_rfl) ?_
      have hS : wr.drew.cell? ⟨pt, tu, none⟩ = some (.string t) ∧ wr.drew.cell? ⟨pb, 0, none⟩ = some (.int .u8 s0) := ⟨ct, cs⟩
      have R1 := hide (R.out.upd0 ((Upd.refl _ []).drew))
      have T1 := hide (T.out.drew)
      have B1 := hide (B.out.drew)
      have U1 := hide (hu.out.drew)
      clear ct cs R T B hu
      have lrd := hide (show w.heap.size ≤ wr.drew.heap.size from lrr.out)
      generalize wr.drew = wa at *
      refine F_take (i := 0) [15, 13, 12, 11, 1] (v := ?_) rfl (by kernel_rfl) (by kernel_rfl) (by kernel_rfl) (by kernel_rfl) (fun _ _ _ h => h) rfl ?_ hS ?_
      rotate_left
      · intro w hSw
        try dsimp only at hSw
        go_simp
        try with_reducible rfl
      try simp only [Act.put, List.setIfInBounds_toArray, List.set_cons_zero, List.set_cons_succ]
      refine F_take (i := 1) [15, 13, 12, 11] (v := ?_) rfl (by kernel_rfl) (by kernel_rfl) (by kernel_rfl) (by kernel_rfl) (fun _ _ _ h => h) rfl ?_ hS ?_
      rotate_left
      · intro w hSw
        try dsimp only at hSw
        go_simp
        try with_reducible rfl
      try simp only [Act.put, List.setIfInBounds_toArray, List.set_cons_zero, List.set_cons_succ]
      refine F_take (i := 2) [15, 13, 12, 11, 4, 3] (v := ?_) rfl (by kernel_rfl) (by kernel_rfl) (by kernel_rfl) (by kernel_rfl) (fun _ _ _ h => h) rfl ?_ hS ?_
      rotate_left
      · intro w hSw
        try dsimp only at hSw
        go_simp
        try with_reducible rfl
      try simp only [Act.put, List.setIfInBounds_toArray, List.set_cons_zero, List.set_cons_succ]
      refine F_take (i := 3) [15, 13, 12, 11, 4] (v := ?_) rfl (by kernel_rfl) (by kernel_rfl) (by kernel_rfl) (by kernel_rfl) (fun _ _ _ h => h) rfl ?_ hS ?_
      rotate_left
      · intro w hSw
        try dsimp only at hSw
        go_simp
        try with_reducible rfl
      try simp only [Act.put, List.setIfInBounds_toArray, List.set_cons_zero, List.set_cons_succ]
      refine F_take (i := 4) [15, 13, 12, 11] (v := ?_) rfl (by kernel_rfl) (by kernel_rfl) (by kernel_rfl) (by kernel_rfl) (fun _ _ _ h => h) rfl ?_ hS ?_
      rotate_left
      · intro w hSw
        try dsimp only at hSw
        go_simp
        try with_reducible rfl
      try simp only [Act.put, List.setIfInBounds_toArray, List.set_cons_zero, List.set_cons_succ]
      refine F_take (i := 5) [15, 13, 12, 11, 9, 8, 7, 6] (v := ?_) rfl (by kernel_rfl) (by kernel_rfl) (by kernel_rfl) (by kernel_rfl) (fun _ _ _ h => h) rfl ?_ hS ?_
      rotate_left
      · intro w hSw
        try dsimp only at hSw
        go_simp
        try with_reducible rfl
      try simp only [Act.put, List.setIfInBounds_toArray, List.set_cons_zero, List.set_cons_succ]
      refine F_take (i := 6) [15, 13, 12, 11, 9, 8, 7] (v := ?_) rfl (by kernel_rfl) (by kernel_rfl) (by kernel_rfl) (by kernel_rfl) (fun _ _ _ h => h) rfl ?_ hS ?_
      rotate_left
      · intro w hSw
        try dsimp only at hSw
        go_simp
        try with_reducible rfl
      try simp only [Act.put, List.setIfInBounds_toArray, List.set_cons_zero, List.set_cons_succ]
      refine F_take (i := 7) [15, 13, 12, 11, 9, 8] (v := ?_) rfl (by kernel_rfl) (by kernel_rfl) (by kernel_rfl) (by kernel_rfl) (fun _ _ _ h => h) rfl ?_ hS ?_
      rotate_left
      · intro w hSw
        try dsimp only at hSw
        go_simp
        try with_reducible rfl
      try simp only [Act.put, List.setIfInBounds_toArray, List.set_cons_zero, List.set_cons_succ]
      refine F_take (i := 8) [15, 13, 12, 11, 9] (v := ?_) rfl (by kernel_rfl) (by kernel_rfl) (by kernel_rfl) (by kernel_rfl) (fun _ _ _ h => h) rfl ?_ hS ?_
      rotate_left
      · intro w hSw
        try dsimp only at hSw
        go_simp
        try with_reducible rfl
      try simp only [Act.put, List.setIfInBounds_toArray, List.set_cons_zero, List.set_cons_succ]
      refine F_take (i := 9) [15, 13, 12, 11] (v := ?_) rfl (by kernel_rfl) (by kernel_rfl) (by kernel_rfl) (by kernel_rfl) (fun _ _ _ h => h) rfl ?_ hS ?_
      rotate_left
      · intro w hSw
        try dsimp only at hSw
        go_simp
        try with_reducible rfl
      try simp only [Act.put, List.setIfInBounds_toArray, List.set_cons_zero, List.set_cons_succ]
      refine F_take (i := 10) [15, 13, 12, 11] (v := ?_) rfl (by kernel_rfl) (by kernel_rfl) (by kernel_rfl) (by kernel_rfl) (fun _ _ _ h => h) rfl ?_ hS ?_
      rotate_left
      · intro w hSw
        try dsimp only at hSw
        go_simp
        try with_reducible rfl
      try simp only [Act.put, List.setIfInBounds_toArray, List.set_cons_zero, List.set_cons_succ]
      refine F_step (i := 11) rfl (by kernel_rfl) (fun K hK => ?_)
      refine step_call rfl 14 #[.int .i64 (3 + (tu : Int)), .string t, .int .i64 Z, .int .i64 W] (by first | rfl | (go_simp; done) | simp [execOp, resolve, invoke, Act.eval, Result.andThen]) ((open_ok (3 + (tu : Int)) W Z t wa hbad (by omega)).mono ?_)
      rintro e wb ⟨rs, bb, sv, k, rfl, hrs, hbb, HS, hc, kk⟩
      refine ⟨_, rfl, ?_⟩
      have k4 := cut_few hc (by omega)
      have R2 := hide (R1.out.upd0 kk)
      have T2 := hide (kk.blk T1.out (by simp))
      have B2 := hide (kk.blk B1.out (by simp))
      have U2 := hide (U1.out.trans kk (by simp))
      have hS2 := hS
      clear hS
      have hS := (⟨cell_upd hS2.1 kk (by simp), cell_upd hS2.2 kk (by simp)⟩ : _ ∧ _)
      replace HS := hide HS
      replace kk := hide kk
      clear R1 T1 B1 U1 hS2
      refine hK.out _ _ (Or.inr hS) ?_
      clear hK K
      try simp only [Act.put, List.setIfInBounds_toArray, List.set_cons_zero, List.set_cons_succ]
      refine F_take (i := 12) [15, 13] (v := ?_) rfl (by kernel_rfl) (by kernel_rfl) (by kernel_rfl) (by kernel_rfl) (fun _ _ _ h => h) rfl ?_ hS ?_
      rotate_left
      · intro w hSw
        try dsimp only at hSw
        go_simp
        try with_reducible rfl
      try simp only [Act.put, List.setIfInBounds_toArray, List.set_cons_zero, List.set_cons_succ]
      refine F_take (i := 13) [15] (v := ?_) rfl (by kernel_rfl) (by kernel_rfl) (by kernel_rfl) (by kernel_rfl) (fun _ _ _ h => h) rfl ?_ hS ?_
      rotate_left
      · intro w hSw
        try dsimp only at hSw
        go_simp
        try with_reducible rfl
      try simp only [Act.put, List.setIfInBounds_toArray, List.set_cons_zero, List.set_cons_succ]
      refine F_take (i := 14) [] (v := ?_) rfl (by kernel_rfl) (by kernel_rfl) (by kernel_rfl) (by kernel_rfl) (fun _ _ _ h => h) rfl ?_ hS ?_
      rotate_left
      · intro w hSw
        try dsimp only at hSw
        go_simp
        try with_reducible rfl
      try simp only [Act.put, List.setIfInBounds_toArray, List.set_cons_zero, List.set_cons_succ]
      refine F_take (i := 15) [] (v := ?_) rfl (by kernel_rfl) (by kernel_rfl) (by kernel_rfl) (by kernel_rfl) (fun _ _ _ h => h) rfl ?_ hS ?_
      rotate_left
      · intro w hSw
        try dsimp only at hSw
        go_simp
        try with_reducible rfl
      try simp only [Act.put, List.setIfInBounds_toArray, List.set_cons_zero, List.set_cons_succ]
      refine F_step (i := 16) rfl (by kernel_rfl) (fun K hK => ?_)
      go_simp
      refine hK.out _ _ (Or.inr hS) ?_
      clear hK K
      try simp only [Act.put, List.setIfInBounds_toArray, List.set_cons_zero, List.set_cons_succ]
      refine F_done (by kernel_rfl) ?_ _
      have hcm := hc.1
      have hcut := hide hc
      have ct := hS.1
      have cs := hS.2
      have dv1 : (t.size : Int).tdiv (Z : Int) = ((t.size / Z : Nat) : Int) := by rw [Int.tdiv_eq_ediv_of_nonneg (by omega)]; rfl
      have dl1 : t.size / Z ≤ 400 := Nat.le_trans (Nat.div_le_self _ _) lt
      have kd : k ≤ t.size / Z + 1 := by
        obtain ⟨c1, c2, c3⟩ := hc
        rcases c3 with c3 | c3
        · subst c3; exact Nat.succ_le_succ (Nat.zero_le _)
        · have : k - 1 ≤ t.size / Z := (Nat.le_div_iff_mul_le (by omega)).2 (by omega)
          omega
      clear hc
      generalize t.size / Z = d at *
      have dv2 : (d : Int).tdiv (W : Int) = ((d / W : Nat) : Int) := by rw [Int.tdiv_eq_ediv_of_nonneg (by omega)]; rfl
      have dl2 : d / W ≤ 400 := Nat.le_trans (Nat.div_le_self _ _) dl1
      have enough : k ≤ (d / W + 2) * W := by
        have e := Nat.div_add_mod d W
        have l := Nat.mod_lt d (show 0 < W by omega)
        rw [Nat.mul_comm] at e
        rw [Nat.add_mul]
        omega
      generalize d / W = en at *
      replace enough := hide enough
      have wd : IntKind.i64.wrap (d : Int) = (d : Int) := IntWalk.i64_in _ (by omega)
      have we : IntKind.i64.wrap (en : Int) = (en : Int) := IntWalk.i64_in _ (by omega)
      have we2 : IntKind.i64.wrap ((en : Int) + 2) = (en : Int) + 2 := IntWalk.i64_in _ (by omega)
      have zz : ((Z : Int) == 0) = false := beq_false_of_ne (by omega)
      have wz0 : ((W : Int) == 0) = false := beq_false_of_ne (by omega)
      have lrs := hide (show w.heap.size ≤ rs by have := lrd.out; omega)
      clear hS
      go_wp2_with fail
      go_quiet (fail)
      have R3 := hide (R2.out.upd0 ((Upd.refl _ []).drewN nq))
      have HS3 := hide (HS.out.upd0 ((Upd.refl _ []).drewN nq))
      have T3 := hide (T2.out.drewN nq)
      have B3 := hide (B2.out.drewN nq)
      have U3 := hide (U2.out.drewN nq)
      clear R2 HS T2 B2 U2 ct cs kk lrd
      generalize wb.drewN nq = wc at *
      go_wp2_with fail
      go_loopw [14] (fun vi wy => ∃ (i m : Nat) (id total : Int) (ps : List ByteArray) (rv : Value), i ≤ en + 2 ∧ vi = .int .i64 i ∧ m = min (i * W) k ∧ Rcv wy rr rr rv id total ps ∧ Okr id total ps ∧ Has (3 + (tu : Int)) t Z k m id total ps ∧ Snd wy wa.heap.size rs sv bb t Z k (3 + (tu : Int)) W m m ∧ Blk wy pt 40 #[.string ta, .string tb] ∧ Blk wy pb 39 #[.int .u8 s0, .int .u8 s1] ∧ Upd w wy []) (fun vi _ => en + 2 - (intOf vi).toNat)
      case atStart => exact ⟨0, 0, id, total, ps, rv, by omega, rfl, by simp, R3.out, ok.out, .inl ⟨rfl, hid⟩, HS3.out, T3.out, B3.out, U3.out⟩
      case round =>
        clear R3 HS3 T3 B3 U3 ok few hid hid4
        obtain ⟨i, m, id, total, ps, rv, hi, rfl, hm, R, ok, has, HS, T, B, hu⟩ := hrel
        by_cases h3 : (i : Int) < (en : Int) + 2
        · replace R := hide R
          replace ok := hide ok
          replace has := hide has
          replace HS := hide HS
          replace T := hide T
          replace B := hide B
          replace hu := hide hu
          replace hm := hide hm
          go_wp2_with fail
          go_loopw [15] (fun vj wx => ∃ (j m : Nat) (id total : Int) (ps : List ByteArray) (rv : Value), j ≤ W ∧ vj = .int .i64 j ∧ m = min (i * W + j) k ∧ Rcv wx rr rr rv id total ps ∧ Okr id total ps ∧ Has (3 + (tu : Int)) t Z k m id total ps ∧ Snd wx wa.heap.size rs sv bb t Z k (3 + (tu : Int)) W m m ∧ Blk wx pt 40 #[.string ta, .string tb] ∧ Blk wx pb 39 #[.int .u8 s0, .int .u8 s1] ∧ Upd w wx []) (fun vj _ => W - (intOf vj).toNat)
          case atStart => exact ⟨0, m, id, total, ps, rv, by omega, rfl, by simpa using hm.out, R.out, ok.out, has.out, HS.out, T.out, B.out, hu.out⟩
          case round =>
            clear R ok has HS T B hu hm m id total ps rv
            obtain ⟨j, m, id, total, ps, rv, hj, rfl, hm, R, ok, has, HS, T, B, hu⟩ := hrel
            by_cases h4 : (j : Int) < (W : Int)
            · by_cases h5 : m < k
              · skip
                have hme : m = i * W + j := by omega
                have NX := hide (next_ok m HS (by omega) (by omega) (by omega) h5 (by omega))
                replace hm := hide hm
                replace hme := hide hme
                replace R := hide R
                replace ok := hide ok
                replace has := hide has
                replace HS := hide HS
                replace T := hide T
                replace B := hide B
                replace hu := hide hu
                go_wp2_with fail
                refine NX.out.mono ?_
                rintro e w5 ⟨rfl, HS5, kk⟩
                have R5 := R.out.upd_snd HS.out kk
                have T5 := T.out.upd_snd HS.out (by decide) kk
                have B5 := B.out.upd_snd HS.out (by decide) kk
                have U5 := hu.out.trans kk (fun q hq hl => by simp at hq; have := lrs.out; omega)
                have k3 := (Upd.refl w5 []).alloc (.cells #[.int .i64 (3 + (tu : Int)), .int .i64 m, .int .i64 k, .string (cutB t Z m)] 31)
                have HS6 := hide (HS5.upd0 k3)
                have R6 := hide (R5.upd0 k3)
                have T6 := hide (k3.blk T5 (by simp))
                have B6 := hide (k3.blk B5 (by simp))
                have U6 := hide (U5.trans k3 (by simp))
                have PA := Blk.new w5 31 #[.int .i64 (3 + (tu : Int)), .int .i64 m, .int .i64 k, .string (cutB t Z m)]
                have x0 : (w5.alloc (.cells #[.int .i64 (3 + (tu : Int)), .int .i64 m, .int .i64 k, .string (cutB t Z m)] 31)).cell? ⟨w5.heap.size, 0, none⟩ = some (.int .i64 (3 + (tu : Int))) := by rw [PA.cell]; rfl
                have x1 : (w5.alloc (.cells #[.int .i64 (3 + (tu : Int)), .int .i64 m, .int .i64 k, .string (cutB t Z m)] 31)).cell? ⟨w5.heap.size, 1, none⟩ = some (.int .i64 m) := by rw [PA.cell]; rfl
                have x2 : (w5.alloc (.cells #[.int .i64 (3 + (tu : Int)), .int .i64 m, .int .i64 k, .string (cutB t Z m)] 31)).cell? ⟨w5.heap.size, 2, none⟩ = some (.int .i64 k) := by rw [PA.cell]; rfl
                have x3 : (w5.alloc (.cells #[.int .i64 (3 + (tu : Int)), .int .i64 m, .int .i64 k, .string (cutB t Z m)] 31)).cell? ⟨w5.heap.size, 3, none⟩ = some (.string (cutB t Z m)) := by rw [PA.cell]; rfl
                clear NX HS R T B hu HS5 kk R5 T5 B5 U5 k3 PA
                go_upto_region 20 with fail
                generalize w5.alloc (.cells #[.int .i64 (3 + (tu : Int)), .int .i64 m, .int .i64 k, .string (cutB t Z m)] 31) = w6 at *
                generalize w5.heap.size = pa at *
                have fw := ok.out.few
                have bw : rr ≤ w6.heap.size := Nat.le_of_lt R6.out.head.lt
                have TK := take_ok (⟨3 + (tu : Int), m, k, cutB t Z m⟩ : Pc) w6 R6.out bw (by omega)
                obtain ⟨n1, n2, n3⟩ := has.out.next (by omega) (by omega) k4 h5
                have ok2 := ok.out.take (⟨3 + (tu : Int), m, k, cutB t Z m⟩ : Pc)
                rw [n1, n2] at TK
                rw [n1] at ok2 n3
                replace ok2 := hide ok2
                replace TK := hide TK
                replace n1 := hide n1
                replace n2 := hide n2
                replace n3 := hide n3
                clear fw bw
                go_wp2_with fail
                refine TK.out.mono ?_
                rintro e w7 ⟨rv2, rfl, R7, kk, _⟩
                have HS7 := HS6.out.upd_take R6.out kk
                have T7 := T6.out.upd_take R6.out (by decide) (by decide) kk
                have B7 := B6.out.upd_take R6.out (by decide) (by decide) kk
                have U7 := hide (U6.out.trans kk (fun q hq hl => absurd hq (R6.out.past q (by have := lb.out; omega))))
                have AK := ack_ok (3 + (tu : Int)) ((m : Int) + 1) HS7 (by omega)
                have a1 : ackE (3 + (tu : Int)) k (3 + (tu : Int)) ((m : Int) + 1) = 0 := by simp [ackE]; omega
                have a2 : ackH (3 + (tu : Int)) k m (3 + (tu : Int)) ((m : Int) + 1) = ((m + 1 : Nat) : Int) := by rw [ackH, if_pos a1]; omega
                have a3 : ackS (3 + (tu : Int)) k m ((m : Int) + 1) (3 + (tu : Int)) ((m : Int) + 1) = ((m + 1 : Nat) : Int) := by rw [ackS, if_pos a1]; omega
                rw [a1, a2, a3] at AK
                replace AK := hide AK
                replace R7 := hide R7
                replace HS7 := hide HS7
                replace T7 := hide T7
                replace B7 := hide B7
                clear a1 a2 a3 x0 x1 x2 x3 TK kk HS6 R6 T6 B6 U6 ok has
                have c1 : (((m + 1 : Nat) : Int)) = (m : Int) + 1 := by omega
                have bb1 : ((3 + (tu : Int)) == (3 + (tu : Int))) = true := by simp
                go_wp2_with fail
                refine AK.out.mono ?_
                rintro e w8 ⟨rfl, HS8, kk⟩
                have R8 := hide (R7.out.upd_snd HS7.out kk)
                have T8 := hide (T7.out.upd_snd HS7.out (by decide) kk)
                have B8 := hide (B7.out.upd_snd HS7.out (by decide) kk)
                have U8 := hide (U7.out.trans kk (fun q hq hl => by simp at hq; have := lrs.out; omega))
                replace HS8 := hide HS8
                clear R7 HS7 T7 B7 U7 AK kk
                go_wp2_with fail
                case roundEnd =>
                  refine ⟨⟨j + 1, m + 1, _, _, _, rv2, by omega, by simp, by have := hme.out; omega, R8.out, ok2.out, n3.out, HS8.out, T8.out, B8.out, U8.out⟩, ?_⟩
                  simp only [intOf]; omega
              · skip
                have hmk : m = k := by omega
                have NX := hide (next_no HS (by omega) (by omega) (by omega) (by omega) (by omega) (.inl (by omega)))
                replace hm := hide hm
                replace R := hide R
                replace ok := hide ok
                replace has := hide has
                replace HS := hide HS
                replace T := hide T
                replace B := hide B
                replace hu := hide hu
                go_wp2_with fail
                refine NX.out.mono ?_
                rintro e w5 ⟨rfl, kk⟩
                have k3 := hide (kk.alloc (.cells #[.int .i64 0, .int .i64 0, .int .i64 0, .string ⟨#[]⟩] 31))
                have HS6 := hide (HS.out.upd0 k3.out)
                have R6 := hide (R.out.upd0 k3.out)
                have T6 := hide (k3.out.blk T.out (by simp))
                have B6 := hide (k3.out.blk B.out (by simp))
                have U6 := hide (hu.out.trans k3.out (by simp))
                clear NX HS R T B hu kk k3
                go_wp2_with fail
                case roundEnd =>
                  refine ⟨⟨j + 1, m, id, total, ps, rv, by omega, by simp, by have := hm.out; omega, R6.out, ok.out, has.out, HS6.out, T6.out, B6.out, U6.out⟩, ?_⟩
                  simp only [intOf]; omega
            · skip
              have hjw : j = W := by omega
              have hm2 : m = min ((i + 1) * W) k := by rw [Nat.add_mul, Nat.one_mul]; omega
              replace hm := hide hm
              replace hm2 := hide hm2
              replace hjw := hide hjw
              go_wp2_with fail
              case roundEnd =>
                refine ⟨⟨i + 1, m, id, total, ps, rv, by omega, by simp, hm2.out, R, ok, has, HS, T, B, hu⟩, ?_⟩
                simp only [intOf]; omega
        · skip
          have hie : i = en + 2 := by omega
          have hmk : m = k := by have := enough.out; subst hie; omega
          replace hm := hide hm
          replace hie := hide hie
          clear hm
          subst hmk
          have TX := text_ok _ R (by have := ok.few; omega) ok.join
          rw [(has.all (by omega) hcut.out).1, (has.all (by omega) hcut.out).2] at TX
          replace TX := hide TX
          have hid3 : id = 3 + (tu : Int) := by
            rcases has with ⟨h0, _⟩ | ⟨_, h0, _⟩
            · omega
            · exact h0
          replace hid3 := hide hid3
          replace R := hide R
          replace HS := hide HS
          replace T := hide T
          replace B := hide B
          replace hu := hide hu
          replace ok := hide ok
          replace has := hide has
          go_wp2_with fail
          refine TX.out.mono ?_
          rintro e w5 ⟨rfl, kk⟩
          have R5 := hide (R.out.upd0 kk)
          have HS5 := HS.out.upd0 kk
          have T5 := hide (kk.blk T.out (by simp))
          have B5 := hide (kk.blk B.out (by simp))
          have U5 := hide (hu.out.trans kk (by simp))
          have DN := done_ok HS5 (by omega)
          have dd : decide (((m : Nat) : Int) = (m : Int)) = true := by simp
          rw [dd] at DN
          replace DN := hide DN
          clear TX R HS T B hu kk HS5 dd
          go_wp2_with fail
          refine DN.out.mono ?_
          rintro e w6 ⟨rfl, n, rfl⟩
          have R6 := hide (R5.out.upd0 ((Upd.refl _ []).drewN n))
          have T6 := hide (T5.out.drewN n)
          have B6 := hide (B5.out.drewN n)
          have U6 := hide (U5.out.drewN n)
          clear DN R5 T5 B5 U5
          generalize w5.drewN n = w6 at *
          have ct6 := ctx w6 T6.out
          go_wp2_with fail
          case roundEnd =>
            refine ⟨⟨tu + 1, id, total, ps, rv, by omega, by simp, R6.out, ok.out, by have := hid3.out; omega, by have := hid3.out; omega, T6.out, B6.out, U6.out⟩, ?_⟩
            simp only [intOf]; omega
    · have h4 : id = 4 := hid4 (by omega)
      subst h4
      have TK := take_ok ⟨3, 0, 1, ⟨#[]⟩⟩ wr R (Nat.le_of_lt lr2) (by omega)
      have n1 : takeId 4 total ⟨3, 0, 1, ⟨#[]⟩⟩ = 4 := by simp [takeId, fitsB]
      rw [n1] at TK
      have past := R.past
      replace TK := hide TK
      replace R := hide R
      replace T := hide T
      replace B := hide B
      replace ok := hide ok
      go_wp2_with fail
      refine TK.out.mono ?_
      rintro e w5 ⟨rv2, rfl, _, kk, _⟩
      have U5 := hide (hu.trans kk (fun q hq hl => absurd hq (past q (by have := lb.out; omega))))
      clear TK kk hu
      go_wp2_with fail
      refine (gone_ok _).mono ?_
      rintro e w6 ⟨rfl, kk⟩
      have U6 := hide (U5.out.trans kk (by simp))
      clear kk U5
      go_wp2_with fail
      go_ret
      exact ⟨rfl, U6.out⟩
end Go.Proofs.Ytmmacjjmkaeakaa

