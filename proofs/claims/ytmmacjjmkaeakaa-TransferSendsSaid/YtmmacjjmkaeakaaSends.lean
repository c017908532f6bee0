/- The walk of TransferSends (f5). (Printed by gen28sends.py.) -/
import Derived.Test.YtmmacjjmkaeakaaDsnS
import Derived.Test.YtmmacjjmkaeakaaGone
namespace Go.Proofs.Ytmmacjjmkaeakaa
open Go.RowKit
set_option linter.unusedVariables false
set_option linter.unusedSimpArgs false
structure Ac where
  o : Int
  a : Int
  n : Int
abbrev Ac.cells (x : Ac) : Array Value := #[.int .u8 x.o, .int .i64 x.a, .int .i64 x.n]
/-- at b, off lie the acts, in a row -/
def Acts (w : World) (b off : Nat) (xs : List Ac) : Prop := (∀ x ∈ xs, 0 ≤ x.o ∧ x.o ≤ 255) ∧ ∀ i (h : i < xs.length), ∀ j, j < 3 → w.cell? ⟨b, off + i * 3 + j, none⟩ = xs[i].cells[j]?
theorem Acts.upd {w w' : World} {b off : Nat} {xs : List Ac} (h : Acts w b off xs) (u : Upd w w' []) : Acts w' b off xs := ⟨h.1, fun i hi j hj => by
  have h2 := h.2 i hi j hj
  obtain ⟨v, hv⟩ : ∃ v, xs[i].cells[j]? = some v := by
    match j, hj with
    | 0, _ => exact ⟨_, rfl⟩
    | 1, _ => exact ⟨_, rfl⟩
    | 2, _ => exact ⟨_, rfl⟩
  rw [hv] at h2 ⊢
  exact cell_upd h2 u (by simp)⟩
theorem Acts.at0 {w : World} {b off : Nat} {xs : List Ac} (h : Acts w b off xs) (i : Nat) (hi : i < xs.length) : w.cell? ⟨b, off + i * 3, none⟩ = some (.int .u8 xs[i].o) := h.2 i hi 0 (by decide)
theorem Acts.at1 {w : World} {b off : Nat} {xs : List Ac} (h : Acts w b off xs) (i : Nat) (hi : i < xs.length) : w.cell? ⟨b, off + i * 3 + 1, none⟩ = some (.int .i64 xs[i].a) := h.2 i hi 1 (by decide)
theorem Acts.at2 {w : World} {b off : Nat} {xs : List Ac} (h : Acts w b off xs) (i : Nat) (hi : i < xs.length) : w.cell? ⟨b, off + i * 3 + 2, none⟩ = some (.int .i64 xs[i].n) := h.2 i hi 2 (by decide)
theorem ack_nat {id i n : Int} {k hv sn : Nat} (h1 : hv ≤ sn) (h2 : sn ≤ k) : ∃ hv2 sn2 : Nat, ackH id k hv i n = hv2 ∧ ackS id k hv sn i n = sn2 ∧ hv2 ≤ sn2 ∧ sn2 ≤ k := by
  by_cases h : ackE id k i n = 0
  · have hn : 0 ≤ n ∧ n ≤ (k : Int) := by
      simp only [ackE] at h
      split at h
      · cases h
      · split at h
        · cases h
        · omega
    refine ⟨(max (hv : Int) n).toNat, (max (sn : Int) (max (hv : Int) n)).toNat, ?_, ?_, ?_, ?_⟩
    · simp only [ackH, h, if_true]; omega
    · simp only [ackS, h, if_true]; omega
    · omega
    · omega
  · exact ⟨hv, sn, by simp only [ackH, h, if_false], by simp only [ackS, h, if_false], h1, h2⟩
set_option maxRecDepth 100000 in
set_option maxHeartbeats 16000000 in
theorem sends_walk (t : ByteArray) (id n1 win : Int) (a0 : Option Addr) (b off cap : Nat) (xs : List Ac) (w : World) (ha : 0 < xs.length → a0 = some ⟨b, off, none⟩) (hx : Acts w b off xs) (hm : xs.length ≤ 9223372036854775807) :
    Calls Try.prog 5 #[.string t, .agg #[.int .i64 id, .int .i64 n1, .int .i64 win], .slice a0 xs.length cap] w fun e w' => e = .returned (.bool true) ∧ Upd w w' [] := by
  have B := Blk.new w 49 #[.int .i64 id, .int .i64 n1, .int .i64 win]
  have U := (Upd.refl w []).alloc (.cells #[.int .i64 id, .int .i64 n1, .int .i64 win] 49)
  by_cases h6 : 600 < (t.size : Int)
  · replace B := hide B
    replace U := hide U
    go_enter Try.func5, Try.ntmps5
    go_wp2_with fail
    refine (gone_ok _).mono ?_
    rintro e w2 ⟨rfl, k1⟩
    replace k1 := hide (U.out.trans k1 (by simp))
    go_wp2_with fail
    go_ret
    exact ⟨rfl, k1.out⟩
  by_cases h1 : 100 < (xs.length : Int)
  · replace B := hide B
    replace U := hide U
    go_enter Try.func5, Try.ntmps5
    go_wp2_with fail
    refine (gone_ok _).mono ?_
    rintro e w2 ⟨rfl, k1⟩
    replace k1 := hide (U.out.trans k1 (by simp))
    go_wp2_with fail
    go_ret
    exact ⟨rfl, k1.out⟩
  have c0 : (w.alloc (.cells #[.int .i64 id, .int .i64 n1, .int .i64 win] 49)).cell? ⟨w.heap.size, 0, none⟩ = some (.int .i64 id) := by rw [B.cell]; rfl
  have c1 : (w.alloc (.cells #[.int .i64 id, .int .i64 n1, .int .i64 win] 49)).cell? ⟨w.heap.size, 1, none⟩ = some (.int .i64 n1) := by rw [B.cell]; rfl
  have c2 : (w.alloc (.cells #[.int .i64 id, .int .i64 n1, .int .i64 win] 49)).cell? ⟨w.heap.size, 2, none⟩ = some (.int .i64 win) := by rw [B.cell]; rfl
  replace B := hide B
  replace U := hide U
  have X := hide hx
  have HA := hide ha
  clear hx ha
  by_cases hb : openBad id n1 win = true
  · have T := hide (open_bad id n1 win t (w.alloc (.cells #[.int .i64 id, .int .i64 n1, .int .i64 win] 49)) hb)
    have T2 := hide (ropen_bad id n1 win t (w.alloc (.cells #[.int .i64 id, .int .i64 n1, .int .i64 win] 49)) hb)
    replace hb := hide hb
    go_enter Try.func5, Try.ntmps5
    go_wp2_with fail
    generalize w.alloc (.cells #[.int .i64 id, .int .i64 n1, .int .i64 win] 49) = w1 at *
    refine T.out.mono ?_
    rintro e w2 ⟨rfl, rfl⟩
    clear T
    go_wp2_with fail
    refine T2.out.mono ?_
    rintro e w3 ⟨rfl, rfl⟩
    clear T2
    go_wp2_with fail
    refine (gone_ok _).mono ?_
    rintro e w2 ⟨rfl, k1⟩
    replace k1 := hide (U.out.trans k1 (by simp))
    go_wp2_with fail
    go_ret
    exact ⟨rfl, k1.out⟩
  · have hb : openBad id n1 win = false := by simpa using hb
    have hb2 := hb
    simp only [openBad, Bool.or_eq_false_iff, decide_eq_false_iff_not] at hb2
    obtain ⟨⟨⟨⟨⟨o3, o4⟩, o5⟩, o6⟩, o7⟩, o8⟩ := hb2
    obtain ⟨size, rfl⟩ : ∃ size : Nat, n1 = (size : Int) := ⟨n1.toNat, by omega⟩
    have sp := hide (show 0 < size by omega)
    have sl := hide (show size ≤ 1000000 by omega)
    have tl := hide (show t.size ≤ 1000000000 by omega)
    have t4 : t.size ≤ size * 4096 := by omega
    have wn0 := hide (show 0 ≤ win by omega)
    have wn1 := hide (show win ≤ 100000 by omega)
    have T := hide (open_ok id win size t (w.alloc (.cells #[.int .i64 id, .int .i64 size, .int .i64 win] 49)) hb t4)
    clear o3 o4 o5 o6 o7 o8
    go_enter Try.func5, Try.ntmps5
    go_wp2_with fail
    have lw1 := U.out.size
    generalize hp1 : w.heap.size = p1 at *
    generalize w.alloc (.cells #[.int .i64 id, .int .i64 size, .int .i64 win] 49) = w1 at *
    refine T.out.mono ?_
    rintro e w2 ⟨r, bb, v, k, rfl, hr, hbb, HS, hc, U1⟩
    have k4 := hide (cut_few hc t4)
    have kp := hide (show 0 < k from hc.1)
    replace hc := hide hc
    have c0' := cell_upd c0 U1 (by simp)
    have c1' := cell_upd c1 U1 (by simp)
    have c2' := cell_upd c2 U1 (by simp)
    clear c0 c1 c2
    have lr := hide (show w.heap.size ≤ r by omega)
    have T2 := ropen_ok id win size k t w2 hb hc.out tl.out
    rw [if_pos k4.out] at T2
    replace T2 := hide T2
    have lrr := HS.head.lt
    replace HS := hide HS
    have U2 := hide (U.out.trans U1 (by simp))
    have lw2 := U1.size
    clear T U1 U B
    go_wp2_with fail
    refine T2.out.mono ?_
    rintro e w3 ⟨rfl, HD, kk⟩
    have HS3 := hide (HS.out.upd0 kk)
    have U3 := hide (U2.out.trans kk (by simp))
    have lq := hide (show w.heap.size ≤ w2.heap.size by omega)
    have qr := hide (show w2.heap.size ≠ r by omega)
    replace HD := hide HD
    have X3 := hide (X.out.upd U3.out)
    generalize w2.heap.size = q at *
    clear T2 HS U2 kk c0' c1' c2' lw1 lw2 lrr
    generalize w1.heap.size = bs at *
    clear X3
    go_wp2_with fail
    go_loopw [11] (fun vi wr => ∃ (i hv sn : Nat), i ≤ xs.length ∧ vi = .int .i64 i ∧ Snd wr bs r v bb t size k id win hv sn ∧ Blk wr q 57 (dsnC id size win hv sn t) ∧ hv ≤ sn ∧ sn ≤ k ∧ Upd w wr []) (fun vi _ => xs.length - (intOf vi).toNat)
    case atStart => exact ⟨0, 0, 0, by omega, rfl, HS3.out, HD.out, by omega, by omega, U3.out⟩
    case round =>
      clear HS3 HD U3
      obtain ⟨i, hv, sn, hi, rfl, HS, HD, hvs, snk, hu⟩ := hrel
      by_cases hl : (i : Int) < xs.length
      · have hil : i < xs.length := by omega
        obtain rfl := HA.out (by omega)
        have hX := X.out.upd hu
        have q0 := hX.at0 i hil
        have q1 := hX.at1 i hil
        have q2 := hX.at2 i hil
        obtain ⟨o0, o1⟩ := X.out.1 xs[i] (List.getElem_mem hil)
        clear hX
        obtain ⟨o, ho⟩ : ∃ o, xs[i].o = o := ⟨_, rfl⟩
        obtain ⟨a, hoa⟩ : ∃ a, xs[i].a = a := ⟨_, rfl⟩
        obtain ⟨n, hon⟩ : ∃ n, xs[i].n = n := ⟨_, rfl⟩
        rw [ho] at q0 o0 o1
        rw [hoa] at q1
        rw [hon] at q2
        clear ho hoa hon
        have k3 := (Upd.refl wr []).alloc (.cells #[.int .u8 o, .int .i64 a, .int .i64 n] 55)
        have ar := hide (show wr.heap.size ≠ r from by have := HS.head.lt; omega)
        have aq := hide (show wr.heap.size ≠ q from by have := HD.lt; omega)
        have BA := hide (Blk.new wr 55 #[.int .u8 o, .int .i64 a, .int .i64 n])
        have HS2 := hide (HS.upd0 k3)
        have HD2 := hide (k3.blk HD (by simp))
        have UZ := hide (hu.trans k3 (by simp))
        clear HS HD hu k3
        go_upto_region 11 with fail
        generalize wr.alloc (.cells #[.int .u8 o, .int .i64 a, .int .i64 n] 55) = wy at *
        generalize wr.heap.size = ab at *
        have HS := HS2
        have HD := HD2
        clear HS2 HD2 q0 q1 q2
        have y0 : wy.cell? ⟨ab, 0, none⟩ = some (.int .u8 o) := by rw [BA.out.cell]; rfl
        by_cases e5 : o % 9 = 5
        · skip
          have g5 : (o % 9 == 5) = true := by simp [e5]
          replace e5 := hide e5
          go_wp2_with fail

          refine F_start 16 (fun w' => w'.cell? ⟨q, 0, none⟩ = some (.int .i64 id) ∧ w'.cell? ⟨ab, 1, none⟩ = some (.int .i64 a) ∧ w'.cell? ⟨ab, 2, none⟩ = some (.int .i64 n)) (by kernel_rfl) ?_
          have hS : wy.drew.cell? ⟨q, 0, none⟩ = some (.int .i64 id) ∧ wy.drew.cell? ⟨ab, 1, none⟩ = some (.int .i64 a) ∧ wy.drew.cell? ⟨ab, 2, none⟩ = some (.int .i64 n) := ⟨by rw [HD.out.drew.cell]; rfl, by rw [BA.out.drew.cell]; rfl, by rw [BA.out.drew.cell]; rfl⟩
          have HS1 := HS.out.upd0 ((Upd.refl _ []).drew)
          have HD1 := HD.out.drew
          have BA1 := BA.out.drew
          have U1 := hide (UZ.out.drew)
          clear HS HD BA UZ
          generalize wy.drew = wa at *
          refine F_take (i := 0) [7] (v := ?_) rfl (by kernel_rfl) (by kernel_rfl) (by kernel_rfl) (by kernel_rfl) (fun _ _ _ h => h) rfl ?_ hS ?_
          rotate_left
          · intro w hSw
            try dsimp only at hSw
            go_simp
            try with_reducible rfl
          try simp only [Act.put, List.setIfInBounds_toArray, List.set_cons_zero, List.set_cons_succ]
          refine F_take (i := 1) [7, 4, 3, 2] (v := ?_) rfl (by kernel_rfl) (by kernel_rfl) (by kernel_rfl) (by kernel_rfl) (fun _ _ _ h => h) rfl ?_ hS ?_
          rotate_left
          · intro w hSw
            try dsimp only at hSw
            go_simp
            try with_reducible rfl
          try simp only [Act.put, List.setIfInBounds_toArray, List.set_cons_zero, List.set_cons_succ]
          refine F_take (i := 2) [7, 4, 3] (v := ?_) rfl (by kernel_rfl) (by kernel_rfl) (by kernel_rfl) (by kernel_rfl) (fun _ _ _ h => h) rfl ?_ hS ?_
          rotate_left
          · intro w hSw
            try dsimp only at hSw
            go_simp
            try with_reducible rfl
          try simp only [Act.put, List.setIfInBounds_toArray, List.set_cons_zero, List.set_cons_succ]
          refine F_take (i := 3) [7, 4] (v := ?_) rfl (by kernel_rfl) (by kernel_rfl) (by kernel_rfl) (by kernel_rfl) (fun _ _ _ h => h) rfl ?_ hS ?_
          rotate_left
          · intro w hSw
            try dsimp only at hSw
            go_simp
            try with_reducible rfl
          try simp only [Act.put, List.setIfInBounds_toArray, List.set_cons_zero, List.set_cons_succ]
          refine F_take (i := 4) [7] (v := ?_) rfl (by kernel_rfl) (by kernel_rfl) (by kernel_rfl) (by kernel_rfl) (fun _ _ _ h => h) rfl ?_ hS ?_
          rotate_left
          · intro w hSw
            try dsimp only at hSw
            go_simp
            try with_reducible rfl
          try simp only [Act.put, List.setIfInBounds_toArray, List.set_cons_zero, List.set_cons_succ]
          refine F_take (i := 5) [7, 6] (v := ?_) rfl (by kernel_rfl) (by kernel_rfl) (by kernel_rfl) (by kernel_rfl) (fun _ _ _ h => h) rfl ?_ hS ?_
          rotate_left
          · intro w hSw
            try dsimp only at hSw
            go_simp
            try with_reducible rfl
          try simp only [Act.put, List.setIfInBounds_toArray, List.set_cons_zero, List.set_cons_succ]
          refine F_take (i := 6) [7] (v := ?_) rfl (by kernel_rfl) (by kernel_rfl) (by kernel_rfl) (by kernel_rfl) (fun _ _ _ h => h) rfl ?_ hS ?_
          rotate_left
          · intro w hSw
            try dsimp only at hSw
            go_simp
            try with_reducible rfl
          try simp only [Act.put, List.setIfInBounds_toArray, List.set_cons_zero, List.set_cons_succ]
          refine F_take (i := 8) [15] (v := ?_) rfl (by kernel_rfl) (by kernel_rfl) (by kernel_rfl) (by kernel_rfl) (fun _ _ _ h => h) rfl ?_ hS ?_
          rotate_left
          · intro w hSw
            try dsimp only at hSw
            go_simp
            try with_reducible rfl
          try simp only [Act.put, List.setIfInBounds_toArray, List.set_cons_zero, List.set_cons_succ]
          refine F_take (i := 9) [15, 12, 11, 10] (v := ?_) rfl (by kernel_rfl) (by kernel_rfl) (by kernel_rfl) (by kernel_rfl) (fun _ _ _ h => h) rfl ?_ hS ?_
          rotate_left
          · intro w hSw
            try dsimp only at hSw
            go_simp
            try with_reducible rfl
          try simp only [Act.put, List.setIfInBounds_toArray, List.set_cons_zero, List.set_cons_succ]
          refine F_take (i := 10) [15, 12, 11] (v := ?_) rfl (by kernel_rfl) (by kernel_rfl) (by kernel_rfl) (by kernel_rfl) (fun _ _ _ h => h) rfl ?_ hS ?_
          rotate_left
          · intro w hSw
            try dsimp only at hSw
            go_simp
            try with_reducible rfl
          try simp only [Act.put, List.setIfInBounds_toArray, List.set_cons_zero, List.set_cons_succ]
          refine F_take (i := 11) [15, 12] (v := ?_) rfl (by kernel_rfl) (by kernel_rfl) (by kernel_rfl) (by kernel_rfl) (fun _ _ _ h => h) rfl ?_ hS ?_
          rotate_left
          · intro w hSw
            try dsimp only at hSw
            go_simp
            try with_reducible rfl
          try simp only [Act.put, List.setIfInBounds_toArray, List.set_cons_zero, List.set_cons_succ]
          refine F_take (i := 12) [15] (v := ?_) rfl (by kernel_rfl) (by kernel_rfl) (by kernel_rfl) (by kernel_rfl) (fun _ _ _ h => h) rfl ?_ hS ?_
          rotate_left
          · intro w hSw
            try dsimp only at hSw
            go_simp
            try with_reducible rfl
          try simp only [Act.put, List.setIfInBounds_toArray, List.set_cons_zero, List.set_cons_succ]
          refine F_take (i := 13) [15, 14] (v := ?_) rfl (by kernel_rfl) (by kernel_rfl) (by kernel_rfl) (by kernel_rfl) (fun _ _ _ h => h) rfl ?_ hS ?_
          rotate_left
          · intro w hSw
            try dsimp only at hSw
            go_simp
            try with_reducible rfl
          try simp only [Act.put, List.setIfInBounds_toArray, List.set_cons_zero, List.set_cons_succ]
          refine F_take (i := 14) [15] (v := ?_) rfl (by kernel_rfl) (by kernel_rfl) (by kernel_rfl) (by kernel_rfl) (fun _ _ _ h => h) rfl ?_ hS ?_
          rotate_left
          · intro w hSw
            try dsimp only at hSw
            go_simp
            try with_reducible rfl
          try simp only [Act.put, List.setIfInBounds_toArray, List.set_cons_zero, List.set_cons_succ]
          refine F_step (i := 7) rfl (by kernel_rfl) (fun K hK => ?_)
          refine step_call rfl 16 #[.pointer (some ⟨r, 0, none⟩), .int .i64 id, .int .i64 n] (by first | rfl | (go_simp; done) | simp [execOp, resolve, invoke, Act.eval, Result.andThen]) ((ack_ok id n HS1 kp.out).mono ?_)
          rintro e wb ⟨rfl, HS2, kk⟩
          have HD2 := kk.blk HD1 (by simpa using qr.out)
          have BA2 := kk.blk BA1 (by simpa using ar.out)
          have U2 := hide (U1.out.trans kk (fun j hj hl => by simp at hj; have := lr.out; omega))
          refine ⟨_, rfl, ?_⟩
          clear hS
          have hS : wb.cell? ⟨q, 0, none⟩ = some (.int .i64 id) ∧ wb.cell? ⟨ab, 1, none⟩ = some (.int .i64 a) ∧ wb.cell? ⟨ab, 2, none⟩ = some (.int .i64 n) := ⟨by rw [HD2.cell]; rfl, by rw [BA2.cell]; rfl, by rw [BA2.cell]; rfl⟩
          refine hK.out _ _ (Or.inr hS) ?_
          clear hK K
          try simp only [Act.put, List.setIfInBounds_toArray, List.set_cons_zero, List.set_cons_succ]
          refine F_step (i := 15) rfl (by kernel_rfl) (fun K hK => ?_)
          refine step_call rfl 19 #[.pointer (some ⟨q, 0, none⟩), .int .i64 id, .int .i64 n] (by first | rfl | (go_simp; done) | simp [execOp, resolve, invoke, Act.eval, Result.andThen]) ((rack_ok (k := k) id n _ HD2 sp.out hc.out sl.out tl.out).mono ?_)
          rintro e wc ⟨rfl, HD3, kk⟩
          have HS3 := HS2.upd kk (by simpa using qr.out.symm) (HS2.row.ne HD2 (by decide)) (by simpa using HS2.mem.ne HD2 (by decide))
          have BA3 := kk.blk BA2 (by simpa using aq.out)
          have U3 := hide (U2.out.trans kk (fun j hj hl => by simp at hj; have := lq.out; omega))
          refine ⟨_, rfl, ?_⟩
          clear hS
          have hS : wc.cell? ⟨q, 0, none⟩ = some (.int .i64 id) ∧ wc.cell? ⟨ab, 1, none⟩ = some (.int .i64 a) ∧ wc.cell? ⟨ab, 2, none⟩ = some (.int .i64 n) := ⟨by rw [HD3.cell]; rfl, by rw [BA3.cell]; rfl, by rw [BA3.cell]; rfl⟩
          refine hK.out _ _ (Or.inr hS) ?_
          clear hK K
          try simp only [Act.put, List.setIfInBounds_toArray, List.set_cons_zero, List.set_cons_succ]
          refine F_step (i := 16) rfl (by kernel_rfl) (fun K hK => ?_)
          go_simp
          refine hK.out _ _ (Or.inr hS) ?_
          clear hK K
          try simp only [Act.put, List.setIfInBounds_toArray, List.set_cons_zero, List.set_cons_succ]
          refine F_done (by kernel_rfl) ?_ _
          obtain ⟨hv2, sn2, eh, es, l1, l2⟩ := ack_nat (id := id) (i := id) (n := n) hvs snk
          rw [eh, es] at HS3 HD3
          have HS := hide HS3
          have HD := hide HD3
          have UZ := U3
          clear HS1 HD1 BA1 U1 HS2 HD2 BA2 U2 HS3 HD3 BA3 U3 hS eh es
          generalize wc = wz at *
          go_wp2_with fail
          have T1 := hide (fun n => have_ok (HS.out.upd0 ((Upd.refl _ []).drewN n)) kp.out)
          have T2 := hide (fun n => done_ok (HS.out.upd0 ((Upd.refl _ []).drewN n)) kp.out)
          have T3 := hide (fun n => rtotal_ok (k := k) _ (HD.out.drewN n) sp.out hc.out sl.out tl.out)
          have a3 : wz.cell? ⟨q, 3, none⟩ = some (.int .i64 hv2) := by rw [HD.out.cell]; rfl
          have b0 : ((hv2 : Int) == (hv2 : Int)) = true := by simp
          by_cases hk : (hv2 : Int) = (k : Int)
          · have b1 : ((hv2 : Int) == (k : Int)) = true := by simp [hk]
            have b2 : decide ((hv2 : Int) = (k : Int)) = true := by simp [hk]
            replace hk := hide hk
            go_quiet (first | (go_at_call 22; exact Calls.quiet_of_same (T1.out _)) | (go_at_call 17; exact Calls.quiet_of (T2.out _)) | (go_at_call 23; exact Calls.quiet_of (T3.out _)))
            go_wp2_with fail
            case roundEnd =>
              refine ⟨⟨i + 1, hv2, sn2, by omega, by simp, HS.out.upd0 ((Upd.refl _ []).drewN _), HD.out.drewN _, by omega, by omega, UZ.out.drewN _⟩, ?_⟩
              simp only [intOf]; omega
          · have b1 : ((hv2 : Int) == (k : Int)) = false := beq_false_of_ne hk
            have b2 : decide ((hv2 : Int) = (k : Int)) = false := by simpa using hk
            replace hk := hide hk
            go_quiet (first | (go_at_call 22; exact Calls.quiet_of_same (T1.out _)) | (go_at_call 17; exact Calls.quiet_of (T2.out _)) | (go_at_call 23; exact Calls.quiet_of (T3.out _)))
            go_wp2_with fail
            case roundEnd =>
              refine ⟨⟨i + 1, hv2, sn2, by omega, by simp, HS.out.upd0 ((Upd.refl _ []).drewN _), HD.out.drewN _, by omega, by omega, UZ.out.drewN _⟩, ?_⟩
              simp only [intOf]; omega
        · skip
          by_cases e6 : o % 9 = 6
          · skip
            have g5 : (o % 9 == 5) = false := beq_false_of_ne e5
            have g6 : (o % 9 == 6) = true := by simp [e6]
            replace e5 := hide e5
            replace e6 := hide e6
            go_wp2_with fail

            refine F_start 16 (fun w' => w'.cell? ⟨q, 0, none⟩ = some (.int .i64 id) ∧ w'.cell? ⟨ab, 1, none⟩ = some (.int .i64 a) ∧ w'.cell? ⟨ab, 2, none⟩ = some (.int .i64 n)) (by kernel_rfl) ?_
            have hS : wy.drew.cell? ⟨q, 0, none⟩ = some (.int .i64 id) ∧ wy.drew.cell? ⟨ab, 1, none⟩ = some (.int .i64 a) ∧ wy.drew.cell? ⟨ab, 2, none⟩ = some (.int .i64 n) := ⟨by rw [HD.out.drew.cell]; rfl, by rw [BA.out.drew.cell]; rfl, by rw [BA.out.drew.cell]; rfl⟩
            have HS1 := HS.out.upd0 ((Upd.refl _ []).drew)
            have HD1 := HD.out.drew
            have BA1 := BA.out.drew
            have U1 := hide (UZ.out.drew)
            clear HS HD BA UZ
            generalize wy.drew = wa at *
            refine F_take (i := 0) [7] (v := ?_) rfl (by kernel_rfl) (by kernel_rfl) (by kernel_rfl) (by kernel_rfl) (fun _ _ _ h => h) rfl ?_ hS ?_
            rotate_left
            · intro w hSw
              try dsimp only at hSw
              go_simp
              try with_reducible rfl
            try simp only [Act.put, List.setIfInBounds_toArray, List.set_cons_zero, List.set_cons_succ]
            refine F_take (i := 1) [7, 4, 3, 2] (v := ?_) rfl (by kernel_rfl) (by kernel_rfl) (by kernel_rfl) (by kernel_rfl) (fun _ _ _ h => h) rfl ?_ hS ?_
            rotate_left
            · intro w hSw
              try dsimp only at hSw
              go_simp
              try with_reducible rfl
            try simp only [Act.put, List.setIfInBounds_toArray, List.set_cons_zero, List.set_cons_succ]
            refine F_take (i := 2) [7, 4, 3] (v := ?_) rfl (by kernel_rfl) (by kernel_rfl) (by kernel_rfl) (by kernel_rfl) (fun _ _ _ h => h) rfl ?_ hS ?_
            rotate_left
            · intro w hSw
              try dsimp only at hSw
              go_simp
              try with_reducible rfl
            try simp only [Act.put, List.setIfInBounds_toArray, List.set_cons_zero, List.set_cons_succ]
            refine F_take (i := 3) [7, 4] (v := ?_) rfl (by kernel_rfl) (by kernel_rfl) (by kernel_rfl) (by kernel_rfl) (fun _ _ _ h => h) rfl ?_ hS ?_
            rotate_left
            · intro w hSw
              try dsimp only at hSw
              go_simp
              try with_reducible rfl
            try simp only [Act.put, List.setIfInBounds_toArray, List.set_cons_zero, List.set_cons_succ]
            refine F_take (i := 4) [7] (v := ?_) rfl (by kernel_rfl) (by kernel_rfl) (by kernel_rfl) (by kernel_rfl) (fun _ _ _ h => h) rfl ?_ hS ?_
            rotate_left
            · intro w hSw
              try dsimp only at hSw
              go_simp
              try with_reducible rfl
            try simp only [Act.put, List.setIfInBounds_toArray, List.set_cons_zero, List.set_cons_succ]
            refine F_take (i := 5) [7, 6] (v := ?_) rfl (by kernel_rfl) (by kernel_rfl) (by kernel_rfl) (by kernel_rfl) (fun _ _ _ h => h) rfl ?_ hS ?_
            rotate_left
            · intro w hSw
              try dsimp only at hSw
              go_simp
              try with_reducible rfl
            try simp only [Act.put, List.setIfInBounds_toArray, List.set_cons_zero, List.set_cons_succ]
            refine F_take (i := 6) [7] (v := ?_) rfl (by kernel_rfl) (by kernel_rfl) (by kernel_rfl) (by kernel_rfl) (fun _ _ _ h => h) rfl ?_ hS ?_
            rotate_left
            · intro w hSw
              try dsimp only at hSw
              go_simp
              try with_reducible rfl
            try simp only [Act.put, List.setIfInBounds_toArray, List.set_cons_zero, List.set_cons_succ]
            refine F_take (i := 8) [15] (v := ?_) rfl (by kernel_rfl) (by kernel_rfl) (by kernel_rfl) (by kernel_rfl) (fun _ _ _ h => h) rfl ?_ hS ?_
            rotate_left
            · intro w hSw
              try dsimp only at hSw
              go_simp
              try with_reducible rfl
            try simp only [Act.put, List.setIfInBounds_toArray, List.set_cons_zero, List.set_cons_succ]
            refine F_take (i := 9) [15, 12, 11, 10] (v := ?_) rfl (by kernel_rfl) (by kernel_rfl) (by kernel_rfl) (by kernel_rfl) (fun _ _ _ h => h) rfl ?_ hS ?_
            rotate_left
            · intro w hSw
              try dsimp only at hSw
              go_simp
              try with_reducible rfl
            try simp only [Act.put, List.setIfInBounds_toArray, List.set_cons_zero, List.set_cons_succ]
            refine F_take (i := 10) [15, 12, 11] (v := ?_) rfl (by kernel_rfl) (by kernel_rfl) (by kernel_rfl) (by kernel_rfl) (fun _ _ _ h => h) rfl ?_ hS ?_
            rotate_left
            · intro w hSw
              try dsimp only at hSw
              go_simp
              try with_reducible rfl
            try simp only [Act.put, List.setIfInBounds_toArray, List.set_cons_zero, List.set_cons_succ]
            refine F_take (i := 11) [15, 12] (v := ?_) rfl (by kernel_rfl) (by kernel_rfl) (by kernel_rfl) (by kernel_rfl) (fun _ _ _ h => h) rfl ?_ hS ?_
            rotate_left
            · intro w hSw
              try dsimp only at hSw
              go_simp
              try with_reducible rfl
            try simp only [Act.put, List.setIfInBounds_toArray, List.set_cons_zero, List.set_cons_succ]
            refine F_take (i := 12) [15] (v := ?_) rfl (by kernel_rfl) (by kernel_rfl) (by kernel_rfl) (by kernel_rfl) (fun _ _ _ h => h) rfl ?_ hS ?_
            rotate_left
            · intro w hSw
              try dsimp only at hSw
              go_simp
              try with_reducible rfl
            try simp only [Act.put, List.setIfInBounds_toArray, List.set_cons_zero, List.set_cons_succ]
            refine F_take (i := 13) [15, 14] (v := ?_) rfl (by kernel_rfl) (by kernel_rfl) (by kernel_rfl) (by kernel_rfl) (fun _ _ _ h => h) rfl ?_ hS ?_
            rotate_left
            · intro w hSw
              try dsimp only at hSw
              go_simp
              try with_reducible rfl
            try simp only [Act.put, List.setIfInBounds_toArray, List.set_cons_zero, List.set_cons_succ]
            refine F_take (i := 14) [15] (v := ?_) rfl (by kernel_rfl) (by kernel_rfl) (by kernel_rfl) (by kernel_rfl) (fun _ _ _ h => h) rfl ?_ hS ?_
            rotate_left
            · intro w hSw
              try dsimp only at hSw
              go_simp
              try with_reducible rfl
            try simp only [Act.put, List.setIfInBounds_toArray, List.set_cons_zero, List.set_cons_succ]
            refine F_step (i := 7) rfl (by kernel_rfl) (fun K hK => ?_)
            refine step_call rfl 16 #[.pointer (some ⟨r, 0, none⟩), .int .i64 id, .int .i64 n] (by first | rfl | (go_simp; done) | simp [execOp, resolve, invoke, Act.eval, Result.andThen]) ((ack_ok id n HS1 kp.out).mono ?_)
            rintro e wb ⟨rfl, HS2, kk⟩
            have HD2 := kk.blk HD1 (by simpa using qr.out)
            have BA2 := kk.blk BA1 (by simpa using ar.out)
            have U2 := hide (U1.out.trans kk (fun j hj hl => by simp at hj; have := lr.out; omega))
            refine ⟨_, rfl, ?_⟩
            clear hS
            have hS : wb.cell? ⟨q, 0, none⟩ = some (.int .i64 id) ∧ wb.cell? ⟨ab, 1, none⟩ = some (.int .i64 a) ∧ wb.cell? ⟨ab, 2, none⟩ = some (.int .i64 n) := ⟨by rw [HD2.cell]; rfl, by rw [BA2.cell]; rfl, by rw [BA2.cell]; rfl⟩
            refine hK.out _ _ (Or.inr hS) ?_
            clear hK K
            try simp only [Act.put, List.setIfInBounds_toArray, List.set_cons_zero, List.set_cons_succ]
            refine F_step (i := 15) rfl (by kernel_rfl) (fun K hK => ?_)
            refine step_call rfl 19 #[.pointer (some ⟨q, 0, none⟩), .int .i64 id, .int .i64 n] (by first | rfl | (go_simp; done) | simp [execOp, resolve, invoke, Act.eval, Result.andThen]) ((rack_ok (k := k) id n _ HD2 sp.out hc.out sl.out tl.out).mono ?_)
            rintro e wc ⟨rfl, HD3, kk⟩
            have HS3 := HS2.upd kk (by simpa using qr.out.symm) (HS2.row.ne HD2 (by decide)) (by simpa using HS2.mem.ne HD2 (by decide))
            have BA3 := kk.blk BA2 (by simpa using aq.out)
            have U3 := hide (U2.out.trans kk (fun j hj hl => by simp at hj; have := lq.out; omega))
            refine ⟨_, rfl, ?_⟩
            clear hS
            have hS : wc.cell? ⟨q, 0, none⟩ = some (.int .i64 id) ∧ wc.cell? ⟨ab, 1, none⟩ = some (.int .i64 a) ∧ wc.cell? ⟨ab, 2, none⟩ = some (.int .i64 n) := ⟨by rw [HD3.cell]; rfl, by rw [BA3.cell]; rfl, by rw [BA3.cell]; rfl⟩
            refine hK.out _ _ (Or.inr hS) ?_
            clear hK K
            try simp only [Act.put, List.setIfInBounds_toArray, List.set_cons_zero, List.set_cons_succ]
            refine F_step (i := 16) rfl (by kernel_rfl) (fun K hK => ?_)
            go_simp
            refine hK.out _ _ (Or.inr hS) ?_
            clear hK K
            try simp only [Act.put, List.setIfInBounds_toArray, List.set_cons_zero, List.set_cons_succ]
            refine F_done (by kernel_rfl) ?_ _
            obtain ⟨hv2, sn2, eh, es, l1, l2⟩ := ack_nat (id := id) (i := id) (n := n) hvs snk
            rw [eh, es] at HS3 HD3
            have HS := hide HS3
            have HD := hide HD3
            have UZ := U3
            clear HS1 HD1 BA1 U1 HS2 HD2 BA2 U2 HS3 HD3 BA3 U3 hS eh es
            generalize wc = wz at *
            go_wp2_with fail
            have T1 := hide (fun n => have_ok (HS.out.upd0 ((Upd.refl _ []).drewN n)) kp.out)
            have T2 := hide (fun n => done_ok (HS.out.upd0 ((Upd.refl _ []).drewN n)) kp.out)
            have T3 := hide (fun n => rtotal_ok (k := k) _ (HD.out.drewN n) sp.out hc.out sl.out tl.out)
            have a3 : wz.cell? ⟨q, 3, none⟩ = some (.int .i64 hv2) := by rw [HD.out.cell]; rfl
            have b0 : ((hv2 : Int) == (hv2 : Int)) = true := by simp
            by_cases hk : (hv2 : Int) = (k : Int)
            · have b1 : ((hv2 : Int) == (k : Int)) = true := by simp [hk]
              have b2 : decide ((hv2 : Int) = (k : Int)) = true := by simp [hk]
              replace hk := hide hk
              go_quiet (first | (go_at_call 22; exact Calls.quiet_of_same (T1.out _)) | (go_at_call 17; exact Calls.quiet_of (T2.out _)) | (go_at_call 23; exact Calls.quiet_of (T3.out _)))
              go_wp2_with fail
              case roundEnd =>
                refine ⟨⟨i + 1, hv2, sn2, by omega, by simp, HS.out.upd0 ((Upd.refl _ []).drewN _), HD.out.drewN _, by omega, by omega, UZ.out.drewN _⟩, ?_⟩
                simp only [intOf]; omega
            · have b1 : ((hv2 : Int) == (k : Int)) = false := beq_false_of_ne hk
              have b2 : decide ((hv2 : Int) = (k : Int)) = false := by simpa using hk
              replace hk := hide hk
              go_quiet (first | (go_at_call 22; exact Calls.quiet_of_same (T1.out _)) | (go_at_call 17; exact Calls.quiet_of (T2.out _)) | (go_at_call 23; exact Calls.quiet_of (T3.out _)))
              go_wp2_with fail
              case roundEnd =>
                refine ⟨⟨i + 1, hv2, sn2, by omega, by simp, HS.out.upd0 ((Upd.refl _ []).drewN _), HD.out.drewN _, by omega, by omega, UZ.out.drewN _⟩, ?_⟩
                simp only [intOf]; omega
          · skip
            by_cases e7 : o % 9 = 7
            · skip
              have g5 : (o % 9 == 5) = false := beq_false_of_ne e5
              have g6 : (o % 9 == 6) = false := beq_false_of_ne e6
              have g7 : (o % 9 == 7) = true := by simp [e7]
              replace e5 := hide e5
              replace e6 := hide e6
              replace e7 := hide e7
              go_wp2_with fail

              refine F_start 12 (fun w' => w'.cell? ⟨q, 0, none⟩ = some (.int .i64 id) ∧ w'.cell? ⟨ab, 1, none⟩ = some (.int .i64 a) ∧ w'.cell? ⟨ab, 2, none⟩ = some (.int .i64 n)) (by kernel_rfl) ?_
              have hS : wy.drew.cell? ⟨q, 0, none⟩ = some (.int .i64 id) ∧ wy.drew.cell? ⟨ab, 1, none⟩ = some (.int .i64 a) ∧ wy.drew.cell? ⟨ab, 2, none⟩ = some (.int .i64 n) := ⟨by rw [HD.out.drew.cell]; rfl, by rw [BA.out.drew.cell]; rfl, by rw [BA.out.drew.cell]; rfl⟩
              have HS1 := HS.out.upd0 ((Upd.refl _ []).drew)
              have HD1 := HD.out.drew
              have BA1 := BA.out.drew
              have U1 := hide (UZ.out.drew)
              clear HS HD BA UZ
              generalize wy.drew = wa at *
              refine F_take (i := 0) [5] (v := ?_) rfl (by kernel_rfl) (by kernel_rfl) (by kernel_rfl) (by kernel_rfl) (fun _ _ _ h => h) rfl ?_ hS ?_
              rotate_left
              · intro w hSw
                try dsimp only at hSw
                go_simp
                try with_reducible rfl
              try simp only [Act.put, List.setIfInBounds_toArray, List.set_cons_zero, List.set_cons_succ]
              refine F_take (i := 1) [5, 2] (v := ?_) rfl (by kernel_rfl) (by kernel_rfl) (by kernel_rfl) (by kernel_rfl) (fun _ _ _ h => h) rfl ?_ hS ?_
              rotate_left
              · intro w hSw
                try dsimp only at hSw
                go_simp
                try with_reducible rfl
              try simp only [Act.put, List.setIfInBounds_toArray, List.set_cons_zero, List.set_cons_succ]
              refine F_take (i := 2) [5] (v := ?_) rfl (by kernel_rfl) (by kernel_rfl) (by kernel_rfl) (by kernel_rfl) (fun _ _ _ h => h) rfl ?_ hS ?_
              rotate_left
              · intro w hSw
                try dsimp only at hSw
                go_simp
                try with_reducible rfl
              try simp only [Act.put, List.setIfInBounds_toArray, List.set_cons_zero, List.set_cons_succ]
              refine F_take (i := 3) [5, 4] (v := ?_) rfl (by kernel_rfl) (by kernel_rfl) (by kernel_rfl) (by kernel_rfl) (fun _ _ _ h => h) rfl ?_ hS ?_
              rotate_left
              · intro w hSw
                try dsimp only at hSw
                go_simp
                try with_reducible rfl
              try simp only [Act.put, List.setIfInBounds_toArray, List.set_cons_zero, List.set_cons_succ]
              refine F_take (i := 4) [5] (v := ?_) rfl (by kernel_rfl) (by kernel_rfl) (by kernel_rfl) (by kernel_rfl) (fun _ _ _ h => h) rfl ?_ hS ?_
              rotate_left
              · intro w hSw
                try dsimp only at hSw
                go_simp
                try with_reducible rfl
              try simp only [Act.put, List.setIfInBounds_toArray, List.set_cons_zero, List.set_cons_succ]
              refine F_take (i := 6) [11] (v := ?_) rfl (by kernel_rfl) (by kernel_rfl) (by kernel_rfl) (by kernel_rfl) (fun _ _ _ h => h) rfl ?_ hS ?_
              rotate_left
              · intro w hSw
                try dsimp only at hSw
                go_simp
                try with_reducible rfl
              try simp only [Act.put, List.setIfInBounds_toArray, List.set_cons_zero, List.set_cons_succ]
              refine F_take (i := 7) [11, 8] (v := ?_) rfl (by kernel_rfl) (by kernel_rfl) (by kernel_rfl) (by kernel_rfl) (fun _ _ _ h => h) rfl ?_ hS ?_
              rotate_left
              · intro w hSw
                try dsimp only at hSw
                go_simp
                try with_reducible rfl
              try simp only [Act.put, List.setIfInBounds_toArray, List.set_cons_zero, List.set_cons_succ]
              refine F_take (i := 8) [11] (v := ?_) rfl (by kernel_rfl) (by kernel_rfl) (by kernel_rfl) (by kernel_rfl) (fun _ _ _ h => h) rfl ?_ hS ?_
              rotate_left
              · intro w hSw
                try dsimp only at hSw
                go_simp
                try with_reducible rfl
              try simp only [Act.put, List.setIfInBounds_toArray, List.set_cons_zero, List.set_cons_succ]
              refine F_take (i := 9) [11, 10] (v := ?_) rfl (by kernel_rfl) (by kernel_rfl) (by kernel_rfl) (by kernel_rfl) (fun _ _ _ h => h) rfl ?_ hS ?_
              rotate_left
              · intro w hSw
                try dsimp only at hSw
                go_simp
                try with_reducible rfl
              try simp only [Act.put, List.setIfInBounds_toArray, List.set_cons_zero, List.set_cons_succ]
              refine F_take (i := 10) [11] (v := ?_) rfl (by kernel_rfl) (by kernel_rfl) (by kernel_rfl) (by kernel_rfl) (fun _ _ _ h => h) rfl ?_ hS ?_
              rotate_left
              · intro w hSw
                try dsimp only at hSw
                go_simp
                try with_reducible rfl
              try simp only [Act.put, List.setIfInBounds_toArray, List.set_cons_zero, List.set_cons_succ]
              refine F_step (i := 5) rfl (by kernel_rfl) (fun K hK => ?_)
              refine step_call rfl 16 #[.pointer (some ⟨r, 0, none⟩), .int .i64 a, .int .i64 n] (by first | rfl | (go_simp; done) | simp [execOp, resolve, invoke, Act.eval, Result.andThen]) ((ack_ok a n HS1 kp.out).mono ?_)
              rintro e wb ⟨rfl, HS2, kk⟩
              have HD2 := kk.blk HD1 (by simpa using qr.out)
              have BA2 := kk.blk BA1 (by simpa using ar.out)
              have U2 := hide (U1.out.trans kk (fun j hj hl => by simp at hj; have := lr.out; omega))
              refine ⟨_, rfl, ?_⟩
              clear hS
              have hS : wb.cell? ⟨q, 0, none⟩ = some (.int .i64 id) ∧ wb.cell? ⟨ab, 1, none⟩ = some (.int .i64 a) ∧ wb.cell? ⟨ab, 2, none⟩ = some (.int .i64 n) := ⟨by rw [HD2.cell]; rfl, by rw [BA2.cell]; rfl, by rw [BA2.cell]; rfl⟩
              refine hK.out _ _ (Or.inr hS) ?_
              clear hK K
              try simp only [Act.put, List.setIfInBounds_toArray, List.set_cons_zero, List.set_cons_succ]
              refine F_step (i := 11) rfl (by kernel_rfl) (fun K hK => ?_)
              refine step_call rfl 19 #[.pointer (some ⟨q, 0, none⟩), .int .i64 a, .int .i64 n] (by first | rfl | (go_simp; done) | simp [execOp, resolve, invoke, Act.eval, Result.andThen]) ((rack_ok (k := k) a n _ HD2 sp.out hc.out sl.out tl.out).mono ?_)
              rintro e wc ⟨rfl, HD3, kk⟩
              have HS3 := HS2.upd kk (by simpa using qr.out.symm) (HS2.row.ne HD2 (by decide)) (by simpa using HS2.mem.ne HD2 (by decide))
              have BA3 := kk.blk BA2 (by simpa using aq.out)
              have U3 := hide (U2.out.trans kk (fun j hj hl => by simp at hj; have := lq.out; omega))
              refine ⟨_, rfl, ?_⟩
              clear hS
              have hS : wc.cell? ⟨q, 0, none⟩ = some (.int .i64 id) ∧ wc.cell? ⟨ab, 1, none⟩ = some (.int .i64 a) ∧ wc.cell? ⟨ab, 2, none⟩ = some (.int .i64 n) := ⟨by rw [HD3.cell]; rfl, by rw [BA3.cell]; rfl, by rw [BA3.cell]; rfl⟩
              refine hK.out _ _ (Or.inr hS) ?_
              clear hK K
              try simp only [Act.put, List.setIfInBounds_toArray, List.set_cons_zero, List.set_cons_succ]
              refine F_step (i := 12) rfl (by kernel_rfl) (fun K hK => ?_)
              go_simp
              refine hK.out _ _ (Or.inr hS) ?_
              clear hK K
              try simp only [Act.put, List.setIfInBounds_toArray, List.set_cons_zero, List.set_cons_succ]
              refine F_done (by kernel_rfl) ?_ _
              obtain ⟨hv2, sn2, eh, es, l1, l2⟩ := ack_nat (id := id) (i := a) (n := n) hvs snk
              rw [eh, es] at HS3 HD3
              have HS := hide HS3
              have HD := hide HD3
              have UZ := U3
              clear HS1 HD1 BA1 U1 HS2 HD2 BA2 U2 HS3 HD3 BA3 U3 hS eh es
              generalize wc = wz at *
              go_wp2_with fail
              have T1 := hide (fun n => have_ok (HS.out.upd0 ((Upd.refl _ []).drewN n)) kp.out)
              have T2 := hide (fun n => done_ok (HS.out.upd0 ((Upd.refl _ []).drewN n)) kp.out)
              have T3 := hide (fun n => rtotal_ok (k := k) _ (HD.out.drewN n) sp.out hc.out sl.out tl.out)
              have a3 : wz.cell? ⟨q, 3, none⟩ = some (.int .i64 hv2) := by rw [HD.out.cell]; rfl
              have b0 : ((hv2 : Int) == (hv2 : Int)) = true := by simp
              by_cases hk : (hv2 : Int) = (k : Int)
              · have b1 : ((hv2 : Int) == (k : Int)) = true := by simp [hk]
                have b2 : decide ((hv2 : Int) = (k : Int)) = true := by simp [hk]
                replace hk := hide hk
                go_quiet (first | (go_at_call 22; exact Calls.quiet_of_same (T1.out _)) | (go_at_call 17; exact Calls.quiet_of (T2.out _)) | (go_at_call 23; exact Calls.quiet_of (T3.out _)))
                go_wp2_with fail
                case roundEnd =>
                  refine ⟨⟨i + 1, hv2, sn2, by omega, by simp, HS.out.upd0 ((Upd.refl _ []).drewN _), HD.out.drewN _, by omega, by omega, UZ.out.drewN _⟩, ?_⟩
                  simp only [intOf]; omega
              · have b1 : ((hv2 : Int) == (k : Int)) = false := beq_false_of_ne hk
                have b2 : decide ((hv2 : Int) = (k : Int)) = false := by simpa using hk
                replace hk := hide hk
                go_quiet (first | (go_at_call 22; exact Calls.quiet_of_same (T1.out _)) | (go_at_call 17; exact Calls.quiet_of (T2.out _)) | (go_at_call 23; exact Calls.quiet_of (T3.out _)))
                go_wp2_with fail
                case roundEnd =>
                  refine ⟨⟨i + 1, hv2, sn2, by omega, by simp, HS.out.upd0 ((Upd.refl _ []).drewN _), HD.out.drewN _, by omega, by omega, UZ.out.drewN _⟩, ?_⟩
                  simp only [intOf]; omega
            · skip
              by_cases e8 : o % 9 = 8
              · skip
                have g5 : (o % 9 == 5) = false := beq_false_of_ne e5
                have g6 : (o % 9 == 6) = false := beq_false_of_ne e6
                have g7 : (o % 9 == 7) = false := beq_false_of_ne e7
                have g8 : (o % 9 == 8) = true := by simp [e8]
                replace e5 := hide e5
                replace e6 := hide e6
                replace e7 := hide e7
                replace e8 := hide e8

                have T := hide (back_ok HS.out kp.out)
                go_wp2_with fail
                refine T.out.mono ?_
                rintro e wb ⟨rfl, HS2, kk⟩
                have HD2 := kk.blk HD.out (by simpa using qr.out)
                have U2 := hide (UZ.out.trans kk (fun j hj hl => by simp at hj; have := lr.out; omega))
                have a3 : wb.cell? ⟨q, 3, none⟩ = some (.int .i64 hv) := by rw [HD2.cell]; rfl
                have a4 : wb.cell? ⟨q, 4, none⟩ = some (.int .i64 sn) := by rw [HD2.cell]; rfl
                have f4 := HD2.frozen 4
                have u4 : Upd wb (wb.setCell ⟨q, 4, none⟩ (.int .i64 hv)) [q] := (Upd.refl _ _).setCell (p := ⟨q, 4, none⟩) (by simp) _
                have HDs := hide (show Blk (wb.setCell ⟨q, 4, none⟩ (.int .i64 hv)) q 57 (dsnC id size win hv hv t) from HD2.set_ 4 _)
                have HSs := hide (HS2.upd u4 (by simpa using qr.out.symm) (HS2.row.ne HD2 (by decide)) (by simpa using HS2.mem.ne HD2 (by decide)))
                have Us := hide (U2.out.trans u4 (fun j hj hl => by simp at hj; have := lq.out; omega))
                clear T kk HS HD UZ BA HS2 HD2 U2 u4
                go_wp2_with fail
                generalize wb.setCell ⟨q, 4, none⟩ (.int .i64 hv) = wz at *
                clear a3 a4 f4
                have HS := HSs
                have HD := HDs
                have UZ := Us
                clear HSs HDs Us

                have T1 := hide (fun n => have_ok (HS.out.upd0 ((Upd.refl _ []).drewN n)) kp.out)
                have T2 := hide (fun n => done_ok (HS.out.upd0 ((Upd.refl _ []).drewN n)) kp.out)
                have T3 := hide (fun n => rtotal_ok (k := k) _ (HD.out.drewN n) sp.out hc.out sl.out tl.out)
                have a3 : wz.cell? ⟨q, 3, none⟩ = some (.int .i64 hv) := by rw [HD.out.cell]; rfl
                have b0 : ((hv : Int) == (hv : Int)) = true := by simp
                by_cases hk : (hv : Int) = (k : Int)
                · have b1 : ((hv : Int) == (k : Int)) = true := by simp [hk]
                  have b2 : decide ((hv : Int) = (k : Int)) = true := by simp [hk]
                  replace hk := hide hk
                  go_quiet (first | (go_at_call 22; exact Calls.quiet_of_same (T1.out _)) | (go_at_call 17; exact Calls.quiet_of (T2.out _)) | (go_at_call 23; exact Calls.quiet_of (T3.out _)))
                  go_wp2_with fail
                  case roundEnd =>
                    refine ⟨⟨i + 1, hv, hv, by omega, by simp, HS.out.upd0 ((Upd.refl _ []).drewN _), HD.out.drewN _, by omega, by omega, UZ.out.drewN _⟩, ?_⟩
                    simp only [intOf]; omega
                · have b1 : ((hv : Int) == (k : Int)) = false := beq_false_of_ne hk
                  have b2 : decide ((hv : Int) = (k : Int)) = false := by simpa using hk
                  replace hk := hide hk
                  go_quiet (first | (go_at_call 22; exact Calls.quiet_of_same (T1.out _)) | (go_at_call 17; exact Calls.quiet_of (T2.out _)) | (go_at_call 23; exact Calls.quiet_of (T3.out _)))
                  go_wp2_with fail
                  case roundEnd =>
                    refine ⟨⟨i + 1, hv, hv, by omega, by simp, HS.out.upd0 ((Upd.refl _ []).drewN _), HD.out.drewN _, by omega, by omega, UZ.out.drewN _⟩, ?_⟩
                    simp only [intOf]; omega
              · skip
                have g5 : (o % 9 == 5) = false := beq_false_of_ne e5
                have g6 : (o % 9 == 6) = false := beq_false_of_ne e6
                have g7 : (o % 9 == 7) = false := beq_false_of_ne e7
                have g8 : (o % 9 == 8) = false := beq_false_of_ne e8
                replace e5 := hide e5
                replace e6 := hide e6
                replace e7 := hide e7
                replace e8 := hide e8
                by_cases hno : (k : Int) ≤ (sn : Int) ∨ win ≤ (sn : Int) - (hv : Int)
                · skip
                  have T := hide (next_no HS.out kp.out (by omega) (by have := k4.out; omega) (by omega) (by have := k4.out; omega) hno)
                  go_wp2_with fail
                  refine T.out.mono ?_
                  rintro e wb ⟨rfl, kk⟩
                  have HS2 := HS.out.upd0 kk
                  have HD2 := kk.blk HD.out (by simp)
                  have U2 := hide (UZ.out.trans kk (by simp))
                  have k3 := (Upd.refl wb []).alloc (.cells #[.int .i64 0, .int .i64 0, .int .i64 0, .string ⟨#[]⟩] 31)
                  have HS3 := hide (HS2.upd0 k3)
                  have HD3 := hide (k3.blk HD2 (by simp))
                  have U3 := hide (U2.out.trans k3 (by simp))
                  have P3 := hide (Blk.new wb 31 #[.int .i64 0, .int .i64 0, .int .i64 0, .string ⟨#[]⟩])
                  clear T kk HS HD UZ BA HS2 HD2 U2 k3
                  go_wp2_with fail
                  generalize wb.alloc (.cells #[.int .i64 0, .int .i64 0, .int .i64 0, .string ⟨#[]⟩] 31) = wc at *
                  generalize wb.heap.size = pa at *
                  have T := hide (rnext_no (k := k) wc HD3.out sp.out hc.out sl.out tl.out (by omega) (by have := k4.out; omega) (by have := wn0.out; omega) (by have := wn1.out; omega) (by omega))
                  go_wp2_with fail
                  refine T.out.mono ?_
                  rintro e wd ⟨rfl, kk⟩
                  have HS4 := HS3.out.upd0 kk
                  have HD4 := kk.blk HD3.out (by simp)
                  have P4 := kk.blk P3.out (by simp)
                  have U4 := hide (U3.out.trans kk (by simp))
                  have k3 := (Upd.refl wd []).alloc (.cells #[.int .i64 0, .int .i64 0, .int .i64 0, .string ⟨#[]⟩] 35)
                  have HS5 := hide (HS4.upd0 k3)
                  have HD5 := hide (k3.blk HD4 (by simp))
                  have U5 := hide (U4.out.trans k3 (by simp))
                  have P5 := hide (k3.blk P4 (by simp))
                  have R5 := hide (Blk.new wd 35 #[.int .i64 0, .int .i64 0, .int .i64 0, .string ⟨#[]⟩])
                  clear T kk HS3 HD3 U3 P3 HS4 HD4 U4 P4 k3
                  go_upto_region 14 with fail
                  generalize wd.alloc (.cells #[.int .i64 0, .int .i64 0, .int .i64 0, .string ⟨#[]⟩] 35) = wz at *
                  generalize wd.heap.size = pc at *
                  have y0 : wz.cell? ⟨pa, 0, none⟩ = some (.int .i64 0) := by rw [P5.out.cell]; rfl
                  have y1 : wz.cell? ⟨pa, 1, none⟩ = some (.int .i64 0) := by rw [P5.out.cell]; rfl
                  have y2 : wz.cell? ⟨pa, 2, none⟩ = some (.int .i64 0) := by rw [P5.out.cell]; rfl
                  have y3 : wz.cell? ⟨pa, 3, none⟩ = some (.string ⟨#[]⟩) := by rw [P5.out.cell]; rfl
                  have z0 : wz.cell? ⟨pc, 0, none⟩ = some (.int .i64 0) := by rw [R5.out.cell]; rfl
                  have z1 : wz.cell? ⟨pc, 1, none⟩ = some (.int .i64 0) := by rw [R5.out.cell]; rfl
                  have z2 : wz.cell? ⟨pc, 2, none⟩ = some (.int .i64 0) := by rw [R5.out.cell]; rfl
                  have z3 : wz.cell? ⟨pc, 3, none⟩ = some (.string ⟨#[]⟩) := by rw [R5.out.cell]; rfl
                  have HS := HS5
                  have HD := HD5
                  have UZ := U5
                  clear HS5 HD5 U5
                  go_wp2_with fail
                  clear y0 y1 y2 y3 z0 z1 z2 z3 P5 R5

                  have T1 := hide (fun n => have_ok (HS.out.upd0 ((Upd.refl _ []).drewN n)) kp.out)
                  have T2 := hide (fun n => done_ok (HS.out.upd0 ((Upd.refl _ []).drewN n)) kp.out)
                  have T3 := hide (fun n => rtotal_ok (k := k) _ (HD.out.drewN n) sp.out hc.out sl.out tl.out)
                  have a3 : wz.cell? ⟨q, 3, none⟩ = some (.int .i64 hv) := by rw [HD.out.cell]; rfl
                  have b0 : ((hv : Int) == (hv : Int)) = true := by simp
                  by_cases hk : (hv : Int) = (k : Int)
                  · have b1 : ((hv : Int) == (k : Int)) = true := by simp [hk]
                    have b2 : decide ((hv : Int) = (k : Int)) = true := by simp [hk]
                    replace hk := hide hk
                    go_quiet (first | (go_at_call 22; exact Calls.quiet_of_same (T1.out _)) | (go_at_call 17; exact Calls.quiet_of (T2.out _)) | (go_at_call 23; exact Calls.quiet_of (T3.out _)))
                    go_wp2_with fail
                    case roundEnd =>
                      refine ⟨⟨i + 1, hv, sn, by omega, by simp, HS.out.upd0 ((Upd.refl _ []).drewN _), HD.out.drewN _, by omega, by omega, UZ.out.drewN _⟩, ?_⟩
                      simp only [intOf]; omega
                  · have b1 : ((hv : Int) == (k : Int)) = false := beq_false_of_ne hk
                    have b2 : decide ((hv : Int) = (k : Int)) = false := by simpa using hk
                    replace hk := hide hk
                    go_quiet (first | (go_at_call 22; exact Calls.quiet_of_same (T1.out _)) | (go_at_call 17; exact Calls.quiet_of (T2.out _)) | (go_at_call 23; exact Calls.quiet_of (T3.out _)))
                    go_wp2_with fail
                    case roundEnd =>
                      refine ⟨⟨i + 1, hv, sn, by omega, by simp, HS.out.upd0 ((Upd.refl _ []).drewN _), HD.out.drewN _, by omega, by omega, UZ.out.drewN _⟩, ?_⟩
                      simp only [intOf]; omega
                · have hsk : sn < k := by omega
                  have hsw : (sn : Int) - (hv : Int) < win := by omega
                  clear hno
                  have T := hide (next_ok sn HS.out (by have := k4.out; omega) (by omega) (by have := k4.out; omega) hsk hsw)
                  go_wp2_with fail
                  refine T.out.mono ?_
                  rintro e wb ⟨rfl, HS2, kk⟩
                  have HD2 := kk.blk HD.out (by simpa using qr.out)
                  have U2 := hide (UZ.out.trans kk (fun j hj hl => by simp at hj; have := lr.out; omega))
                  have k3 := (Upd.refl wb []).alloc (.cells #[.int .i64 id, .int .i64 sn, .int .i64 k, .string (cutB t size sn)] 31)
                  have HS3 := hide (HS2.upd0 k3)
                  have HD3 := hide (k3.blk HD2 (by simp))
                  have U3 := hide (U2.out.trans k3 (by simp))
                  have P3 := hide (Blk.new wb 31 #[.int .i64 id, .int .i64 sn, .int .i64 k, .string (cutB t size sn)])
                  clear T kk HS HD UZ BA HS2 HD2 U2 k3
                  go_wp2_with fail
                  generalize wb.alloc (.cells #[.int .i64 id, .int .i64 sn, .int .i64 k, .string (cutB t size sn)] 31) = wc at *
                  generalize wb.heap.size = pa at *
                  have T := hide (rnext_ok (k := k) sn wc HD3.out sp.out hc.out sl.out tl.out (by omega) (by have := k4.out; omega) (by have := wn0.out; omega) (by have := wn1.out; omega) hsk (by omega))
                  go_wp2_with fail
                  refine T.out.mono ?_
                  rintro e wd ⟨rfl, HD4, kk⟩
                  have HS4 := HS3.out.upd kk (by simpa using qr.out.symm) (HS3.out.row.ne HD3.out (by decide)) (by simpa using HS3.out.mem.ne HD3.out (by decide))
                  have P4 := kk.blk P3.out (by simpa using P3.out.ne_ HD3.out (by decide))
                  have U4 := hide (U3.out.trans kk (fun j hj hl => by simp at hj; have := lq.out; omega))
                  have k3 := (Upd.refl wd []).alloc (.cells #[.int .i64 id, .int .i64 sn, .int .i64 k, .string (cutB t size sn)] 35)
                  have HS5 := hide (HS4.upd0 k3)
                  have HD5 := hide (k3.blk HD4 (by simp))
                  have U5 := hide (U4.out.trans k3 (by simp))
                  have P5 := hide (k3.blk P4 (by simp))
                  have R5 := hide (Blk.new wd 35 #[.int .i64 id, .int .i64 sn, .int .i64 k, .string (cutB t size sn)])
                  clear T kk HS3 HD3 U3 P3 HS4 HD4 U4 P4 k3
                  go_upto_region 14 with fail
                  generalize wd.alloc (.cells #[.int .i64 id, .int .i64 sn, .int .i64 k, .string (cutB t size sn)] 35) = wz at *
                  generalize wd.heap.size = pc at *
                  have y0 : wz.cell? ⟨pa, 0, none⟩ = some (.int .i64 id) := by rw [P5.out.cell]; rfl
                  have y1 : wz.cell? ⟨pa, 1, none⟩ = some (.int .i64 sn) := by rw [P5.out.cell]; rfl
                  have y2 : wz.cell? ⟨pa, 2, none⟩ = some (.int .i64 k) := by rw [P5.out.cell]; rfl
                  have y3 : wz.cell? ⟨pa, 3, none⟩ = some (.string (cutB t size sn)) := by rw [P5.out.cell]; rfl
                  have z0 : wz.cell? ⟨pc, 0, none⟩ = some (.int .i64 id) := by rw [R5.out.cell]; rfl
                  have z1 : wz.cell? ⟨pc, 1, none⟩ = some (.int .i64 sn) := by rw [R5.out.cell]; rfl
                  have z2 : wz.cell? ⟨pc, 2, none⟩ = some (.int .i64 k) := by rw [R5.out.cell]; rfl
                  have z3 : wz.cell? ⟨pc, 3, none⟩ = some (.string (cutB t size sn)) := by rw [R5.out.cell]; rfl
                  have HS := HS5
                  have HD := HD5
                  have UZ := U5
                  clear HS5 HD5 U5
                  generalize hcb : cutB t size sn = cb at *
                  clear hcb
                  go_wp2_with fail
                  clear y0 y1 y2 y3 z0 z1 z2 z3 P5 R5
                  have hs1 : (sn : Int) + 1 = ((sn + 1 : Nat) : Int) := by omega
                  rw [hs1] at HS HD

                  have T1 := hide (fun n => have_ok (HS.out.upd0 ((Upd.refl _ []).drewN n)) kp.out)
                  have T2 := hide (fun n => done_ok (HS.out.upd0 ((Upd.refl _ []).drewN n)) kp.out)
                  have T3 := hide (fun n => rtotal_ok (k := k) _ (HD.out.drewN n) sp.out hc.out sl.out tl.out)
                  have a3 : wz.cell? ⟨q, 3, none⟩ = some (.int .i64 hv) := by rw [HD.out.cell]; rfl
                  have b0 : ((hv : Int) == (hv : Int)) = true := by simp
                  by_cases hk : (hv : Int) = (k : Int)
                  · have b1 : ((hv : Int) == (k : Int)) = true := by simp [hk]
                    have b2 : decide ((hv : Int) = (k : Int)) = true := by simp [hk]
                    replace hk := hide hk
                    go_quiet (first | (go_at_call 22; exact Calls.quiet_of_same (T1.out _)) | (go_at_call 17; exact Calls.quiet_of (T2.out _)) | (go_at_call 23; exact Calls.quiet_of (T3.out _)))
                    go_wp2_with fail
                    case roundEnd =>
                      refine ⟨⟨i + 1, hv, (sn + 1), by omega, by simp, HS.out.upd0 ((Upd.refl _ []).drewN _), HD.out.drewN _, by omega, by omega, UZ.out.drewN _⟩, ?_⟩
                      simp only [intOf]; omega
                  · have b1 : ((hv : Int) == (k : Int)) = false := beq_false_of_ne hk
                    have b2 : decide ((hv : Int) = (k : Int)) = false := by simpa using hk
                    replace hk := hide hk
                    go_quiet (first | (go_at_call 22; exact Calls.quiet_of_same (T1.out _)) | (go_at_call 17; exact Calls.quiet_of (T2.out _)) | (go_at_call 23; exact Calls.quiet_of (T3.out _)))
                    go_wp2_with fail
                    case roundEnd =>
                      refine ⟨⟨i + 1, hv, (sn + 1), by omega, by simp, HS.out.upd0 ((Upd.refl _ []).drewN _), HD.out.drewN _, by omega, by omega, UZ.out.drewN _⟩, ?_⟩
                      simp only [intOf]; omega
      · go_wp2_with fail
        refine (gone_ok wr).mono ?_
        rintro e w4 ⟨rfl, k1⟩
        have k2 := hide (hu.trans k1 (by simp))
        clear k1
        go_wp2_with fail
        go_ret
        exact ⟨rfl, k2.out⟩
end Go.Proofs.Ytmmacjjmkaeakaa

