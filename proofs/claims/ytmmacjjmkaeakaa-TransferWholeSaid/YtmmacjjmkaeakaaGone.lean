/- The walks of the layer transfer: gone (the law's own check at constants). -/
import Derived.Test.YtmmacjjmkaeakaaOpenL
import Derived.Test.YtmmacjjmkaeakaaNext
import Derived.Test.YtmmacjjmkaeakaaTake
import Derived.Test.YtmmacjjmkaeakaaText
namespace Go.Proofs.Ytmmacjjmkaeakaa
open Go.RowKit
set_option linter.unusedVariables false
def abcde : ByteArray := ⟨#[97, 98, 99, 100, 101]⟩
theorem cut_abcde {k : Nat} (h : Cut abcde.size 2 k) : k = 3 := by
  obtain ⟨h1, h2, h3⟩ := h
  have : abcde.size = 5 := rfl
  omega
theorem cut0 : cutB abcde 2 0 = ⟨#[97, 98]⟩ := by rfl
theorem cut1 : cutB abcde 2 1 = ⟨#[99, 100]⟩ := by rfl
theorem cut2 : cutB abcde 2 2 = ⟨#[101]⟩ := by rfl
theorem join_abcde : joinT [⟨#[97, 98]⟩, ⟨#[99, 100]⟩, ⟨#[101]⟩] = abcde := by rfl
/-- the pieces' plain law, at these -/
theorem g_id1 : takeId 0 0 ⟨1, 1, 3, ⟨#[99, 100]⟩⟩ = 1 ∧ takeTotal 0 0 ⟨1, 1, 3, ⟨#[99, 100]⟩⟩ = 3 ∧ takePs 0 0 [] ⟨1, 1, 3, ⟨#[99, 100]⟩⟩ = [] := ⟨by decide, by decide, by rfl⟩
theorem g_id2 : takeId 1 3 ⟨1, 0, 3, ⟨#[97, 98]⟩⟩ = 1 ∧ takeTotal 1 3 ⟨1, 0, 3, ⟨#[97, 98]⟩⟩ = 3 ∧ takePs 1 3 [] ⟨1, 0, 3, ⟨#[97, 98]⟩⟩ = [⟨#[97, 98]⟩] := ⟨by decide, by decide, by rfl⟩
theorem g_id3 : takeId 1 3 ⟨1, 1, 3, ⟨#[99, 100]⟩⟩ = 1 ∧ takeTotal 1 3 ⟨1, 1, 3, ⟨#[99, 100]⟩⟩ = 3 ∧ takePs 1 3 [⟨#[97, 98]⟩] ⟨1, 1, 3, ⟨#[99, 100]⟩⟩ = [⟨#[97, 98]⟩, ⟨#[99, 100]⟩] := ⟨by decide, by decide, by rfl⟩
theorem g_id4 : takeId 1 3 ⟨1, 2, 3, ⟨#[101]⟩⟩ = 1 ∧ takeTotal 1 3 ⟨1, 2, 3, ⟨#[101]⟩⟩ = 3 ∧ takePs 1 3 [⟨#[97, 98]⟩, ⟨#[99, 100]⟩] ⟨1, 2, 3, ⟨#[101]⟩⟩ = [⟨#[97, 98]⟩, ⟨#[99, 100]⟩, ⟨#[101]⟩] := ⟨by decide, by decide, by rfl⟩
/-- what lies ahead of a receiver is not what its Take turns -/
theorem Rcv.past {W : World} {b r : Nat} {v : Value} {id total : Int} {ps : List ByteArray} (H : Rcv W b r v id total ps) : ∀ x, x < b → x ∉ r :: blkOf v := by
  intro x hx hm
  have := H.ge
  rcases List.mem_cons.1 hm with rfl | hm
  · omega
  · have := H.row.ge x hm; omega
set_option maxHeartbeats 4000000 in
theorem gone_ok (w : World) : Calls Try.prog 8 #[] w fun e w' => e = .returned (.bool true) ∧ Upd w w' [] := by
  have O := hide (open_ok 1 2 2 abcde w (by rfl) (by decide))
  go_enter Try.func8, Try.ntmps8
  go_wp2_with fail
  refine O.out.mono ?_
  rintro e w1 ⟨r, bb, v, k, rfl, hr, hbb, H1, hc, U1⟩
  obtain rfl := cut_abcde hc
  have N1 := next_ok 0 H1 (by omega) (by omega) (by omega) (by omega) (by omega)
  rw [cut0] at N1
  replace N1 := hide N1
  replace U1 := hide U1
  clear O hc H1
  go_wp2_with fail
  refine N1.out.mono ?_
  rintro e w2 ⟨rfl, H2, U2⟩
  have U3 := hide (U1.out.trans U2 (by intro i hi hl; simp at hi; omega))
  have b1 := Blk.new w2 31 (⟨1, 0, 3, ⟨#[97, 98]⟩⟩ : Pc).cells
  have k1 := (Upd.refl w2 []).alloc (.cells (⟨1, 0, 3, ⟨#[97, 98]⟩⟩ : Pc).cells 31)
  have H3 : Snd _ _ _ _ _ _ _ _ _ _ _ ((1 : Nat) : Int) := H2.upd0 k1
  have U4 := hide (U3.out.trans k1 (by simp))
  replace b1 := hide b1
  clear N1 U1 U2 U3 k1 H2
  go_wp2_with fail
  generalize w2.alloc (.cells #[.int .i64 1, .int .i64 0, .int .i64 3, .string ⟨#[97, 98]⟩] 31) = w3 at *
  generalize w2.heap.size = p1 at *
  have N2 := next_ok 1 H3 (by omega) (by omega) (by omega) (by omega) (by omega)
  rw [cut1] at N2
  refine N2.mono ?_
  rintro e w4 ⟨rfl, H4, U5⟩
  have U6 := hide (U4.out.trans U5 (by intro i hi hl; simp at hi; omega))
  have b2 := Blk.new w4 31 (⟨1, 1, 3, ⟨#[99, 100]⟩⟩ : Pc).cells
  have k2 := (Upd.refl w4 []).alloc (.cells (⟨1, 1, 3, ⟨#[99, 100]⟩⟩ : Pc).cells 31)
  have H5 : Snd _ _ _ _ _ _ _ _ _ _ _ 2 := H4.upd0 k2
  have rp1 := H3.head.ne_ b1.out (by decide)
  have b3 := hide ((U5.blk b1.out (by simpa using rp1.symm)).alloc (.cells (⟨1, 1, 3, ⟨#[99, 100]⟩⟩ : Pc).cells 31))
  have U7 := hide (U6.out.trans k2 (by simp))
  replace b2 := hide b2
  clear N2 U4 U5 U6 k2 H3 H4 b1 rp1
  go_wp2_with fail
  generalize w4.alloc (.cells #[.int .i64 1, .int .i64 1, .int .i64 3, .string ⟨#[99, 100]⟩] 31) = w5 at *
  generalize w4.heap.size = p2 at *
  refine (next_no H5 (by omega) (by omega) (by omega) (by omega) (by omega) (by omega)).mono ?_
  rintro e w6 ⟨rfl, U8⟩
  have H6 := H5.upd0 U8
  have b4 := U8.blk b2.out (by simp)
  have b5 := U8.blk b3.out (by simp)
  have U9 := hide (U7.out.trans U8 (by simp))
  have k3 := (Upd.refl w6 []).alloc (.cells #[.int .i64 0, .int .i64 0, .int .i64 0, .string ⟨#[]⟩] 31)
  have H7 := hide (H6.upd0 k3)
  have b6 := hide (k3.blk b4 (by simp))
  have b7 := hide (k3.blk b5 (by simp))
  have V1 := hide (U9.out.trans k3 (by simp))
  clear U7 U8 U9 k3 H5 H6 b2 b3 b4 b5
  go_wp2_with fail
  generalize w6.alloc (.cells #[.int .i64 0, .int .i64 0, .int .i64 0, .string ⟨#[]⟩] 31) = w7 at *
  generalize w6.heap.size = p3 at *
  have NR := hide (newr_ok w7)
  refine NR.out.mono ?_
  rintro e w8 ⟨rfl, R1, U10⟩
  have hp1 := b7.out.lt
  have hp2 := b6.out.lt
  have lr := H7.out.head.lt
  have lv := hide (H7.out.row.lt_)
  have lb := H7.out.mem.lt
  have V2 := hide (V1.out.trans U10 (by simp))
  have lw := hide (show w.heap.size ≤ w7.heap.size from V1.out.size)
  have H8 := hide (H7.out.upd0 U10)
  have d1 := hide (U10.blk b7.out (by simp))
  have d2 := hide (U10.blk b6.out (by simp))
  have l8 := hide (show w7.heap.size ≤ w8.heap.size from U10.size)
  clear NR U10 V1 H7 b6 b7
  generalize w7.heap.size = q at *
  have T1 := take_ok ⟨1, 1, 3, ⟨#[99, 100]⟩⟩ w8 R1 l8.out (by simp)
  rw [g_id1.1, g_id1.2.1, g_id1.2.2] at T1
  have P1 := hide R1.past
  replace T1 := hide T1
  have x0 : w8.cell? ⟨p2, 0, none⟩ = some (.int .i64 1) := by rw [d2.out.cell]; rfl
  have x1 : w8.cell? ⟨p2, 1, none⟩ = some (.int .i64 1) := by rw [d2.out.cell]; rfl
  have x2 : w8.cell? ⟨p2, 2, none⟩ = some (.int .i64 3) := by rw [d2.out.cell]; rfl
  have x3 : w8.cell? ⟨p2, 3, none⟩ = some (.string ⟨#[99, 100]⟩) := by rw [d2.out.cell]; rfl
  clear R1
  go_wp2_with fail
  refine T1.out.mono ?_
  rintro e w9 ⟨v9, rfl, R2, U11, _⟩
  have W9 := hide (V2.out.trans U11 (fun i hi hl => absurd hi (P1.out i (by have := lw.out; omega))))
  have H9 := hide (H8.out.upd U11 (P1.out r lr) (fun g hg => P1.out g (lv.out g hg)) (P1.out bb lb))
  have e1 := hide (U11.blk d1.out (P1.out p1 hp1))
  have e2 := hide (U11.blk d2.out (P1.out p2 hp2))
  have lw9 := hide (show q ≤ w9.heap.size from by have := U11.size; have := l8.out; omega)
  clear x0 x1 x2 x3 T1 P1 H8 d1 d2 l8 U11
  clear V2
  have T := take_ok ⟨1, 0, 3, ⟨#[97, 98]⟩⟩ w9 R2 lw9.out (by simp)
  rw [g_id2.1, g_id2.2.1, g_id2.2.2] at T
  have P2 := hide R2.past
  replace T := hide T
  have x0 : w9.cell? ⟨p1, 0, none⟩ = some (.int .i64 1) := by rw [e1.out.cell]; rfl
  have x1 : w9.cell? ⟨p1, 1, none⟩ = some (.int .i64 0) := by rw [e1.out.cell]; rfl
  have x2 : w9.cell? ⟨p1, 2, none⟩ = some (.int .i64 3) := by rw [e1.out.cell]; rfl
  have x3 : w9.cell? ⟨p1, 3, none⟩ = some (.string ⟨#[97, 98]⟩) := by rw [e1.out.cell]; rfl
  have R7h := hide R2
  clear R2
  go_wp2_with fail
  refine T.out.mono ?_
  rintro e w10 ⟨v10, rfl, R3, U12, _⟩
  have W10 := hide (W9.out.trans U12 (fun i hi hl => absurd hi (P2.out i (by have := lw.out; omega))))
  have H10 := hide (H9.out.upd U12 (P2.out r lr) (fun g hg => P2.out g (lv.out g hg)) (P2.out bb lb))
  have f1 := hide (U12.blk e1.out (P2.out p1 hp1))
  have f2 := hide (U12.blk e2.out (P2.out p2 hp2))
  have lw10 := hide (show q ≤ w10.heap.size from by have := U12.size; have := lw9.out; omega)
  clear x0 x1 x2 x3 T P2 H9 e1 e2 lw9 U12 W9
  have T := take_ok ⟨1, 1, 3, ⟨#[99, 100]⟩⟩ w10 R3 lw10.out (by simp)
  rw [g_id3.1, g_id3.2.1, g_id3.2.2] at T
  have P3 := hide R3.past
  replace T := hide T
  have x0 : w10.cell? ⟨p2, 0, none⟩ = some (.int .i64 1) := by rw [f2.out.cell]; rfl
  have x1 : w10.cell? ⟨p2, 1, none⟩ = some (.int .i64 1) := by rw [f2.out.cell]; rfl
  have x2 : w10.cell? ⟨p2, 2, none⟩ = some (.int .i64 3) := by rw [f2.out.cell]; rfl
  have x3 : w10.cell? ⟨p2, 3, none⟩ = some (.string ⟨#[99, 100]⟩) := by rw [f2.out.cell]; rfl
  have R7h := hide R3
  clear R3
  go_wp2_with fail
  refine T.out.mono ?_
  rintro e w11 ⟨v11, rfl, R4, U13, _⟩
  have W11 := hide (W10.out.trans U13 (fun i hi hl => absurd hi (P3.out i (by have := lw.out; omega))))
  have H11 := hide (H10.out.upd U13 (P3.out r lr) (fun g hg => P3.out g (lv.out g hg)) (P3.out bb lb))
  have h1 := hide (U13.blk f1.out (P3.out p1 hp1))
  have lw11 := hide (show q ≤ w11.heap.size from by have := U13.size; have := lw10.out; omega)
  clear x0 x1 x2 x3 T P3 H10 f1 f2 lw10 U13 W10
  have AK := hide (ack_ok 1 2 H11.out (by omega))
  replace R4 := hide R4
  go_wp2_with fail
  refine AK.out.mono ?_
  rintro e w12 ⟨rfl, H12, U14⟩
  have H13 : Snd _ _ _ _ _ _ _ _ _ _ 2 ((2 : Nat) : Int) := H12
  have nr : ∀ g, q ≤ g → g ∉ [r] := by intro g hg hm; simp at hm; omega
  have R5 := R4.out.upd U14 (nr q (Nat.le_refl _)) (fun g hg => nr g (R4.out.row.ge g hg))
  have rp1 := H11.out.head.ne_ h1.out (by decide)
  have j1 := U14.blk h1.out (by simpa using rp1.symm)
  have W12 := hide (W11.out.trans U14 (by intro i hi hl; simp at hi; omega))
  have N3 := next_ok 2 H13 (by omega) (by omega) (by omega) (by omega) (by omega)
  rw [cut2] at N3
  replace N3 := hide N3
  clear AK H11 H12 H13 h1 U14 W11 R4
  go_wp2_with fail
  refine N3.out.mono ?_
  rintro e w13 ⟨rfl, H14, U15⟩
  have R6 := R5.upd U15 (nr q (Nat.le_refl _)) (fun g hg => nr g (R5.row.ge g hg))
  have j2 := U15.blk j1 (by simpa using rp1.symm)
  have W13 := hide (W12.out.trans U15 (by intro i hi hl; simp at hi; omega))
  have k4 := (Upd.refl w13 []).alloc (.cells (⟨1, 2, 3, ⟨#[101]⟩⟩ : Pc).cells 31)
  have b8 := hide (Blk.new w13 31 (⟨1, 2, 3, ⟨#[101]⟩⟩ : Pc).cells)
  have R7 := R6.upd0 k4
  have j3 := hide (k4.blk j2 (by simp))
  have W14 := hide (W13.out.trans k4 (by simp))
  have lw14 := hide (show q ≤ (w13.alloc (.cells (⟨1, 2, 3, ⟨#[101]⟩⟩ : Pc).cells 31)).heap.size from by have := U15.size; have := k4.size; have := R5.head.lt; omega)
  clear N3 R5 R6 j1 j2 W12 W13 k4 U15
  go_wp2_with fail
  generalize w13.alloc (.cells #[.int .i64 1, .int .i64 2, .int .i64 3, .string ⟨#[101]⟩] 31) = w14 at *
  generalize w13.heap.size = p4 at *
  have T := take_ok ⟨1, 2, 3, ⟨#[101]⟩⟩ w14 R7 lw14.out (by simp)
  rw [g_id4.1, g_id4.2.1, g_id4.2.2] at T
  have P4 := hide R7.past
  replace T := hide T
  have x0 : w14.cell? ⟨p4, 0, none⟩ = some (.int .i64 1) := by rw [b8.out.cell]; rfl
  have x1 : w14.cell? ⟨p4, 1, none⟩ = some (.int .i64 2) := by rw [b8.out.cell]; rfl
  have x2 : w14.cell? ⟨p4, 2, none⟩ = some (.int .i64 3) := by rw [b8.out.cell]; rfl
  have x3 : w14.cell? ⟨p4, 3, none⟩ = some (.string ⟨#[101]⟩) := by rw [b8.out.cell]; rfl
  have R7h := hide R7
  clear R7
  go_wp2_with fail
  refine T.out.mono ?_
  rintro e w15 ⟨v15, rfl, R8, U16, _⟩
  have lp1 := j3.out.lt
  have W15 := hide (W14.out.trans U16 (fun i hi hl => absurd hi (P4.out i (by have := lw.out; omega))))
  have m1 := hide (U16.blk j3.out (P4.out p1 hp1))
  have m4 := hide (U16.blk b8.out (by
    intro hm
    rcases List.mem_cons.1 hm with rfl | hm
    · exact absurd rfl (R7h.out.head.ne_ b8.out (by decide))
    · exact R7h.out.row.ne b8.out (by decide) p4 hm (by simp)))
  have TX := text_ok w15 R8 (by decide) (by decide)
  rw [show textS 1 3 [⟨#[97, 98]⟩, ⟨#[99, 100]⟩, ⟨#[101]⟩] = ⟨#[97, 98, 99, 100, 101]⟩ from rfl, show textB 1 3 [⟨#[97, 98]⟩, ⟨#[99, 100]⟩, ⟨#[101]⟩] = true from rfl] at TX
  replace TX := hide TX
  clear x0 x1 x2 x3 T P4 j3 b8 lw14 U16 W14 R8
  go_wp2_with fail
  refine TX.out.mono ?_
  rintro e w16 ⟨rfl, U17⟩
  have n1 := U17.blk m1.out (by simp)
  have n4 := U17.blk m4.out (by simp)
  have W16 := hide (W15.out.trans U17 (by simp))
  have x0 : w16.cell? ⟨p1, 0, none⟩ = some (.int .i64 1) := by rw [(hide n1).out.cell]; rfl
  have x1 : w16.cell? ⟨p1, 1, none⟩ = some (.int .i64 0) := by rw [(hide n1).out.cell]; rfl
  have x2 : w16.cell? ⟨p1, 2, none⟩ = some (.int .i64 3) := by rw [(hide n1).out.cell]; rfl
  have x3 : w16.cell? ⟨p1, 3, none⟩ = some (.string ⟨#[97, 98]⟩) := by rw [(hide n1).out.cell]; rfl
  have y3 : w16.cell? ⟨p4, 3, none⟩ = some (.string ⟨#[101]⟩) := by rw [n4.cell]; rfl
  clear TX U17 m1 m4 W15 n1 n4
  go_wp2_with fail
  go_ret
  exact ⟨rfl, W16.out⟩
end Go.Proofs.Ytmmacjjmkaeakaa
