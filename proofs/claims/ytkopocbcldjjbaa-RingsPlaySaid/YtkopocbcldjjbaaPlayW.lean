/- The walk of RingsPlay (f4). (Printed by gen03play.py.) -/
import Derived.Test.YtkopocbcldjjbaaPlay
import Derived.Test.YtkopocbcldjjbaaAny
import Derived.Deep.CutRange
import Derived.Deep.CutBlock
namespace Go.Proofs.Ytkopocbcldjjbaa
open Go.RowKit
set_option linter.unusedVariables false
set_option linter.unusedSimpArgs false
attribute [-go_sem] loadVar storeVar
attribute [local go_sem] loadVar_else2 storeVar_else2 run_load40 run_store40 run_load50 run_store50 frameAt_drew frameAt_drewN roomAt_drew roomAt_drewN actAt_drew actAt_drewN actRoom_drew
set_option maxRecDepth 100000 in
set_option maxHeartbeats 32000000 in
theorem play_walk (n : Nat) (n1 : 1 ≤ n) (n2 : n ≤ 64) (a0 : Option Addr) (b off cp : Nat) (al : List Ra) (w : World) (ha : 0 < al.length → a0 = some ⟨b, off, none⟩) (hx : RActs w b off al) (hm : al.length ≤ 9223372036854775807) (hg : great (al.map fun a => (a.F, a.e)) 200 = false) :
    Calls Try.prog 4 #[.int .i64 n, .slice a0 al.length cp] w fun e w' => e = .returned (.bool true) ∧ Upd w w' [] := by
  have G := great_acts a0 b off cp al w ha hx hm
  rw [hg] at G
  replace G := hide G
  have X := hide hx
  have HA := hide ha
  have NW := hide (show ∀ i (h : i < al.length), ¬ al[i].e.wide from fun i h hw => by
    have : great (al.map fun a => (a.F, a.e)) 200 = true := by
      unfold great
      rw [Bool.or_eq_true]
      left
      rw [List.any_eq_true]
      exact ⟨(al[i].F, al[i].e), List.mem_map.2 ⟨al[i], List.getElem_mem h, rfl⟩, by simpa using hw⟩
    rw [hg] at this
    cases this)
  have few : al.length ≤ 200 := by
    unfold great at hg
    rw [Bool.or_eq_false_iff] at hg
    have := hg.2
    simp at this
    exact this
  clear hx ha hg
  go_enter Try.func4, Try.ntmps4
  go_wp2_with fail
  refine G.out.mono ?_
  rintro e w2 ⟨rfl, k1⟩
  have T := hide (new_ok n w2 n1 n2)
  replace k1 := hide k1
  clear G
  go_wp2_with fail
  refine T.out.mono ?_
  rintro e w3 ⟨r, pb, rfl, hr, hpb, R3, k2⟩
  have T2 := hide (dnew_ok n w3 n1 n2)
  have lr := hide (show w.heap.size ≤ r by have := k1.out.size; omega)
  have lpb := hide (show w.heap.size ≤ pb by have := k1.out.size; omega)
  have k3 := hide (k1.out.trans k2 (by simp))
  have rlt := R3.head.lt
  have plt := R3.row.lt
  replace R3 := hide R3
  clear T k1 k2 hr hpb
  go_wp2_with fail
  refine T2.out.mono ?_
  rintro e w4 ⟨rfl, D4, kk⟩
  have R4 := hide (R3.out.upd0 kk)
  have U4 := hide (k3.out.trans kk (by simp))
  have lq := hide (show w.heap.size ≤ w3.heap.size from k3.out.size)
  have qr := hide (show w3.heap.size ≠ r by omega)
  have qp := hide (show w3.heap.size ≠ pb by omega)
  have pl4 := hide (show pb < w4.heap.size by have := kk.size; omega)
  replace D4 := hide D4
  clear T2 R3 k3 kk rlt plt
  generalize w3.heap.size = q at *
  go_wp2_with fail
  go_loopw [9] (fun vi wr => ∃ (i first cnt : Nat) (fs : Nat → Fr) (v : Value) (xs : List Fr), i ≤ al.length ∧ vi = .int .i64 i ∧ Ring wr r pb n first cnt fs ∧ DRing wr q v n xs ∧ Like xs n first cnt fs ∧ (0 < xs.length → ∀ g ∈ blkOf v, g ≠ pb) ∧ Upd w wr []) (fun vi _ => al.length - (intOf vi).toNat)
  case atStart => exact ⟨0, 0, 0, _, _, [], by omega, rfl, R4.out, D4.out, Like.nil _ _ _, fun h => absurd h (by simp), U4.out⟩
  case round =>
    clear R4 D4 U4
    obtain ⟨i, first, cnt, fs, v, xs, hi, rfl, R, D, L, sep, hu⟩ := hrel
    by_cases hl : (i : Int) < al.length
    · have hil : i < al.length := by omega
      obtain rfl := HA.out (by omega)
      obtain ⟨q0, ok⟩ := (X.out.upd hu) i hil
      have nw := NW.out i hil
      have OK0 := (X.out i hil).2
      obtain ⟨a, ha⟩ : ∃ a, a = al[i] := ⟨_, rfl⟩
      rw [← ha] at q0 ok nw OK0
      clear ha
      have b0 := Blk.new wr 50 #[.int .u8 0, .int .i64 0, .int .i64 0, .int .i64 0, .int .i64 0, .int .i64 0, .int .i64 0, .int .i64 0, .int .i64 0, .string ⟨#[]⟩, .string ⟨#[]⟩, .int .i64 0, .int .i64 0, .string ⟨#[]⟩, .int .i64 0, .int .i64 0, .int .i64 0, .int .i64 0, .int .i64 0, .int .i64 0, .int .i64 0, .string ⟨#[]⟩, .string ⟨#[]⟩, .int .i64 0, .int .i64 0, .slice none 0 0, .int .i64 0, .int .i64 0, .int .i64 0, .int .i64 0, .int .i64 0]
      have r0 := b0.actRoom 0 (by decide) (Ra.csize ok) (Ra.cone ok)
      have b2 := hide ((b0.setCells a.cells.toList 0).congr (putAt_all (by rw [Ra.csize ok]; rfl)))
      have k2 := Upd.setCells (b := wr.heap.size) (S := []) (by simp) a.cells.toList 0 ((Upd.refl wr []).alloc (.cells #[.int .u8 0, .int .i64 0, .int .i64 0, .int .i64 0, .int .i64 0, .int .i64 0, .int .i64 0, .int .i64 0, .int .i64 0, .string ⟨#[]⟩, .string ⟨#[]⟩, .int .i64 0, .int .i64 0, .string ⟨#[]⟩, .int .i64 0, .int .i64 0, .int .i64 0, .int .i64 0, .int .i64 0, .int .i64 0, .int .i64 0, .string ⟨#[]⟩, .string ⟨#[]⟩, .int .i64 0, .int .i64 0, .slice none 0 0, .int .i64 0, .int .i64 0, .int .i64 0, .int .i64 0, .int .i64 0] 50))
      have R2 := hide (R.upd0 k2)
      have D2 := hide (D.upd0 k2)
      have U2 := hide (hu.trans k2 (by simp))
      have OK2 := hide (ok.upd k2)
      replace L := hide L
      replace sep := hide sep
      replace nw := hide nw
      replace OK0 := hide OK0
      have rab := R.head.lt
      have pab := R.row.lt
      have qab := D.head.lt
      clear b0 R D hu k2 ok
      go_upto_region 11 with fail
      generalize (wr.alloc (.cells #[.int .u8 0, .int .i64 0, .int .i64 0, .int .i64 0, .int .i64 0, .int .i64 0, .int .i64 0, .int .i64 0, .int .i64 0, .string ⟨#[]⟩, .string ⟨#[]⟩, .int .i64 0, .int .i64 0, .string ⟨#[]⟩, .int .i64 0, .int .i64 0, .int .i64 0, .int .i64 0, .int .i64 0, .int .i64 0, .int .i64 0, .string ⟨#[]⟩, .string ⟨#[]⟩, .int .i64 0, .int .i64 0, .slice none 0 0, .int .i64 0, .int .i64 0, .int .i64 0, .int .i64 0, .int .i64 0] 50)).setCells wr.heap.size 0 a.cells.toList = w5 at *
      generalize wr.heap.size = ab at *
      clear r0 q0
      have r1 : ∀ Fz, IsF w5 0 Fz zeroFr → roomAt ((w5.alloc (.cells #[.int .i64 0, .int .i64 0, .int .i64 0, .int .i64 0, .int .i64 0, .int .i64 0, .int .i64 0, .int .i64 0, .string ⟨#[]⟩, .string ⟨#[]⟩, .int .i64 0, .int .i64 0, .string ⟨#[]⟩, .int .i64 0, .int .i64 0, .int .i64 0, .int .i64 0, .int .i64 0, .int .i64 0, .int .i64 0, .string ⟨#[]⟩, .string ⟨#[]⟩, .int .i64 0, .int .i64 0, .slice none 0 0, .int .i64 0, .int .i64 0, .int .i64 0, .int .i64 0] 40)).alloc (.cells #[.int .i64 0, .int .i64 0, .int .i64 0, .int .i64 0, .int .i64 0, .int .i64 0, .int .i64 0, .int .i64 0, .string ⟨#[]⟩, .string ⟨#[]⟩, .int .i64 0, .int .i64 0, .string ⟨#[]⟩, .int .i64 0, .int .i64 0, .int .i64 0, .int .i64 0, .int .i64 0, .int .i64 0, .int .i64 0, .string ⟨#[]⟩, .string ⟨#[]⟩, .int .i64 0, .int .i64 0, .slice none 0 0, .int .i64 0, .int .i64 0, .int .i64 0, .int .i64 0] 40)) w5.heap.size 0 Fz = true := fun Fz h => (two_lay w5 h h).1
      have r2 : ∀ Fz Gz, IsF w5 0 Fz zeroFr → IsF w5 0 Gz zeroFr → roomAt (((w5.alloc (.cells #[.int .i64 0, .int .i64 0, .int .i64 0, .int .i64 0, .int .i64 0, .int .i64 0, .int .i64 0, .int .i64 0, .string ⟨#[]⟩, .string ⟨#[]⟩, .int .i64 0, .int .i64 0, .string ⟨#[]⟩, .int .i64 0, .int .i64 0, .int .i64 0, .int .i64 0, .int .i64 0, .int .i64 0, .int .i64 0, .string ⟨#[]⟩, .string ⟨#[]⟩, .int .i64 0, .int .i64 0, .slice none 0 0, .int .i64 0, .int .i64 0, .int .i64 0, .int .i64 0] 40)).alloc (.cells #[.int .i64 0, .int .i64 0, .int .i64 0, .int .i64 0, .int .i64 0, .int .i64 0, .int .i64 0, .int .i64 0, .string ⟨#[]⟩, .string ⟨#[]⟩, .int .i64 0, .int .i64 0, .string ⟨#[]⟩, .int .i64 0, .int .i64 0, .int .i64 0, .int .i64 0, .int .i64 0, .int .i64 0, .int .i64 0, .string ⟨#[]⟩, .string ⟨#[]⟩, .int .i64 0, .int .i64 0, .slice none 0 0, .int .i64 0, .int .i64 0, .int .i64 0, .int .i64 0] 40)).setCells w5.heap.size 0 Fz.toList) (w5.heap.size + 1) 0 Gz = true := fun Fz Gz h h' => (two_lay w5 h h').2.1
      go_upto_region 12 with (refine wpList_zeroG rfl rfl ?_; (try (obtain ⟨F1, rfl⟩ : ∃ F1 : Array Value, F1 = Fz := ⟨_, rfl⟩; have hF1 := hFz; clear hFz)); intro Fz hFz)
      have hz1 := hF1.size
      have hz2 := hFz.size
      obtain ⟨-, -, t1, t2, t3⟩ := two_lay w5 hF1 hFz
      unfold zeroF at t1 t2 t3
      have R6 := hide (R2.out.upd0 t3)
      have D6 := hide (D2.out.upd0 t3)
      have A6 := hide (t3.blk b2.out (by simp))
      have U6 := hide (U2.out.trans t3 (by simp))
      have I1 := hide (hF1.upd t3 (Off.nil _))
      have I2 := hide (hFz.upd t3 (Off.nil _))
      have vlt := hide (fun h => D2.out.lt h)
      have plt := R2.out.row.lt
      have rlt := R2.out.head.lt
      have qlt := D2.out.head.lt
      have alt := b2.out.lt
      have wp := U2.out.size
      have lr1 := lr.out
      have lpb1 := lpb.out
      have lq1 := lq.out
      have k6 := t3.size
      have t22 := t2.lt
      replace t1 := hide t1
      replace t2 := hide t2
      clear r1 r2 t3 R2 D2 OK2 b2 U2 hF1 hFz
      generalize (((w5.alloc (.cells #[.int .i64 0, .int .i64 0, .int .i64 0, .int .i64 0, .int .i64 0, .int .i64 0, .int .i64 0, .int .i64 0, .string ⟨#[]⟩, .string ⟨#[]⟩, .int .i64 0, .int .i64 0, .string ⟨#[]⟩, .int .i64 0, .int .i64 0, .int .i64 0, .int .i64 0, .int .i64 0, .int .i64 0, .int .i64 0, .string ⟨#[]⟩, .string ⟨#[]⟩, .int .i64 0, .int .i64 0, .slice none 0 0, .int .i64 0, .int .i64 0, .int .i64 0, .int .i64 0] 40)).alloc (.cells #[.int .i64 0, .int .i64 0, .int .i64 0, .int .i64 0, .int .i64 0, .int .i64 0, .int .i64 0, .int .i64 0, .string ⟨#[]⟩, .string ⟨#[]⟩, .int .i64 0, .int .i64 0, .string ⟨#[]⟩, .int .i64 0, .int .i64 0, .int .i64 0, .int .i64 0, .int .i64 0, .int .i64 0, .int .i64 0, .string ⟨#[]⟩, .string ⟨#[]⟩, .int .i64 0, .int .i64 0, .slice none 0 0, .int .i64 0, .int .i64 0, .int .i64 0, .int .i64 0] 40)).setCells w5.heap.size 0 F1.toList).setCells (w5.heap.size + 1) 0 Fz.toList = w6 at *
      generalize hp2 : w5.heap.size + 1 = p2 at *
      generalize w5.heap.size = p1 at *
      have p12 : p1 < p2 := by omega
      have vp := hide (show 0 < xs.length → ∀ g ∈ blkOf v, g ≠ p1 ∧ g ≠ p2 from fun h g hg => by have := vlt.out h g hg; omega)
      replace hp2 := hide hp2
      have k0 := OK0.out.k0.1
      have k1 := OK0.out.k0.2
      have f0 : w6.cell? ⟨ab, 0, none⟩ = some (.int .u8 a.k) := by rw [A6.out.cell]; exact Ra.c0 a
      go_upto_block 2 with fail
      go_cut [13, 14] from 49 to 168 (fun v13 v14 wx => Done w wx r pb q n p1 p2 v13 v14)
      case first =>
        as_aux_lemma =>
        by_cases e4 : a.k % 10 = 4
        · skip
          have T := hide (pop_any w6 R6.out L.out)
          go_wp2_with fail
          refine T.out.mono ?_
          rintro e w7 ⟨F, rfl, hF, first', cnt', fs', R7, L7, u7⟩
          have C1 := u7.blk t1.out (by simp; omega)
          have C2 := u7.blk t2.out (by simp; omega)
          have D7 := D6.out.pastR R6.out qr.out qp.out sep.out u7
          have U7 := U6.out.trans u7 (fun i hi hl => by simp at hi; omega)
          obtain ⟨m1, m2, m3, m4⟩ := lay_at C1 hz1 hF
          have R8 := hide (R7.pastF C1 (by omega) m4)
          have D8 := hide (D7.pastF C1 (fun h g hg => (vp.out h g hg).1) m4)
          have U8 := hide (U7.trans m4 (fun i hi hl => by simp at hi; omega))
          have C2' := hide (m4.blk C2 (by simp; omega))
          replace m2 := hide m2
          replace m3 := hide m3
          have T2 := hide (dpop_any _ D8.out)
          replace L7 := hide L7
          clear T u7 C1 C2 D7 U7 R7 hF m4
          go_wp2_with fail
          refine T2.out.mono ?_
          rintro e w9 ⟨G, v', rfl, hG, D9, u9, hsub⟩
          have C1 := u9.blk m2.out (by simp; omega)
          have C2 := u9.blk C2'.out (by simp; omega)
          have R9 := R8.out.pastD D8.out.head qr.out qp.out u9
          have I9 := m3.out.upd u9 (Off.one D8.out.head (by decide))
          have U9 := U8.out.trans u9 (fun i hi hl => by simp at hi; omega)
          obtain ⟨l1, l2, l3, l4⟩ := lay_at C2 hz2 hG
          have R10 := hide (R9.pastF C2 (by omega) l4)
          have D10 := hide (D9.pastF C2 (fun h g hg => (vp.out (by rw [List.length_drop] at h; omega) g (hsub g hg)).2) l4)
          have U10 := hide (U9.trans l4 (fun i hi hl => by simp at hi; omega))
          have C1' := hide (l4.blk C1 (by simp; omega))
          have I10 := hide (I9.upd l4 (Off.one C2 (by decide)))
          replace l2 := hide l2
          replace l3 := hide l3
          replace hsub := hide hsub
          clear T2 u9 C1 C2 R9 I9 U9 D9 hG l4 m2 m3 C2' R8 D8 U8 R6 D6 U6 A6 t1 t2
          go_wp2_with fail
          go_simp
          go_meet
          exact .mk (atB xs 0) F G (atFr xs 0) first' cnt' fs' v' (xs.drop 1) rfl rfl C1'.out l2.out I10.out l3.out (atFr_fine L.out.fine 0) R10.out D10.out L7.out (fun h g hg => sep.out (by rw [List.length_drop] at h; omega) g (hsub.out g hg)) U10.out
        · by_cases e5 : a.k % 10 = 5
          · skip
            have T := hide (pop_any w6 R6.out L.out)
            go_wp2_with fail
            refine T.out.mono ?_
            rintro e w7 ⟨F, rfl, hF, first', cnt', fs', R7, L7, u7⟩
            have C1 := u7.blk t1.out (by simp; omega)
            have C2 := u7.blk t2.out (by simp; omega)
            have D7 := D6.out.pastR R6.out qr.out qp.out sep.out u7
            have U7 := U6.out.trans u7 (fun i hi hl => by simp at hi; omega)
            obtain ⟨m1, m2, m3, m4⟩ := lay_at C1 hz1 hF
            have R8 := hide (R7.pastF C1 (by omega) m4)
            have D8 := hide (D7.pastF C1 (fun h g hg => (vp.out h g hg).1) m4)
            have U8 := hide (U7.trans m4 (fun i hi hl => by simp at hi; omega))
            have C2' := hide (m4.blk C2 (by simp; omega))
            replace m2 := hide m2
            replace m3 := hide m3
            have T2 := hide (dpop_any _ D8.out)
            replace L7 := hide L7
            clear T u7 C1 C2 D7 U7 R7 hF m4
            go_wp2_with fail
            refine T2.out.mono ?_
            rintro e w9 ⟨G, v', rfl, hG, D9, u9, hsub⟩
            have C1 := u9.blk m2.out (by simp; omega)
            have C2 := u9.blk C2'.out (by simp; omega)
            have R9 := R8.out.pastD D8.out.head qr.out qp.out u9
            have I9 := m3.out.upd u9 (Off.one D8.out.head (by decide))
            have U9 := U8.out.trans u9 (fun i hi hl => by simp at hi; omega)
            obtain ⟨l1, l2, l3, l4⟩ := lay_at C2 hz2 hG
            have R10 := hide (R9.pastF C2 (by omega) l4)
            have D10 := hide (D9.pastF C2 (fun h g hg => (vp.out (by rw [List.length_drop] at h; omega) g (hsub g hg)).2) l4)
            have U10 := hide (U9.trans l4 (fun i hi hl => by simp at hi; omega))
            have C1' := hide (l4.blk C1 (by simp; omega))
            have I10 := hide (I9.upd l4 (Off.one C2 (by decide)))
            replace l2 := hide l2
            replace l3 := hide l3
            replace hsub := hide hsub
            clear T2 u9 C1 C2 R9 I9 U9 D9 hG l4 m2 m3 C2' R8 D8 U8 R6 D6 U6 A6 t1 t2
            go_wp2_with fail
            go_simp
            go_meet
            exact .mk (atB xs 0) F G (atFr xs 0) first' cnt' fs' v' (xs.drop 1) rfl rfl C1'.out l2.out I10.out l3.out (atFr_fine L.out.fine 0) R10.out D10.out L7.out (fun h g hg => sep.out (by rw [List.length_drop] at h; omega) g (hsub.out g hg)) U10.out
          · by_cases e6 : a.k % 10 = 6
            · skip
              have T := hide (front_any w6 R6.out L.out)
              go_wp2_with fail
              refine T.out.mono ?_
              rintro e w7 ⟨F, rfl, hF, u7⟩
              replace hF := hF
              have R7 := R6.out.upd0 u7
              have L7 := L.out
              replace u7 : Upd w6 w7 [r, pb] := u7.mono (by simp)
              have C1 := u7.blk t1.out (by simp; omega)
              have C2 := u7.blk t2.out (by simp; omega)
              have D7 := D6.out.pastR R6.out qr.out qp.out sep.out u7
              have U7 := U6.out.trans u7 (fun i hi hl => by simp at hi; omega)
              obtain ⟨m1, m2, m3, m4⟩ := lay_at C1 hz1 hF
              have R8 := hide (R7.pastF C1 (by omega) m4)
              have D8 := hide (D7.pastF C1 (fun h g hg => (vp.out h g hg).1) m4)
              have U8 := hide (U7.trans m4 (fun i hi hl => by simp at hi; omega))
              have C2' := hide (m4.blk C2 (by simp; omega))
              replace m2 := hide m2
              replace m3 := hide m3
              have T2 := hide (dat_any 0 _ D8.out)
              replace L7 := hide L7
              clear T u7 C1 C2 D7 U7 R7 hF m4
              go_wp2_with fail
              refine T2.out.mono ?_
              rintro e w9 ⟨G, rfl, hG, u9⟩
              have D9 := D8.out.upd0 u9
              have hsub : ∀ g ∈ blkOf v, g ∈ blkOf v := fun g hg => hg
              replace u9 : Upd _ w9 [q] := u9.mono (by simp)
              have C1 := u9.blk m2.out (by simp; omega)
              have C2 := u9.blk C2'.out (by simp; omega)
              have R9 := R8.out.pastD D8.out.head qr.out qp.out u9
              have I9 := m3.out.upd u9 (Off.one D8.out.head (by decide))
              have U9 := U8.out.trans u9 (fun i hi hl => by simp at hi; omega)
              obtain ⟨l1, l2, l3, l4⟩ := lay_at C2 hz2 hG
              have R10 := hide (R9.pastF C2 (by omega) l4)
              have D10 := hide (D9.pastF C2 (fun h g hg => (vp.out h g (hsub g hg)).2) l4)
              have U10 := hide (U9.trans l4 (fun i hi hl => by simp at hi; omega))
              have C1' := hide (l4.blk C1 (by simp; omega))
              have I10 := hide (I9.upd l4 (Off.one C2 (by decide)))
              replace l2 := hide l2
              replace l3 := hide l3
              replace hsub := hide hsub
              clear T2 u9 C1 C2 R9 I9 U9 D9 hG l4 m2 m3 C2' R8 D8 U8 R6 D6 U6 A6 t1 t2
              go_wp2_with fail
              go_simp
              go_meet
              exact .mk (atB xs 0) F G (atFr xs 0) first cnt fs v xs rfl rfl C1'.out l2.out I10.out l3.out (atFr_fine L.out.fine 0) R10.out D10.out L7.out (sep.out) U10.out
            · by_cases e7 : a.k % 10 = 7
              · skip
                have f30 : w6.cell? ⟨ab, 30, none⟩ = some (.int .i64 a.i) := by rw [A6.out.cell]; exact Ra.c30 OK0.out
                have T := hide (at_any a.i w6 R6.out L.out)
                go_wp2_with fail
                refine T.out.mono ?_
                rintro e w7 ⟨F, rfl, hF, u7⟩
                replace hF := hF.mono (Nat.zero_le _)
                have R7 := R6.out.upd0 u7
                have L7 := L.out
                replace u7 : Upd w6 w7 [r, pb] := u7.mono (by simp)
                have C1 := u7.blk t1.out (by simp; omega)
                have C2 := u7.blk t2.out (by simp; omega)
                have D7 := D6.out.pastR R6.out qr.out qp.out sep.out u7
                have U7 := U6.out.trans u7 (fun i hi hl => by simp at hi; omega)
                obtain ⟨m1, m2, m3, m4⟩ := lay_at C1 hz1 hF
                have R8 := hide (R7.pastF C1 (by omega) m4)
                have D8 := hide (D7.pastF C1 (fun h g hg => (vp.out h g hg).1) m4)
                have U8 := hide (U7.trans m4 (fun i hi hl => by simp at hi; omega))
                have C2' := hide (m4.blk C2 (by simp; omega))
                have f31 : (w7.setCells p1 0 F.toList).cell? ⟨ab, 30, none⟩ = some (.int .i64 a.i) := by rw [(m4.blk (u7.blk A6.out (by simp; omega)) (by simp; omega)).cell]; exact Ra.c30 OK0.out
                replace m2 := hide m2
                replace m3 := hide m3
                have T2 := hide (dat_any a.i _ D8.out)
                replace L7 := hide L7
                clear T u7 C1 C2 D7 U7 R7 hF m4
                go_wp2_with fail
                refine T2.out.mono ?_
                rintro e w9 ⟨G, rfl, hG, u9⟩
                have D9 := D8.out.upd0 u9
                have hsub : ∀ g ∈ blkOf v, g ∈ blkOf v := fun g hg => hg
                replace u9 : Upd _ w9 [q] := u9.mono (by simp)
                have C1 := u9.blk m2.out (by simp; omega)
                have C2 := u9.blk C2'.out (by simp; omega)
                have R9 := R8.out.pastD D8.out.head qr.out qp.out u9
                have I9 := m3.out.upd u9 (Off.one D8.out.head (by decide))
                have U9 := U8.out.trans u9 (fun i hi hl => by simp at hi; omega)
                obtain ⟨l1, l2, l3, l4⟩ := lay_at C2 hz2 hG
                have R10 := hide (R9.pastF C2 (by omega) l4)
                have D10 := hide (D9.pastF C2 (fun h g hg => (vp.out h g (hsub g hg)).2) l4)
                have U10 := hide (U9.trans l4 (fun i hi hl => by simp at hi; omega))
                have C1' := hide (l4.blk C1 (by simp; omega))
                have I10 := hide (I9.upd l4 (Off.one C2 (by decide)))
                replace l2 := hide l2
                replace l3 := hide l3
                replace hsub := hide hsub
                clear T2 u9 C1 C2 R9 I9 U9 D9 hG l4 m2 m3 C2' R8 D8 U8 R6 D6 U6 A6 t1 t2
                go_wp2_with fail
                go_simp
                go_meet
                exact .mk (atB xs a.i) F G (atFr xs a.i) first cnt fs v xs rfl rfl C1'.out l2.out I10.out l3.out (atFr_fine L.out.fine a.i) R10.out D10.out L7.out (sep.out) U10.out
              · by_cases e8 : a.k % 10 = 8
                · skip
                  have T := hide (clear_ok r pb n first cnt fs w6 R6.out)
                  go_wp2_with fail
                  refine T.out.mono ?_
                  rintro e w7 ⟨rfl, R7, u7⟩
                  have C1 := u7.blk t1.out (by simp; omega)
                  have C2 := u7.blk t2.out (by simp; omega)
                  have D7 := D6.out.pastR R6.out qr.out qp.out sep.out u7
                  have U7 := U6.out.trans u7 (fun i hi hl => by simp at hi; omega)
                  have O7 := Off.two R6.out.head (by decide) R6.out.row.choose_spec.1 (by decide)
                  have J1 := I1.out.upd u7 O7
                  have J2 := I2.out.upd u7 O7
                  have a1 := D7.a1
                  have f1 := D7.head.frozen 1
                  have u8 : Upd w7 (w7.setCell ⟨q, 1, none⟩ (.slice none 0 0)) [q] := (Upd.refl _ _).setCell (p := ⟨q, 1, none⟩) (by simp) _
                  have D8 := hide (show DRing (w7.setCell ⟨q, 1, none⟩ (.slice none 0 0)) q (.slice none 0 0) n [] from ⟨D7.head.set_ 1 _, [], RowAt.nil _ _ _, rfl, fun i h => absurd h (by simp)⟩)
                  have R8 := hide (R7.pastD D7.head qr.out qp.out u8)
                  have U8 := hide (U7.trans u8 (fun i hi hl => by simp at hi; omega))
                  have K1 := hide (u8.blk C1 (by simp; omega))
                  have K2 := hide (u8.blk C2 (by simp; omega))
                  have M1 := hide (J1.upd u8 (Off.one D7.head (by decide)))
                  have M2 := hide (J2.upd u8 (Off.one D7.head (by decide)))
                  obtain ⟨ga, c, rfl, _⟩ := D7.form
                  clear T u7 C1 C2 D7 U7 R7 O7 J1 J2 u8 R6 D6 U6 A6 t1 t2 I1 I2
                  go_wp2_with fail
                  go_simp
                  go_meet
                  exact .mk false _ _ zeroFr _ _ _ _ [] rfl rfl K1.out K2.out M1.out M2.out zero_fine R8.out D8.out (Like.nil _ _ _) (fun h => absurd h (by simp)) U8.out
                · by_cases e9 : a.k % 10 = 9
                  · skip
                    have C := hide (copy_ok r pb n first cnt fs w6 R6.out)
                    go_wp2_with fail
                    refine C.out.mono ?_
                    rintro e w7 ⟨c, pc, rfl, hc, hpc, R7, u7⟩
                    have A7 := u7.blk A6.out (by simp)
                    have OK7 := OK0.out.upd (U6.out.trans u7 (by simp))
                    have q7 := A7.frame 1 OK7.sees.size (fun j hj => Ra.cF OK7 j hj)
                    have T := push_any w7 R7 L.out OK7.fine (OK7.good nw.out) OK7.src rfl
                    rw [← OK7.frame] at T
                    replace T := hide T
                    replace u7 := hide u7
                    clear C R7 A7 OK7
                    go_wp2_with fail
                    refine T.out.mono ?_
                    rintro e w8 ⟨rfl, ⟨cnt2, fs2, R8, L8⟩, u8, _⟩
                    have V8 := hide (u7.out.trans u8 (fun i hi hl => by simp at hi; omega))
                    have T2 := hide (pop_any w8 R8 L8)
                    clear T u7 u8 R8 L8 q7
                    go_wp2_with fail
                    refine T2.out.mono ?_
                    rintro e w9 ⟨F9, rfl, _, first3, cnt3, fs3, R9, L9, u9⟩
                    have V9 := hide (V8.out.trans u9 (fun i hi hl => by simp at hi; omega))
                    have T3 := hide (clear_ok c pc n first3 cnt3 fs3 w9 R9)
                    clear T2 u9 R9 L9 V8
                    go_wp2_with fail
                    refine T3.out.mono ?_
                    rintro e w10 ⟨rfl, _, u10⟩
                    have V10 := V9.out.trans u10 (fun i hi hl => by simp at hi; omega)
                    have R10 := hide (R6.out.upd0 V10)
                    have D10 := hide (D6.out.upd0 V10)
                    have U10 := hide (U6.out.trans V10 (by simp))
                    have K1 := hide (V10.blk t1.out (by simp))
                    have K2 := hide (V10.blk t2.out (by simp))
                    have M1 := hide (I1.out.upd V10 (Off.nil _))
                    have M2 := hide (I2.out.upd V10 (Off.nil _))
                    clear T3 u10 V9 V10 R6 D6 U6 A6 t1 t2 I1 I2
                    go_wp2_with fail
                    go_simp
                    go_meet
                    exact .mk false _ _ zeroFr _ _ _ _ xs rfl rfl K1.out K2.out M1.out M2.out zero_fine R10.out D10.out L.out sep.out U10.out
                  · skip
                    have g4 : (a.k % 10 == 4) = false := beq_false_of_ne e4
                    have g5 : (a.k % 10 == 5) = false := beq_false_of_ne e5
                    have g6 : (a.k % 10 == 6) = false := beq_false_of_ne e6
                    have g7 : (a.k % 10 == 7) = false := beq_false_of_ne e7
                    have g8 : (a.k % 10 == 8) = false := beq_false_of_ne e8
                    have g9 : (a.k % 10 == 9) = false := beq_false_of_ne e9
                    replace e4 := hide e4
                    replace e5 := hide e5
                    replace e6 := hide e6
                    replace e7 := hide e7
                    replace e8 := hide e8
                    replace e9 := hide e9
                    obtain ⟨i57, h57⟩ := info_parts info57
                    replace h57 := hide h57
                    have OK6 := OK0.out.upd U6.out
                    have q6 := A6.out.frame 1 OK6.sees.size (fun j hj => Ra.cF OK6 j hj)
                    have b0 := Blk.new w6 40 zeroF
                    have hs := OK6.sees.size
                    have r0 := b0.room 0 (by decide) hs OK6.sees.one
                    have b1 := (b0.setCells a.F.toList 0).congr (putAt_all (by rw [hs]; rfl))
                    have V7 := Upd.setCells (b := w6.heap.size) (S := []) (by simp) a.F.toList 0 ((Upd.refl w6 []).alloc (.cells zeroF 40))
                    have A7 := V7.blk A6.out (by simp)
                    have OK7 := OK6.upd V7
                    have e25 : a.cells[25]? = some a.v := by
                      have := Ra.cF OK7 24 (by decide)
                      rw [OK7.frame, cut_at OK7.size] at this
                      exact this
                    have c25 : ((w6.alloc (.cells zeroF 40)).setCells w6.heap.size 0 a.F.toList).cell? ⟨ab, 25, none⟩ = some a.v := by rw [A7.cell]; exact e25
                    obtain ⟨am, nm, cm, hv, hlm, hcs⟩ := OK7.src
                    injection hv with v1 v2 v3
                    subst v1
                    subst v2
                    subst v3
                    have nfew : a.e.n ≤ 10 := by
                      have := nw.out
                      unfold Eyes.wide at this
                      omega
                    have hnm : Hid (a.e.ad = none → a.e.n = 0 ∧ a.e.c = 0) := hide (fun e => by
                      rcases hcs with ⟨_, h0⟩ | ⟨ad, h0, _⟩
                      · exact ⟨h0, OK7.nil e⟩
                      · rw [e] at h0; cases h0)
                    have hcell : Hid (∀ ad, a.e.ad = some ad → ∀ j u, a.x.2[j]? = some u → ((w6.alloc (.cells zeroF 40)).setCells w6.heap.size 0 a.F.toList).cell? (ad.add j) = some u) := hide (fun ad e => by
                      rcases hcs with ⟨h0, _⟩ | ⟨ad', h0, hh⟩
                      · rw [h0] at e; cases e
                      · rw [h0] at e; injection e with e; subst e; exact hh)
                    have hsz : w6.heap.size < ((w6.alloc (.cells zeroF 40)).setCells w6.heap.size 0 a.F.toList).heap.size := b1.lt
                    unfold zeroF at r0 b1 V7 A7 c25 hcell hsz
                    replace hlm := hide hlm
                    replace A7 := hide A7
                    replace b1 := hide b1
                    replace V7 := hide V7
                    replace hcell := hide hcell.out
                    have OKa := hide OK7
                    clear b0 hcs OK6 OK7 e25 hs
                    go_upto_region 15 with fail
                    clear r0 q6
                    generalize hp4 : w6.heap.size = p4 at *
                    replace hp4 := hide hp4
                    generalize (w6.alloc (.cells #[.int .i64 0, .int .i64 0, .int .i64 0, .int .i64 0, .int .i64 0, .int .i64 0, .int .i64 0, .int .i64 0, .string ⟨#[]⟩, .string ⟨#[]⟩, .int .i64 0, .int .i64 0, .string ⟨#[]⟩, .int .i64 0, .int .i64 0, .int .i64 0, .int .i64 0, .int .i64 0, .int .i64 0, .int .i64 0, .string ⟨#[]⟩, .string ⟨#[]⟩, .int .i64 0, .int .i64 0, .slice none 0 0, .int .i64 0, .int .i64 0, .int .i64 0, .int .i64 0] 40)).setCells p4 0 a.F.toList = w7 at *
                    go_upto_region 16 with (at_builtin; refine wpList_append_src rfl (.tmp 69) 36 rfl p4 57 i57 (.agg #[.int .i64 0, .int .i64 0]) 2 16 Try.underlying36 h57.out.1 h57.out.2.1 h57.out.2.2.1 h57.out.2.2.2 rfl (by decide) a.e.ad a.e.n a.e.c a.x.2 rfl hlm.out hnm.out hcell.out OKa.out.mem (by unfold maxLen; omega) (by omega) (by omega) ?_; intro v1 w8 hown1 ua; obtain ⟨gm, cm1, rfl⟩ := own_slice hown1; have hB8 := ua.blk b1.out (by simp); have k24 : w8.cell? ⟨p4, 24, none⟩ = some a.v := (by rw [hB8.cell, OKa.out.frame]; exact cut_at OKa.out.size _); have f24 := hB8.frozen 24; replace hB8 := hide hB8; replace ua := hide ua; replace hown1 := hide hown1)
                    have u9 : Upd w8 (w8.setCell ⟨p4, 24, none⟩ (.slice gm a.e.n cm1)) [p4] := (Upd.refl _ _).setCell (p := ⟨p4, 24, none⟩) (by simp) _
                    have B9 := (hB8.out.set_ 24 (.slice gm a.e.n cm1)).congr (show _ = cut a.x (.slice gm a.e.n cm1) from by rw [OKa.out.frame]; exact cut_cut _ _)
                    have O9 : Own (w8.setCell ⟨p4, 24, none⟩ (.slice gm a.e.n cm1)) p4 (.slice gm a.e.n cm1) a.x.2 := (Own.mono ⟨a.e.n, hown1.out⟩ (Nat.le_refl _)).upd u9 (Off.one hB8.out (by decide))
                    have V9 : Upd w6 (w8.setCell ⟨p4, 24, none⟩ (.slice gm a.e.n cm1)) [] := (V7.out.trans ua.out (by simp)).trans u9 (fun i hi hl => by simp at hi; have := hp4.out; omega)
                    have AV9 := hide ((R6.out.av (S := blkOf (.slice gm a.e.n cm1)) (fun g hg => by have := (O9.blk g hg).1; have := hp4.out; omega)).upd R6.out.row.lt V9 (by simp))
                    have AD9 := hide ((D6.out.av (S := blkOf (.slice gm a.e.n cm1)) (fun g hg => by have := (O9.blk g hg).1; have := hp4.out; omega)).upd D6.out V9 (by simp) (by simp))
                    have R9 := hide (R6.out.upd0 V9)
                    have D9 := hide (D6.out.upd0 V9)
                    have f9 := B9.frame0 (by rw [cut_size]; exact OKa.out.size)
                    have FN := OK0.out.fine
                    have GD := OK0.out.good nw.out
                    have hxn := Nat.le_trans (Nat.le_of_eq L.out.len) R6.out.hc
                    obtain ⟨bq, hbq⟩ : ∃ bq, bq = decide (xs.length < n) := ⟨_, rfl⟩
                    have T := push_any _ R9.out L.out FN GD O9.src rfl
                    rw [← hbq] at T
                    replace hbq := hide hbq
                    replace T := hide T
                    replace FN := hide FN
                    replace GD := hide GD
                    replace O9 := hide O9
                    replace V9 := hide V9
                    replace B9 := hide B9
                    clear u9 hB8 k24 f24 hown1 ua V7 A7 b1 hcell OKa c25 hsz h57
                    generalize w8.setCell ⟨p4, 24, none⟩ (.slice gm a.e.n cm1) = w9 at *
                    go_wp2_with fail
                    refine T.out.mono ?_
                    rintro e w10 ⟨rfl, ⟨cnt2, fs2, R10, L10⟩, u10, hav⟩
                    have AV10 := hide (hav _ (fun g hg => (O9.out.blk g hg).2) AV9.out)
                    have AD10 := hide (AD9.out.upd D9.out u10 (by have := qr.out; have := qp.out; simp; omega) (D9.out.rowNe R9.out sep.out))
                    have D10 := D9.out.pastR R9.out qr.out qp.out sep.out u10
                    have O10 := O9.out.updB u10 (fun g hg => by have := (O9.out.blk g hg).1; simp; omega)
                    have B10 := hide (u10.blk B9.out (by simp; omega))
                    have V10 : Upd w6 w10 [r, pb, q] := (V9.out.mono (by simp)).trans u10 (fun i hi hl => by simp at hi; simp; omega)
                    have U10 := (U6.out.trans V9.out (by simp)).trans u10 (fun i hi hl => by simp at hi; omega)
                    have A10 := V10.blk A6.out (by simp; omega)
                    have OK10 := OK0.out.upd U10
                    have q10 := A10.frame 1 OK10.sees.size (fun j hj => Ra.cF OK10 j hj)
                    have T2 := dpush_any w10 D10 hxn (by omega) n2 GD.out OK10.src (fun n' c' e => by injection e with e1 e2 e3; rw [← e3]; exact OK10.nil e1)
                    rw [← OK10.frame, ← hbq.out] at T2
                    replace T2 := hide T2
                    replace R10 := hide R10
                    replace D10 := hide D10
                    replace O10 := hide O10
                    replace V10 := hide V10
                    replace L10 := hide L10
                    clear T u10 hav AV9 AD9 R9 D9 O9 B9 V9 f9 U10 A10 OK10
                    go_wp2_with fail
                    refine T2.out.mono ?_
                    rintro e w11 ⟨rfl, ⟨v', D11, hb⟩, u11, havd⟩
                    have AD11 := hide (havd _ (fun g hg => (O10.out.blk g hg).2) AD10.out)
                    have AV11 := hide (AV10.out.upd R10.out.row.lt u11 (by have := qp.out; simp; omega))
                    have R11 := hide (R10.out.pastD D10.out.head qr.out qp.out u11)
                    have O11 := O10.out.updB u11 (fun g hg => by have := (O10.out.blk g hg).1; simp; omega)
                    have B11 := hide (u11.blk B10.out (by simp; omega))
                    have SEP := hide (show 0 < (more xs n a.x).length → ∀ g ∈ blkOf v', g ≠ pb from fun _ g hg => by
                      rcases hb g hg with ⟨h1, h2⟩ | h1
                      · exact sep.out h2 g h1
                      · have := V10.out.size; have := hp4.out; omega)
                    have V11 := hide (V10.out.trans u11 (fun i hi hl => by simp at hi; simp; omega))
                    have hrow : 0 < a.e.n → ∃ g cur, gm = some (⟨g, 0, none⟩ : Addr) ∧ Blk w11 g 57 cur ∧ a.e.n * 2 ≤ cur.size := fun h => by
                      obtain ⟨n', hl', ⟨h1, h2⟩ | ⟨g, cap', cur, h1, hg, hb', hn', _, hs, _⟩⟩ := O11
                      · have := hlm.out
                        injection h1 with _ h1 _
                        omega
                      · injection h1 with h1 h2 h3
                        subst h2
                        exact ⟨g, cur, h1, hb', by rw [hs]; exact Nat.mul_le_mul_right _ hn'⟩
                    replace hrow := hide hrow
                    replace O11 := hide O11
                    replace D11 := hide D11
                    clear T2 u11 hb havd AD10 AV10 R10 D10 O10 B10 V10 q10
                    have hs29 := OK0.out.size
                    go_wp2_with fail
                    go_loopw [17] (fun vk wx => ∃ k : Nat, k ≤ a.e.n ∧ vk = .int .i64 k ∧ Blk wx p4 40 (cut a.x (.slice gm a.e.n cm1)) ∧ (0 < a.e.n → ∃ g cur, gm = some (⟨g, 0, none⟩ : Addr) ∧ Blk wx g 57 cur ∧ a.e.n * 2 ≤ cur.size) ∧ Upd w11 wx (blkOf (.slice gm a.e.n cm1))) (fun vk _ => a.e.n - (intOf vk).toNat)
                    case atStart => exact ⟨0, by omega, rfl, B11.out, hrow.out, Upd.refl _ _⟩
                    case round =>
                      clear B11 hrow
                      obtain ⟨k, hk, rfl, N, row, hu⟩ := hrel
                      have c24 : wr.cell? ⟨p4, 24, none⟩ = some (.slice gm a.e.n cm1) := by rw [N.cell]; exact cut_at hs29 _
                      by_cases h5 : (k : Int) < a.e.n
                      · obtain ⟨g, cur, rfl, hb, hsz⟩ := row (by omega)
                        have hk0 : (0 : Int) ≤ (k : Int) := by omega
                        have y0 : wr.cell? ⟨g, k * 2, none⟩ = some (cur[k * 2]'(by omega)) := by rw [hb.cell, Array.getElem?_eq_getElem]
                        have f0 := hb.frozen (k * 2)
                        have hb1 := hb.set_ (k * 2) (.int .i64 98)
                        have y1 : (wr.setCell ⟨g, k * 2, none⟩ (.int .i64 98)).cell? ⟨g, k * 2 + 1, none⟩ = some (cur[k * 2 + 1]'(by omega)) := by
                          rw [hb1.cell, Array.getElem?_setIfInBounds_ne (by omega), Array.getElem?_eq_getElem]
                        have f1 := hb1.frozen (k * 2 + 1)
                        have hb2 := hide (hb1.set_ (k * 2 + 1) (.int .i64 0))
                        have ne : p4 ≠ g := N.ne_ hb (by decide)
                        have u2 : Upd wr ((wr.setCell ⟨g, k * 2, none⟩ (.int .i64 98)).setCell ⟨g, k * 2 + 1, none⟩ (.int .i64 0)) [g] := ((Upd.refl _ [g]).setCell (p := ⟨g, k * 2, none⟩) (by simp) _).setCell (p := ⟨g, k * 2 + 1, none⟩) (by simp) _
                        have N2 := hide (u2.blk N (by simpa using ne))
                        have U2 := hide (hu.trans u2 (fun j hj hl => by simp at hj; subst hj; simp [blkOf, Value.ownBlock]))
                        clear hb hb1 u2 N hu row
                        go_wp2_with fail
                        case roundEnd =>
                          refine ⟨⟨k + 1, by omega, by simp, N2.out, fun _ => ⟨g, _, rfl, hb2.out, by simp; omega⟩, U2.out⟩, ?_⟩
                          simp only [intOf]; omega
                      · have V12 := V11.out.trans hu (fun i hi hl => by have := (O11.out.blk i hi).1; have := hp4.out; omega)
                        obtain ⟨rc, rb, _⟩ := R11.out.row
                        have R12 := hide (R11.out.updA AV11.out hu (O11.out.off R11.out.head (by decide)) (O11.out.off rb (by decide)))
                        have D12 := hide (D11.out.updA AD11.out hu (O11.out.off D11.out.head (by decide)) (D11.out.off O11.out))
                        have U12 := hide (U6.out.trans V12 (fun i hi hl => by simp at hi; omega))
                        obtain ⟨rc6, rb6, _⟩ := R6.out.row
                        have O6 := Off.three R6.out.head (by decide) rb6 (by decide) D6.out.head (by decide)
                        have K1 := hide (V12.blk t1.out (by simp; omega))
                        have K2 := hide (V12.blk t2.out (by simp; omega))
                        have M1 := hide (I1.out.upd V12 O6)
                        have M2 := hide (I2.out.upd V12 O6)
                        clear row N hu V12 V11 rb rb6 O6 AV11 AD11 R11 D11 O11
                        go_wp2_with fail
                        go_simp
                        go_meet
                        exact .mk bq _ _ zeroFr _ _ _ _ _ rfl rfl K1.out K2.out M1.out M2.out zero_fine R12.out D12.out L10.out SEP.out U12.out
      case rest =>
        obtain ⟨bb, F, G, x, first', cnt', fs', v', xs', rfl, rfl, K1, K2, hF, hG, ⟨ff, fg, fm, fine⟩, R7, D7, L7, sep7, U7⟩ := hcut
        obtain ⟨w7, hw7⟩ : ∃ w7 : World, w7 = wc := ⟨_, rfl⟩
        subst hw7
        have SM := hide (same_ok F G x ff fg fm w7 hF hG fine)
        have f1 := K1.frame0 hF.size
        have f2 := K2.frame0 hG.size
        replace R7 := hide R7
        replace D7 := hide D7
        replace L7 := hide L7
        replace sep7 := hide sep7
        replace U7 := hide U7
        clear K1 K2 hF hG fine R6 D6 U6 A6 t1 t2 I1 I2 f0 vp vlt
        have bne : (bb != bb) = false := by cases bb <;> rfl
        go_wp2_with fail
        refine SM.out.mono ?_
        rintro e w8 ⟨rfl, u8⟩
        have R8 := hide (R7.out.upd0 u8)
        have D8 := hide (D7.out.upd0 u8)
        have U8 := hide (U7.out.trans u8 (by simp))
        have AL := hide (alike_ok w8 R8.out D8.out L7.out)
        clear SM u8 R7 D7 U7 f1 f2
        go_wp2_with fail
        refine AL.out.mono ?_
        rintro e w9 ⟨rfl, u9⟩
        have R9 := hide (R8.out.upd0 u9)
        have D9 := hide (D8.out.upd0 u9)
        have U9 := hide (U8.out.trans u9 (by simp))
        clear AL u9 R8 D8 U8
        go_wp2_with fail
        case roundEnd =>
          refine ⟨⟨i + 1, first', cnt', fs', v', xs', by omega, by simp, R9.out, D9.out, L7.out, sep7.out, U9.out⟩, ?_⟩
          simp only [intOf]; omega
    · have C := hide (copy_ok r pb n first cnt fs wr R)
      replace R := hide R
      replace D := hide D
      replace L := hide L
      replace hu := hide hu
      replace sep := hide sep
      go_wp2_with fail
      refine C.out.mono ?_
      rintro e w5 ⟨c, pc, rfl, _, _, R5, kk⟩
      have A := hide (alike_ok w5 R5 (D.out.upd0 kk) L.out)
      have U5 := hide (hu.out.trans kk (by simp))
      clear C kk R5
      go_wp2_with fail
      refine A.out.mono ?_
      rintro e w6 ⟨rfl, kk⟩
      have U6 := hide (U5.out.trans kk (by simp))
      clear A kk U5
      go_wp2_with fail
      refine (ringed_any w6).mono ?_
      rintro e w7 ⟨rfl, kk⟩
      have U7 := hide (U6.out.trans kk (by simp))
      clear kk
      go_wp2_with fail
      go_ret
      exact ⟨rfl, U7.out⟩

end Go.Proofs.Ytkopocbcldjjbaa
