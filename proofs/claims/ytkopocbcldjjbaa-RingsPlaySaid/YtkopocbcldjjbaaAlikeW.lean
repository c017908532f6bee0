/- alike: the walk. -/
import Derived.Test.YtkopocbcldjjbaaAlike
import Derived.Test.YtkopocbcldjjbaaCopy
import Derived.Deep.CutRange
namespace Go.Proofs.Ytkopocbcldjjbaa
open Go.RowKit
set_option linter.unusedVariables false
set_option linter.unusedSimpArgs false
attribute [-go_sem] loadVar storeVar
attribute [local go_sem] loadVar_else storeVar_else run_load40 run_store40 frameAt_drew frameAt_drewN roomAt_drew roomAt_drewN
set_option maxRecDepth 100000 in
set_option maxHeartbeats 8000000 in
theorem alike_ok {r pb cap first cnt q : Nat} {fs : Nat → Fr} {v : Value} {xs : List Fr} (w : World) (h : Ring w r pb cap first cnt fs) (d : DRing w q v cap xs) (L : Like xs cap first cnt fs) :
    Calls Try.prog 22 #[.pointer (some ⟨r, 0, none⟩), .pointer (some ⟨q, 0, none⟩)] w fun e w' => e = .returned (.bool true) ∧ Upd w w' [] := by
  have hlen := L.len
  have hcc := h.hc
  have h64 := h.h64
  have T1 := hide (fun n => len_ok r pb cap first cnt fs (w.drewN n) (h.drewN n))
  have T2 := hide (fun n => cap_ok r pb cap first cnt fs (w.drewN n) (h.drewN n))
  have HH := hide h
  have DD := hide d
  obtain ⟨ga, c, rfl, _⟩ := d.form
  have a0 := d.a0
  have a1 := d.a1
  have b1 : ((cnt : Int) == (xs.length : Int)) = true := by rw [hlen]; simp
  have b2 : ((cap : Int) == (cap : Int)) = true := by simp
  have b3 : ((cnt : Int) != (xs.length : Int)) = false := by rw [hlen]; simp
  have hfew := hide (show xs.length ≤ 64 by omega)
  replace hlen := hide hlen
  replace L := hide L
  clear h d
  go_enter Try.func22, Try.ntmps22
  go_wp2_with fail
  go_quiet (first | (go_at_call 11; exact quiet_left (T1.out _)) | (go_at_call 8; exact quiet_left (T2.out _)))
  have U1 := hide ((Upd.refl w []).drewN nq)
  clear T1 T2 a0 a1
  generalize w.drewN nq = w1 at *
  go_wp2_with fail
  go_loopw [5] (fun vi wr => ∃ (i : Nat), i ≤ xs.length + 2 ∧ vi = .int .i64 ((i : Int) - 1) ∧ Upd w wr []) (fun vi _ => xs.length + 2 - ((intOf vi) + 1).toNat)
  case atStart => exact ⟨0, by omega, rfl, U1.out⟩
  case round =>
    obtain ⟨i, hi, rfl, hu⟩ := hrel
    have R := HH.out.upd0 hu
    have D := DD.out.upd0 hu
    have a1 := D.a1
    by_cases h2 : (i : Int) - 1 ≤ xs.length
    · have A := hide (at_any ((i : Int) - 1) wr R L.out)
      obtain ⟨ff, fg, fm, fine⟩ := atFr_fine L.out.fine ((i : Int) - 1)
      generalize hx : atFr xs ((i : Int) - 1) = x at *
      generalize hbb : atB xs ((i : Int) - 1) = bb at *
      replace hbb := hide hbb
      replace hx := hide hx
      replace R := hide R
      replace D := hide D
      replace hu := hide hu
      have dle : decide ((i : Int) - 1 ≤ xs.length) = true := decide_eq_true h2
      go_wp2_with fail
      refine A.out.mono ?_
      rintro e w2 ⟨F, rfl, hF, k1⟩
      obtain ⟨n1, n2, n3⟩ := hF.lay_new
      unfold zeroF at n1 n2 n3
      have lb := hide (show wr.heap.size ≤ w2.heap.size from k1.size)
      have lwr := hide (show w.heap.size ≤ wr.heap.size from hu.out.size)
      have D3 := hide ((D.out.upd0 k1).upd0 n3)
      have hF3 := hide (hF.upd n3 (Off.nil _))
      have U3 := hide ((hu.out.trans k1 (by simp)).trans n3 (by simp))
      have T := hide (dat_any ((i : Int) - 1) _ D3.out)
      rw [hx.out, hbb.out] at T
      replace n2 := hide n2
      have a13 := D3.out.a1
      clear A k1 n3 hF hu R D a1
      go_upto_region 7 with fail
      generalize (w2.alloc (.cells #[.int .i64 0, .int .i64 0, .int .i64 0, .int .i64 0, .int .i64 0, .int .i64 0, .int .i64 0, .int .i64 0, .string ⟨#[]⟩, .string ⟨#[]⟩, .int .i64 0, .int .i64 0, .string ⟨#[]⟩, .int .i64 0, .int .i64 0, .int .i64 0, .int .i64 0, .int .i64 0, .int .i64 0, .int .i64 0, .string ⟨#[]⟩, .string ⟨#[]⟩, .int .i64 0, .int .i64 0, .slice none 0 0, .int .i64 0, .int .i64 0, .int .i64 0, .int .i64 0] 40)).setCells w2.heap.size 0 F.toList = w3 at *
      generalize w2.heap.size = p6 at *
      go_wp2_with fail
      refine T.out.mono ?_
      rintro e w4 ⟨G, rfl, hG, k2⟩
      obtain ⟨m1, m2, m3⟩ := hG.lay_new
      unfold zeroF at m1 m2 m3
      have hF5 := hide ((hF3.out.upd k2 (Off.nil _)).upd m3 (Off.nil _))
      have hG5 := hide (hG.upd m3 (Off.nil _))
      have U5 := hide ((U3.out.trans k2 (by simp)).trans m3 (by simp))
      have N5 := hide (m3.blk (k2.blk n2.out (by simp)) (by simp))
      have M5 := hide m2
      clear T k2 m2 m3 hG hF3 U3 n2 D3
      go_upto_region 8 with fail
      generalize (w4.alloc (.cells #[.int .i64 0, .int .i64 0, .int .i64 0, .int .i64 0, .int .i64 0, .int .i64 0, .int .i64 0, .int .i64 0, .string ⟨#[]⟩, .string ⟨#[]⟩, .int .i64 0, .int .i64 0, .string ⟨#[]⟩, .int .i64 0, .int .i64 0, .int .i64 0, .int .i64 0, .int .i64 0, .int .i64 0, .int .i64 0, .string ⟨#[]⟩, .string ⟨#[]⟩, .int .i64 0, .int .i64 0, .slice none 0 0, .int .i64 0, .int .i64 0, .int .i64 0, .int .i64 0] 40)).setCells w4.heap.size 0 G.toList = w5 at *
      generalize w4.heap.size = p8 at *
      have f6 := N5.out.frame0 hF5.out.size
      have f8 := M5.out.frame0 hG5.out.size
      have SM := hide (same_ok F G x ff fg fm w5 (hF5.out.mono (Nat.zero_le _)) hG5.out fine)
      go_wp2_with fail
      refine SM.out.mono ?_
      rintro e w6 ⟨rfl, k3⟩
      have hF6 := hF5.out.upd k3 (Off.nil _)
      have N6 := hide (k3.blk N5.out (by simp))
      have U6 := hide (U5.out.trans k3 (by simp))
      clear SM k3 hF5 hG5 U5 N5 M5 f6 f8
      obtain ⟨good, v6, rfl, n, hlm, own⟩ := hF6
      have hs29 := good.size
      replace good := hide good
      obtain ⟨gm, cm, rfl, hrow⟩ : ∃ gm cm, v6 = .slice gm n cm ∧ (0 < n → ∃ g cur, gm = some (⟨g, 0, none⟩ : Addr) ∧ w.heap.size ≤ g ∧ Blk w6 g 57 cur ∧ n * 2 ≤ cur.size) := by
        rcases own with ⟨rfl, rfl⟩ | ⟨g, cap', cur, rfl, hg, hb, hn, _, hs, _⟩
        · exact ⟨none, 0, rfl, fun h => absurd h (by omega)⟩
        · refine ⟨_, cap', rfl, fun _ => ⟨g, cur, rfl, by have := lwr.out; omega, hb, ?_⟩⟩
          rw [hs]; exact Nat.mul_le_mul_right _ hn
      have nfew : n ≤ 10 := by have := good.out.few; omega
      clear own hlm
      replace hrow := hide hrow
      go_wp2_with fail
      go_loopw [10] (fun vk wx => ∃ k : Nat, k ≤ n ∧ vk = .int .i64 k ∧ Blk wx p6 40 (cut x (.slice gm n cm)) ∧ (0 < n → ∃ g cur, gm = some (⟨g, 0, none⟩ : Addr) ∧ w.heap.size ≤ g ∧ Blk wx g 57 cur ∧ n * 2 ≤ cur.size) ∧ Upd w wx []) (fun vk _ => n - (intOf vk).toNat)
      case atStart => exact ⟨0, by omega, rfl, N6.out, hrow.out, U6.out⟩
      case round =>
        clear N6 hrow U6
        obtain ⟨k, hk, rfl, N, row, hu⟩ := hrel
        have c24 : wr.cell? ⟨p6, 24, none⟩ = some (.slice gm n cm) := by rw [N.cell]; exact cut_at hs29 _
        by_cases h5 : (k : Int) < n
        · obtain ⟨g, cur, rfl, hg, hb, hsz⟩ := row (by omega)
          have hk0 : (0 : Int) ≤ (k : Int) := by omega
          have y0 : wr.cell? ⟨g, k * 2, none⟩ = some (cur[k * 2]'(by omega)) := by rw [hb.cell, Array.getElem?_eq_getElem]
          have f0 := hb.frozen (k * 2)
          have hb1 := hb.set_ (k * 2) (.int .i64 99)
          have y1 : (wr.setCell ⟨g, k * 2, none⟩ (.int .i64 99)).cell? ⟨g, k * 2 + 1, none⟩ = some (cur[k * 2 + 1]'(by omega)) := by
            rw [hb1.cell, Array.getElem?_setIfInBounds_ne (by omega), Array.getElem?_eq_getElem]
          have f1 := hb1.frozen (k * 2 + 1)
          have hb2 := hide (hb1.set_ (k * 2 + 1) (.int .i64 0))
          have ne : p6 ≠ g := N.ne_ hb (by decide)
          have u2 : Upd wr ((wr.setCell ⟨g, k * 2, none⟩ (.int .i64 99)).setCell ⟨g, k * 2 + 1, none⟩ (.int .i64 0)) [g] := ((Upd.refl _ [g]).setCell (p := ⟨g, k * 2, none⟩) (by simp) _).setCell (p := ⟨g, k * 2 + 1, none⟩) (by simp) _
          have N2 := hide (u2.blk N (by simpa using ne))
          have U2 := hide (hu.trans u2 (fun j hj hl => by simp at hj; omega))
          clear hb hb1 u2 N hu row
          go_wp2_with fail
          case roundEnd =>
            refine ⟨⟨k + 1, by omega, by simp, N2.out, fun _ => ⟨g, _, rfl, hg, hb2.out, by simp; omega⟩, U2.out⟩, ?_⟩
            simp only [intOf]; omega
        · replace hu := hide hu
          clear row N
          go_wp2_with fail
          case roundEnd =>
            have wi : wrap64 (i : Int) = (i : Int) := by have := hfew.out; unfold wrap64; omega
            rw [wi]
            refine ⟨⟨i + 1, by omega, by congr 1; omega, hu.out⟩, ?_⟩
            simp only [intOf]; omega
    · have dle : decide ((i : Int) - 1 ≤ xs.length) = false := decide_eq_false h2
      replace hu := hide hu
      go_wp2_with fail
      go_ret
      exact ⟨rfl, hu.out⟩
end Go.Proofs.Ytkopocbcldjjbaa
