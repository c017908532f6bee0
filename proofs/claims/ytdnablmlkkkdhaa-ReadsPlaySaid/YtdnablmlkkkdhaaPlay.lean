/- ReadsPlay: the walk. (Printed by gen18play.py.) -/
import Derived.Test.YtdnablmlkkkdhaaPlayPlain
import Derived.Deep.RegionHeld3
import Derived.Deep.CutBlock
namespace Go.Proofs.Ytdnablmlkkkdhaa
open Go.RowKit
set_option linter.unusedVariables false
attribute [-go_sem] loadVar storeVar
attribute [local go_sem] loadVar_else storeVar_else run_load33 run_load35 run_load42 run_load44 run_load49 run_load72 run_store35 run_store42 run_store44 run_store49 aggAt_drew aggAt_drewN aggRoom_drew aggRoom_drewN
theorem ActAt.fN0 {W : World} {b : Nat} {a : Ac} (h : ActAt W b 0 a) : W.cell? ⟨b, 34, none⟩ = some (.int .i64 a.n) := by have := h.fN; rwa [Nat.zero_add] at this
theorem ActAt.fF0 {W : World} {b : Nat} {a : Ac} (h : ActAt W b 0 a) : aggAt 29 W b 1 = some a.F := by have := h.fF; rwa [Nat.zero_add] at this
theorem ActAt.fX0 {W : World} {b : Nat} {a : Ac} (h : ActAt W b 0 a) : aggAt 4 W b 30 = some a.x.cells := by have := h.fX; rwa [Nat.zero_add] at this
set_option maxRecDepth 100000 in
set_option maxHeartbeats 8000000 in
theorem play_walk (cap : Nat) (n1 : 0 < cap) (n2 : cap ≤ 16) (a0 : Option Addr) (b off cp : Nat) (xs : List Ac) (w : World) (ha : 0 < xs.length → a0 = some ⟨b, off, none⟩) (hx : Acts w b off xs) (hg : great xs 120 = false) :
    Calls Try.prog 4 #[.int .i64 cap, .slice a0 xs.length cp] w fun e w' => e = .returned (.bool true) ∧ Upd w w' [] := by
  have hlen := great_few hg
  have G := hide (great_walk a0 b off cp xs 120 w ha hx (by omega))
  have hfits := hide (great_fit hg hx.1)
  rw [hg] at G
  have X := hide hx
  have HA := hide ha
  have N := hide (new_ok cap w n1 n2)
  clear hx ha hg
  go_enter Try.func4, Try.ntmps4
  go_wp2_with fail
  refine G.out.mono ?_
  rintro e w' ⟨rfl, rfl⟩
  clear G
  go_wp2_with fail
  refine N.out.mono ?_
  rintro e w1 ⟨rfl, H1, u1⟩
  have N2 := hide (rnew_ok cap w1 n1 n2)
  have hz1 := u1.size
  replace H1 := hide H1
  replace u1 := hide u1
  clear N
  go_wp2_with fail
  refine N2.out.mono ?_
  rintro e w2 ⟨rfl, D2, u2⟩
  have H2 := hide (H1.out.upd0 u2)
  have U2 := hide (u1.out.trans u2 (by simp))
  replace D2 := hide D2
  clear N2 u2 H1 u1
  go_wp2_with fail
  have hqb : Hid (w.heap.size ≤ w1.heap.size) := Lib.hid hz1
  clear hz1
  generalize w1.heap.size = qb at *
  have rbs : ∀ w', Upd w w' [] → w.heap.size ≤ w'.heap.size := fun w' u => u.size
  generalize hrb2 : w.heap.size = rb at *
  have hrb : Hid (w.heap.size ≤ rb) := Lib.hid (Nat.le_of_eq hrb2)
  have hqb : Hid (w.heap.size ≤ qb) := Lib.hid (by have := hqb.out; omega)
  clear hrb2
  replace rbs := hide rbs
  go_loopw [9] (fun vi wr => ∃ (i last : Nat) (P D : List Rd) (v u : Value), i ≤ xs.length ∧ vi = .int .i64 i ∧ last ≤ i ∧ Plays P D last ∧ Rds wr rb rb v cap last P ∧ Doc wr qb u cap last D ∧ Upd w wr []) (fun vi _ => xs.length - (intOf vi).toNat)
  case atStart => exact ⟨0, 0, [], [], _, _, by omega, rfl, by omega, Plays.zero, H2.out, D2.out, U2.out⟩
  case round =>
    clear H2 D2 U2
    obtain ⟨i, last, P, D, v, u, hi, rfl, hli, hI, hH, hD, hu⟩ := hrel
    have hfew := hH.few
    have hge := rbs.out _ hu
    have hkl := keys_len hI.keys
    have hpl := hide (show P.length ≤ 16 by omega)
    have hdl := hide (show D.length ≤ 16 by omega)
    have hdl2 := hide hkl
    have hPok := hide hH.ok
    have hDok := hide hD.ok
    clear hkl
    replace hI := hide hI
    by_cases hlt : i < xs.length
    · have hil3 : (i : Int) < xs.length := by omega
      obtain rfl := HA.out (by omega)
      have hao : (xs[i]).ok := X.out.1 _ (List.getElem_mem hlt)
      have hfit := hide (hfits.out _ (List.getElem_mem hlt))
      have q1 := (X.out.upd hu).2 i hlt
      obtain ⟨a, ha⟩ : ∃ a, a = xs[i] := ⟨_, rfl⟩
      rw [← ha] at q1 hao hfit
      clear ha
      have h35 := a.size hao
      have b0 := Blk.new wr 44 zeroAc
      have r0 := b0.aggRoom 0 (n := 35) (by decide) h35 (a.one hao)
      have b2 := b0.laid (cs' := a.cells) (by rw [h35]; rfl)
      have d2 := Upd.setCells (b := wr.heap.size) (S := []) (by simp) a.cells.toList 0 ((Upd.refl wr []).alloc (.cells zeroAc 44))
      have H2 := hide (hH.upd0 d2)
      have D2 := hide (hD.upd0 d2)
      have U2 := hide (hu.trans d2 (by simp))
      have B2 := hide b2
      have actat := hide (fun (W : World) (B : Blk W wr.heap.size 44 a.cells) => (act_at hao (B.agg0 h35) : ActAt W wr.heap.size 0 a))
      have fa := actat.out _ b2
      have f0 := fa.f0
      have fN := fa.fN0
      have fF := fa.fF0
      have fX := fa.fX0
      have k0 := hao.k0
      have k1 := hao.k1
      unfold zeroAc at r0 H2 D2 B2 U2 f0 fN fF fX
      generalize a.cells = A at *
      clear b0 b2 d2 fa hH hD hu
      go_upto_block 2 with fail
      clear q1 r0
      generalize (wr.alloc (.cells #[.int .u8 0, .int .i64 0, .int .i64 0, .int .i64 0, .int .i64 0, .int .i64 0, .int .i64 0, .int .i64 0, .int .i64 0, .string ⟨#[]⟩, .string ⟨#[]⟩, .int .i64 0, .int .i64 0, .string ⟨#[]⟩, .int .i64 0, .int .i64 0, .int .i64 0, .int .i64 0, .int .i64 0, .int .i64 0, .int .i64 0, .string ⟨#[]⟩, .string ⟨#[]⟩, .int .i64 0, .int .i64 0, .slice none 0 0, .int .i64 0, .int .i64 0, .int .i64 0, .int .i64 0, .int .i64 0, .string ⟨#[]⟩, .int .i64 0, .int .i64 0, .int .i64 0] 44)).setCells wr.heap.size 0 A.toList = w2 at *
      generalize wr.heap.size = ab at *
      have hge2 := rbs.out _ U2.out
      go_cut [11] from 51 to 166 (fun vok wx => vok = .bool true ∧ ∃ (P' D' : List Rd) (v' u' : Value) (last' : Nat), Rds wx rb rb v' cap last' P' ∧ Doc wx qb u' cap last' D' ∧ Plays P' D' last' ∧ last' ≤ last + 1 ∧ Upd w wx [])
      case first =>
        as_aux_lemma =>
        by_cases e5 : a.k % 9 = 5
        · skip
          have T := hide (sure_ok a.n w2.drew (H2.out.upd0 (Upd.refl _ []).drew) hge2)
          have fNd : w2.drew.cell? ⟨ab, 34, none⟩ = some (.int .i64 a.n) := fN
          go_wp2_with fail
          go_region_held3 (fun W => W.cell? ⟨ab, 34, none⟩ = some (.int .i64 a.n))
            (first
              | exact fNd
              | exact s3.out
              | exact s4.out
              | exact s5.out)
            (first
              | (go_at_call 10; (with_reducible refine T.out.mono ?_); rintro e w3 ⟨vg, vk, rfl, G3, H3, _, u3⟩; have u3' : Upd w2 w3 [rb] := ⟨u3.os, u3.tape, u3.output, u3.size, u3.block⟩; have D3 := D2.out.past1 H2.out u3'; have B3 := hide (u3'.blk B2.out (fun hm => H2.out.far B2.out (by decide) (by decide) (by simp at hm; simp [hm]))); have s3 := hide ((actat.out _ B3.out).fN0); have U3 := hide (H2.out.step1 U2.out hrb.out u3'); have RS := hide (rsure_ok a.n w3 D3 hdl.out); replace G3 := hide (G3.mono (b' := 0) (Nat.zero_le _)); replace H3 := hide H3; replace D3 := hide D3; clear u3 u3')
              | (go_at_call 16; (with_reducible refine RS.out.mono ?_); rintro e w4 ⟨k, v1, v2, hk, hk1, hk2, rfl, G4, D4, u4⟩; obtain ⟨sp1, sp2⟩ := split_rise hI.out.riseD a.n k hk hk1 hk2; rw [sp1] at G4; rw [sp2] at D4; have H4 := hide (H3.out.past D3.out u4); have G5 := G3.out.past D3.out u4; have B4 := hide (B3.out.past D3.out (by decide) u4); have s4 := hide ((actat.out _ B4.out).fN0); have U4 := hide (U3.out.trans u4 (fun i hi hl => by simp at hi; have := hqb.out; omega)); have I4 := hide (hI.out.filter (sureP a.n) (sureK a.n) (sure_keys a.n)); have IG := hI.out.filter (fun x => !sureP a.n x) (fun k => !sureK a.n k) (not_keys (sure_keys a.n)); have SM := hide (same_ok _ _ _ _ 0 w4 G5 G4 IG.keys (fun x hx => hPok.out x (List.mem_filter.1 hx).1) (fun x hx => hDok.out x (List.mem_filter.1 hx).1) (Nat.le_trans (List.length_filter_le _ _) hpl.out)); replace D4 := hide D4; clear u4 G4 G5 IG)
              | (go_at_call 15; (with_reducible refine SM.out.mono ?_); rintro e w5 ⟨rfl, u5⟩; have H5 := hide (H4.out.upd0 u5); have D5 := hide (D4.out.upd0 u5); have U5 := hide (U4.out.trans u5 (by simp)); have s5 := hide (cell_upd s4.out u5 (by simp)); clear u5))
          go_wp2_with fail
          go_simp
          go_meet
          exact ⟨rfl, _, _, _, _, last, H5.out, D5.out, I4.out, by omega, U5.out⟩
        · by_cases e6 : a.k % 9 = 6
          · skip
            have T := hide (expire_ok a.n w2.drew (H2.out.upd0 (Upd.refl _ []).drew) hge2)
            have fNd : w2.drew.cell? ⟨ab, 34, none⟩ = some (.int .i64 a.n) := fN
            go_wp2_with fail
            go_region_held3 (fun W => W.cell? ⟨ab, 34, none⟩ = some (.int .i64 a.n))
              (first
                | exact fNd
                | exact s3.out
                | exact s4.out
                | exact s5.out)
              (first
                | (go_at_call 11; (with_reducible refine T.out.mono ?_); rintro e w3 ⟨vg, vk, rfl, G3, H3, _, u3⟩; have u3' : Upd w2 w3 [rb] := ⟨u3.os, u3.tape, u3.output, u3.size, u3.block⟩; have D3 := D2.out.past1 H2.out u3'; have B3 := hide (u3'.blk B2.out (fun hm => H2.out.far B2.out (by decide) (by decide) (by simp at hm; simp [hm]))); have s3 := hide ((actat.out _ B3.out).fN0); have U3 := hide (H2.out.step1 U2.out hrb.out u3'); have RS := hide (rexpire_ok a.n w3 D3 hdl.out); replace G3 := hide (G3.mono (b' := 0) (Nat.zero_le _)); replace H3 := hide H3; replace D3 := hide D3; clear u3 u3')
                | (go_at_call 17; (with_reducible refine RS.out.mono ?_); rintro e w4 ⟨v1, v2, rfl, G4, D4, u4⟩; have H4 := hide (H3.out.past D3.out u4); have G5 := G3.out.past D3.out u4; have B4 := hide (B3.out.past D3.out (by decide) u4); have s4 := hide ((actat.out _ B4.out).fN0); have U4 := hide (U3.out.trans u4 (fun i hi hl => by simp at hi; have := hqb.out; omega)); have I4 := hide (hI.out.filter (expireP a.n) (expireK a.n) (expire_keys a.n)); have IG := hI.out.filter (fun x => !expireP a.n x) (fun k => !expireK a.n k) (not_keys (expire_keys a.n)); have SM := hide (same_ok _ _ _ _ 0 w4 G5 G4 IG.keys (fun x hx => hPok.out x (List.mem_filter.1 hx).1) (fun x hx => hDok.out x (List.mem_filter.1 hx).1) (Nat.le_trans (List.length_filter_le _ _) hpl.out)); replace D4 := hide D4; clear u4 G4 G5 IG)
                | (go_at_call 15; (with_reducible refine SM.out.mono ?_); rintro e w5 ⟨rfl, u5⟩; have H5 := hide (H4.out.upd0 u5); have D5 := hide (D4.out.upd0 u5); have U5 := hide (U4.out.trans u5 (by simp)); have s5 := hide (cell_upd s4.out u5 (by simp)); clear u5))
            go_wp2_with fail
            go_simp
            go_meet
            exact ⟨rfl, _, _, _, _, last, H5.out, D5.out, I4.out, by omega, U5.out⟩
          · by_cases e7 : a.k % 9 = 7
            · skip
              have T := hide (flush_ok w2 H2.out hge2)
              go_wp2_with fail
              refine T.out.mono ?_
              rintro e w3 ⟨vg, vk, rfl, G3, H3, _, u3⟩
              have D3 := D2.out.past1 H2.out u3
              have U3 := hide (H2.out.step1 U2.out hrb.out u3)
              have RS := hide (rflush_ok w3 D3)
              rw [flush_all] at G3
              replace G3 := hide (G3.mono (b' := 0) (Nat.zero_le _))
              replace H3 := hide H3
              replace D3 := hide D3
              clear u3 T
              go_wp2_with fail
              refine RS.out.mono ?_
              rintro e w4 ⟨rfl, D4, u4⟩
              have H4 := hide (H3.out.past D3.out u4)
              have G5 := G3.out.past D3.out u4
              have U4 := hide (U3.out.trans u4 (fun i hi hl => by simp at hi; have := hqb.out; omega))
              have I4 := hide (hI.out.none_)
              have RB := D3.out.row.upd u4 (OffT.one D3.out.head (by decide))
              have SM := hide (same_ok _ _ _ _ 0 w4 G5 RB hI.out.keys hPok.out hDok.out hpl.out)
              replace D4 := hide D4
              clear u4 RB G5 RS
              go_wp2_with fail
              refine SM.out.mono ?_
              rintro e w5 ⟨rfl, u5⟩
              have H5 := hide (H4.out.upd0 u5)
              have D5 := hide (D4.out.upd0 u5)
              have U5 := hide (U4.out.trans u5 (by simp))
              clear u5 SM
              go_wp2_with fail
              go_simp
              go_meet
              exact ⟨rfl, _, _, _, _, last, H5.out, D5.out, I4.out, by omega, U5.out⟩
            · by_cases e8 : a.k % 9 = 8
              · skip
                have C := hide (copy_ok w2 H2.out)
                go_wp2_with fail
                refine C.out.mono ?_
                rintro e w3 ⟨cb, v3, L', rfl, hcb, C3, hl3, u3⟩
                have q1 : aggAt 29 w3 ab 1 = some a.F := aggAt_upd (by decide) fF u3 (by simp)
                have q2 : aggAt 4 w3 ab 30 = some a.x.cells := aggAt_upd (by decide) fX u3 (by simp)
                have B3 := u3.blk B2.out (by simp)
                have hz3 := u3.size
                have hl3' : L'.length ≤ P.length := Nat.le_of_eq hl3
                have hl3'' : P.length ≤ L'.length := Nat.le_of_eq hl3.symm
                clear C hl3
                by_cases hl : P.length < cap
                · have T := hide (put_ok a.F a.d a.x w3 C3 hz3 hfit.out (by omega) (by omega))
                  replace C3 := hide C3
                  replace u3 := hide u3
                  replace B3 := hide B3
                  go_wp2_with fail
                  refine T.out.mono ?_
                  rintro e w4 ⟨v4, F4, rfl, hF4, C4, u4⟩
                  have U4 := C3.out.step u3.out (Nat.le_refl _) u4
                  have fN4 := (actat.out _ (u4.blk B3.out (C3.out.far B3.out (by decide) (by decide)))).fN0
                  have hz4 := U4.size
                  have T2 := hide (sure_ok a.n w4 C4 hz4)
                  replace C4 := hide C4
                  replace U4 := hide U4
                  clear u4 T C3 u3 B3 hF4 q1 q2
                  go_wp2_with fail
                  refine T2.out.mono ?_
                  rintro e w5 ⟨vg, vk, rfl, _, C5, _, u5⟩
                  have U5 := C4.out.step1 U4.out (Nat.le_refl _) u5
                  have T3 := hide (flush_ok w5 C5 U5.size)
                  replace C5 := hide C5
                  replace U5 := hide U5
                  clear u5 T2 C4 U4
                  go_wp2_with fail
                  refine T3.out.mono ?_
                  rintro e w6 ⟨vh, vl, rfl, _, _, _, u6⟩
                  have U6 := C5.out.step1 U5.out (Nat.le_refl _) u6
                  have H6 := hide (H2.out.upd0 U6)
                  have D6 := hide (D2.out.upd0 U6)
                  have U7 := hide (U2.out.trans U6 (by simp))
                  clear u6 T3 C5 U5 U6
                  go_wp2_with fail
                  go_simp
                  go_meet
                  exact ⟨rfl, _, _, _, _, last, H6.out, D6.out, hI.out, by omega, U7.out⟩
                · have T := hide (put_full a.F a.x w3 C3 hfit.out.size (by omega))
                  replace C3 := hide C3
                  replace u3 := hide u3
                  replace B3 := hide B3
                  go_wp2_with fail
                  refine T.out.mono ?_
                  rintro e w4 ⟨rfl, u4⟩
                  have U4 := u3.out.trans u4 (by simp)
                  have C4 := C3.out.upd0 u4
                  have fN4 := (actat.out _ (u4.blk B3.out (by simp))).fN0
                  have T2 := hide (sure_ok a.n w4 C4 U4.size)
                  replace C4 := hide C4
                  replace U4 := hide U4
                  clear u4 T C3 u3 B3 q1 q2
                  go_wp2_with fail
                  refine T2.out.mono ?_
                  rintro e w5 ⟨vg, vk, rfl, _, C5, _, u5⟩
                  have U5 := C4.out.step1 U4.out (Nat.le_refl _) u5
                  have T3 := hide (flush_ok w5 C5 U5.size)
                  replace C5 := hide C5
                  replace U5 := hide U5
                  clear u5 T2 C4 U4
                  go_wp2_with fail
                  refine T3.out.mono ?_
                  rintro e w6 ⟨vh, vl, rfl, _, _, _, u6⟩
                  have U6 := C5.out.step1 U5.out (Nat.le_refl _) u6
                  have H6 := hide (H2.out.upd0 U6)
                  have D6 := hide (D2.out.upd0 U6)
                  have U7 := hide (U2.out.trans U6 (by simp))
                  clear u6 T3 C5 U5 U6
                  go_wp2_with fail
                  go_simp
                  go_meet
                  exact ⟨rfl, _, _, _, _, last, H6.out, D6.out, hI.out, by omega, U7.out⟩
              · skip
                have g5 : (a.k % 9 == 5) = false := beq_false_of_ne e5
                have g6 : (a.k % 9 == 6) = false := beq_false_of_ne e6
                have g7 : (a.k % 9 == 7) = false := beq_false_of_ne e7
                have g8 : (a.k % 9 == 8) = false := beq_false_of_ne e8
                replace e5 := hide e5
                replace e6 := hide e6
                replace e7 := hide e7
                replace e8 := hide e8
                by_cases hl : P.length < cap
                · have T := hide (put_ok a.F a.d a.x w2 H2.out hge2 hfit.out hl (by omega))
                  go_wp2_with fail
                  refine T.out.mono ?_
                  rintro e w3 ⟨v3, F3, rfl, hF3, H3, u3⟩
                  have D3 := D2.out.past H2.out u3
                  have B3 := u3.blk B2.out (H2.out.far B2.out (by decide) (by decide))
                  have U3 := hide (H2.out.step U2.out hrb.out u3)
                  have m1 := (actat.out _ B3).fF0
                  have m2 := (actat.out _ B3).fX0
                  have RS := hide (rput_ok a.F a.d a.x w3 D3 hfit.out (by have := hdl2.out; omega) n2 (by omega))
                  replace H3 := hide H3
                  replace D3 := hide D3
                  clear u3 T B3 hF3 fF fX
                  go_wp2_with fail
                  refine RS.out.mono ?_
                  rintro e w4 ⟨v4, rfl, D4, u4⟩
                  have H4 := hide (H3.out.past D3.out u4)
                  have U4 := hide (U3.out.trans u4 (fun i hi hl => by simp at hi; have := hqb.out; omega))
                  have I4 := hide (hI.out.put a.d a.x a.F F3)
                  replace D4 := hide D4
                  clear u4 RS
                  go_wp2_with fail
                  go_simp
                  go_meet
                  exact ⟨rfl, _, _, _, _, last + 1, H4.out, D4.out, I4.out, by omega, U4.out⟩
                · have T := hide (put_full a.F a.x w2 H2.out hfit.out.size (by omega))
                  go_wp2_with fail
                  refine T.out.mono ?_
                  rintro e w3 ⟨rfl, u3⟩
                  have D3 := D2.out.upd0 u3
                  have B3 := u3.blk B2.out (by simp)
                  have H3 := hide (H2.out.upd0 u3)
                  have U3 := hide (U2.out.trans u3 (by simp))
                  have m1 := (actat.out _ B3).fF0
                  have m2 := (actat.out _ B3).fX0
                  have RS := hide (rput_full a.F a.x w3 D3 hfit.out.size (by have := hdl2.out; omega) hdl.out)
                  replace D3 := hide D3
                  clear u3 T B3 fF fX
                  go_wp2_with fail
                  refine RS.out.mono ?_
                  rintro e w4 ⟨rfl, u4⟩
                  have H4 := hide (H3.out.upd0 u4)
                  have D4 := hide (D3.out.upd0 u4)
                  have U4 := hide (U3.out.trans u4 (by simp))
                  clear u4 RS
                  go_wp2_with fail
                  go_simp
                  go_meet
                  exact ⟨rfl, _, _, _, _, last, H4.out, D4.out, hI.out, by omega, U4.out⟩
      case rest =>
        obtain ⟨rfl, P', D', v', u', last', H3, D3, I3, hl3, U3⟩ := hcut
        obtain ⟨w3, rfl⟩ : ∃ w3 : World, w3 = wc := ⟨_, rfl⟩
        have hk3 := keys_len I3.keys
        have hp3 : P'.length ≤ 16 := Nat.le_trans H3.few n2
        have LA := hide (last_ok w3 H3)
        have eLA := I3.last_
        replace H3 := hide H3
        replace D3 := hide D3
        replace I3 := hide I3
        replace U3 := hide U3
        replace hk3 := hide hk3
        clear H2 D2 B2 U2 f0 fN fF fX
        go_wp2_with fail
        refine LA.out.mono ?_
        rintro e w4 ⟨rfl, u4⟩
        have H4 := hide (H3.out.upd0 u4)
        have D4 := D3.out.upd0 u4
        have U4 := hide (U3.out.trans u4 (by simp))
        have LB := rlast_ok w4 D4 (by rw [hk3.out]; exact hp3)
        rw [eLA] at LB
        replace LB := hide LB
        replace D4 := hide D4
        clear u4 LA H3 D3 U3 eLA
        generalize lastA P' = z at *
        obtain ⟨z1, z2⟩ := z
        go_wp2_with fail
        refine LB.out.mono ?_
        rintro e w5 ⟨rfl, u5⟩
        have H5 := hide (H4.out.upd0 u5)
        have D5 := hide (D4.out.upd0 u5)
        have U5 := hide (U4.out.trans u5 (by simp))
        have LN := hide (fun (m : Nat) => len_ok _ (H5.out.upd0 ((Upd.refl w5 []).drewN m)))
        have hd1 := D5.out.a1
        obtain ⟨gd, cd, rfl, _⟩ := D5.out.form
        rw [hk3.out] at hd1
        clear u5 LB H4 D4 U4
        go_wp2_with fail
        go_quiet ((first | (go_at_call 13; exact quiet_left (LN.out _))))
        go_wp2_with fail
        go_roundw
        case rel => exact ⟨i + 1, last', P', D', _, _, by omega, by go_num, by omega, I3.out, H5.out.upd0 ((Upd.refl _ []).drewN _), D5.out.upd0 ((Upd.refl _ []).drewN _), U5.out.drewN _⟩
        case measure => simp [intOf]; omega
    · obtain rfl : i = xs.length := by omega
      have T := hide (flush_ok wr hH hge)
      replace hH := hide hH
      replace hD := hide hD
      replace hu := hide hu
      go_wp2_with fail
      refine T.out.mono ?_
      rintro e w3 ⟨vg, vk, rfl, G3, H3, _, u3⟩
      have D3 := hD.out.past1 hH.out u3
      have U3 := hide (hH.out.step1 hu.out hrb.out u3)
      have RS := hide (rflush_ok w3 D3)
      rw [flush_all] at G3
      replace G3 := hide (G3.mono (b' := 0) (Nat.zero_le _))
      replace D3 := hide D3
      clear u3 T H3 hH hD hu
      go_wp2_with fail
      refine RS.out.mono ?_
      rintro e w4 ⟨rfl, D4, u4⟩
      have G5 := G3.out.past D3.out u4
      have U4 := hide (U3.out.trans u4 (fun i hi hl => by simp at hi; have := hqb.out; omega))
      have RB := D3.out.row.upd u4 (OffT.one D3.out.head (by decide))
      have SM := hide (same_ok _ _ _ _ 0 w4 G5 RB hI.out.keys hPok.out hDok.out hpl.out)
      clear u4 RB G5 RS D4
      go_wp2_with fail
      refine SM.out.mono ?_
      rintro e w5 ⟨rfl, u5⟩
      have U5 := hide (U4.out.trans u5 (by simp))
      clear u5 SM
      go_wp2_with fail
      refine (waited_any _).mono ?_
      rintro e w6 ⟨rfl, u6⟩
      have U6 := hide (U5.out.trans u6 (by simp))
      clear u6
      go_wp2_with fail
      go_ret
      exact ⟨rfl, U6.out⟩

end Go.Proofs.Ytdnablmlkkkdhaa
