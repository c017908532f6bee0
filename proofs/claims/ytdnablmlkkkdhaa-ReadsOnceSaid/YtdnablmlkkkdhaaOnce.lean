/- ReadsOnce: the walk. -/
import Derived.Test.YtdnablmlkkkdhaaOncePlain
import Derived.Test.YtdnablmlkkkdhaaNone
namespace Go.Proofs.Ytdnablmlkkkdhaa
open Go.RowKit
set_option linter.unusedVariables false
attribute [-go_sem] loadVar storeVar
attribute [local go_sem] loadVar_else storeVar_else run_load33 run_load35 run_load42 run_load44 run_load49 run_load72 run_store35 run_store42 run_store44 run_store49 aggAt_drew aggAt_drewN aggRoom_drew aggRoom_drewN
/-- the frame that is put -/
def seqDl (n d : Int) : Array Value := #[.int .i64 0, .int .i64 0, .int .i64 0, .int .i64 n, .int .i64 0, .int .i64 0, .int .i64 d, .int .i64 0, .string ⟨#[]⟩, .string ⟨#[]⟩, .int .i64 0, .int .i64 0, .string ⟨#[]⟩, .int .i64 0, .int .i64 0,
  .int .i64 0, .int .i64 0, .int .i64 0, .int .i64 0, .int .i64 0, .string ⟨#[]⟩, .string ⟨#[]⟩, .int .i64 0, .int .i64 0, .slice none 0 0, .int .i64 0, .int .i64 0, .int .i64 0, .int .i64 0]
theorem seqDl_fit (n d : Int) : Fit (seqDl n d) ⟨0, 0, 0, n, 0, 0, d, ⟨0, ⟨#[]⟩, ⟨#[]⟩, 0⟩⟩ := ⟨rfl, by
  intro u hu
  have := Array.all_eq_true_iff_forall_mem.1 (show (seqDl n d).all (·.oneCell') = true by simp [seqDl, Value.oneCell'])
  exact this u hu, rfl, rfl, rfl, rfl, rfl, rfl, rfl, fun j hj => by match j, hj with | 0, _ => rfl | 1, _ => rfl | 2, _ => rfl | 3, _ => rfl, none, 0, rfl⟩
set_option maxRecDepth 100000 in
theorem once_long (c : Int) (a0 : Option Addr) (b off cap : Nat) (xs : List Ac) (w : World) (ha : 0 < xs.length → a0 = some ⟨b, off, none⟩) (hx : Acts w b off xs) (hm : xs.length ≤ 9223372036854775807) (hg : great xs 100 = true) :
    Calls Try.prog 3 #[.int .u8 c, .slice a0 xs.length cap] w fun e w' => e = .returned (.bool true) ∧ Upd w w' [] := by
  have G := hide (great_walk a0 b off cap xs 100 w ha hx hm)
  rw [hg] at G
  go_enter Try.func3, Try.ntmps3
  go_wp2_with fail
  refine G.out.mono ?_
  rintro e w' ⟨rfl, rfl⟩
  go_wp2_with fail
  refine (waited_any _).mono ?_
  rintro e w2 ⟨rfl, u2⟩
  replace u2 := hide u2
  go_wp2_with fail
  go_ret
  exact ⟨rfl, u2.out⟩
set_option maxRecDepth 100000 in
set_option maxHeartbeats 1500000 in
theorem once_walk (c : Int) (c1 : 0 ≤ c) (c2 : c ≤ 255) (a0 : Option Addr) (b off cap : Nat) (xs : List Ac) (w : World) (ha : 0 < xs.length → a0 = some ⟨b, off, none⟩) (hx : Acts w b off xs) (hg : great xs 100 = false) :
    Calls Try.prog 3 #[.int .u8 c, .slice a0 xs.length cap] w fun e w' => e = .returned (.bool true) ∧ Upd w w' [] := by
  have hlen := great_few hg
  have G := hide (great_walk a0 b off cap xs 100 w ha hx (by omega))
  rw [hg] at G
  have X := hide hx
  have HA := hide ha
  obtain ⟨n, hn⟩ : ∃ n : Nat, 1 + c % 16 = (n : Int) := ⟨(1 + c % 16).toNat, by omega⟩
  have n1 : 0 < n := by omega
  have n2 : n ≤ 16 := by omega
  have N := hide (new_ok n w n1 n2)
  clear hx ha hg
  go_enter Try.func3, Try.ntmps3
  go_wp2_with fail
  refine G.out.mono ?_
  rintro e w' ⟨rfl, rfl⟩
  clear G
  go_wp2_with fail
  refine N.out.mono ?_
  rintro e w1 ⟨rfl, H1, u1⟩
  clear N
  have hmk := run_make_row1 (P := Try.prog) 29 4 (bytes := 1) (z := .bool false) (v := .bool false) rfl Try.underlying29 (by kernel_rfl) (xs.length + 1) (by omega) (by omega) w1
  have hs1 : ((xs.length : Int) + 1) = ((xs.length + 1 : Nat) : Int) := by omega
  rw [← hs1] at hmk
  have B1 := hide ((Blk.new w1 4 (Array.replicate (xs.length + 1) (Value.bool false))).congr (toldA_zero _))
  have H2 := hide (H1.upd0 ((Upd.refl w1 []).alloc (.cells (Array.replicate (xs.length + 1) (.bool false)) 4)))
  have U2 := hide (u1.alloc (.cells (Array.replicate (xs.length + 1) (.bool false)) 4))
  have htb := u1.size
  clear H1 u1 hn
  clear hs1
  go_wp2_with fail
  clear hmk
  generalize w1.alloc (.cells (Array.replicate (xs.length + 1) (.bool false)) 4) = w2 at *
  generalize w1.heap.size = tb at *
  have hrb : w.heap.size ≤ w.heap.size := Nat.le_refl _
  have rbs : ∀ w', Upd w w' [] → w.heap.size ≤ w'.heap.size := fun w' u => u.size
  generalize hrb2 : w.heap.size = rb at *
  have hrb3 : Hid (w.heap.size ≤ rb) := Lib.hid (Nat.le_of_eq hrb2)
  have htb2 : Hid (w.heap.size ≤ tb) := Lib.hid (by omega)
  clear hrb hrb2
  have hrb := hrb3
  clear hrb3
  replace rbs := hide rbs
  go_loopw [9, 10, 11] (fun vp vo vi wr => ∃ (i puts out : Nat) (f : Nat → Bool) (L : List Rd) (v : Value), i ≤ xs.length + 1 ∧ vi = .int .i64 i ∧ vp = .int .i64 puts ∧ vo = .int .i64 out ∧ puts ≤ i ∧ Once f puts out L ∧ Rds wr rb rb v n puts L ∧ Blk wr tb 4 (toldA (xs.length + 1) f) ∧ (i = xs.length + 1 → L = []) ∧ Upd w wr []) (fun _ _ vi _ => xs.length + 1 - (intOf vi).toNat)
  case atStart => exact ⟨0, 0, 0, _, [], _, by omega, rfl, rfl, rfl, by omega, Once.zero, H2.out, B1.out, fun _ => rfl, U2.out⟩
  case round =>
    clear H2 B1 U2
    obtain ⟨i, puts, out, f, L, v, hi, rfl, rfl, rfl, hpi, hO, hH, hB, hend, hu⟩ := hrel
    have hnum := hO.num
    have hnu1 : puts ≤ out + L.length := by omega
    have hnu2 : out + L.length ≤ puts := by omega
    have hfew := hH.few
    have hne := hH.head.ne_ hB (by decide)
    have hge := rbs.out _ hu
    by_cases hlt : i ≤ xs.length
    · have hii : (i : Int) ≤ xs.length := by omega
      clear hnum
      replace hO := hide hO
      replace hH := hide hH
      replace hB := hide hB
      replace hu := hide hu
      clear hend
      go_upto_if 45 with fail
      go_cut [9, 12] from 36 to 168 (fun vp vg wx => ∃ (puts' : Nat) (L' G : List Rd) (v' : Value), vp = .int .i64 puts' ∧ Tells f puts' out L' G ∧ (∀ x ∈ G, x.ok) ∧ Rds wx rb rb v' n puts' L' ∧ RowOf wx 0 49 34 vg (rdCells G) ∧ Blk wx tb 4 (toldA (xs.length + 1) f) ∧ puts' ≤ xs.length ∧ puts' ≤ i + 1 ∧ (i = xs.length → L' = []) ∧ Upd w wx [])
      case first =>
        as_aux_lemma =>
        by_cases hil : i = xs.length
        · have hb : ((i : Int) == (xs.length : Int)) = true := by simp [hil]
          replace hil := hide hil
          have T := hide (flush_ok wr hH.out hge)
          go_wp2_with fail
          refine T.out.mono ?_
          rintro e w3 ⟨vg, vk, rfl, G3, H3, _, u3⟩
          have B3 := hide (u3.blk hB.out (by simpa using hne.symm))
          have U3 := hide (hH.out.step1 hu.out hrb.out u3)
          have S3 := hide (hO.out.take flushP)
          have OKG := hide (fun x (hx : x ∈ L.filter (fun x => !flushP x)) => hH.out.ok x (List.mem_filter.1 hx).1)
          replace G3 := hide (G3.mono (b' := 0) (Nat.zero_le _))
          replace H3 := hide H3
          clear u3 T
          go_wp2_with fail
          go_simp
          go_meet
          exact ⟨puts, _, _, _, rfl, S3.out, OKG.out, H3.out, G3.out, B3.out, by omega, by omega, fun _ => by simp [flushP], U3.out⟩
        · have hb : ((i : Int) == (xs.length : Int)) = false := beq_false_of_ne (by omega)
          have hil2 : i < xs.length := by omega
          have hil3 : (i : Int) < xs.length := by omega
          obtain rfl := HA.out (by omega)
          have hao : (xs[i]).ok := X.out.1 _ (List.getElem_mem hil2)
          have q1 := (X.out.upd hu.out).2 i hil2
          obtain ⟨a, ha⟩ : ∃ a, a = xs[i] := ⟨_, rfl⟩
          rw [← ha] at q1 hao
          clear ha
          have h35 := a.size hao
          have b0 := Blk.new wr 44 zeroAc
          have r0 := b0.aggRoom 0 (n := 35) (by decide) h35 (a.one hao)
          have b2 := b0.laid (cs' := a.cells) (by rw [h35]; rfl)
          have d2 := Upd.setCells (b := wr.heap.size) (S := []) (by simp) a.cells.toList 0 ((Upd.refl wr []).alloc (.cells zeroAc 44))
          have H2 := hide (hH.out.upd0 d2)
          have B2 := hide (d2.blk hB.out (by simp))
          have U2 := hide (hu.out.trans d2 (by simp))
          have fa := act_at hao (b2.agg0 h35)
          have f0 := fa.f0
          have fN := fa.fN
          have fD := fa.dl
          rw [Nat.zero_add] at fN fD
          have k0 := hao.k0
          have k1 := hao.k1
          unfold zeroAc at r0 H2 B2 U2 f0 fN fD
          generalize a.cells = A at *
          clear b0 b2 d2 fa
          go_upto_region 16 with fail
          clear q1 r0
          generalize (wr.alloc (.cells #[.int .u8 0, .int .i64 0, .int .i64 0, .int .i64 0, .int .i64 0, .int .i64 0, .int .i64 0, .int .i64 0, .int .i64 0, .string ⟨#[]⟩, .string ⟨#[]⟩, .int .i64 0, .int .i64 0, .string ⟨#[]⟩, .int .i64 0, .int .i64 0, .int .i64 0, .int .i64 0, .int .i64 0, .int .i64 0, .int .i64 0, .string ⟨#[]⟩, .string ⟨#[]⟩, .int .i64 0, .int .i64 0, .slice none 0 0, .int .i64 0, .int .i64 0, .int .i64 0, .int .i64 0, .int .i64 0, .string ⟨#[]⟩, .int .i64 0, .int .i64 0, .int .i64 0] 44)).setCells wr.heap.size 0 A.toList = w2 at *
          generalize wr.heap.size = ab at *
          have hge2 := rbs.out _ U2.out
          clear hH hB hu
          by_cases e5 : a.k % 9 = 5
          · have T := hide (sure_ok a.n w2 H2.out hge2)
            go_wp2_with fail
            refine T.out.mono ?_
            rintro e w3 ⟨vg, vk, rfl, G3, H3, _, u3⟩
            have B3 := hide (u3.blk B2.out (by simpa using hne.symm))
            have U3 := hide (H2.out.step1 U2.out hrb.out u3)
            have S3 := hide (hO.out.take (sureP a.n))
            have OKG := hide (fun x (hx : x ∈ L.filter (fun x => !sureP a.n x)) => H2.out.ok x (List.mem_filter.1 hx).1)
            replace G3 := hide (G3.mono (b' := 0) (Nat.zero_le _))
            replace H3 := hide H3
            clear u3 T
            go_wp2_with fail
            go_simp
            go_meet
            exact ⟨puts, _, _, _, rfl, S3.out, OKG.out, H3.out, G3.out, B3.out, by omega, by omega, fun h => absurd h hil, U3.out⟩
          · by_cases e6 : a.k % 9 = 6
            · have T := hide (expire_ok a.n w2 H2.out hge2)
              go_wp2_with fail
              refine T.out.mono ?_
              rintro e w3 ⟨vg, vk, rfl, G3, H3, _, u3⟩
              have B3 := hide (u3.blk B2.out (by simpa using hne.symm))
              have U3 := hide (H2.out.step1 U2.out hrb.out u3)
              have S3 := hide (hO.out.take (expireP a.n))
              have OKG := hide (fun x (hx : x ∈ L.filter (fun x => !expireP a.n x)) => H2.out.ok x (List.mem_filter.1 hx).1)
              replace G3 := hide (G3.mono (b' := 0) (Nat.zero_le _))
              replace H3 := hide H3
              clear u3 T
              go_wp2_with fail
              go_simp
              go_meet
              exact ⟨puts, _, _, _, rfl, S3.out, OKG.out, H3.out, G3.out, B3.out, by omega, by omega, fun h => absurd h hil, U3.out⟩
            · by_cases e7 : a.k % 9 = 7
              · have T := hide (flush_ok w2 H2.out hge2)
                go_wp2_with fail
                refine T.out.mono ?_
                rintro e w3 ⟨vg, vk, rfl, G3, H3, _, u3⟩
                have B3 := hide (u3.blk B2.out (by simpa using hne.symm))
                have U3 := hide (H2.out.step1 U2.out hrb.out u3)
                have S3 := hide (hO.out.take flushP)
                have OKG := hide (fun x (hx : x ∈ L.filter (fun x => !flushP x)) => H2.out.ok x (List.mem_filter.1 hx).1)
                replace G3 := hide (G3.mono (b' := 0) (Nat.zero_le _))
                replace H3 := hide H3
                clear u3 T
                go_wp2_with fail
                go_simp
                go_meet
                exact ⟨puts, _, _, _, rfl, S3.out, OKG.out, H3.out, G3.out, B3.out, by omega, by omega, fun h => absurd h hil, U3.out⟩
              · have g5 : (a.k % 9 == 5) = false := beq_false_of_ne e5
                have g6 : (a.k % 9 == 6) = false := beq_false_of_ne e6
                have g7 : (a.k % 9 == 7) = false := beq_false_of_ne e7
                replace e5 := hide e5
                replace e6 := hide e6
                replace e7 := hide e7
                by_cases hl : L.length < n
                · have P := hide (put_ok (seqDl ((puts : Int) + 1) a.d.dl) _ ⟨0, ⟨#[]⟩, 0, (puts : Int) + 1⟩ w2 H2.out hge2 (seqDl_fit _ _) hl (by omega))
                  have hlt1 : (puts : Int) - (out : Int) < n := by omega
                  go_wp2_with fail
                  refine P.out.mono ?_
                  rintro e w3 ⟨v3, F3, rfl, hF3, H3, u3⟩
                  have U3 := hide (H2.out.step U2.out hrb.out u3)
                  have B3 := hide (u3.blk B2.out (by
                    intro hm
                    rcases List.mem_cons.1 hm with hm | hm
                    · exact hne hm.symm
                    · exact H2.out.row.ne B2.out (by decide) _ hm (by simp)))
                  have S3 := hide (hO.out.put (x := ⟨((puts + 1 : Nat) : Int), ⟨0, 0, 0, (puts : Int) + 1, 0, 0, a.d.dl, ⟨0, ⟨#[]⟩, ⟨#[]⟩, 0⟩⟩, ⟨0, ⟨#[]⟩, 0, (puts : Int) + 1⟩, F3⟩) rfl (by simp) (by simp))
                  replace H3 := hide H3
                  clear u3 P hF3
                  go_wp2_with fail
                  go_simp
                  go_meet
                  exact ⟨puts + 1, _, _, _, by go_num, S3.out, (fun x hx => by cases hx), H3.out, RowOf.nil _ _ _ _, B3.out, by omega, by omega, fun h => absurd h hil, U3.out⟩
                · have P := hide (put_full (seqDl ((puts : Int) + 1) a.d.dl) ⟨0, ⟨#[]⟩, 0, (puts : Int) + 1⟩ w2 H2.out rfl (by omega))
                  have hlt1 : ¬ (puts : Int) - (out : Int) < n := by omega
                  go_wp2_with fail
                  refine P.out.mono ?_
                  rintro e w3 ⟨rfl, u3⟩
                  have U3 := hide (U2.out.trans u3 (by simp))
                  have H3 := hide (H2.out.upd0 u3)
                  have B3 := hide (u3.blk B2.out (by simp))
                  have S3 := hide (hO.out.same)
                  clear u3 P
                  go_wp2_with fail
                  go_simp
                  go_meet
                  exact ⟨puts, _, _, _, rfl, S3.out, (fun x hx => by cases hx), H3.out, RowOf.nil _ _ _ _, B3.out, by omega, by omega, fun h => absurd h hil, U3.out⟩
      case rest =>
        obtain ⟨puts', L', G, v', rfl, hT, hGok0, H3, G3, B3, hp1, hp2, hend3, U3⟩ := hcut
        obtain ⟨w3, rfl⟩ : ∃ w3 : World, w3 = wc := ⟨_, rfl⟩
        have hnum3 : puts' ≤ out + G.length + L'.length := Nat.le_of_eq hT.num
        have hnum4 : out + G.length + L'.length ≤ puts' := Nat.le_of_eq hT.num.symm
        obtain ⟨gg, cg, rfl, hgg⟩ := G3.form
        rw [rdCells_len] at hgg G3
        rw [rdCells_len]
        have hgne := hide (G3.ne B3 (by decide))
        have hGok := hide hGok0
        have hG100 : G.length ≤ 200 := by omega
        replace hT := hide hT
        replace H3 := hide H3
        replace G3 := hide G3
        replace B3 := hide B3
        replace U3 := hide U3
        replace hend3 := hide hend3
        replace hgg := hide hgg
        clear hO hH hB hu
        go_wp2_with fail
        go_loopw [10, 16] (fun vo vk wx => ∃ k o : Nat, k ≤ G.length ∧ o = out + k ∧ vk = .int .i64 k ∧ vo = .int .i64 o ∧ Blk wx tb 4 (toldA (xs.length + 1) (fset f (G.take k))) ∧ Upd w3 wx [tb]) (fun _ vk _ => G.length - (intOf vk).toNat)
        case atStart => exact ⟨0, out, by omega, rfl, rfl, rfl, B3.out.congr (by congr 1; funext e; simp [fset]), Upd.refl _ _⟩
        case round =>
          obtain ⟨k, o, hk, ho, rfl, rfl, hBk, hux⟩ := hrel
          have ho2 : o ≤ 400 := by omega
          by_cases hkl : k < G.length
          · obtain ⟨g, rfl⟩ := hgg.out (by omega)
            have hki : (k : Int) < G.length := by omega
            obtain ⟨p1, p2, p3, p4, p5⟩ := hT.out.at_ k hkl
            have RG := G3.out.upd hux hgne.out
            have A := RG.rd k hkl
            have hok : (G[k]).ok := hGok.out _ (List.getElem_mem hkl)
            have m0 := aggAt_cell A 0 (by decide)
            have m4 := aggAt_cell A 4 (by decide)
            have m33 := aggAt_cell A 33 (by decide)
            rw [Rd.at0] at m0
            rw [show (4 : Nat) = 1 + 3 from rfl, Rd.atF hok 3 (by decide), hok.c3, p3] at m4
            rw [show (33 : Nat) = 30 + 3 from rfl, Rd.atX hok 3, show (G[k]).x.cells[3]? = some (.int .i64 (G[k]).x.at_) from rfl, p4] at m33
            have hprev := hide (fun (m : Nat) (hm : k = m + 1) => show ∃ z : Int, wr.cell? ⟨g, m * 34, none⟩ = some (.int .i64 z) ∧ z < (G[k]).id by
              subst hm
              have A' := aggAt_cell (RG.rd m (by omega)) 0 (by decide)
              rw [Rd.at0] at A'
              exact ⟨_, A', hT.out.up m hkl⟩)
            obtain ⟨j, hj⟩ : ∃ j : Nat, (G[k]).id = (j : Int) := ⟨(G[k]).id.toNat, by omega⟩
            have hset := hide (fun e => fset_take f G k hkl e)
            rw [hj] at p1 p2 p5 m0 m4 m33 hprev hset
            rw [Int.toNat_natCast] at p5
            have jlt : j < xs.length + 1 := by omega
            have jlt2 : (j : Int) < (xs.length : Int) + 1 := by omega
            have tc : wr.cell? ⟨tb, j, none⟩ = some (.bool false) := by rw [hBk.cell, toldA_get _ _ _ jlt, p5]
            have tf := hBk.frozen j
            have q1 : ¬ (j : Int) < 1 := by omega
            have q2 : ¬ (puts' : Int) < (j : Int) := by omega
            have Bn := hide ((hBk.set_ j (.bool true)).congr (toldA_set _ _ (fset f (G.take (k + 1))) j jlt (by rw [hset.out]; simp) (fun x hx => by rw [hset.out, if_neg (by omega)])))
            have un := hide (hux.setCell (p := ⟨tb, j, none⟩) (by simp) (.bool true))
            have m0 : wr.cell? ⟨g, k * 34, none⟩ = some (.int .i64 j) := m0
            have m4 : wr.cell? ⟨g, k * 34 + 4, none⟩ = some (.int .i64 j) := m4
            have m33 : wr.cell? ⟨g, k * 34 + 33, none⟩ = some (.int .i64 j) := m33
            have ho3 := hide ho
            clear hBk hux RG A hok hj hset p3 p4 p5 ho
            obtain rfl | ⟨m, rfl⟩ : k = 0 ∨ ∃ m, k = m + 1 := by
              cases k with
              | zero => exact .inl rfl
              | succ m => exact .inr ⟨m, rfl⟩
            · clear hprev
              go_wp2_with fail
              go_roundw
              case rel => exact ⟨1, o + 1, by omega, by have := ho3.out; omega, by go_num, by go_num, Bn.out, un.out⟩
              case measure => simp [intOf]; omega
            · obtain ⟨z, c1', c2'⟩ := hprev.out m rfl
              have q3 : ¬ (j : Int) ≤ z := by omega
              clear hprev
              have hm1 : (m : Int) < G.length := by omega
              have hm2 : (m : Int) ≤ 9223372036854775806 := by omega
              go_wp2_with fail
              go_roundw
              case rel => exact ⟨m + 1 + 1, o + 1, by omega, by have := ho3.out; omega, by go_num, by go_num, Bn.out, un.out⟩
              case measure => simp [intOf]; omega
          · obtain rfl : k = G.length := by omega
            rw [List.take_length] at hBk
            have H4 := hide (H3.out.upd hux (by simpa using hne) (fun g hg hm => H3.out.row.ne B3.out (by decide) g hg hm))
            have U4 := hide (U3.out.trans hux (fun g hg hl => by simp at hg; subst hg; have := htb2.out; omega))
            have LN := hide (len_ok _ H4.out)
            have hd : (puts' : Int) - (o : Int) = (L'.length : Int) := by omega
            have hO2 := hide (hT.out.next)
            have ho3 := hide ho
            replace hBk := hide hBk
            clear ho hux hnum3 hnum4
            go_wp2_with fail
            refine LN.out.mono ?_
            rintro e w' ⟨rfl, rfl⟩
            go_wp2_with fail
            go_roundw
            case rel => exact ⟨i + 1, puts', o, _, L', v', by omega, by go_num, rfl, rfl, by omega, by rw [ho3.out]; exact hO2.out, H4.out, hBk.out, fun h => hend3.out (by omega), U4.out⟩
            case measure => simp [intOf]; omega
    · obtain rfl : i = xs.length + 1 := by omega
      have hLn := hend rfl
      have hpo : puts = out := by rw [hLn] at hnum; simpa using hnum
      subst hpo
      clear hnum hnu1 hnu2 hfew hO hH hB hend hLn
      replace hu := hide hu
      go_wp2_with fail
      refine (waited_any _).mono ?_
      rintro e w2 ⟨rfl, u2⟩
      replace u2 := hide (hu.out.trans u2 (by simp))
      go_wp2_with fail
      go_ret
      exact ⟨rfl, u2.out⟩
end Go.Proofs.Ytdnablmlkkkdhaa
