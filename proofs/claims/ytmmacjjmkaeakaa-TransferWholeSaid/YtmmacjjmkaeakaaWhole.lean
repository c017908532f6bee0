/- The walk of TransferWhole (f7). (Printed by gen28whole.py.) -/
import Derived.Test.YtmmacjjmkaeakaaMail
import Derived.Test.YtmmacjjmkaeakaaRegF
import Derived.Deep.CutRange
import Derived.Deep.CutBlock
namespace Go.Proofs.Ytmmacjjmkaeakaa
open Go.RowKit
set_option linter.unusedVariables false
set_option linter.unusedSimpArgs false
theorem flat_tell : ∀ l : List Nat, flat (tellC l) = l.map fun (a : Nat) => Value.int .i64 (a : Int)
  | [] => rfl
  | a :: l => by
    show #[Value.int .i64 (a : Int)].toList ++ flat (tellC l) = _
    rw [flat_tell l]; rfl
theorem mail_at {w : World} {b g c : Nat} {t : ByteArray} {size k : Nat} {l : List Nat} (M : RowOf w b 31 4 (.slice (some ⟨g, 0, none⟩) l.length c) (mailC t size k l)) {q : Nat} (hq : q < l.length) : ∀ j, j < 4 → w.cell? ⟨g, q * 4 + j, none⟩ = (pcN t size k l[q]).cells[j]? := by
  intro j hj
  have M2 : RowOf w b 31 4 (.slice (some ⟨g, 0, none⟩) (mailC t size k l).length c) (mailC t size k l) := by rw [mail_len]; exact M
  have h := M2.agg q (by rw [mail_len]; exact hq)
  have e : (mailC t size k l)[q]'(by rw [mail_len]; exact hq) = (pcN t size k l[q]).cells := by simp [mailC]
  rw [e] at h
  exact (aggAt_cells h).2 j hj
theorem mail_app (t : ByteArray) (size k : Nat) (a b : List Nat) : mailC t size k (a ++ b) = mailC t size k a ++ mailC t size k b := by simp [mailC]
theorem mail_flat (t : ByteArray) (size k : Nat) (l : List Nat) : (flat (mailC t size k l)).length = l.length * 4 := by rw [flat_length _ (mail_size t size k l), mail_len]
theorem mail_take {w : World} {b g c : Nat} {t : ByteArray} {size k n : Nat} {l : List Nat} (M : RowOf w b 31 4 (.slice (some ⟨g, 0, none⟩) n c) (mailC t size k l)) (q : Nat) : ∀ j u, (flat (mailC t size k (l.take q)))[j]? = some u → w.cell? ((⟨g, 0, none⟩ : Addr).add j) = some u := by
  intro j u hj
  refine M.src j u ?_
  rw [show l = l.take q ++ l.drop q from (List.take_append_drop q l).symm, mail_app, flat_append]
  obtain ⟨h, _⟩ := List.getElem?_eq_some_iff.1 hj
  rw [List.getElem?_append_left h]
  exact hj
theorem mail_drop {w : World} {b g c : Nat} {t : ByteArray} {size k : Nat} {l : List Nat} (M : RowOf w b 31 4 (.slice (some ⟨g, 0, none⟩) l.length c) (mailC t size k l)) (q : Nat) (hq : q < l.length) (hc : l.length ≤ c) (AD : Addr) (hA : (if c = q + 1 then some (⟨g, 0, none⟩ : Addr) else some ⟨g, (q + 1) * 4, none⟩) = some AD) :
    ∀ j u, (flat (mailC t size k (l.drop (q + 1))))[j]? = some u → w.cell? (AD.add j) = some u := by
  intro j u hj
  by_cases h : c = q + 1
  · have : l.drop (q + 1) = [] := List.drop_eq_nil_of_le (by omega)
    rw [this] at hj
    simp [mailC, flat] at hj
  · rw [if_neg h] at hA
    injection hA with hA
    subst hA
    have := M.src ((q + 1) * 4 + j) u (by
      rw [show l = l.take (q + 1) ++ l.drop (q + 1) from (List.take_append_drop (q + 1) l).symm, mail_app, flat_append]
      have hl : (flat (mailC t size k (l.take (q + 1)))).length = (q + 1) * 4 := by rw [mail_flat, List.length_take]; congr 1; omega
      rw [List.getElem?_append_right (by omega), hl, Nat.add_sub_cancel_left]
      exact hj)
    rw [Addr.add_mid] at this ⊢
    rwa [Nat.zero_add] at this
theorem mail_join {w : World} {b : Nat} {v : Value} {t : ByteArray} {size k n : Nat} {l1 l2 : List Nat} (h : w.ownsRow b 31 4 v n (flat (mailC t size k l1) ++ flat (mailC t size k l2))) (hn : n = l1.length + l2.length) : RowOf w b 31 4 v (mailC t size k (l1 ++ l2)) := by
  refine ⟨mail_size t size k _, mail_one t size k _, ?_⟩
  rw [mail_len, mail_app, flat_append, List.length_append, ← hn]
  exact h
theorem size31 (W : World) : (sizeOf (Try.prog.elem 22)).run Try.prog W = .ok 4 W := by
  obtain ⟨i, h1, _, h2, _⟩ := info_parts info31
  have e : Try.prog.elem 22 = 31 := by kernel_rfl
  rw [e]
  simp [sizeOf, typeInfo, h1, h2]
set_option maxRecDepth 100000 in
set_option maxHeartbeats 32000000 in
theorem whole_walk (t : ByteArray) (s0 s1 : Int) (p0 : 0 ≤ s0) (p1 : s0 ≤ 255) (p2 : 0 ≤ s1) (p3 : s1 ≤ 255) (a0 : Option Addr) (b off cap : Nat) (xs : List (Nat × Nat)) (w : World) (ha : 0 < xs.length → a0 = some ⟨b, off, none⟩) (hx : Twos w b off xs) (hmx : xs.length ≤ 9223372036854775807) :
    Calls Try.prog 7 #[.string t, .agg #[.int .u8 s0, .int .u8 s1], .slice a0 xs.length cap] w fun e w' => e = .returned (.bool true) ∧ Upd w w' [] := by
  obtain ⟨i31, h31⟩ := info_parts info31
  obtain ⟨i3, h3⟩ := info_parts info3
  replace h31 := hide h31
  replace h3 := hide h3
  have B := Blk.new w 39 #[.int .u8 s0, .int .u8 s1]
  have U := (Upd.refl w []).alloc (.cells #[.int .u8 s0, .int .u8 s1] 39)
  by_cases h6 : 300 < (t.size : Int)
  · replace B := hide B
    replace U := hide U
    go_enter Try.func7, Try.ntmps7
    go_wp2_with fail
    refine (gone_ok _).mono ?_
    rintro e w2 ⟨rfl, k1⟩
    replace k1 := hide (U.out.trans k1 (by simp))
    go_wp2_with fail
    go_ret
    exact ⟨rfl, k1.out⟩
  by_cases h7 : 150 < (xs.length : Int)
  · replace B := hide B
    replace U := hide U
    go_enter Try.func7, Try.ntmps7
    go_wp2_with fail
    refine (gone_ok _).mono ?_
    rintro e w2 ⟨rfl, k1⟩
    replace k1 := hide (U.out.trans k1 (by simp))
    go_wp2_with fail
    go_ret
    exact ⟨rfl, k1.out⟩
  have lt : t.size ≤ 300 := by omega
  have lx : xs.length ≤ 150 := by omega
  have X := hide hx
  have HA := hide ha
  clear hx ha
  have c0 : (w.alloc (.cells #[.int .u8 s0, .int .u8 s1] 39)).cell? ⟨w.heap.size, 0, none⟩ = some (.int .u8 s0) := by rw [B.cell]; rfl
  have c1 : (w.alloc (.cells #[.int .u8 s0, .int .u8 s1] 39)).cell? ⟨w.heap.size, 1, none⟩ = some (.int .u8 s1) := by rw [B.cell]; rfl
  clear B
  replace U := hide U
  obtain ⟨W, hW⟩ : ∃ W : Nat, 1 + s1 % 16 = (W : Int) := ⟨(1 + s1 % 16).toNat, by omega⟩
  obtain ⟨Z, hZ⟩ : ∃ Z : Nat, 1 + s0 % 60 = (Z : Int) := ⟨(1 + s0 % 60).toNat, by omega⟩
  have W1 : 1 ≤ W := by omega
  have W2 : W ≤ 16 := by omega
  have Z1 : 1 ≤ Z := by omega
  have Z2 : Z ≤ 60 := by omega
  have hbad : openBad 7 Z W = false := by simp [openBad]; omega
  have OP := hide (open_ok 7 W Z t (w.alloc (.cells #[.int .u8 s0, .int .u8 s1] 39)) hbad (by omega))
  replace hbad := hide hbad
  go_enter Try.func7, Try.ntmps7
  go_wp2_with fail
  have lw1 := U.out.size
  generalize w.alloc (.cells #[.int .u8 s0, .int .u8 s1] 39) = w1 at *
  refine OP.out.mono ?_
  rintro e w2 ⟨rs, bb, sv, k, rfl, hrs, hbb, HS, hc, kk⟩
  have k4 := cut_few hc (by omega)
  have k1 := hc.1
  have lrs := hide (show w.heap.size ≤ rs by omega)
  have lw2 := hide (show w.heap.size ≤ w2.heap.size by have := kk.size; omega)
  have U2 := hide (U.out.trans kk (by simp))
  replace HS := hide HS
  replace hc := hide hc
  clear c0 c1 OP U kk hrs hbb
  generalize w1.heap.size = bs at *
  go_wp2_with fail
  refine (newr_ok w2).mono ?_
  rintro e w3 ⟨rfl, R3, kk⟩
  have HS3 := hide (HS.out.upd0 kk)
  have U3 := hide (U2.out.trans kk (by simp))
  replace R3 := hide R3
  clear HS U2 kk
  generalize w2.heap.size = rr at *
  go_wp2_with fail
  have hwb : w.heap.size ≤ w.heap.size := Nat.le_refl _
  generalize hWB : w.heap.size = WB at *
  replace hWB := hide hWB
  clear hwb
  go_loopw [10, 11, 12, 13, 14] (fun vm vt vh vs vi wr => ∃ (i hv sn m sx : Nat) (id total : Int) (ps : List ByteArray) (rv : Value) (ml tl : List Nat), i ≤ xs.length ∧ vi = .int .i64 i ∧ vh = .int .i64 m ∧ vs = .int .i64 sx ∧ RowOf wr WB 31 4 vm (mailC t Z k ml) ∧ RowOf wr WB 3 1 vt (tellC tl) ∧ Rcv wr rr rr rv id total ps ∧ Got t Z k m id total ps ∧ Snd wr bs rs sv bb t Z k 7 W hv sn ∧ hv ≤ sn ∧ sn ≤ k ∧ hv ≤ m ∧ m ≤ sx ∧ sx ≤ k ∧ (∀ a ∈ ml, a < sx) ∧ (∀ a ∈ tl, a ≤ m) ∧ ml.length ≤ i ∧ tl.length ≤ i ∧ Upd w wr []) (fun _ _ _ _ vi _ => xs.length - (intOf vi).toNat)
  case atStart => exact ⟨0, 0, 0, 0, 0, 0, 0, [], _, [], [], by omega, rfl, rfl, rfl, RowOf.nil _ _ _ _, RowOf.nil _ _ _ _, R3.out, .inl ⟨rfl, rfl, rfl, rfl⟩, HS3.out, by omega, by omega, by omega, by omega, by omega, fun _ h => by simp at h, fun _ h => by simp at h, by simp, by simp, U3.out⟩
  case round =>
    clear R3 HS3 U3
    obtain ⟨i, hv, sn, m, sx, id, total, ps, rv, ml, tl, hi, rfl, rfl, rfl, M, T, R, G, HS, v1, v2, v3, v4, v5, hml, htl, lm, ltl, hu⟩ := hrel
    by_cases hl : (i : Int) < xs.length
    · have hil : i < xs.length := by omega
      obtain rfl := HA.out (by omega)
      have hX := (X.out.upd hu).2 i hil
      obtain ⟨q0, q1⟩ := hX
      have ob := (X.out.1 xs[i] (List.getElem_mem hil)).1
      have nb := (X.out.1 xs[i] (List.getElem_mem hil)).2
      obtain ⟨o, ho⟩ : ∃ o, xs[i].1 = o := ⟨_, rfl⟩
      obtain ⟨n, hn⟩ : ∃ n, xs[i].2 = n := ⟨_, rfl⟩
      rw [ho] at q0 ob
      rw [hn] at q1 nb
      clear ho hn
      have o0 : (0 : Int) ≤ (o : Int) := by omega
      have o1 : (o : Int) ≤ 255 := by omega
      have n0 : (0 : Int) ≤ (n : Int) := by omega
      have n1 : (n : Int) ≤ 255 := by omega
      have wn : IntKind.i64.wrap (n : Int) = (n : Int) := IntWalk.i64_in _ (by omega)
      have lw := hide (show WB ≤ wr.heap.size by have := hu.size; have := hWB.out; omega)
      obtain ⟨mg, mc, rfl, mlc, mgn, mgp⟩ := mail_form M
      obtain ⟨tg, tc, rfl, tgp⟩ := tell_form T
      replace M := hide M
      replace T := hide T
      replace R := hide R
      replace G := hide G
      replace HS := hide HS
      replace hu := hide hu
      replace hml := hide hml
      replace htl := hide htl
      replace mgn := hide mgn
      replace mgp := hide mgp
      replace tgp := hide tgp
      go_upto_block 2 with fail
      go_cut [10, 11, 12, 13] from 50 to 189 (fun vm vt vh vs wx => ∃ (hv sn m sx : Nat) (id total : Int) (ps : List ByteArray) (rv : Value) (ml tl : List Nat), vh = .int .i64 m ∧ vs = .int .i64 sx ∧ RowOf wx WB 31 4 vm (mailC t Z k ml) ∧ RowOf wx WB 3 1 vt (tellC tl) ∧ Rcv wx rr rr rv id total ps ∧ Got t Z k m id total ps ∧ Snd wx bs rs sv bb t Z k 7 W hv sn ∧ hv ≤ sn ∧ sn ≤ k ∧ hv ≤ m ∧ m ≤ sx ∧ sx ≤ k ∧ (∀ a ∈ ml, a < sx) ∧ (∀ a ∈ tl, a ≤ m) ∧ ml.length ≤ i + 1 ∧ tl.length ≤ i + 1 ∧ Upd w wx [])
      case first =>
        by_cases e0 : o % 8 = 0
        · as_aux_lemma =>
            have g0 : ((o : Int) % 8 == 0) = true := by simp; omega
            replace e0 := hide e0
            by_cases hno : (k : Int) ≤ (sn : Int) ∨ (W : Int) ≤ (sn : Int) - (hv : Int)
            · skip
              have NX := hide (next_no HS.out (by omega) (by omega) (by omega) (by omega) (by omega) hno)
              clear hno
              go_wp2_with fail
              refine NX.out.mono ?_
              rintro e w5 ⟨rfl, kk⟩
              have k3 := hide (kk.alloc (.cells #[.int .i64 0, .int .i64 0, .int .i64 0, .string ⟨#[]⟩] 31))
              have M5 := hide (M.out.upd k3.out (by simp))
              have T5 := hide (T.out.upd k3.out (by simp))
              have R5 := hide (R.out.upd0 k3.out)
              have HS5 := hide (HS.out.upd0 k3.out)
              have U5 := hide (hu.out.trans k3.out (by simp))
              clear NX M T R HS hu kk k3
              have M := M5
              have T := T5
              have R := R5
              have HS := HS5
              have UZ := U5
              have HML := hml
              have HTL := htl
              clear M5 T5 R5 HS5 U5 hml htl
              go_wp2_with fail
              try go_simp
              go_meet
              exact ⟨hv, sn, m, sx, id, total, ps, rv, ml, tl, rfl, rfl, M.out, T.out, R.out, G.out, HS.out, by omega, by omega, by omega, by omega, by omega, HML.out, HTL.out, by omega, by omega, UZ.out⟩
            · skip
              have hsk : sn < k := by omega
              have hsw : (sn : Int) - (hv : Int) < (W : Int) := by omega
              clear hno
              have NX := hide (next_ok sn HS.out (by omega) (by omega) (by omega) hsk hsw)
              go_wp2_with fail
              refine NX.out.mono ?_
              rintro e w5 ⟨rfl, HS5, kk⟩
              have o5 := HS.out.of
              have M5 := M.out.updT o5 kk (by decide)
              have T5 := T.out.updT o5 kk (by decide)
              have R5 := R.out.updT o5 kk (by decide) (by decide)
              have U5 := hu.out.trans kk (fun q hq hlq => by simp at hq; have := lrs.out; have := hWB.out; omega)
              have k3 := (Upd.refl w5 []).alloc (.cells #[.int .i64 7, .int .i64 sn, .int .i64 k, .string (cutB t Z sn)] 31)
              have mlt := M5.lt_
              have M6 := hide (M5.upd k3 (by simp))
              have T6 := hide (T5.upd k3 (by simp))
              have R6 := hide (R5.upd0 k3)
              have HS6 := hide (HS5.upd0 k3)
              have U6 := hide (U5.trans k3 (by simp))
              have PA := hide (Blk.new w5 31 #[.int .i64 7, .int .i64 sn, .int .i64 k, .string (cutB t Z sn)])
              have mp := hide (show w5.heap.size ∉ blkOf (.slice mg ml.length mc) from fun h => absurd (mlt _ h) (Nat.lt_irrefl _))
              clear NX M T R HS hu kk HS5 o5 M5 T5 R5 U5 k3 mlt
              go_upto_region 20 with fail
              generalize w5.alloc (.cells #[.int .i64 7, .int .i64 sn, .int .i64 k, .string (cutB t Z sn)] 31) = w6 at *
              generalize w5.heap.size = pa at *
              go_upto_region 21 with fail
              have wsn : IntKind.i64.wrap ((sn : Int) + 1) = (sn : Int) + 1 := IntWalk.i64_in _ (by omega)
              have hmax : (if (sx : Int) < (sn : Int) + 1 then (sn : Int) + 1 else (sx : Int)) = ((max sx (sn + 1) : Nat) : Int) := by split <;> omega
              have hmax2 : max (sx : Int) ((sn : Int) + 1) = ((max sx (sn + 1) : Nat) : Int) := by omega
              obtain ⟨sy, hsy⟩ : ∃ sy, max sx (sn + 1) = sy := ⟨_, rfl⟩
              have sy1 : sx ≤ sy := by omega
              have sy2 : sn < sy := by omega
              have sy3 : sy ≤ k := by omega
              rw [hsy] at hmax hmax2
              clear hsy
              have W6 := U6.out.size
              have hb6 := hide (show WB ≤ (w6.drew.alloc (.cells #[.int .i64 7, .int .i64 sn, .int .i64 k, .string (cutB t Z sn)] 31)).heap.size by have := hWB.out; simp; omega)
              have OW := hide ((M6.out.upd ((Upd.refl w6 []).drew.alloc (.cells #[.int .i64 7, .int .i64 sn, .int .i64 k, .string (cutB t Z sn)] 31)) (by simp)).own)
              refine F_start 10 (fun w' => w'.cell? ⟨pa, 0, none⟩ = some (.int .i64 7) ∧ w'.cell? ⟨pa, 1, none⟩ = some (.int .i64 sn) ∧ w'.cell? ⟨pa, 2, none⟩ = some (.int .i64 k) ∧ w'.cell? ⟨pa, 3, none⟩ = some (.string (cutB t Z sn))) (by kernel_rfl) ?_
              have hS : w6.drew.cell? ⟨pa, 0, none⟩ = some (.int .i64 7) ∧ w6.drew.cell? ⟨pa, 1, none⟩ = some (.int .i64 sn) ∧ w6.drew.cell? ⟨pa, 2, none⟩ = some (.int .i64 k) ∧ w6.drew.cell? ⟨pa, 3, none⟩ = some (.string (cutB t Z sn)) := ⟨by rw [PA.out.drew.cell]; rfl, by rw [PA.out.drew.cell]; rfl, by rw [PA.out.drew.cell]; rfl, by rw [PA.out.drew.cell]; rfl⟩
              refine F_take (i := 0) [9, 3] (v := ?_) rfl (by kernel_rfl) (by kernel_rfl) (by kernel_rfl) (by kernel_rfl) (fun _ _ _ h => h) rfl ?_ hS ?_
              rotate_left
              · intro w hSw
                try dsimp only at hSw
                go_simp
                try with_reducible rfl
              try simp only [Act.put, List.setIfInBounds_toArray, List.set_cons_zero, List.set_cons_succ]
              refine F_take (i := 1) [9, 3, 2] (v := ?_) rfl (by kernel_rfl) (by kernel_rfl) (by kernel_rfl) (by kernel_rfl) (fun _ _ _ h => h) rfl ?_ hS ?_
              rotate_left
              · intro w hSw
                try dsimp only at hSw
                go_simp
                try with_reducible rfl
              try simp only [Act.put, List.setIfInBounds_toArray, List.set_cons_zero, List.set_cons_succ]
              refine F_take (i := 4) [8] (v := ?_) rfl (by kernel_rfl) (by kernel_rfl) (by kernel_rfl) (by kernel_rfl) (fun _ _ _ h => h) rfl ?_ hS ?_
              rotate_left
              · intro w hSw
                try dsimp only at hSw
                go_simp
                try with_reducible rfl
              try simp only [Act.put, List.setIfInBounds_toArray, List.set_cons_zero, List.set_cons_succ]
              refine F_take (i := 5) [8, 7, 6] (v := ?_) rfl (by kernel_rfl) (by kernel_rfl) (by kernel_rfl) (by kernel_rfl) (fun _ _ _ h => h) rfl ?_ hS ?_
              rotate_left
              · intro w hSw
                try dsimp only at hSw
                go_simp
                try with_reducible rfl
              try simp only [Act.put, List.setIfInBounds_toArray, List.set_cons_zero, List.set_cons_succ]
              refine F_take (i := 6) [8, 7] (v := ?_) rfl (by kernel_rfl) (by kernel_rfl) (by kernel_rfl) (by kernel_rfl) (fun _ _ _ h => h) rfl ?_ hS ?_
              rotate_left
              · intro w hSw
                try dsimp only at hSw
                go_simp
                try with_reducible rfl
              try simp only [Act.put, List.setIfInBounds_toArray, List.set_cons_zero, List.set_cons_succ]
              refine F_take (i := 7) [8] (v := ?_) rfl (by kernel_rfl) (by kernel_rfl) (by kernel_rfl) (by kernel_rfl) (fun _ _ _ h => h) rfl ?_ hS ?_
              rotate_left
              · intro w hSw
                try dsimp only at hSw
                go_simp
                try with_reducible rfl
              try simp only [Act.put, List.setIfInBounds_toArray, List.set_cons_zero, List.set_cons_succ]
              refine F_take (i := 8) [] (v := ?_) rfl (by kernel_rfl) (by kernel_rfl) (by kernel_rfl) (by kernel_rfl) (fun _ _ _ h => h) rfl ?_ hS ?_
              rotate_left
              · intro w hSw
                try dsimp only at hSw
                go_simp
                try with_reducible rfl
              try simp only [Act.put, List.setIfInBounds_toArray, List.set_cons_zero, List.set_cons_succ]
              refine F_step (i := 2) rfl (by kernel_rfl) (fun K hK => ?_)
              go_simp
              clear hS
              have PB := PA.out.drew.alloc (.cells #[.int .i64 7, .int .i64 sn, .int .i64 k, .string (cutB t Z sn)] 31)
              have hS : (w6.drew.alloc (.cells #[.int .i64 7, .int .i64 sn, .int .i64 k, .string (cutB t Z sn)] 31)).cell? ⟨pa, 0, none⟩ = some (.int .i64 7) ∧ (w6.drew.alloc (.cells #[.int .i64 7, .int .i64 sn, .int .i64 k, .string (cutB t Z sn)] 31)).cell? ⟨pa, 1, none⟩ = some (.int .i64 sn) ∧ (w6.drew.alloc (.cells #[.int .i64 7, .int .i64 sn, .int .i64 k, .string (cutB t Z sn)] 31)).cell? ⟨pa, 2, none⟩ = some (.int .i64 k) ∧ (w6.drew.alloc (.cells #[.int .i64 7, .int .i64 sn, .int .i64 k, .string (cutB t Z sn)] 31)).cell? ⟨pa, 3, none⟩ = some (.string (cutB t Z sn)) := ⟨by rw [PB.cell]; rfl, by rw [PB.cell]; rfl, by rw [PB.cell]; rfl, by rw [PB.cell]; rfl⟩
              refine hK.out _ _ (Or.inr hS) ?_
              clear hK K
              try simp only [Act.put, List.setIfInBounds_toArray, List.set_cons_zero, List.set_cons_succ]
              refine F_step (i := 3) rfl (by kernel_rfl) (fun K hK => ?_)
              have OW2 := OW.out
              rw [mail_len] at OW2
              refine step_append_own rfl (.tmp 80) (.tmp 82) 22 rfl WB 31 i31 (.agg #[.int .i64 0, .int .i64 0, .int .i64 0, .string ⟨#[]⟩]) 4 40 Try.underlying22 h31.out.1 h31.out.2.1 h31.out.2.2.1 h31.out.2.2.2 rfl (by decide) (.slice mg ml.length mc) ml.length (flat (mailC t Z k ml)) (by simp [Act.eval]) OW2 ⟨w6.heap.size, 0, none⟩ 1 1 (pcN t Z k sn).cells.toList (by simp [Act.eval]) rfl (news_at (R := (pcN t Z k sn).cells) (Blk.new w6.drew 31 _)) (by intro u hu; exact pc_one (pcN t Z k sn) u (by simpa using hu)) (by unfold maxLen; omega) (by omega) hb6.out ?_
              intro v7 w7 hown hgr hnil
              obtain ⟨g7, c7, rfl⟩ := own_slice hown
              have M7 := hide (mail_push hown)
              have ku : Upd w6 w7 (blkOf (.slice mg ml.length mc)) := (((Upd.refl w6 []).drew.alloc (.cells #[.int .i64 7, .int .i64 sn, .int .i64 k, .string (cutB t Z sn)] 31)).mono (S' := blkOf (.slice mg ml.length mc)) (by simp)).trans (Upd.of_grown (S := blkOf (.slice mg ml.length mc)) hgr (by intro q hq _; simp [blkOf, hq])) (fun q hq _ => hq)
              have o6 := Of.row M6.out
              have T7 := hide (T6.out.updT o6 ku (by decide))
              have R7 := hide (R6.out.updT o6 ku (by decide) (by decide))
              have HS7 := hide (HS6.out.updT o6 ku (by decide) (by decide) (by decide))
              have U7 := hide (U6.out.trans ku (fun q hq hlq => by have := M6.out.ge q hq; have := hWB.out; omega))
              have PC := ku.blk PA.out mp.out
              clear hS
              have hS : w7.cell? ⟨pa, 0, none⟩ = some (.int .i64 7) ∧ w7.cell? ⟨pa, 1, none⟩ = some (.int .i64 sn) ∧ w7.cell? ⟨pa, 2, none⟩ = some (.int .i64 k) ∧ w7.cell? ⟨pa, 3, none⟩ = some (.string (cutB t Z sn)) := ⟨by rw [PC.cell]; rfl, by rw [PC.cell]; rfl, by rw [PC.cell]; rfl, by rw [PC.cell]; rfl⟩
              clear hown hgr hnil OW2 ku o6 PB PC
              refine hK.out _ _ (Or.inr hS) ?_
              clear hK K
              try simp only [Act.put, List.setIfInBounds_toArray, List.set_cons_zero, List.set_cons_succ]
              refine F_step (i := 9) rfl (by kernel_rfl) (fun K hK => ?_)
              go_simp
              refine hK.out _ _ (Or.inr hS) ?_
              clear hK K
              try simp only [Act.put, List.setIfInBounds_toArray, List.set_cons_zero, List.set_cons_succ]
              refine F_step (i := 10) rfl (by kernel_rfl) (fun K hK => ?_)
              go_simp
              refine hK.out _ _ (Or.inl rfl) ?_
              clear hK K
              try simp only [Act.put, List.setIfInBounds_toArray, List.set_cons_zero, List.set_cons_succ]
              refine F_done (by kernel_rfl) ?_ _
              clear hS M6 T6 R6 HS6 U6 OW hb6 W6 mp PA
              have M := hide (show RowOf w7 WB 31 4 _ (mailC t Z k (ml ++ [sn])) from M7.out)
              have T := T7
              have R := R7
              have HS := HS7
              have UZ := U7
              have HML := hide (show ∀ a ∈ ml ++ [sn], a < sy from fun a ha => by
                rcases List.mem_append.1 ha with ha | ha
                · have := hml.out a ha; omega
                · simp at ha; omega)
              have HTL := htl
              have hs1 : (sn : Int) + 1 = ((sn + 1 : Nat) : Int) := by omega
              rw [hs1] at HS
              clear M7 T7 R7 HS7 U7 hml htl wsn hs1
              go_wp2_with fail
              try go_simp
              go_meet
              exact ⟨hv, (sn + 1), m, sy, id, total, ps, rv, (ml ++ [sn]), tl, rfl, rfl, M.out, T.out, R.out, G.out, HS.out, by omega, by omega, by omega, by omega, by omega, HML.out, HTL.out, by simp; omega, by omega, UZ.out⟩
        · skip
          by_cases e1 : o % 8 = 1
          · as_aux_lemma =>
              have g0 : ((o : Int) % 8 == 0) = false := beq_false_of_ne (by omega)
              have g1 : ((o : Int) % 8 == 1) = true := by simp; omega
              replace e0 := hide e0
              replace e1 := hide e1
              by_cases hno : (k : Int) ≤ (sn : Int) ∨ (W : Int) ≤ (sn : Int) - (hv : Int)
              · skip
                have NX := hide (next_no HS.out (by omega) (by omega) (by omega) (by omega) (by omega) hno)
                clear hno
                go_wp2_with fail
                refine NX.out.mono ?_
                rintro e w5 ⟨rfl, kk⟩
                have k3 := hide (kk.alloc (.cells #[.int .i64 0, .int .i64 0, .int .i64 0, .string ⟨#[]⟩] 31))
                have M5 := hide (M.out.upd k3.out (by simp))
                have T5 := hide (T.out.upd k3.out (by simp))
                have R5 := hide (R.out.upd0 k3.out)
                have HS5 := hide (HS.out.upd0 k3.out)
                have U5 := hide (hu.out.trans k3.out (by simp))
                clear NX M T R HS hu kk k3
                have M := M5
                have T := T5
                have R := R5
                have HS := HS5
                have UZ := U5
                have HML := hml
                have HTL := htl
                clear M5 T5 R5 HS5 U5 hml htl
                go_wp2_with fail
                try go_simp
                go_meet
                exact ⟨hv, sn, m, sx, id, total, ps, rv, ml, tl, rfl, rfl, M.out, T.out, R.out, G.out, HS.out, by omega, by omega, by omega, by omega, by omega, HML.out, HTL.out, by omega, by omega, UZ.out⟩
              · skip
                have hsk : sn < k := by omega
                have hsw : (sn : Int) - (hv : Int) < (W : Int) := by omega
                clear hno
                have NX := hide (next_ok sn HS.out (by omega) (by omega) (by omega) hsk hsw)
                go_wp2_with fail
                refine NX.out.mono ?_
                rintro e w5 ⟨rfl, HS5, kk⟩
                have o5 := HS.out.of
                have M5 := M.out.updT o5 kk (by decide)
                have T5 := T.out.updT o5 kk (by decide)
                have R5 := R.out.updT o5 kk (by decide) (by decide)
                have U5 := hu.out.trans kk (fun q hq hlq => by simp at hq; have := lrs.out; have := hWB.out; omega)
                have k3 := (Upd.refl w5 []).alloc (.cells #[.int .i64 7, .int .i64 sn, .int .i64 k, .string (cutB t Z sn)] 31)
                have mlt := M5.lt_
                have M6 := hide (M5.upd k3 (by simp))
                have T6 := hide (T5.upd k3 (by simp))
                have R6 := hide (R5.upd0 k3)
                have HS6 := hide (HS5.upd0 k3)
                have U6 := hide (U5.trans k3 (by simp))
                have PA := hide (Blk.new w5 31 #[.int .i64 7, .int .i64 sn, .int .i64 k, .string (cutB t Z sn)])
                have mp := hide (show w5.heap.size ∉ blkOf (.slice mg ml.length mc) from fun h => absurd (mlt _ h) (Nat.lt_irrefl _))
                clear NX M T R HS hu kk HS5 o5 M5 T5 R5 U5 k3 mlt
                go_upto_region 20 with fail
                generalize w5.alloc (.cells #[.int .i64 7, .int .i64 sn, .int .i64 k, .string (cutB t Z sn)] 31) = w6 at *
                generalize w5.heap.size = pa at *
                go_upto_region 21 with fail
                have wsn : IntKind.i64.wrap ((sn : Int) + 1) = (sn : Int) + 1 := IntWalk.i64_in _ (by omega)
                have hmax : (if (sx : Int) < (sn : Int) + 1 then (sn : Int) + 1 else (sx : Int)) = ((max sx (sn + 1) : Nat) : Int) := by split <;> omega
                have hmax2 : max (sx : Int) ((sn : Int) + 1) = ((max sx (sn + 1) : Nat) : Int) := by omega
                obtain ⟨sy, hsy⟩ : ∃ sy, max sx (sn + 1) = sy := ⟨_, rfl⟩
                have sy1 : sx ≤ sy := by omega
                have sy2 : sn < sy := by omega
                have sy3 : sy ≤ k := by omega
                rw [hsy] at hmax hmax2
                clear hsy
                have W6 := U6.out.size
                have hb6 := hide (show WB ≤ (w6.drew.alloc (.cells #[.int .i64 7, .int .i64 sn, .int .i64 k, .string (cutB t Z sn)] 31)).heap.size by have := hWB.out; simp; omega)
                have OW := hide ((M6.out.upd ((Upd.refl w6 []).drew.alloc (.cells #[.int .i64 7, .int .i64 sn, .int .i64 k, .string (cutB t Z sn)] 31)) (by simp)).own)
                refine F_start 10 (fun w' => w'.cell? ⟨pa, 0, none⟩ = some (.int .i64 7) ∧ w'.cell? ⟨pa, 1, none⟩ = some (.int .i64 sn) ∧ w'.cell? ⟨pa, 2, none⟩ = some (.int .i64 k) ∧ w'.cell? ⟨pa, 3, none⟩ = some (.string (cutB t Z sn))) (by kernel_rfl) ?_
                have hS : w6.drew.cell? ⟨pa, 0, none⟩ = some (.int .i64 7) ∧ w6.drew.cell? ⟨pa, 1, none⟩ = some (.int .i64 sn) ∧ w6.drew.cell? ⟨pa, 2, none⟩ = some (.int .i64 k) ∧ w6.drew.cell? ⟨pa, 3, none⟩ = some (.string (cutB t Z sn)) := ⟨by rw [PA.out.drew.cell]; rfl, by rw [PA.out.drew.cell]; rfl, by rw [PA.out.drew.cell]; rfl, by rw [PA.out.drew.cell]; rfl⟩
                refine F_take (i := 0) [9, 3] (v := ?_) rfl (by kernel_rfl) (by kernel_rfl) (by kernel_rfl) (by kernel_rfl) (fun _ _ _ h => h) rfl ?_ hS ?_
                rotate_left
                · intro w hSw
                  try dsimp only at hSw
                  go_simp
                  try with_reducible rfl
                try simp only [Act.put, List.setIfInBounds_toArray, List.set_cons_zero, List.set_cons_succ]
                refine F_take (i := 1) [9, 3, 2] (v := ?_) rfl (by kernel_rfl) (by kernel_rfl) (by kernel_rfl) (by kernel_rfl) (fun _ _ _ h => h) rfl ?_ hS ?_
                rotate_left
                · intro w hSw
                  try dsimp only at hSw
                  go_simp
                  try with_reducible rfl
                try simp only [Act.put, List.setIfInBounds_toArray, List.set_cons_zero, List.set_cons_succ]
                refine F_take (i := 4) [8] (v := ?_) rfl (by kernel_rfl) (by kernel_rfl) (by kernel_rfl) (by kernel_rfl) (fun _ _ _ h => h) rfl ?_ hS ?_
                rotate_left
                · intro w hSw
                  try dsimp only at hSw
                  go_simp
                  try with_reducible rfl
                try simp only [Act.put, List.setIfInBounds_toArray, List.set_cons_zero, List.set_cons_succ]
                refine F_take (i := 5) [8, 7, 6] (v := ?_) rfl (by kernel_rfl) (by kernel_rfl) (by kernel_rfl) (by kernel_rfl) (fun _ _ _ h => h) rfl ?_ hS ?_
                rotate_left
                · intro w hSw
                  try dsimp only at hSw
                  go_simp
                  try with_reducible rfl
                try simp only [Act.put, List.setIfInBounds_toArray, List.set_cons_zero, List.set_cons_succ]
                refine F_take (i := 6) [8, 7] (v := ?_) rfl (by kernel_rfl) (by kernel_rfl) (by kernel_rfl) (by kernel_rfl) (fun _ _ _ h => h) rfl ?_ hS ?_
                rotate_left
                · intro w hSw
                  try dsimp only at hSw
                  go_simp
                  try with_reducible rfl
                try simp only [Act.put, List.setIfInBounds_toArray, List.set_cons_zero, List.set_cons_succ]
                refine F_take (i := 7) [8] (v := ?_) rfl (by kernel_rfl) (by kernel_rfl) (by kernel_rfl) (by kernel_rfl) (fun _ _ _ h => h) rfl ?_ hS ?_
                rotate_left
                · intro w hSw
                  try dsimp only at hSw
                  go_simp
                  try with_reducible rfl
                try simp only [Act.put, List.setIfInBounds_toArray, List.set_cons_zero, List.set_cons_succ]
                refine F_take (i := 8) [] (v := ?_) rfl (by kernel_rfl) (by kernel_rfl) (by kernel_rfl) (by kernel_rfl) (fun _ _ _ h => h) rfl ?_ hS ?_
                rotate_left
                · intro w hSw
                  try dsimp only at hSw
                  go_simp
                  try with_reducible rfl
                try simp only [Act.put, List.setIfInBounds_toArray, List.set_cons_zero, List.set_cons_succ]
                refine F_step (i := 2) rfl (by kernel_rfl) (fun K hK => ?_)
                go_simp
                clear hS
                have PB := PA.out.drew.alloc (.cells #[.int .i64 7, .int .i64 sn, .int .i64 k, .string (cutB t Z sn)] 31)
                have hS : (w6.drew.alloc (.cells #[.int .i64 7, .int .i64 sn, .int .i64 k, .string (cutB t Z sn)] 31)).cell? ⟨pa, 0, none⟩ = some (.int .i64 7) ∧ (w6.drew.alloc (.cells #[.int .i64 7, .int .i64 sn, .int .i64 k, .string (cutB t Z sn)] 31)).cell? ⟨pa, 1, none⟩ = some (.int .i64 sn) ∧ (w6.drew.alloc (.cells #[.int .i64 7, .int .i64 sn, .int .i64 k, .string (cutB t Z sn)] 31)).cell? ⟨pa, 2, none⟩ = some (.int .i64 k) ∧ (w6.drew.alloc (.cells #[.int .i64 7, .int .i64 sn, .int .i64 k, .string (cutB t Z sn)] 31)).cell? ⟨pa, 3, none⟩ = some (.string (cutB t Z sn)) := ⟨by rw [PB.cell]; rfl, by rw [PB.cell]; rfl, by rw [PB.cell]; rfl, by rw [PB.cell]; rfl⟩
                refine hK.out _ _ (Or.inr hS) ?_
                clear hK K
                try simp only [Act.put, List.setIfInBounds_toArray, List.set_cons_zero, List.set_cons_succ]
                refine F_step (i := 3) rfl (by kernel_rfl) (fun K hK => ?_)
                have OW2 := OW.out
                rw [mail_len] at OW2
                refine step_append_own rfl (.tmp 80) (.tmp 82) 22 rfl WB 31 i31 (.agg #[.int .i64 0, .int .i64 0, .int .i64 0, .string ⟨#[]⟩]) 4 40 Try.underlying22 h31.out.1 h31.out.2.1 h31.out.2.2.1 h31.out.2.2.2 rfl (by decide) (.slice mg ml.length mc) ml.length (flat (mailC t Z k ml)) (by simp [Act.eval]) OW2 ⟨w6.heap.size, 0, none⟩ 1 1 (pcN t Z k sn).cells.toList (by simp [Act.eval]) rfl (news_at (R := (pcN t Z k sn).cells) (Blk.new w6.drew 31 _)) (by intro u hu; exact pc_one (pcN t Z k sn) u (by simpa using hu)) (by unfold maxLen; omega) (by omega) hb6.out ?_
                intro v7 w7 hown hgr hnil
                obtain ⟨g7, c7, rfl⟩ := own_slice hown
                have M7 := hide (mail_push hown)
                have ku : Upd w6 w7 (blkOf (.slice mg ml.length mc)) := (((Upd.refl w6 []).drew.alloc (.cells #[.int .i64 7, .int .i64 sn, .int .i64 k, .string (cutB t Z sn)] 31)).mono (S' := blkOf (.slice mg ml.length mc)) (by simp)).trans (Upd.of_grown (S := blkOf (.slice mg ml.length mc)) hgr (by intro q hq _; simp [blkOf, hq])) (fun q hq _ => hq)
                have o6 := Of.row M6.out
                have T7 := hide (T6.out.updT o6 ku (by decide))
                have R7 := hide (R6.out.updT o6 ku (by decide) (by decide))
                have HS7 := hide (HS6.out.updT o6 ku (by decide) (by decide) (by decide))
                have U7 := hide (U6.out.trans ku (fun q hq hlq => by have := M6.out.ge q hq; have := hWB.out; omega))
                have PC := ku.blk PA.out mp.out
                clear hS
                have hS : w7.cell? ⟨pa, 0, none⟩ = some (.int .i64 7) ∧ w7.cell? ⟨pa, 1, none⟩ = some (.int .i64 sn) ∧ w7.cell? ⟨pa, 2, none⟩ = some (.int .i64 k) ∧ w7.cell? ⟨pa, 3, none⟩ = some (.string (cutB t Z sn)) := ⟨by rw [PC.cell]; rfl, by rw [PC.cell]; rfl, by rw [PC.cell]; rfl, by rw [PC.cell]; rfl⟩
                clear hown hgr hnil OW2 ku o6 PB PC
                refine hK.out _ _ (Or.inr hS) ?_
                clear hK K
                try simp only [Act.put, List.setIfInBounds_toArray, List.set_cons_zero, List.set_cons_succ]
                refine F_step (i := 9) rfl (by kernel_rfl) (fun K hK => ?_)
                go_simp
                refine hK.out _ _ (Or.inr hS) ?_
                clear hK K
                try simp only [Act.put, List.setIfInBounds_toArray, List.set_cons_zero, List.set_cons_succ]
                refine F_step (i := 10) rfl (by kernel_rfl) (fun K hK => ?_)
                go_simp
                refine hK.out _ _ (Or.inl rfl) ?_
                clear hK K
                try simp only [Act.put, List.setIfInBounds_toArray, List.set_cons_zero, List.set_cons_succ]
                refine F_done (by kernel_rfl) ?_ _
                clear hS M6 T6 R6 HS6 U6 OW hb6 W6 mp PA
                have M := hide (show RowOf w7 WB 31 4 _ (mailC t Z k (ml ++ [sn])) from M7.out)
                have T := T7
                have R := R7
                have HS := HS7
                have UZ := U7
                have HML := hide (show ∀ a ∈ ml ++ [sn], a < sy from fun a ha => by
                  rcases List.mem_append.1 ha with ha | ha
                  · have := hml.out a ha; omega
                  · simp at ha; omega)
                have HTL := htl
                have hs1 : (sn : Int) + 1 = ((sn + 1 : Nat) : Int) := by omega
                rw [hs1] at HS
                clear M7 T7 R7 HS7 U7 hml htl wsn hs1
                go_wp2_with fail
                try go_simp
                go_meet
                exact ⟨hv, (sn + 1), m, sy, id, total, ps, rv, (ml ++ [sn]), tl, rfl, rfl, M.out, T.out, R.out, G.out, HS.out, by omega, by omega, by omega, by omega, by omega, HML.out, HTL.out, by simp; omega, by omega, UZ.out⟩
          · skip
            by_cases e2 : o % 8 = 2
            · as_aux_lemma =>
                have g0 : ((o : Int) % 8 == 0) = false := beq_false_of_ne (by omega)
                have g1 : ((o : Int) % 8 == 1) = false := beq_false_of_ne (by omega)
                have g2 : ((o : Int) % 8 == 2) = true := by simp; omega
                replace e0 := hide e0
                replace e1 := hide e1
                replace e2 := hide e2
                by_cases hno : (k : Int) ≤ (sn : Int) ∨ (W : Int) ≤ (sn : Int) - (hv : Int)
                · skip
                  have NX := hide (next_no HS.out (by omega) (by omega) (by omega) (by omega) (by omega) hno)
                  clear hno
                  go_wp2_with fail
                  refine NX.out.mono ?_
                  rintro e w5 ⟨rfl, kk⟩
                  have k3 := hide (kk.alloc (.cells #[.int .i64 0, .int .i64 0, .int .i64 0, .string ⟨#[]⟩] 31))
                  have M5 := hide (M.out.upd k3.out (by simp))
                  have T5 := hide (T.out.upd k3.out (by simp))
                  have R5 := hide (R.out.upd0 k3.out)
                  have HS5 := hide (HS.out.upd0 k3.out)
                  have U5 := hide (hu.out.trans k3.out (by simp))
                  clear NX M T R HS hu kk k3
                  have M := M5
                  have T := T5
                  have R := R5
                  have HS := HS5
                  have UZ := U5
                  have HML := hml
                  have HTL := htl
                  clear M5 T5 R5 HS5 U5 hml htl
                  go_wp2_with fail
                  try go_simp
                  go_meet
                  exact ⟨hv, sn, m, sx, id, total, ps, rv, ml, tl, rfl, rfl, M.out, T.out, R.out, G.out, HS.out, by omega, by omega, by omega, by omega, by omega, HML.out, HTL.out, by omega, by omega, UZ.out⟩
                · skip
                  have hsk : sn < k := by omega
                  have hsw : (sn : Int) - (hv : Int) < (W : Int) := by omega
                  clear hno
                  have NX := hide (next_ok sn HS.out (by omega) (by omega) (by omega) hsk hsw)
                  go_wp2_with fail
                  refine NX.out.mono ?_
                  rintro e w5 ⟨rfl, HS5, kk⟩
                  have o5 := HS.out.of
                  have M5 := M.out.updT o5 kk (by decide)
                  have T5 := T.out.updT o5 kk (by decide)
                  have R5 := R.out.updT o5 kk (by decide) (by decide)
                  have U5 := hu.out.trans kk (fun q hq hlq => by simp at hq; have := lrs.out; have := hWB.out; omega)
                  have k3 := (Upd.refl w5 []).alloc (.cells #[.int .i64 7, .int .i64 sn, .int .i64 k, .string (cutB t Z sn)] 31)
                  have mlt := M5.lt_
                  have M6 := hide (M5.upd k3 (by simp))
                  have T6 := hide (T5.upd k3 (by simp))
                  have R6 := hide (R5.upd0 k3)
                  have HS6 := hide (HS5.upd0 k3)
                  have U6 := hide (U5.trans k3 (by simp))
                  have PA := hide (Blk.new w5 31 #[.int .i64 7, .int .i64 sn, .int .i64 k, .string (cutB t Z sn)])
                  have mp := hide (show w5.heap.size ∉ blkOf (.slice mg ml.length mc) from fun h => absurd (mlt _ h) (Nat.lt_irrefl _))
                  clear NX M T R HS hu kk HS5 o5 M5 T5 R5 U5 k3 mlt
                  go_upto_region 20 with fail
                  generalize w5.alloc (.cells #[.int .i64 7, .int .i64 sn, .int .i64 k, .string (cutB t Z sn)] 31) = w6 at *
                  generalize w5.heap.size = pa at *
                  go_upto_region 21 with fail
                  have wsn : IntKind.i64.wrap ((sn : Int) + 1) = (sn : Int) + 1 := IntWalk.i64_in _ (by omega)
                  have hmax : (if (sx : Int) < (sn : Int) + 1 then (sn : Int) + 1 else (sx : Int)) = ((max sx (sn + 1) : Nat) : Int) := by split <;> omega
                  have hmax2 : max (sx : Int) ((sn : Int) + 1) = ((max sx (sn + 1) : Nat) : Int) := by omega
                  obtain ⟨sy, hsy⟩ : ∃ sy, max sx (sn + 1) = sy := ⟨_, rfl⟩
                  have sy1 : sx ≤ sy := by omega
                  have sy2 : sn < sy := by omega
                  have sy3 : sy ≤ k := by omega
                  rw [hsy] at hmax hmax2
                  clear hsy
                  have W6 := U6.out.size
                  have hb6 := hide (show WB ≤ (w6.drew.alloc (.cells #[.int .i64 7, .int .i64 sn, .int .i64 k, .string (cutB t Z sn)] 31)).heap.size by have := hWB.out; simp; omega)
                  have OW := hide ((M6.out.upd ((Upd.refl w6 []).drew.alloc (.cells #[.int .i64 7, .int .i64 sn, .int .i64 k, .string (cutB t Z sn)] 31)) (by simp)).own)
                  refine F_start 10 (fun w' => w'.cell? ⟨pa, 0, none⟩ = some (.int .i64 7) ∧ w'.cell? ⟨pa, 1, none⟩ = some (.int .i64 sn) ∧ w'.cell? ⟨pa, 2, none⟩ = some (.int .i64 k) ∧ w'.cell? ⟨pa, 3, none⟩ = some (.string (cutB t Z sn))) (by kernel_rfl) ?_
                  have hS : w6.drew.cell? ⟨pa, 0, none⟩ = some (.int .i64 7) ∧ w6.drew.cell? ⟨pa, 1, none⟩ = some (.int .i64 sn) ∧ w6.drew.cell? ⟨pa, 2, none⟩ = some (.int .i64 k) ∧ w6.drew.cell? ⟨pa, 3, none⟩ = some (.string (cutB t Z sn)) := ⟨by rw [PA.out.drew.cell]; rfl, by rw [PA.out.drew.cell]; rfl, by rw [PA.out.drew.cell]; rfl, by rw [PA.out.drew.cell]; rfl⟩
                  refine F_take (i := 0) [9, 3] (v := ?_) rfl (by kernel_rfl) (by kernel_rfl) (by kernel_rfl) (by kernel_rfl) (fun _ _ _ h => h) rfl ?_ hS ?_
                  rotate_left
                  · intro w hSw
                    try dsimp only at hSw
                    go_simp
                    try with_reducible rfl
                  try simp only [Act.put, List.setIfInBounds_toArray, List.set_cons_zero, List.set_cons_succ]
                  refine F_take (i := 1) [9, 3, 2] (v := ?_) rfl (by kernel_rfl) (by kernel_rfl) (by kernel_rfl) (by kernel_rfl) (fun _ _ _ h => h) rfl ?_ hS ?_
                  rotate_left
                  · intro w hSw
                    try dsimp only at hSw
                    go_simp
                    try with_reducible rfl
                  try simp only [Act.put, List.setIfInBounds_toArray, List.set_cons_zero, List.set_cons_succ]
                  refine F_take (i := 4) [8] (v := ?_) rfl (by kernel_rfl) (by kernel_rfl) (by kernel_rfl) (by kernel_rfl) (fun _ _ _ h => h) rfl ?_ hS ?_
                  rotate_left
                  · intro w hSw
                    try dsimp only at hSw
                    go_simp
                    try with_reducible rfl
                  try simp only [Act.put, List.setIfInBounds_toArray, List.set_cons_zero, List.set_cons_succ]
                  refine F_take (i := 5) [8, 7, 6] (v := ?_) rfl (by kernel_rfl) (by kernel_rfl) (by kernel_rfl) (by kernel_rfl) (fun _ _ _ h => h) rfl ?_ hS ?_
                  rotate_left
                  · intro w hSw
                    try dsimp only at hSw
                    go_simp
                    try with_reducible rfl
                  try simp only [Act.put, List.setIfInBounds_toArray, List.set_cons_zero, List.set_cons_succ]
                  refine F_take (i := 6) [8, 7] (v := ?_) rfl (by kernel_rfl) (by kernel_rfl) (by kernel_rfl) (by kernel_rfl) (fun _ _ _ h => h) rfl ?_ hS ?_
                  rotate_left
                  · intro w hSw
                    try dsimp only at hSw
                    go_simp
                    try with_reducible rfl
                  try simp only [Act.put, List.setIfInBounds_toArray, List.set_cons_zero, List.set_cons_succ]
                  refine F_take (i := 7) [8] (v := ?_) rfl (by kernel_rfl) (by kernel_rfl) (by kernel_rfl) (by kernel_rfl) (fun _ _ _ h => h) rfl ?_ hS ?_
                  rotate_left
                  · intro w hSw
                    try dsimp only at hSw
                    go_simp
                    try with_reducible rfl
                  try simp only [Act.put, List.setIfInBounds_toArray, List.set_cons_zero, List.set_cons_succ]
                  refine F_take (i := 8) [] (v := ?_) rfl (by kernel_rfl) (by kernel_rfl) (by kernel_rfl) (by kernel_rfl) (fun _ _ _ h => h) rfl ?_ hS ?_
                  rotate_left
                  · intro w hSw
                    try dsimp only at hSw
                    go_simp
                    try with_reducible rfl
                  try simp only [Act.put, List.setIfInBounds_toArray, List.set_cons_zero, List.set_cons_succ]
                  refine F_step (i := 2) rfl (by kernel_rfl) (fun K hK => ?_)
                  go_simp
                  clear hS
                  have PB := PA.out.drew.alloc (.cells #[.int .i64 7, .int .i64 sn, .int .i64 k, .string (cutB t Z sn)] 31)
                  have hS : (w6.drew.alloc (.cells #[.int .i64 7, .int .i64 sn, .int .i64 k, .string (cutB t Z sn)] 31)).cell? ⟨pa, 0, none⟩ = some (.int .i64 7) ∧ (w6.drew.alloc (.cells #[.int .i64 7, .int .i64 sn, .int .i64 k, .string (cutB t Z sn)] 31)).cell? ⟨pa, 1, none⟩ = some (.int .i64 sn) ∧ (w6.drew.alloc (.cells #[.int .i64 7, .int .i64 sn, .int .i64 k, .string (cutB t Z sn)] 31)).cell? ⟨pa, 2, none⟩ = some (.int .i64 k) ∧ (w6.drew.alloc (.cells #[.int .i64 7, .int .i64 sn, .int .i64 k, .string (cutB t Z sn)] 31)).cell? ⟨pa, 3, none⟩ = some (.string (cutB t Z sn)) := ⟨by rw [PB.cell]; rfl, by rw [PB.cell]; rfl, by rw [PB.cell]; rfl, by rw [PB.cell]; rfl⟩
                  refine hK.out _ _ (Or.inr hS) ?_
                  clear hK K
                  try simp only [Act.put, List.setIfInBounds_toArray, List.set_cons_zero, List.set_cons_succ]
                  refine F_step (i := 3) rfl (by kernel_rfl) (fun K hK => ?_)
                  have OW2 := OW.out
                  rw [mail_len] at OW2
                  refine step_append_own rfl (.tmp 80) (.tmp 82) 22 rfl WB 31 i31 (.agg #[.int .i64 0, .int .i64 0, .int .i64 0, .string ⟨#[]⟩]) 4 40 Try.underlying22 h31.out.1 h31.out.2.1 h31.out.2.2.1 h31.out.2.2.2 rfl (by decide) (.slice mg ml.length mc) ml.length (flat (mailC t Z k ml)) (by simp [Act.eval]) OW2 ⟨w6.heap.size, 0, none⟩ 1 1 (pcN t Z k sn).cells.toList (by simp [Act.eval]) rfl (news_at (R := (pcN t Z k sn).cells) (Blk.new w6.drew 31 _)) (by intro u hu; exact pc_one (pcN t Z k sn) u (by simpa using hu)) (by unfold maxLen; omega) (by omega) hb6.out ?_
                  intro v7 w7 hown hgr hnil
                  obtain ⟨g7, c7, rfl⟩ := own_slice hown
                  have M7 := hide (mail_push hown)
                  have ku : Upd w6 w7 (blkOf (.slice mg ml.length mc)) := (((Upd.refl w6 []).drew.alloc (.cells #[.int .i64 7, .int .i64 sn, .int .i64 k, .string (cutB t Z sn)] 31)).mono (S' := blkOf (.slice mg ml.length mc)) (by simp)).trans (Upd.of_grown (S := blkOf (.slice mg ml.length mc)) hgr (by intro q hq _; simp [blkOf, hq])) (fun q hq _ => hq)
                  have o6 := Of.row M6.out
                  have T7 := hide (T6.out.updT o6 ku (by decide))
                  have R7 := hide (R6.out.updT o6 ku (by decide) (by decide))
                  have HS7 := hide (HS6.out.updT o6 ku (by decide) (by decide) (by decide))
                  have U7 := hide (U6.out.trans ku (fun q hq hlq => by have := M6.out.ge q hq; have := hWB.out; omega))
                  have PC := ku.blk PA.out mp.out
                  clear hS
                  have hS : w7.cell? ⟨pa, 0, none⟩ = some (.int .i64 7) ∧ w7.cell? ⟨pa, 1, none⟩ = some (.int .i64 sn) ∧ w7.cell? ⟨pa, 2, none⟩ = some (.int .i64 k) ∧ w7.cell? ⟨pa, 3, none⟩ = some (.string (cutB t Z sn)) := ⟨by rw [PC.cell]; rfl, by rw [PC.cell]; rfl, by rw [PC.cell]; rfl, by rw [PC.cell]; rfl⟩
                  clear hown hgr hnil OW2 ku o6 PB PC
                  refine hK.out _ _ (Or.inr hS) ?_
                  clear hK K
                  try simp only [Act.put, List.setIfInBounds_toArray, List.set_cons_zero, List.set_cons_succ]
                  refine F_step (i := 9) rfl (by kernel_rfl) (fun K hK => ?_)
                  go_simp
                  refine hK.out _ _ (Or.inr hS) ?_
                  clear hK K
                  try simp only [Act.put, List.setIfInBounds_toArray, List.set_cons_zero, List.set_cons_succ]
                  refine F_step (i := 10) rfl (by kernel_rfl) (fun K hK => ?_)
                  go_simp
                  refine hK.out _ _ (Or.inl rfl) ?_
                  clear hK K
                  try simp only [Act.put, List.setIfInBounds_toArray, List.set_cons_zero, List.set_cons_succ]
                  refine F_done (by kernel_rfl) ?_ _
                  clear hS M6 T6 R6 HS6 U6 OW hb6 W6 mp PA
                  have M := hide (show RowOf w7 WB 31 4 _ (mailC t Z k (ml ++ [sn])) from M7.out)
                  have T := T7
                  have R := R7
                  have HS := HS7
                  have UZ := U7
                  have HML := hide (show ∀ a ∈ ml ++ [sn], a < sy from fun a ha => by
                    rcases List.mem_append.1 ha with ha | ha
                    · have := hml.out a ha; omega
                    · simp at ha; omega)
                  have HTL := htl
                  have hs1 : (sn : Int) + 1 = ((sn + 1 : Nat) : Int) := by omega
                  rw [hs1] at HS
                  clear M7 T7 R7 HS7 U7 hml htl wsn hs1
                  go_wp2_with fail
                  try go_simp
                  go_meet
                  exact ⟨hv, (sn + 1), m, sy, id, total, ps, rv, (ml ++ [sn]), tl, rfl, rfl, M.out, T.out, R.out, G.out, HS.out, by omega, by omega, by omega, by omega, by omega, HML.out, HTL.out, by simp; omega, by omega, UZ.out⟩
            · skip
              by_cases e3 : o % 8 = 3
              · as_aux_lemma =>
                  have g0 : ((o : Int) % 8 == 0) = false := beq_false_of_ne (by omega)
                  have g1 : ((o : Int) % 8 == 1) = false := beq_false_of_ne (by omega)
                  have g2 : ((o : Int) % 8 == 2) = false := beq_false_of_ne (by omega)
                  have g3 : ((o : Int) % 8 == 3) = true := by simp; omega
                  replace e0 := hide e0
                  replace e1 := hide e1
                  replace e2 := hide e2
                  replace e3 := hide e3
                  by_cases ml0 : ml.length = 0
                  · skip
                    have dt : decide ((0 : Int) < (ml.length : Int)) = false := decide_eq_false (by omega)
                    have dtN : decide (0 < ml.length) = false := decide_eq_false (by omega)
                    replace ml0 := hide ml0
                    have UZ := hu
                    have HML := hml
                    have HTL := htl
                    clear hml htl hu
                    go_wp2_with fail
                    try go_simp
                    go_meet
                    exact ⟨hv, sn, m, sx, id, total, ps, rv, ml, tl, rfl, rfl, M.out, T.out, R.out, G.out, HS.out, by omega, by omega, by omega, by omega, by omega, HML.out, HTL.out, by omega, by omega, UZ.out⟩
                  · skip
                    have dt : decide ((0 : Int) < (ml.length : Int)) = true := decide_eq_true (by omega)
                    have dtN : decide (0 < ml.length) = true := decide_eq_true (by omega)
                    have tz : ((ml.length : Int) == 0) = false := beq_false_of_ne (by omega)
                    obtain ⟨q, hq⟩ : ∃ q, n % ml.length = q := ⟨_, rfl⟩
                    have hql : q < ml.length := by rw [← hq]; exact Nat.mod_lt _ (by omega)
                    have em : (n : Int) % (ml.length : Int) = (q : Int) := by rw [← hq]; rfl
                    have em2 : (n : Int).tmod (ml.length : Int) = (q : Int) := by rw [← hq]; rfl
                    have wq : IntKind.i64.wrap (q : Int) = (q : Int) := IntWalk.i64_in _ (by omega)
                    have hqi : (q : Int) < (ml.length : Int) := by omega
                    obtain ⟨g, rfl⟩ := mgp.out (by omega)
                    have AG := mail_at M.out hql
                    have y0 : wr.cell? ⟨g, q * 4, none⟩ = some (.int .i64 7) := AG 0 (by decide)
                    have y1 : wr.cell? ⟨g, q * 4 + 1, none⟩ = some (.int .i64 (ml[q] : Int)) := AG 1 (by decide)
                    have y2 : wr.cell? ⟨g, q * 4 + 2, none⟩ = some (.int .i64 (k : Int)) := AG 2 (by decide)
                    have y3 : wr.cell? ⟨g, q * 4 + 3, none⟩ = some (.string (cutB t Z ml[q])) := AG 3 (by decide)
                    clear AG
                    have hlt : ml[q] < sx := hml.out _ (List.getElem_mem hql)
                    generalize ml[q] = av at *
                    obtain ⟨m', n1', n2', n3', b1, b2, b3⟩ := G.out.take (a := av) (by omega) k4 (by omega)
                    have b4 : m' ≤ sx := by
                      by_cases h : m' = m + 1
                      · have := b3 h; omega
                      · omega
                    clear b3
                    have TK := take_ok (pcN t Z k av) wr R.out (by have := R.out.head.lt; omega) (by have := G.out.len; omega)
                    rw [n1', n2'] at TK
                    rw [n1'] at n3'
                    replace TK := hide TK
                    replace n1' := hide n1'
                    replace n2' := hide n2'
                    replace n3' := hide n3'
                    have wm : IntKind.i64.wrap ((m : Int) + 1) = (m : Int) + 1 := IntWalk.i64_in _ (by omega)
                    have d1 : decide ((m' : Int) < (m : Int)) = false := decide_eq_false (by omega)
                    have d2 : decide ((m : Int) + 1 < (m' : Int)) = false := decide_eq_false (by omega)
                    have d3 : decide ((sx : Int) < (m' : Int)) = false := decide_eq_false (by omega)
                    clear hq ml0
                    go_wp2_with fail
                    refine TK.out.mono ?_
                    rintro e w5 ⟨rv2, rfl, R5, kk, _⟩
                    have o5 := R.out.of
                    have M5 := hide (M.out.updT o5 kk (by decide))
                    have T5 := hide (T.out.updT o5 kk (by decide))
                    have HS5 := hide (HS.out.updT o5 kk (by decide) (by decide) (by decide))
                    have U5 := hide (hu.out.trans kk (fun q hq hlq => absurd hq (R.out.past q (by have := lw2.out; have := hWB.out; omega))))
                    replace R5 := hide R5
                    clear TK HS M T R hu o5 kk y0 y1 y2 y3 em em2 wq G
                    have W5 := U5.out.size
                    have hb5 := hide (show WB ≤ (w5.alloc (.cells #[.int .i64 m'] 3)).heap.size by have := hWB.out; simp; omega)
                    have OW := (T5.out.upd ((Upd.refl w5 []).alloc (.cells #[.int .i64 m'] 3)) (by simp)).own
                    rw [tell_len] at OW
                    replace OW := hide OW
                    go_upto_region 29 with fail
                    go_wp2_with (at_builtin; refine wpList_append_own _ rfl (.tmp 126) (.tmp 128) 69 rfl WB 3 i3 (.int .i64 0) 1 8 Try.underlying69 h3.out.1 h3.out.2.1 h3.out.2.2.1 h3.out.2.2.2 rfl (by decide) (.slice tg tl.length tc) tl.length (flat (tellC tl)) (by simp [Act.eval]) OW.out ⟨w5.heap.size, 0, none⟩ 1 1 [.int .i64 m'] (by simp [Act.eval]) rfl (news_at (R := #[.int .i64 m']) (Blk.new w5 3 _)) (by intro u hu; simp at hu; subst hu; rfl) (by unfold maxLen; omega) (by omega) hb5.out ?_)
                    intro v7 w7 hown hgr hnil
                    obtain ⟨g7, c7, rfl⟩ := own_slice hown
                    have T7 := hide (tell_push (a := m') hown)
                    have ku : Upd w5 w7 (blkOf (.slice tg tl.length tc)) := (((Upd.refl w5 []).alloc (.cells #[.int .i64 m'] 3)).mono (S' := blkOf (.slice tg tl.length tc)) (by simp)).trans (Upd.of_grown (S := blkOf (.slice tg tl.length tc)) hgr (by intro q hq _; simp [blkOf, hq])) (fun q hq _ => hq)
                    have o6 := Of.row T5.out
                    have M7 := hide (M5.out.updT o6 ku (by decide))
                    have R7 := hide (R5.out.updT o6 ku (by decide) (by decide))
                    have HS7 := hide (HS5.out.updT o6 ku (by decide) (by decide) (by decide))
                    have UZ := hide (U5.out.trans ku (fun q hq hlq => by have := T5.out.ge q hq; have := hWB.out; omega))
                    clear hown hgr hnil OW ku o6 M5 T5 R5 HS5 U5 W5 hb5
                    have M := M7
                    have T := T7
                    have R := R7
                    have HS := HS7
                    have G := n3'
                    have HML := hml
                    have HTL := hide (show ∀ a ∈ tl ++ [m'], a ≤ m' from fun a ha => by
                      rcases List.mem_append.1 ha with ha | ha
                      · have := htl.out a ha; omega
                      · simp at ha; omega)
                    clear M7 T7 R7 HS7 hml htl n3'
                    go_wp2_with fail
                    try go_simp
                    go_meet
                    exact ⟨hv, sn, m', sx, _, _, _, rv2, ml, (tl ++ [m']), rfl, rfl, M.out, T.out, R.out, G.out, HS.out, by omega, by omega, by omega, by omega, by omega, HML.out, HTL.out, by omega, by simp; omega, UZ.out⟩
              · skip
                by_cases e4 : o % 8 = 4
                · as_aux_lemma =>
                    have g0 : ((o : Int) % 8 == 0) = false := beq_false_of_ne (by omega)
                    have g1 : ((o : Int) % 8 == 1) = false := beq_false_of_ne (by omega)
                    have g2 : ((o : Int) % 8 == 2) = false := beq_false_of_ne (by omega)
                    have g3 : ((o : Int) % 8 == 3) = false := beq_false_of_ne (by omega)
                    have g4 : ((o : Int) % 8 == 4) = true := by simp; omega
                    replace e0 := hide e0
                    replace e1 := hide e1
                    replace e2 := hide e2
                    replace e3 := hide e3
                    replace e4 := hide e4
                    by_cases ml0 : ml.length = 0
                    · skip
                      have dt : decide ((0 : Int) < (ml.length : Int)) = false := decide_eq_false (by omega)
                      have dtN : decide (0 < ml.length) = false := decide_eq_false (by omega)
                      replace ml0 := hide ml0
                      have UZ := hu
                      have HML := hml
                      have HTL := htl
                      clear hml htl hu
                      go_wp2_with fail
                      try go_simp
                      go_meet
                      exact ⟨hv, sn, m, sx, id, total, ps, rv, ml, tl, rfl, rfl, M.out, T.out, R.out, G.out, HS.out, by omega, by omega, by omega, by omega, by omega, HML.out, HTL.out, by omega, by omega, UZ.out⟩
                    · skip
                      have dt : decide ((0 : Int) < (ml.length : Int)) = true := decide_eq_true (by omega)
                      have dtN : decide (0 < ml.length) = true := decide_eq_true (by omega)
                      have tz : ((ml.length : Int) == 0) = false := beq_false_of_ne (by omega)
                      obtain ⟨q, hq⟩ : ∃ q, n % ml.length = q := ⟨_, rfl⟩
                      have hql : q < ml.length := by rw [← hq]; exact Nat.mod_lt _ (by omega)
                      have em : (n : Int) % (ml.length : Int) = (q : Int) := by rw [← hq]; rfl
                      have em2 : (n : Int).tmod (ml.length : Int) = (q : Int) := by rw [← hq]; rfl
                      have wq : IntKind.i64.wrap (q : Int) = (q : Int) := IntWalk.i64_in _ (by omega)
                      have hqi : (q : Int) < (ml.length : Int) := by omega
                      obtain ⟨g, rfl⟩ := mgp.out (by omega)
                      have AG := mail_at M.out hql
                      have y0 : wr.cell? ⟨g, q * 4, none⟩ = some (.int .i64 7) := AG 0 (by decide)
                      have y1 : wr.cell? ⟨g, q * 4 + 1, none⟩ = some (.int .i64 (ml[q] : Int)) := AG 1 (by decide)
                      have y2 : wr.cell? ⟨g, q * 4 + 2, none⟩ = some (.int .i64 (k : Int)) := AG 2 (by decide)
                      have y3 : wr.cell? ⟨g, q * 4 + 3, none⟩ = some (.string (cutB t Z ml[q])) := AG 3 (by decide)
                      clear AG
                      have hlt : ml[q] < sx := hml.out _ (List.getElem_mem hql)
                      generalize ml[q] = av at *
                      obtain ⟨m', n1', n2', n3', b1, b2, b3⟩ := G.out.take (a := av) (by omega) k4 (by omega)
                      have b4 : m' ≤ sx := by
                        by_cases h : m' = m + 1
                        · have := b3 h; omega
                        · omega
                      clear b3
                      have TK := take_ok (pcN t Z k av) wr R.out (by have := R.out.head.lt; omega) (by have := G.out.len; omega)
                      rw [n1', n2'] at TK
                      rw [n1'] at n3'
                      replace TK := hide TK
                      replace n1' := hide n1'
                      replace n2' := hide n2'
                      replace n3' := hide n3'
                      have wm : IntKind.i64.wrap ((m : Int) + 1) = (m : Int) + 1 := IntWalk.i64_in _ (by omega)
                      have d1 : decide ((m' : Int) < (m : Int)) = false := decide_eq_false (by omega)
                      have d2 : decide ((m : Int) + 1 < (m' : Int)) = false := decide_eq_false (by omega)
                      have d3 : decide ((sx : Int) < (m' : Int)) = false := decide_eq_false (by omega)
                      clear hq ml0
                      go_wp2_with fail
                      refine TK.out.mono ?_
                      rintro e w5 ⟨rv2, rfl, R5, kk, _⟩
                      have o5 := R.out.of
                      have M5 := hide (M.out.updT o5 kk (by decide))
                      have T5 := hide (T.out.updT o5 kk (by decide))
                      have HS5 := hide (HS.out.updT o5 kk (by decide) (by decide) (by decide))
                      have U5 := hide (hu.out.trans kk (fun q hq hlq => absurd hq (R.out.past q (by have := lw2.out; have := hWB.out; omega))))
                      replace R5 := hide R5
                      clear TK HS M T R hu o5 kk y0 y1 y2 y3 em em2 wq G
                      have W5 := U5.out.size
                      have hb5 := hide (show WB ≤ (w5.alloc (.cells #[.int .i64 m'] 3)).heap.size by have := hWB.out; simp; omega)
                      have OW := (T5.out.upd ((Upd.refl w5 []).alloc (.cells #[.int .i64 m'] 3)) (by simp)).own
                      rw [tell_len] at OW
                      replace OW := hide OW
                      go_upto_region 29 with fail
                      go_wp2_with (at_builtin; refine wpList_append_own _ rfl (.tmp 126) (.tmp 128) 69 rfl WB 3 i3 (.int .i64 0) 1 8 Try.underlying69 h3.out.1 h3.out.2.1 h3.out.2.2.1 h3.out.2.2.2 rfl (by decide) (.slice tg tl.length tc) tl.length (flat (tellC tl)) (by simp [Act.eval]) OW.out ⟨w5.heap.size, 0, none⟩ 1 1 [.int .i64 m'] (by simp [Act.eval]) rfl (news_at (R := #[.int .i64 m']) (Blk.new w5 3 _)) (by intro u hu; simp at hu; subst hu; rfl) (by unfold maxLen; omega) (by omega) hb5.out ?_)
                      intro v7 w7 hown hgr hnil
                      obtain ⟨g7, c7, rfl⟩ := own_slice hown
                      have T7 := hide (tell_push (a := m') hown)
                      have ku : Upd w5 w7 (blkOf (.slice tg tl.length tc)) := (((Upd.refl w5 []).alloc (.cells #[.int .i64 m'] 3)).mono (S' := blkOf (.slice tg tl.length tc)) (by simp)).trans (Upd.of_grown (S := blkOf (.slice tg tl.length tc)) hgr (by intro q hq _; simp [blkOf, hq])) (fun q hq _ => hq)
                      have o6 := Of.row T5.out
                      have M7 := hide (M5.out.updT o6 ku (by decide))
                      have R7 := hide (R5.out.updT o6 ku (by decide) (by decide))
                      have HS7 := hide (HS5.out.updT o6 ku (by decide) (by decide) (by decide))
                      have UZ := hide (U5.out.trans ku (fun q hq hlq => by have := T5.out.ge q hq; have := hWB.out; omega))
                      clear hown hgr hnil OW ku o6 M5 T5 R5 HS5 U5 W5 hb5
                      have M := M7
                      have T := T7
                      have R := R7
                      have HS := HS7
                      have G := n3'
                      have HML := hml
                      have HTL := hide (show ∀ a ∈ tl ++ [m'], a ≤ m' from fun a ha => by
                        rcases List.mem_append.1 ha with ha | ha
                        · have := htl.out a ha; omega
                        · simp at ha; omega)
                      clear M7 T7 R7 HS7 hml htl n3'
                      go_wp2_with fail
                      try go_simp
                      go_meet
                      exact ⟨hv, sn, m', sx, _, _, _, rv2, ml, (tl ++ [m']), rfl, rfl, M.out, T.out, R.out, G.out, HS.out, by omega, by omega, by omega, by omega, by omega, HML.out, HTL.out, by omega, by simp; omega, UZ.out⟩
                · skip
                  by_cases e5 : o % 8 = 5
                  · as_aux_lemma =>
                      have g0 : ((o : Int) % 8 == 0) = false := beq_false_of_ne (by omega)
                      have g1 : ((o : Int) % 8 == 1) = false := beq_false_of_ne (by omega)
                      have g2 : ((o : Int) % 8 == 2) = false := beq_false_of_ne (by omega)
                      have g3 : ((o : Int) % 8 == 3) = false := beq_false_of_ne (by omega)
                      have g4 : ((o : Int) % 8 == 4) = false := beq_false_of_ne (by omega)
                      have g5 : ((o : Int) % 8 == 5) = true := by simp; omega
                      replace e0 := hide e0
                      replace e1 := hide e1
                      replace e2 := hide e2
                      replace e3 := hide e3
                      replace e4 := hide e4
                      replace e5 := hide e5
                      by_cases ml0 : ml.length = 0
                      · skip
                        have dt : decide ((0 : Int) < (ml.length : Int)) = false := decide_eq_false (by omega)
                        have dtN : decide (0 < ml.length) = false := decide_eq_false (by omega)
                        replace ml0 := hide ml0
                        have UZ := hu
                        have HML := hml
                        have HTL := htl
                        clear hml htl hu
                        go_wp2_with fail
                        try go_simp
                        go_meet
                        exact ⟨hv, sn, m, sx, id, total, ps, rv, ml, tl, rfl, rfl, M.out, T.out, R.out, G.out, HS.out, by omega, by omega, by omega, by omega, by omega, HML.out, HTL.out, by omega, by omega, UZ.out⟩
                      · skip
                        have dt : decide ((0 : Int) < (ml.length : Int)) = true := decide_eq_true (by omega)
                        have dtN : decide (0 < ml.length) = true := decide_eq_true (by omega)
                        have tz : ((ml.length : Int) == 0) = false := beq_false_of_ne (by omega)
                        obtain ⟨q, hq⟩ : ∃ q, n % ml.length = q := ⟨_, rfl⟩
                        have hql : q < ml.length := by rw [← hq]; exact Nat.mod_lt _ (by omega)
                        have em : (n : Int) % (ml.length : Int) = (q : Int) := by rw [← hq]; rfl
                        have em2 : (n : Int).tmod (ml.length : Int) = (q : Int) := by rw [← hq]; rfl
                        have wq : IntKind.i64.wrap (q : Int) = (q : Int) := IntWalk.i64_in _ (by omega)
                        have wq1 : IntKind.i64.wrap ((q : Int) + 1) = (q : Int) + 1 := IntWalk.i64_in _ (by omega)
                        obtain ⟨g, rfl⟩ := mgp.out (by omega)
                        obtain ⟨AD, hAD⟩ : ∃ AD : Addr, (if mc = q + 1 then some (⟨g, 0, none⟩ : Addr) else some ⟨g, (q + 1) * 4, none⟩) = some AD := by split <;> exact ⟨_, rfl⟩
                        have hs1 : ∀ W' : World, (Instr.slice 22 (.slice (some ⟨g, 0, none⟩) ml.length mc) none (some (.int .i64 (q : Int))) none).run Try.prog W' = .ok (.slice (some ⟨g, 0, none⟩) q mc) W' := fun W' => by
                          rw [run_slice_h W' 22 _ _ _ Try.underlying22 .i64 (q : Int) (by omega) (by omega), size31]
                          simp [Result.andThen, sliced, Addr.add_mid]
                        have hs2 : ∀ W' : World, (Instr.slice 22 (.slice (some ⟨g, 0, none⟩) ml.length mc) (some (.int .i64 ((q : Int) + 1))) none none).run Try.prog W' = .ok (.slice (some AD) (ml.length - (q + 1)) (mc - (q + 1))) W' := fun W' => by
                          rw [run_slice_l W' 22 _ _ _ Try.underlying22 .i64 ((q : Int) + 1) (by omega) (by omega), size31]
                          have e : ((q : Int) + 1).toNat = q + 1 := by omega
                          simp only [Result.andThen, sliced, e]
                          rw [← hAD]
                          by_cases hc1 : mc = q + 1
                          · simp [hc1]
                          · simp [hc1, Addr.add_mid]
                        replace hAD := hide hAD
                        clear hq ml0
                        go_upto_region 33 with fail
                        refine F_start 9 (fun _ => True) (by kernel_rfl) ?_
                        have hS : True := trivial
                        refine F_take (i := 0) [8, 3, 2] (v := ?_) rfl (by kernel_rfl) (by kernel_rfl) (by kernel_rfl) (by kernel_rfl) (fun _ _ _ h => h) rfl ?_ hS ?_
                        rotate_left
                        · intro w hSw
                          try dsimp only at hSw
                          go_simp
                          try with_reducible rfl
                        try simp only [Act.put, List.setIfInBounds_toArray, List.set_cons_zero, List.set_cons_succ]
                        refine F_take (i := 1) [8, 3, 2] (v := ?_) rfl (by kernel_rfl) (by kernel_rfl) (by kernel_rfl) (by kernel_rfl) (fun _ _ _ h => h) rfl ?_ hS ?_
                        rotate_left
                        · intro w hSw
                          try dsimp only at hSw
                          go_simp
                          try with_reducible rfl
                        try simp only [Act.put, List.setIfInBounds_toArray, List.set_cons_zero, List.set_cons_succ]
                        refine F_take (i := 2) [8, 3] (v := ?_) rfl (by kernel_rfl) (by kernel_rfl) (by kernel_rfl) (by kernel_rfl) (fun _ _ _ h => h) rfl ?_ hS ?_
                        rotate_left
                        · intro w hSw
                          try dsimp only at hSw
                          go_simp
                          try with_reducible rfl
                        try simp only [Act.put, List.setIfInBounds_toArray, List.set_cons_zero, List.set_cons_succ]
                        refine F_take (i := 4) [8, 7] (v := ?_) rfl (by kernel_rfl) (by kernel_rfl) (by kernel_rfl) (by kernel_rfl) (fun _ _ _ h => h) rfl ?_ hS ?_
                        rotate_left
                        · intro w hSw
                          try dsimp only at hSw
                          go_simp
                          try with_reducible rfl
                        try simp only [Act.put, List.setIfInBounds_toArray, List.set_cons_zero, List.set_cons_succ]
                        refine F_take (i := 5) [8, 7, 6] (v := ?_) rfl (by kernel_rfl) (by kernel_rfl) (by kernel_rfl) (by kernel_rfl) (fun _ _ _ h => h) rfl ?_ hS ?_
                        rotate_left
                        · intro w hSw
                          try dsimp only at hSw
                          go_simp
                          try with_reducible rfl
                        try simp only [Act.put, List.setIfInBounds_toArray, List.set_cons_zero, List.set_cons_succ]
                        refine F_take (i := 6) [8, 7] (v := ?_) rfl (by kernel_rfl) (by kernel_rfl) (by kernel_rfl) (by kernel_rfl) (fun _ _ _ h => h) rfl ?_ hS ?_
                        rotate_left
                        · intro w hSw
                          try dsimp only at hSw
                          go_simp
                          try with_reducible rfl
                        try simp only [Act.put, List.setIfInBounds_toArray, List.set_cons_zero, List.set_cons_succ]
                        refine F_take (i := 7) [8] (v := ?_) rfl (by kernel_rfl) (by kernel_rfl) (by kernel_rfl) (by kernel_rfl) (fun _ _ _ h => h) rfl ?_ hS ?_
                        rotate_left
                        · intro w hSw
                          try dsimp only at hSw
                          go_simp
                          try with_reducible rfl
                        try simp only [Act.put, List.setIfInBounds_toArray, List.set_cons_zero, List.set_cons_succ]
                        refine F_step (i := 3) rfl (by kernel_rfl) (fun K hK => ?_)
                        refine step_append_own rfl (.const (.slice none 0 0)) (.tmp 141) 22 rfl wr.heap.size 31 i31 (.agg #[.int .i64 0, .int .i64 0, .int .i64 0, .string ⟨#[]⟩]) 4 40 Try.underlying22 h31.out.1 h31.out.2.1 h31.out.2.2.1 h31.out.2.2.2 rfl (by decide) (.slice none 0 0) 0 [] rfl (World.ownsRow_nil _ _ _ _) ⟨g, 0, none⟩ q mc (flat (mailC t Z k (ml.take q))) (by simp [Act.eval]) (by rw [mail_flat, List.length_take, Nat.min_eq_left (by omega)]) (mail_take (M.out.upd (Upd.refl wr []).drew (by simp)) q) (fun u hu => by obtain ⟨F, hF, hu⟩ := flat_mem hu; exact mail_one t Z k _ F hF u hu) (by unfold maxLen; omega) (by omega) (Nat.le_refl _) ?_
                        intro va wa hown1 hgr1 hnil1
                        rw [Nat.zero_add, List.nil_append] at hown1
                        have ua : Upd wr wa [] := ((Upd.refl wr []).drew).trans (Upd.of_grown (S := []) hgr1 (by simp [Value.ownBlock])) (by simp)
                        have OWa := hide hown1
                        have Ma := hide (M.out.upd ua (by simp))
                        replace ua := hide ua
                        clear hown1 hgr1 hnil1
                        refine hK.out _ _ (Or.inr hS) ?_
                        clear hK K
                        try simp only [Act.put, List.setIfInBounds_toArray, List.set_cons_zero, List.set_cons_succ]
                        refine F_step (i := 8) rfl (by kernel_rfl) (fun K hK => ?_)
                        refine step_append_own rfl (.tmp 142) (.tmp 146) 22 rfl wr.heap.size 31 i31 (.agg #[.int .i64 0, .int .i64 0, .int .i64 0, .string ⟨#[]⟩]) 4 40 Try.underlying22 h31.out.1 h31.out.2.1 h31.out.2.2.1 h31.out.2.2.2 rfl (by decide) va q (flat (mailC t Z k (ml.take q))) (by simp [Act.eval]) OWa.out AD (ml.length - (q + 1)) (mc - (q + 1)) (flat (mailC t Z k (ml.drop (q + 1)))) (by simp [Act.eval]) (by rw [mail_flat, List.length_drop]) (mail_drop Ma.out q hql mlc AD hAD.out) (fun u hu => by obtain ⟨F, hF, hu⟩ := flat_mem hu; exact mail_one t Z k _ F hF u hu) (by unfold maxLen; omega) (by omega) ua.out.size ?_
                        intro vb w7 hown hgr hnil
                        obtain ⟨g7, c7, rfl⟩ := own_slice hown
                        have ub := hide (Upd.own ua.out (Nat.le_refl _) OWa.out hgr)
                        have M7 := hide ((mail_join hown (by rw [List.length_take, List.length_drop, Nat.min_eq_left (by omega)])).mono (b' := WB) lw.out)
                        clear hown hgr hnil OWa Ma ua
                        refine hK.out _ _ (Or.inr hS) ?_
                        clear hK K
                        try simp only [Act.put, List.setIfInBounds_toArray, List.set_cons_zero, List.set_cons_succ]
                        refine F_step (i := 9) rfl (by kernel_rfl) (fun K hK => ?_)
                        go_simp
                        refine hK.out _ _ (Or.inl rfl) ?_
                        clear hK K
                        try simp only [Act.put, List.setIfInBounds_toArray, List.set_cons_zero, List.set_cons_succ]
                        refine F_done (by kernel_rfl) ?_ _
                        have T7 := hide (T.out.upd ub.out (by simp))
                        have R7 := hide (R.out.upd0 ub.out)
                        have HS7 := hide (HS.out.upd0 ub.out)
                        have UZ := hide (hu.out.trans ub.out (by simp))
                        have HML := hide (show ∀ a ∈ ml.take q ++ ml.drop (q + 1), a < sx from fun a ha => by
                          rcases List.mem_append.1 ha with ha | ha
                          · exact hml.out a (List.mem_of_mem_take ha)
                          · exact hml.out a (List.mem_of_mem_drop ha))
                        have HTL := htl
                        clear M T R HS hu hml htl ub hS
                        have M := M7
                        have T := T7
                        have R := R7
                        have HS := HS7
                        clear M7 T7 R7 HS7
                        go_wp2_with fail
                        try go_simp
                        go_meet
                        exact ⟨hv, sn, m, sx, id, total, ps, rv, (ml.take q ++ ml.drop (q + 1)), tl, rfl, rfl, M.out, T.out, R.out, G.out, HS.out, by omega, by omega, by omega, by omega, by omega, HML.out, HTL.out, by rw [List.length_append, List.length_take, List.length_drop]; omega, by omega, UZ.out⟩
                  · skip
                    by_cases e6 : o % 8 = 6
                    · as_aux_lemma =>
                        have g0 : ((o : Int) % 8 == 0) = false := beq_false_of_ne (by omega)
                        have g1 : ((o : Int) % 8 == 1) = false := beq_false_of_ne (by omega)
                        have g2 : ((o : Int) % 8 == 2) = false := beq_false_of_ne (by omega)
                        have g3 : ((o : Int) % 8 == 3) = false := beq_false_of_ne (by omega)
                        have g4 : ((o : Int) % 8 == 4) = false := beq_false_of_ne (by omega)
                        have g5 : ((o : Int) % 8 == 5) = false := beq_false_of_ne (by omega)
                        have g6 : ((o : Int) % 8 == 6) = true := by simp; omega
                        replace e0 := hide e0
                        replace e1 := hide e1
                        replace e2 := hide e2
                        replace e3 := hide e3
                        replace e4 := hide e4
                        replace e5 := hide e5
                        replace e6 := hide e6
                        by_cases tl0 : tl.length = 0
                        · skip
                          have dt : decide ((0 : Int) < (tl.length : Int)) = false := decide_eq_false (by omega)
                          have dtN : decide (0 < tl.length) = false := decide_eq_false (by omega)
                          replace tl0 := hide tl0
                          have UZ := hu
                          have HML := hml
                          have HTL := htl
                          clear hml htl hu
                          go_wp2_with fail
                          try go_simp
                          go_meet
                          exact ⟨hv, sn, m, sx, id, total, ps, rv, ml, tl, rfl, rfl, M.out, T.out, R.out, G.out, HS.out, by omega, by omega, by omega, by omega, by omega, HML.out, HTL.out, by omega, by omega, UZ.out⟩
                        · skip
                          have dt : decide ((0 : Int) < (tl.length : Int)) = true := decide_eq_true (by omega)
                          have dtN : decide (0 < tl.length) = true := decide_eq_true (by omega)
                          have tz : ((tl.length : Int) == 0) = false := beq_false_of_ne (by omega)
                          obtain ⟨q, hq⟩ : ∃ q, n % tl.length = q := ⟨_, rfl⟩
                          have hql : q < tl.length := by rw [← hq]; exact Nat.mod_lt _ (by omega)
                          have em : (n : Int) % (tl.length : Int) = (q : Int) := by rw [← hq]; rfl
                          have em2 : (n : Int).tmod (tl.length : Int) = (q : Int) := by rw [← hq]; rfl
                          have wq : IntKind.i64.wrap (q : Int) = (q : Int) := IntWalk.i64_in _ (by omega)
                          have hqi : (q : Int) < (tl.length : Int) := by omega
                          obtain ⟨g, rfl⟩ := tgp.out (by omega)
                          have y0 : wr.cell? ⟨g, q, none⟩ = some (.int .i64 (tl[q] : Int)) := by
                            have := T.out.src q (.int .i64 (tl[q] : Int)) (by rw [flat_tell, List.getElem?_map, List.getElem?_eq_getElem hql]; rfl)
                            rwa [Addr.add_mid, Nat.zero_add] at this
                          have hle : tl[q] ≤ m := htl.out _ (List.getElem_mem hql)
                          generalize tl[q] = av at *
                          have AK := ack_ok 7 (av : Int) HS.out (by omega)
                          have a1 : ackE 7 k 7 (av : Int) = 0 := by simp [ackE]; omega
                          have a2 : ackH 7 k hv 7 (av : Int) = ((max hv av : Nat) : Int) := by rw [ackH, if_pos a1]; omega
                          have a3 : ackS 7 k hv sn 7 (av : Int) = ((max sn (max hv av) : Nat) : Int) := by rw [ackS, if_pos a1]; omega
                          rw [a1, a2, a3] at AK
                          obtain ⟨hv2, eh⟩ : ∃ x, max hv av = x := ⟨_, rfl⟩
                          obtain ⟨sn2, es⟩ : ∃ x, max sn hv2 = x := ⟨_, rfl⟩
                          rw [eh, es] at AK
                          replace AK := hide AK
                          have l1 : hv2 ≤ sn2 := by omega
                          have l2 : sn2 ≤ k := by omega
                          have l3 : hv2 ≤ m := by omega
                          clear a1 a2 a3 eh es hq tl0
                          go_wp2_with fail
                          refine AK.out.mono ?_
                          rintro e wz ⟨rfl, HS5, kk⟩
                          have o5 := HS.out.of
                          have M5 := hide (M.out.updT o5 kk (by decide))
                          have T5 := hide (T.out.updT o5 kk (by decide))
                          have R5 := hide (R.out.updT o5 kk (by decide) (by decide))
                          have UZ := hide (hu.out.trans kk (fun q hq hlq => by simp at hq; have := lrs.out; have := hWB.out; omega))
                          replace HS5 := hide HS5
                          clear AK HS M T R hu o5 kk y0 em em2 wq
                          have M := M5
                          have T := T5
                          have R := R5
                          have HS := HS5
                          have HML := hml
                          have HTL := htl
                          clear M5 T5 R5 HS5 hml htl
                          go_wp2_with fail
                          try go_simp
                          go_meet
                          exact ⟨hv2, sn2, m, sx, id, total, ps, rv, ml, tl, rfl, rfl, M.out, T.out, R.out, G.out, HS.out, by omega, by omega, by omega, by omega, by omega, HML.out, HTL.out, by omega, by omega, UZ.out⟩
                    · skip
                      as_aux_lemma =>
                        have g0 : ((o : Int) % 8 == 0) = false := beq_false_of_ne (by omega)
                        have g1 : ((o : Int) % 8 == 1) = false := beq_false_of_ne (by omega)
                        have g2 : ((o : Int) % 8 == 2) = false := beq_false_of_ne (by omega)
                        have g3 : ((o : Int) % 8 == 3) = false := beq_false_of_ne (by omega)
                        have g4 : ((o : Int) % 8 == 4) = false := beq_false_of_ne (by omega)
                        have g5 : ((o : Int) % 8 == 5) = false := beq_false_of_ne (by omega)
                        have g6 : ((o : Int) % 8 == 6) = false := beq_false_of_ne (by omega)
                        replace e0 := hide e0
                        replace e1 := hide e1
                        replace e2 := hide e2
                        replace e3 := hide e3
                        replace e4 := hide e4
                        replace e5 := hide e5
                        replace e6 := hide e6
                        have BK := hide (back_ok HS.out (by omega))
                        go_wp2_with fail
                        refine BK.out.mono ?_
                        rintro e wz ⟨rfl, HS5, kk⟩
                        have o5 := HS.out.of
                        have M5 := hide (M.out.updT o5 kk (by decide))
                        have T5 := hide (T.out.updT o5 kk (by decide))
                        have R5 := hide (R.out.updT o5 kk (by decide) (by decide))
                        have UZ := hide (hu.out.trans kk (fun q hq hlq => by simp at hq; have := lrs.out; have := hWB.out; omega))
                        replace HS5 := hide HS5
                        clear BK HS M T R hu o5 kk
                        have M := M5
                        have T := T5
                        have R := R5
                        have HS := HS5
                        have HML := hml
                        have HTL := htl
                        clear M5 T5 R5 HS5 hml htl
                        go_wp2_with fail
                        try go_simp
                        go_meet
                        exact ⟨hv, hv, m, sx, id, total, ps, rv, ml, tl, rfl, rfl, M.out, T.out, R.out, G.out, HS.out, by omega, by omega, by omega, by omega, by omega, HML.out, HTL.out, by omega, by omega, UZ.out⟩
      case rest =>
        as_aux_lemma =>
        clear M T R G HS hml htl hu v1 v2 v3 v4 v5 lm ltl mlc mgn mgp tgp q0 q1 wn lw
        obtain ⟨hv, sn, m, sx, id, total, ps, rv, ml, tl, rfl, rfl, M, T, R, G, HS, v1, v2, v3, v4, v5, HML, HTL, lm, ltl, UZ⟩ := hcut
        replace M := hide M
        replace T := hide T
        replace R := hide R
        replace G := hide G
        replace HS := hide HS
        replace UZ := hide UZ
        replace HML := hide HML
        replace HTL := hide HTL
        generalize wc = wz at *
        have hmk : m ≤ k := by omega
        have ok := G.out.ok (by omega) k4 hmk k1
        have TX := text_ok wz R.out (by have := ok.few; omega) ok.join
        clear ok
        have dd : decide (((m : Nat) : Int) < ((hv : Nat) : Int)) = false := by simp; omega
        rcases G.out.text hc.out hmk with ⟨g1, g2, g3⟩ | ⟨g1, g2, g3⟩
        · replace g3 := hide g3
          rw [g1, g2] at TX
          replace TX := hide TX
          replace g1 := hide g1
          replace g2 := hide g2
          go_wp2_with fail
          refine TX.out.mono ?_
          rintro e w6 ⟨rfl, kk⟩
          have M6 := hide (M.out.upd kk (by simp))
          have T6 := hide (T.out.upd kk (by simp))
          have R6 := hide (R.out.upd0 kk)
          have HS6 := hide (HS.out.upd0 kk)
          have U6 := hide (UZ.out.trans kk (by simp))
          have HVT := hide (have_ok HS6.out (by omega))
          clear TX kk M T R HS UZ
          go_wp2_with fail
          refine HVT.out.mono ?_
          rintro e w7 ⟨rfl, rfl⟩
          have M7 := M6
          have T7 := T6
          have R7 := R6
          have HS7 := HS6
          have U7 := U6
          clear HVT M6 T6 R6 HS6 U6
          by_cases hk : hv = k
          · skip
            have DN := done_ok HS7.out (by omega)
            rw [show decide (((hv : Nat) : Int) = (k : Int)) = true by simp; omega] at DN
            replace DN := hide DN
            replace hk := hide hk
            go_wp2_with fail
            refine DN.out.mono ?_
            rintro e w9 ⟨rfl, nn, rfl⟩
            have M9 := hide (M7.out.upd ((Upd.refl _ []).drewN nn) (by simp))
            have T9 := hide (T7.out.upd ((Upd.refl _ []).drewN nn) (by simp))
            have R9 := hide (R7.out.upd0 ((Upd.refl _ []).drewN nn))
            have HS9 := hide (HS7.out.upd0 ((Upd.refl _ []).drewN nn))
            have U9 := hide (U7.out.drewN nn)
            clear M7 T7 R7 HS7 U7 DN
            go_wp2_with fail
            case roundEnd =>
              refine ⟨⟨i + 1, hv, sn, m, sx, id, total, ps, rv, ml, tl, by omega, by simp, rfl, rfl, M9.out, T9.out, R9.out, G.out, HS9.out, by omega, by omega, by omega, by omega, by omega, HML.out, HTL.out, by omega, by omega, U9.out⟩, ?_⟩
              simp only [intOf]; omega
          · skip
            have DN := done_ok HS7.out (by omega)
            rw [show decide (((hv : Nat) : Int) = (k : Int)) = false by simp; omega] at DN
            replace DN := hide DN
            replace hk := hide hk
            go_wp2_with fail
            refine DN.out.mono ?_
            rintro e w9 ⟨rfl, nn, rfl⟩
            have M9 := hide (M7.out.upd ((Upd.refl _ []).drewN nn) (by simp))
            have T9 := hide (T7.out.upd ((Upd.refl _ []).drewN nn) (by simp))
            have R9 := hide (R7.out.upd0 ((Upd.refl _ []).drewN nn))
            have HS9 := hide (HS7.out.upd0 ((Upd.refl _ []).drewN nn))
            have U9 := hide (U7.out.drewN nn)
            clear M7 T7 R7 HS7 U7 DN
            go_wp2_with fail
            case roundEnd =>
              refine ⟨⟨i + 1, hv, sn, m, sx, id, total, ps, rv, ml, tl, by omega, by simp, rfl, rfl, M9.out, T9.out, R9.out, G.out, HS9.out, by omega, by omega, by omega, by omega, by omega, HML.out, HTL.out, by omega, by omega, U9.out⟩, ?_⟩
              simp only [intOf]; omega
        · skip
          rw [g1, g2] at TX
          replace TX := hide TX
          replace g1 := hide g1
          replace g2 := hide g2
          go_wp2_with fail
          refine TX.out.mono ?_
          rintro e w6 ⟨rfl, kk⟩
          have M6 := hide (M.out.upd kk (by simp))
          have T6 := hide (T.out.upd kk (by simp))
          have R6 := hide (R.out.upd0 kk)
          have HS6 := hide (HS.out.upd0 kk)
          have U6 := hide (UZ.out.trans kk (by simp))
          have HVT := hide (have_ok HS6.out (by omega))
          clear TX kk M T R HS UZ
          go_wp2_with fail
          refine HVT.out.mono ?_
          rintro e w7 ⟨rfl, rfl⟩
          have M7 := M6
          have T7 := T6
          have R7 := R6
          have HS7 := HS6
          have U7 := U6
          clear HVT M6 T6 R6 HS6 U6
          have DN := done_ok HS7.out (by omega)
          rw [show decide (((hv : Nat) : Int) = (k : Int)) = false by simp; omega] at DN
          replace DN := hide DN
          go_wp2_with fail
          refine DN.out.mono ?_
          rintro e w9 ⟨rfl, nn, rfl⟩
          have M9 := hide (M7.out.upd ((Upd.refl _ []).drewN nn) (by simp))
          have T9 := hide (T7.out.upd ((Upd.refl _ []).drewN nn) (by simp))
          have R9 := hide (R7.out.upd0 ((Upd.refl _ []).drewN nn))
          have HS9 := hide (HS7.out.upd0 ((Upd.refl _ []).drewN nn))
          have U9 := hide (U7.out.drewN nn)
          clear M7 T7 R7 HS7 U7 DN
          go_wp2_with fail
          case roundEnd =>
            refine ⟨⟨i + 1, hv, sn, m, sx, id, total, ps, rv, ml, tl, by omega, by simp, rfl, rfl, M9.out, T9.out, R9.out, G.out, HS9.out, by omega, by omega, by omega, by omega, by omega, HML.out, HTL.out, by omega, by omega, U9.out⟩, ?_⟩
            simp only [intOf]; omega
    · go_wp2_with fail
      refine (gone_ok _).mono ?_
      rintro e w4 ⟨rfl, kk⟩
      have k2 := hide (hu.trans kk (by simp))
      clear kk
      go_wp2_with fail
      go_ret
      exact ⟨rfl, k2.out⟩
end Go.Proofs.Ytmmacjjmkaeakaa

