/- RingsOrder: the walk. -/
import Derived.Test.YtkopocbcldjjbaaRingH
namespace Go.Proofs.Ytkopocbcldjjbaa
open Go.RowKit
set_option linter.unusedVariables false
attribute [-go_sem] loadVar storeVar
attribute [local go_sem] loadVar_else storeVar_else run_load40 run_store40 frameAt_drew frameAt_drewN roomAt_drew roomAt_drewN
theorem mod_inj {n i j : Nat} (h : j ≤ i) (hn : i - j < n) (e : j % n = i % n) : j = i := by
  have := Nat.sub_mod_eq_zero_of_mod_eq e.symm
  rw [Nat.mod_eq_of_lt hn] at this
  omega
/-- the numbers from o on, below i, lie in a ring of n places -/
structure Has (n o i : Nat) (fs : Nat → Fr) : Prop where
  le : o ≤ i
  few : i - o ≤ n
  at_ : ∀ j, o ≤ j → j < i → fs (j % n) = seqFr j
theorem Has.zero (n : Nat) (fs : Nat → Fr) : Has n 0 0 fs := ⟨by omega, by omega, fun j _ h => absurd h (by omega)⟩
theorem Has.place {n o i : Nat} {fs : Nat → Fr} (h : Has n o i fs) : (o % n + (i - o)) % n = i % n := by
  rw [Nat.mod_add_mod]; congr 1; have := h.le; omega
theorem Has.push {n o i : Nat} {fs : Nat → Fr} (h : Has n o i fs) (hn : i - o < n) : Has n o (i + 1) (put fs (i % n) (seqFr i)) := by
  obtain ⟨h1, h2, h3⟩ := h
  refine ⟨by omega, by omega, fun j hj hji => ?_⟩
  unfold put
  split
  · next e => rw [mod_inj (n := n) (by omega : j ≤ i) (by omega) e]
  · next e =>
    have : j ≠ i := by rintro rfl; exact e rfl
    exact h3 j hj (by omega)
theorem Has.pop {n o i : Nat} {fs : Nat → Fr} (h : Has n o i fs) (hn : o < i) : Has n (o + 1) i (put fs (o % n) zeroFr) := by
  obtain ⟨h1, h2, h3⟩ := h
  refine ⟨by omega, by omega, fun j hj hji => ?_⟩
  unfold put
  split
  · next e => have := mod_inj (n := n) (by omega : o ≤ j) (by omega) e.symm; omega
  · exact h3 j (by omega) hji
/-- the turns, as they lie -/
def Turns (w : World) (b off : Nat) (ts : List Bool) : Prop := ∀ i, i < ts.length → w.cell? ⟨b, off + i, none⟩ = some (.bool (ts[i]?.getD false))
theorem Turns.upd {w w' : World} {b off : Nat} {ts : List Bool} (h : Turns w b off ts) (u : Upd w w' []) : Turns w' b off ts := fun i hi => by
  have h1 := h i hi
  have hb := World.block_lt_of_cell? w _ h1
  have := u.block _ hb (by simp)
  rw [← h1]
  simp only [World.cell?, this]
theorem len_int {r pb cap first cnt : Nat} {fs : Nat → Fr} {w : World} (h : Ring w r pb cap first cnt fs) (z : Int) (hz : (cnt : Int) = z) :
    Calls Try.prog 11 #[.pointer (some ⟨r, 0, none⟩)] w fun e w' => e = .returned (.int .i64 z) ∧ w = w' := by
  subst hz; exact len_ok _ _ _ _ _ _ w h
theorem pop_none {r pb cap first : Nat} {fs : Nat → Fr} {w : World} (h : Ring w r pb cap first 0 fs) :
    Calls Try.prog 10 #[.pointer (some ⟨r, 0, none⟩)] w fun e w' => ∃ F, e = .returned (.tuple #[.agg F, .bool false]) ∧ IsF w' 0 F zeroFr ∧ Upd w w' [] :=
  (pop_no r pb cap first fs w h).mono fun e w' ⟨h1, h2⟩ => ⟨_, h1, zero_isF _ _, h2⟩
theorem order_walk (hring : ∀ W, Calls Try.prog 6 #[] W fun e w' => e = .returned (.bool true) ∧ Upd W w' []) (a0 : Option Addr) (b off cap : Nat) (ts : List Bool) (c : Int) (w : World) (ha : 0 < ts.length → a0 = some ⟨b, off, none⟩) (hx : Turns w b off ts) (hlen : ts.length ≤ 300)
    (c1 : 0 ≤ c) (c2 : c ≤ 255) :
    Calls Try.prog 3 #[.int .u8 c, .slice a0 ts.length cap] w fun e w' => e = .returned (.bool true) ∧ Upd w w' [] := by
  have X := hide hx
  have HA := hide ha
  have HR := hide hring
  clear hx ha hring
  obtain ⟨n, hn⟩ : ∃ n : Nat, 1 + c % 64 = (n : Int) := ⟨(1 + c % 64).toNat, by omega⟩
  have n1 : 1 ≤ n := by omega
  have n2 : n ≤ 64 := by omega
  go_enter Try.func3, Try.ntmps3
  go_wp2_with fail
  refine (new_ok n _ n1 n2).mono ?_
  rintro e w1 ⟨r, pb, rfl, gr, gp, R1, u1⟩
  have C1 := hide (cap_ok _ _ _ _ _ _ w1 R1)
  replace R1 := hide R1
  replace u1 := hide u1
  go_wp2_with fail
  refine C1.out.mono ?_
  rintro e w' ⟨rfl, rfl⟩
  clear C1
  go_wp2_with fail
  go_loopw [8, 9, 10] (fun vi vo vk wr => ∃ (k i o : Nat) (fs : Nat → Fr), k ≤ ts.length ∧ i ≤ k ∧ vi = .int .i64 i ∧ vo = .int .i64 o ∧ vk = .int .i64 k ∧ Has n o i fs ∧ Ring wr r pb n (o % n) (i - o) fs ∧ Upd w wr []) (fun _ _ vk _ => ts.length - (intOf vk).toNat)
  case atStart => exact ⟨0, 0, 0, _, by omega, by omega, rfl, rfl, rfl, Has.zero n _, by simpa using R1.out, u1.out⟩
  case round =>
    obtain ⟨k, i, o, fs, hk, hik, rfl, rfl, rfl, hs, hR, hu⟩ := hrel
    clear R1 u1
    by_cases hlt : k < ts.length
    · obtain rfl := HA.out (by omega)
      have a1 := X.out.upd hu k hlt
      have s1 := hs.le
      have s2 := hs.few
      generalize ts[k]?.getD false = t at *
      cases t with
      | true =>
        by_cases hc : i - o < n
        · have P := hide (push_seq r pb n (o % n) (i - o) fs i wr hR hc)
          have e1 : (i : Int) - (o : Int) < (n : Int) := by omega
          replace hs := hide hs
          replace hR := hide hR
          replace hu := hide hu
          go_wp2_with (refine wpList_seq rfl _ rfl _ rfl ?_)
          refine P.out.mono ?_
          rintro e w2 ⟨rfl, R2, u2⟩
          rw [hs.out.place, show i - o + 1 = i + 1 - o by omega] at R2
          have L2 := hide (len_int R2 ((i : Int) + 1 - o) (by omega))
          have U2 := hide ((hu.out.mono (S' := [r, pb]) (by simp)).trans u2 (fun i h _ => h) |>.mono (S' := []) (by simp; omega))
          replace R2 := hide R2
          clear P u2 hR hu
          go_wp2_with fail
          refine L2.out.mono ?_
          rintro e w' ⟨rfl, rfl⟩
          go_wp2_with fail
          go_roundw
          case rel => exact ⟨k + 1, i + 1, o, _, by omega, by omega, by go_num, rfl, by go_num, hs.out.push hc, R2.out, U2.out⟩
          case measure => simp [intOf]; omega
        · obtain hcn : i - o = n := by omega
          have P := hide (push_full r pb n (o % n) fs (seqF i) wr (hcn ▸ hR))
          have e1 : ¬ (i : Int) - (o : Int) < (n : Int) := by omega
          replace hs := hide hs
          replace hR := hide hR
          replace hu := hide hu
          replace hcn := hide hcn
          go_wp2_with (refine wpList_seq rfl _ rfl _ rfl ?_)
          refine P.out.mono ?_
          rintro e w2 ⟨rfl, u2⟩
          have R2 := hR.out.upd u2 (by simp) (by simp) (Off.nil _)
          have L2 := hide (len_int R2 ((i : Int) - o) (by omega))
          have U2 := hide (hu.out.trans u2 (by simp))
          replace R2 := hide R2
          clear P u2 hR hu
          go_wp2_with fail
          refine L2.out.mono ?_
          rintro e w' ⟨rfl, rfl⟩
          go_wp2_with fail
          go_roundw
          case rel => exact ⟨k + 1, i, o, _, by omega, by omega, rfl, rfl, by go_num, hs.out, R2.out, U2.out⟩
          case measure => simp [intOf]; omega
      | false =>
        by_cases hc : o < i
        · have P := hide (pop_ok r pb n (o % n) (i - o) fs wr hR (by omega))
          have e1 : (o : Int) < (i : Int) := by omega
          have hfs := hs.at_ o (by omega) hc
          replace hs := hide hs
          replace hR := hide hR
          replace hu := hide hu
          replace hfs := hide hfs
          go_wp2_with fail
          refine P.out.mono ?_
          rintro e w2 ⟨F, rfl, hF, R2, u2⟩
          rw [Nat.mod_add_mod, show i - o - 1 = i - (o + 1) by omega] at R2
          rw [hfs.out] at hF
          obtain ⟨q1, q2, q3⟩ := hF.lay_new
          have q4 : ((w2.alloc (.cells zeroF 40)).setCells w2.heap.size 0 F.toList).cell? ⟨w2.heap.size, 3, none⟩ = some (.int .i64 o) := by rw [q2.cell]; exact hF.seq
          have R3 := R2.upd q3 (by simp) (by simp) (Off.nil _)
          have L2 := hide (len_int R3 ((i : Int) - (o + 1)) (by omega))
          have U2 := hide (((hu.out.mono (S' := [r, pb]) (by simp)).trans u2 (fun i h _ => h) |>.mono (S' := []) (by simp; omega)).trans q3 (by simp))
          replace R3 := hide R3
          unfold zeroF at q1 q4
          clear P u2 hR hu hF q2 q3 R2
          go_wp2_with fail
          refine L2.out.mono ?_
          rintro e w' ⟨rfl, rfl⟩
          go_wp2_with fail
          go_roundw
          case rel => exact ⟨k + 1, i, o + 1, _, by omega, by omega, rfl, by go_num, by go_num, hs.out.pop hc, R3.out, U2.out⟩
          case measure => simp [intOf]; omega
        · obtain rfl : i = o := by omega
          have hR0 : Ring wr r pb n (i % n) 0 fs := by simpa using hR
          have P := hide (pop_none hR0)
          replace hs := hide hs
          replace hR := hide hR
          replace hu := hide hu
          clear hR0
          go_wp2_with fail
          refine P.out.mono ?_
          rintro e w2 ⟨F, rfl, hF, u2⟩
          obtain ⟨q1, q2, q3⟩ := hF.lay_new
          have R3 := (hR.out.upd u2 (by simp) (by simp) (Off.nil _)).upd q3 (by simp) (by simp) (Off.nil _)
          have L2 := hide (len_int R3 (0) (by omega))
          have U2 := hide ((hu.out.trans u2 (by simp)).trans q3 (by simp))
          replace R3 := hide R3
          unfold zeroF at q1
          clear P u2 hR hu q2 q3 hF
          go_wp2_with fail
          refine L2.out.mono ?_
          rintro e w' ⟨rfl, rfl⟩
          go_wp2_with fail
          go_roundw
          case rel => exact ⟨k + 1, i, i, _, by omega, by omega, rfl, rfl, by go_num, hs.out, R3.out, U2.out⟩
          case measure => simp [intOf]; omega
    · obtain rfl : k = ts.length := by omega
      have U := hide hu
      clear hR hu
      go_wp2_with fail
      refine (HR.out _).mono ?_
      rintro e w3 ⟨rfl, u3⟩
      replace u3 := hide u3
      go_wp2_with fail
      go_ret
      exact ⟨rfl, U.out.trans u3.out (by simp)⟩
end Go.Proofs.Ytkopocbcldjjbaa
