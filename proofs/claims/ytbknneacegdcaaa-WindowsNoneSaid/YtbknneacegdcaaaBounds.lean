/- WindowsBounds and WindowsNone: the walks. -/
import Derived.Test.YtbknneacegdcaaaPlay
namespace Go.Proofs.Ytbknneacegdcaaa
open Go.RowKit
set_option linter.unusedVariables false

/-- what holds of a window of capacity n behind k acts -/
structure Win.Bd (n : Int) (k : Nat) (x : Win) : Prop where
  c : x.c = n
  u : x.l - x.d ≤ n
  l : x.l ≤ k
theorem Win.Bd.ack {n : Int} {k : Nat} {x : Win} (h : x.Bd n k) (i : Int) : (ackW x i).Bd n k ∧ x.d ≤ (ackW x i).d ∧ (ackW x i).l = x.l := by
  obtain ⟨h1, h2, h3⟩ := h
  unfold ackW; split
  · refine ⟨⟨h1, ?_, h3⟩, ?_, rfl⟩ <;> (simp only; omega)
  · exact ⟨⟨h1, h2, h3⟩, Int.le_refl _, rfl⟩
theorem Win.Bd.grant {n : Int} {k : Nat} {x : Win} (h : x.Bd n k) (i : Int) : (grantW x i).Bd n k := ⟨h.c, h.u, h.l⟩
theorem Win.Bd.back {n : Int} {k : Nat} {x : Win} (h : x.Bd n k) (i : Int) : (backW x i).Bd n k := ⟨h.c, h.u, h.l⟩
theorem Win.Bd.renew {n : Int} {k : Nat} {x : Win} (h : x.Bd n k) : (renewW x).Bd n k := ⟨h.c, h.u, h.l⟩
theorem Win.Bd.next {n : Int} {k : Nat} {x : Win} (h : x.Bd n k) : (nextW x).Bd n k := by unfold nextW; split <;> exact ⟨h.c, h.u, h.l⟩
theorem Win.Bd.more {n : Int} {k : Nat} {x : Win} (h : x.Bd n k) : x.Bd n (k + 1) := ⟨h.c, h.u, by have := h.l; omega⟩
theorem Win.Bd.free {n : Int} {k : Nat} {x : Win} (h : x.Bd n k) (o : x.Ok) (hk : k ≤ 200) : freeI x = n - (x.l - x.d) := by
  obtain ⟨h1, h2, h3⟩ := h
  have := o.c2
  have := o.d2
  unfold freeI; omega
theorem Win.Bd.push {n : Int} {k : Nat} {x : Win} (h : x.Bd n k) (o : x.Ok) (hk : k ≤ 200) : (pushW x).Bd n (k + 1) ∧ x.l ≤ (pushW x).l ∧ (pushW x).d = x.d := by
  have hf := h.free o hk
  obtain ⟨h1, h2, h3⟩ := h
  unfold pushW; split
  · refine ⟨⟨h1, ?_, ?_⟩, ?_, rfl⟩ <;> (simp only; omega)
  · exact ⟨⟨h1, h2, by omega⟩, Int.le_refl _, rfl⟩

set_option maxRecDepth 100000 in
set_option maxHeartbeats 4000000 in
theorem bounds_walk (a0 : Option Addr) (b off cap : Nat) (xs : List (Int × Int)) (t : Int) (w : World) (ha : 0 < xs.length → a0 = some ⟨b, off, none⟩) (hx : Acts w b off xs) (hf : Fit xs) (hlen : xs.length ≤ 200)
    (t1 : 0 ≤ t) (t2 : t ≤ 255) :
    Calls Try.prog 3 #[.int .u8 t, .slice a0 xs.length cap] w fun e w' => e = .returned (.bool true) ∧ Upd w w' [] := by
  have X := hide hx
  have F := hide hf
  have HA := hide ha
  clear hx hf ha
  go_enter Try.func3, Try.ntmps3
  go_wp2_with fail
  have n1 : 1 ≤ 1 + t % 16 := by omega
  have n2 : 1 + t % 16 ≤ 16 := by omega
  generalize 1 + t % 16 = n at *
  refine (new_ok n 0 0 _ n1 n2 (by decide) (by decide) (by decide)).mono ?_
  rintro e w1 ⟨g, rfl, gw, v1, u1⟩
  replace v1 := hide v1
  replace u1 := hide u1
  go_wp2_with fail
  have i0 : Win.Ok ⟨n, 0, 0, 0, 0⟩ := by constructor <;> (simp only; omega)
  have j0 : Win.Bd n 0 ⟨n, 0, 0, 0, 0⟩ := by constructor <;> (simp only; try omega)
  go_loopw [8] (fun v wr => ∃ (k : Nat) (x : Win), k ≤ xs.length ∧ v = .int .i64 k ∧ x.Ok ∧ x.Bd n k ∧ IsW wr g 46 x ∧ Upd w wr []) (fun v _ => xs.length - (intOf v).toNat)
  case atStart => exact ⟨0, _, by omega, rfl, i0, j0, v1.out, u1.out⟩
  case round =>
    obtain ⟨k, x, hk, rfl, ok, bd, hv, hu⟩ := hrel
    clear v1 u1 i0 j0
    by_cases hlt : k < xs.length
    · obtain rfl := HA.out (by omega)
      have hki : (k : Int) < (xs.length : Int) := by omega
      obtain ⟨a1, a2⟩ := X.out.upd hu (by simp) k hlt
      have fx := F.out (xs[k]?.getD (0, 0)) (by rw [List.getElem?_eq_getElem hlt]; exact List.getElem_mem hlt)
      generalize xs[k]?.getD (0, 0) = q at *
      obtain ⟨K, M⟩ := q
      simp only at a1 a2 fx
      obtain ⟨f1, f2, f3, f4⟩ := fx
      have A0 := (Upd.refl wr []).alloc (.cells #[.int .u8 K, .int .i64 M] 29)
      have B0 := Blk.new wr 29 #[.int .u8 K, .int .i64 M]
      have hv0 := hv.upd A0 (by simp)
      have gr : g < wr.heap.size := Blk.lt hv
      have hwr := hu.size
      have m0 : (wr.alloc (.cells #[.int .u8 K, .int .i64 M] 29)).cell? ⟨wr.heap.size, 0, none⟩ = some (.int .u8 K) := by rw [B0.cell]; rfl
      have b0 := hide B0
      have v0 := hide hv0
      have u0 := hide (hu.trans A0 (by simp))
      have D0 := hide (done_w g x _ hv0 ok)
      have L0 := hide (last_w g x _ hv0 ok)
      have l1 := ok.l2
      have l2 := ok.d2
      have l3 := ok.d1
      have s1 := ok.s1
      have s2 := ok.s2
      have nl : x.l - x.d ≤ n := bd.u
      have hfr := bd.free ok (by omega)
      replace ok := hide ok
      replace bd := hide bd
      replace hfr := hide hfr
      clear hv A0 B0 hv0 hu
      have hj : 0 ≤ K % 13 ∧ K % 13 < 13 := by omega
      obtain ⟨j, ej⟩ : ∃ j : Nat, K % 13 = j := ⟨(K % 13).toNat, by omega⟩
      go_upto_block 2 with fail
      refine D0.out.mono ?_
      rintro e w1 ⟨rfl, rfl⟩
      go_upto_block 2 with fail
      refine L0.out.mono ?_
      rintro e w1 ⟨rfl, rfl⟩
      clear D0 L0
      go_upto_block 2 with fail
      generalize wr.alloc (.cells #[.int .u8 K, .int .i64 M] 29) = wk at *
      go_cut [] from 29 to 173 (fun wx => ∃ (y : Win), y.Ok ∧ y.Bd n (k + 1) ∧ x.d ≤ y.d ∧ x.l ≤ y.l ∧ IsW wx g 46 y ∧ Upd w wx [])
      case first =>
        have hj' : j < 13 := by omega
        match j, hj' with
        | 0, _ =>
          as_aux_lemma =>
          have ej : K % 13 = 0 := ej
          have ej2 := hj
          clear ej2 hj
          clear m0
          have p1 := hide (bd.out.push ok.out (by omega))
          by_cases q1 : x.l - x.d < n
          · have q2 : pushB x = true := by simp [pushB]; rw [hfr.out]; omega
            go_wp2_with fail
            refine (push_to g x (pushW x) true _ v0.out ok.out ⟨q2, rfl⟩).mono ?_
            rintro e w1 ⟨rfl, vv, uu⟩
            have V1 := hide vv
            have B1 := hide (b0.out.upd2 uu (by simp; omega))
            have U1 := hide (u0.out.trans (S := []) uu (by simp; omega))
            clear vv uu v0 b0 u0

            clear q2
            go_wp2_with fail
            go_simp
            go_meet
            exact ⟨_, push_ok ok.out, p1.out.1, by rw [p1.out.2.2]; exact Int.le_refl _, p1.out.2.1, V1.out, U1.out⟩

          · have q2 : pushB x = false := by simp [pushB]; rw [hfr.out]; omega
            go_wp2_with fail
            refine (push_to g x (pushW x) false _ v0.out ok.out ⟨q2, rfl⟩).mono ?_
            rintro e w1 ⟨rfl, vv, uu⟩
            have V1 := hide vv
            have B1 := hide (b0.out.upd2 uu (by simp; omega))
            have U1 := hide (u0.out.trans (S := []) uu (by simp; omega))
            clear vv uu v0 b0 u0

            clear q2
            go_wp2_with fail
            go_simp
            go_meet
            exact ⟨_, push_ok ok.out, p1.out.1, by rw [p1.out.2.2]; exact Int.le_refl _, p1.out.2.1, V1.out, U1.out⟩
        | 1, _ =>
          as_aux_lemma =>
          have ej : K % 13 = 1 := ej
          have ej2 := hj
          clear ej2 hj
          clear m0
          have p1 := hide (bd.out.push ok.out (by omega))
          by_cases q1 : x.l - x.d < n
          · have q2 : pushB x = true := by simp [pushB]; rw [hfr.out]; omega
            go_wp2_with fail
            refine (push_to g x (pushW x) true _ v0.out ok.out ⟨q2, rfl⟩).mono ?_
            rintro e w1 ⟨rfl, vv, uu⟩
            have V1 := hide vv
            have B1 := hide (b0.out.upd2 uu (by simp; omega))
            have U1 := hide (u0.out.trans (S := []) uu (by simp; omega))
            clear vv uu v0 b0 u0

            clear q2
            go_wp2_with fail
            go_simp
            go_meet
            exact ⟨_, push_ok ok.out, p1.out.1, by rw [p1.out.2.2]; exact Int.le_refl _, p1.out.2.1, V1.out, U1.out⟩

          · have q2 : pushB x = false := by simp [pushB]; rw [hfr.out]; omega
            go_wp2_with fail
            refine (push_to g x (pushW x) false _ v0.out ok.out ⟨q2, rfl⟩).mono ?_
            rintro e w1 ⟨rfl, vv, uu⟩
            have V1 := hide vv
            have B1 := hide (b0.out.upd2 uu (by simp; omega))
            have U1 := hide (u0.out.trans (S := []) uu (by simp; omega))
            clear vv uu v0 b0 u0

            clear q2
            go_wp2_with fail
            go_simp
            go_meet
            exact ⟨_, push_ok ok.out, p1.out.1, by rw [p1.out.2.2]; exact Int.le_refl _, p1.out.2.1, V1.out, U1.out⟩
        | 2, _ =>
          as_aux_lemma =>
          have ej : K % 13 = 2 := ej
          have ej2 := hj
          clear ej2 hj
          clear m0
          have p1 := hide (bd.out.push ok.out (by omega))
          by_cases q1 : x.l - x.d < n
          · have q2 : pushB x = true := by simp [pushB]; rw [hfr.out]; omega
            go_wp2_with fail
            refine (push_to g x (pushW x) true _ v0.out ok.out ⟨q2, rfl⟩).mono ?_
            rintro e w1 ⟨rfl, vv, uu⟩
            have V1 := hide vv
            have B1 := hide (b0.out.upd2 uu (by simp; omega))
            have U1 := hide (u0.out.trans (S := []) uu (by simp; omega))
            clear vv uu v0 b0 u0

            clear q2
            go_wp2_with fail
            go_simp
            go_meet
            exact ⟨_, push_ok ok.out, p1.out.1, by rw [p1.out.2.2]; exact Int.le_refl _, p1.out.2.1, V1.out, U1.out⟩

          · have q2 : pushB x = false := by simp [pushB]; rw [hfr.out]; omega
            go_wp2_with fail
            refine (push_to g x (pushW x) false _ v0.out ok.out ⟨q2, rfl⟩).mono ?_
            rintro e w1 ⟨rfl, vv, uu⟩
            have V1 := hide vv
            have B1 := hide (b0.out.upd2 uu (by simp; omega))
            have U1 := hide (u0.out.trans (S := []) uu (by simp; omega))
            clear vv uu v0 b0 u0

            clear q2
            go_wp2_with fail
            go_simp
            go_meet
            exact ⟨_, push_ok ok.out, p1.out.1, by rw [p1.out.2.2]; exact Int.le_refl _, p1.out.2.1, V1.out, U1.out⟩
        | 3, _ =>
          as_aux_lemma =>
          have ej : K % 13 = 3 := ej
          have ej2 := hj
          clear ej2 hj
          clear m0
          have m1 : wk.cell? ⟨wr.heap.size, 1, none⟩ = some (.int .i64 M) := by rw [b0.out.cell]; rfl
          go_wp2_with fail
          refine (ack_w g x M _ v0.out ok.out).mono ?_
          rintro e w1 ⟨rfl, vv, uu⟩
          have V1 := hide vv
          have B1 := hide (b0.out.upd2 uu (by simp; omega))
          have U1 := hide (u0.out.trans (S := []) uu (by simp; omega))
          clear vv uu v0 b0 u0
          clear m1
          go_wp2_with fail
          refine (ack_w g _ (x.d + 1) _ V1.out (ack_ok ok.out M)).mono ?_
          rintro e w2 ⟨rfl, vv, uu⟩
          have V2 := hide vv
          have B2 := hide (B1.out.upd2 uu (by simp; omega))
          have U2 := hide (U1.out.trans (S := []) uu (by simp; omega))
          clear vv uu V1 B1 U1
          have p1 := bd.out.ack M
          have p2 := p1.1.ack (x.d + 1)
          replace p1 := hide p1
          replace p2 := hide p2
          go_wp2_with fail
          go_simp
          go_meet
          exact ⟨_, ack_ok (ack_ok ok.out M) _, p2.out.1.more, Int.le_trans p1.out.2.1 p2.out.2.1, by rw [p2.out.2.2, p1.out.2.2]; exact Int.le_refl _, V2.out, U2.out⟩
        | 4, _ =>
          as_aux_lemma =>
          have ej : K % 13 = 4 := ej
          have ej2 := hj
          clear ej2 hj
          clear m0
          have m1 : wk.cell? ⟨wr.heap.size, 1, none⟩ = some (.int .i64 M) := by rw [b0.out.cell]; rfl
          go_wp2_with fail
          refine (grant_w g x M _ v0.out ok.out).mono ?_
          rintro e w1 ⟨rfl, vv, uu⟩
          have V1 := hide vv
          have B1 := hide (b0.out.upd2 uu (by simp; omega))
          have U1 := hide (u0.out.trans (S := []) uu (by simp; omega))
          clear vv uu v0 b0 u0
          clear m1
          go_wp2_with fail
          refine (grant_w g _ (x.l + 1) _ V1.out (grant_ok ok.out M)).mono ?_
          rintro e w2 ⟨rfl, vv, uu⟩
          have V2 := hide vv
          have B2 := hide (B1.out.upd2 uu (by simp; omega))
          have U2 := hide (U1.out.trans (S := []) uu (by simp; omega))
          clear vv uu V1 B1 U1
          go_wp2_with fail
          go_simp
          go_meet
          exact ⟨_, grant_ok (grant_ok ok.out M) _, ((bd.out.grant M).grant _).more, Int.le_refl _, Int.le_refl _, V2.out, U2.out⟩
        | 5, _ =>
          as_aux_lemma =>
          have ej : K % 13 = 5 := ej
          have ej2 := hj
          clear ej2 hj
          clear m0
          by_cases q1 : x.s < x.l ∧ x.s < x.m
          · obtain ⟨q2, q3⟩ := q1
            go_wp2_with fail
            refine (next_to g x { x with s := x.s + 1 } (x.s + 1) true _ v0.out ok.out (by simp [nextI, nextB, nextW, q2, q3])).mono ?_
            rintro e w1 ⟨rfl, vv, uu⟩
            have V1 := hide vv
            have B1 := hide (b0.out.upd2 uu (by simp; omega))
            have U1 := hide (u0.out.trans (S := []) uu (by simp; omega))
            clear vv uu v0 b0 u0

            have ok2 : Win.Ok { x with s := x.s + 1 } := by have := next_ok ok.out; unfold nextW at this; rwa [if_pos ⟨q2, q3⟩] at this
            have lm := hide (limit_w g _ _ V1.out ok2)
            replace ok2 := hide ok2
            go_wp2_with fail
            refine lm.out.mono ?_
            rintro e w2 ⟨rfl, rfl⟩
            go_wp2_with fail
            go_simp
            go_meet
            exact ⟨_, ok2.out, (show Win.Bd n k { x with s := x.s + 1 } from ⟨bd.out.c, bd.out.u, bd.out.l⟩).more, Int.le_refl _, Int.le_refl _, V1.out, U1.out⟩

          · go_wp2_with fail
            refine (next_to g x x 0 false _ v0.out ok.out (by simp only [nextI, nextB, nextW, q1]; simp)).mono ?_
            rintro e w1 ⟨rfl, vv, uu⟩
            have V1 := hide vv
            have B1 := hide (b0.out.upd2 uu (by simp; omega))
            have U1 := hide (u0.out.trans (S := []) uu (by simp; omega))
            clear vv uu v0 b0 u0

            have lm := hide (limit_w g _ _ V1.out ok.out)
            have sm := hide (sent_w g _ _ V1.out ok.out)
            go_wp2_with fail
            refine sm.out.mono ?_
            rintro e w2 ⟨rfl, rfl⟩
            go_wp2_with fail
            refine lm.out.mono ?_
            rintro e w2 ⟨rfl, rfl⟩
            by_cases q4 : x.l ≤ x.m
            · have q5 : ¬ x.s < x.l := fun h => q1 ⟨h, by omega⟩
              clear q1
              go_wp2_with fail
              go_simp
              go_meet
              exact ⟨x, ok.out, bd.out.more, Int.le_refl _, Int.le_refl _, V1.out, U1.out⟩

            · have q5 : ¬ x.s < x.m := fun h => q1 ⟨by omega, h⟩
              clear q1
              go_wp2_with fail
              go_simp
              go_meet
              exact ⟨x, ok.out, bd.out.more, Int.le_refl _, Int.le_refl _, V1.out, U1.out⟩
        | 6, _ =>
          as_aux_lemma =>
          have ej : K % 13 = 6 := ej
          have ej2 := hj
          clear ej2 hj
          clear m0
          by_cases q1 : x.s < x.l ∧ x.s < x.m
          · obtain ⟨q2, q3⟩ := q1
            go_wp2_with fail
            refine (next_to g x { x with s := x.s + 1 } (x.s + 1) true _ v0.out ok.out (by simp [nextI, nextB, nextW, q2, q3])).mono ?_
            rintro e w1 ⟨rfl, vv, uu⟩
            have V1 := hide vv
            have B1 := hide (b0.out.upd2 uu (by simp; omega))
            have U1 := hide (u0.out.trans (S := []) uu (by simp; omega))
            clear vv uu v0 b0 u0

            have ok2 : Win.Ok { x with s := x.s + 1 } := by have := next_ok ok.out; unfold nextW at this; rwa [if_pos ⟨q2, q3⟩] at this
            have lm := hide (limit_w g _ _ V1.out ok2)
            replace ok2 := hide ok2
            go_wp2_with fail
            refine lm.out.mono ?_
            rintro e w2 ⟨rfl, rfl⟩
            go_wp2_with fail
            go_simp
            go_meet
            exact ⟨_, ok2.out, (show Win.Bd n k { x with s := x.s + 1 } from ⟨bd.out.c, bd.out.u, bd.out.l⟩).more, Int.le_refl _, Int.le_refl _, V1.out, U1.out⟩

          · go_wp2_with fail
            refine (next_to g x x 0 false _ v0.out ok.out (by simp only [nextI, nextB, nextW, q1]; simp)).mono ?_
            rintro e w1 ⟨rfl, vv, uu⟩
            have V1 := hide vv
            have B1 := hide (b0.out.upd2 uu (by simp; omega))
            have U1 := hide (u0.out.trans (S := []) uu (by simp; omega))
            clear vv uu v0 b0 u0

            have lm := hide (limit_w g _ _ V1.out ok.out)
            have sm := hide (sent_w g _ _ V1.out ok.out)
            go_wp2_with fail
            refine sm.out.mono ?_
            rintro e w2 ⟨rfl, rfl⟩
            go_wp2_with fail
            refine lm.out.mono ?_
            rintro e w2 ⟨rfl, rfl⟩
            by_cases q4 : x.l ≤ x.m
            · have q5 : ¬ x.s < x.l := fun h => q1 ⟨h, by omega⟩
              clear q1
              go_wp2_with fail
              go_simp
              go_meet
              exact ⟨x, ok.out, bd.out.more, Int.le_refl _, Int.le_refl _, V1.out, U1.out⟩

            · have q5 : ¬ x.s < x.m := fun h => q1 ⟨by omega, h⟩
              clear q1
              go_wp2_with fail
              go_simp
              go_meet
              exact ⟨x, ok.out, bd.out.more, Int.le_refl _, Int.le_refl _, V1.out, U1.out⟩
        | 7, _ =>
          as_aux_lemma =>
          have ej : K % 13 = 7 := ej
          have ej2 := hj
          clear ej2 hj
          clear m0
          by_cases q1 : x.s < x.l ∧ x.s < x.m
          · obtain ⟨q2, q3⟩ := q1
            go_wp2_with fail
            refine (next_to g x { x with s := x.s + 1 } (x.s + 1) true _ v0.out ok.out (by simp [nextI, nextB, nextW, q2, q3])).mono ?_
            rintro e w1 ⟨rfl, vv, uu⟩
            have V1 := hide vv
            have B1 := hide (b0.out.upd2 uu (by simp; omega))
            have U1 := hide (u0.out.trans (S := []) uu (by simp; omega))
            clear vv uu v0 b0 u0

            have ok2 : Win.Ok { x with s := x.s + 1 } := by have := next_ok ok.out; unfold nextW at this; rwa [if_pos ⟨q2, q3⟩] at this
            have lm := hide (limit_w g _ _ V1.out ok2)
            replace ok2 := hide ok2
            go_wp2_with fail
            refine lm.out.mono ?_
            rintro e w2 ⟨rfl, rfl⟩
            go_wp2_with fail
            go_simp
            go_meet
            exact ⟨_, ok2.out, (show Win.Bd n k { x with s := x.s + 1 } from ⟨bd.out.c, bd.out.u, bd.out.l⟩).more, Int.le_refl _, Int.le_refl _, V1.out, U1.out⟩

          · go_wp2_with fail
            refine (next_to g x x 0 false _ v0.out ok.out (by simp only [nextI, nextB, nextW, q1]; simp)).mono ?_
            rintro e w1 ⟨rfl, vv, uu⟩
            have V1 := hide vv
            have B1 := hide (b0.out.upd2 uu (by simp; omega))
            have U1 := hide (u0.out.trans (S := []) uu (by simp; omega))
            clear vv uu v0 b0 u0

            have lm := hide (limit_w g _ _ V1.out ok.out)
            have sm := hide (sent_w g _ _ V1.out ok.out)
            go_wp2_with fail
            refine sm.out.mono ?_
            rintro e w2 ⟨rfl, rfl⟩
            go_wp2_with fail
            refine lm.out.mono ?_
            rintro e w2 ⟨rfl, rfl⟩
            by_cases q4 : x.l ≤ x.m
            · have q5 : ¬ x.s < x.l := fun h => q1 ⟨h, by omega⟩
              clear q1
              go_wp2_with fail
              go_simp
              go_meet
              exact ⟨x, ok.out, bd.out.more, Int.le_refl _, Int.le_refl _, V1.out, U1.out⟩

            · have q5 : ¬ x.s < x.m := fun h => q1 ⟨by omega, h⟩
              clear q1
              go_wp2_with fail
              go_simp
              go_meet
              exact ⟨x, ok.out, bd.out.more, Int.le_refl _, Int.le_refl _, V1.out, U1.out⟩
        | 8, _ =>
          as_aux_lemma =>
          have ej : K % 13 = 8 := ej
          have ej2 := hj
          clear ej2 hj
          clear m0
          have m1 : wk.cell? ⟨wr.heap.size, 1, none⟩ = some (.int .i64 M) := by rw [b0.out.cell]; rfl
          go_wp2_with fail
          refine (back_w g x M _ v0.out ok.out).mono ?_
          rintro e w1 ⟨rfl, vv, uu⟩
          have V1 := hide vv
          have B1 := hide (b0.out.upd2 uu (by simp; omega))
          have U1 := hide (u0.out.trans (S := []) uu (by simp; omega))
          clear vv uu v0 b0 u0
          go_wp2_with fail
          go_simp
          go_meet
          exact ⟨_, back_ok ok.out M, (bd.out.back M).more, Int.le_refl _, Int.le_refl _, V1.out, U1.out⟩
        | 9, _ =>
          as_aux_lemma =>
          have ej : K % 13 = 9 := ej
          have ej2 := hj
          clear ej2 hj
          clear m0
          go_wp2_with fail
          refine (renew_w g x _ v0.out ok.out).mono ?_
          rintro e w1 ⟨rfl, vv, uu⟩
          have V1 := hide vv
          have B1 := hide (b0.out.upd2 uu (by simp; omega))
          have U1 := hide (u0.out.trans (S := []) uu (by simp; omega))
          clear vv uu v0 b0 u0
          go_wp2_with fail
          go_simp
          go_meet
          exact ⟨_, renew_ok ok.out, bd.out.renew.more, Int.le_refl _, Int.le_refl _, V1.out, U1.out⟩
        | 10, _ =>
          as_aux_lemma =>
          have ej : K % 13 = 10 := ej
          have ej2 := hj
          clear ej2 hj
          clear m0
          have m1 : wk.cell? ⟨wr.heap.size, 1, none⟩ = some (.int .i64 M) := by rw [b0.out.cell]; rfl
          go_wp2_with fail
          refine (ack_w g x M _ v0.out ok.out).mono ?_
          rintro e w1 ⟨rfl, vv, uu⟩
          have V1 := hide vv
          have B1 := hide (b0.out.upd2 uu (by simp; omega))
          have U1 := hide (u0.out.trans (S := []) uu (by simp; omega))
          clear vv uu v0 b0 u0
          clear m1
          go_wp2_with fail
          refine (ack_w g _ (x.d + 1) _ V1.out (ack_ok ok.out M)).mono ?_
          rintro e w2 ⟨rfl, vv, uu⟩
          have V2 := hide vv
          have B2 := hide (B1.out.upd2 uu (by simp; omega))
          have U2 := hide (U1.out.trans (S := []) uu (by simp; omega))
          clear vv uu V1 B1 U1
          have p1 := bd.out.ack M
          have p2 := p1.1.ack (x.d + 1)
          replace p1 := hide p1
          replace p2 := hide p2
          go_wp2_with fail
          go_simp
          go_meet
          exact ⟨_, ack_ok (ack_ok ok.out M) _, p2.out.1.more, Int.le_trans p1.out.2.1 p2.out.2.1, by rw [p2.out.2.2, p1.out.2.2]; exact Int.le_refl _, V2.out, U2.out⟩
        | 11, _ =>
          as_aux_lemma =>
          have ej : K % 13 = 11 := ej
          have ej2 := hj
          clear ej2 hj
          clear m0
          have m1 : wk.cell? ⟨wr.heap.size, 1, none⟩ = some (.int .i64 M) := by rw [b0.out.cell]; rfl
          go_wp2_with fail
          refine (grant_w g x M _ v0.out ok.out).mono ?_
          rintro e w1 ⟨rfl, vv, uu⟩
          have V1 := hide vv
          have B1 := hide (b0.out.upd2 uu (by simp; omega))
          have U1 := hide (u0.out.trans (S := []) uu (by simp; omega))
          clear vv uu v0 b0 u0
          clear m1
          go_wp2_with fail
          refine (grant_w g _ (x.l + 1) _ V1.out (grant_ok ok.out M)).mono ?_
          rintro e w2 ⟨rfl, vv, uu⟩
          have V2 := hide vv
          have B2 := hide (B1.out.upd2 uu (by simp; omega))
          have U2 := hide (U1.out.trans (S := []) uu (by simp; omega))
          clear vv uu V1 B1 U1
          go_wp2_with fail
          go_simp
          go_meet
          exact ⟨_, grant_ok (grant_ok ok.out M) _, ((bd.out.grant M).grant _).more, Int.le_refl _, Int.le_refl _, V2.out, U2.out⟩
        | 12, _ =>
          as_aux_lemma =>
          have ej : K % 13 = 12 := ej
          have ej2 := hj
          clear ej2 hj
          clear m0
          have p1 := hide (bd.out.push ok.out (by omega))
          by_cases q1 : x.l - x.d < n
          · have q2 : pushB x = true := by simp [pushB]; rw [hfr.out]; omega
            go_wp2_with fail
            refine (push_to g x (pushW x) true _ v0.out ok.out ⟨q2, rfl⟩).mono ?_
            rintro e w1 ⟨rfl, vv, uu⟩
            have V1 := hide vv
            have B1 := hide (b0.out.upd2 uu (by simp; omega))
            have U1 := hide (u0.out.trans (S := []) uu (by simp; omega))
            clear vv uu v0 b0 u0

            clear q2
            go_wp2_with fail
            go_simp
            go_meet
            exact ⟨_, push_ok ok.out, p1.out.1, by rw [p1.out.2.2]; exact Int.le_refl _, p1.out.2.1, V1.out, U1.out⟩

          · have q2 : pushB x = false := by simp [pushB]; rw [hfr.out]; omega
            go_wp2_with fail
            refine (push_to g x (pushW x) false _ v0.out ok.out ⟨q2, rfl⟩).mono ?_
            rintro e w1 ⟨rfl, vv, uu⟩
            have V1 := hide vv
            have B1 := hide (b0.out.upd2 uu (by simp; omega))
            have U1 := hide (u0.out.trans (S := []) uu (by simp; omega))
            clear vv uu v0 b0 u0

            clear q2
            go_wp2_with fail
            go_simp
            go_meet
            exact ⟨_, push_ok ok.out, p1.out.1, by rw [p1.out.2.2]; exact Int.le_refl _, p1.out.2.1, V1.out, U1.out⟩
      case rest =>
        as_aux_lemma =>
        obtain ⟨y, oy, by_, yd, yl, vy, uy⟩ := hcut
        obtain ⟨w1, rfl⟩ : ∃ w1 : World, w1 = wc := ⟨_, rfl⟩
        have hD := hide (done_w g y w1 vy oy)
        have hL := hide (last_w g y w1 vy oy)
        have hS := hide (sent_w g y w1 vy oy)
        have hFr := hide (free_to g y (n - (y.l - y.d)) w1 vy oy (by_.free oy (by omega)))
        have V := hide vy
        have U := hide uy
        have z1 := oy.s1
        have z2 := oy.s2
        have z3 := oy.d2
        have z4 := oy.l2
        have z5 := oy.d1
        have z6 := by_.u
        replace oy := hide oy
        replace by_ := hide by_
        clear vy uy v0 b0 u0 ej hj m0
        go_wp2_with fail
        refine hD.out.mono ?_
        rintro e w2 ⟨rfl, rfl⟩
        go_wp2_with fail
        refine hL.out.mono ?_
        rintro e w2 ⟨rfl, rfl⟩
        go_wp2_with fail
        refine hD.out.mono ?_
        rintro e w2 ⟨rfl, rfl⟩
        go_wp2_with fail
        refine hL.out.mono ?_
        rintro e w2 ⟨rfl, rfl⟩
        go_wp2_with fail
        refine hS.out.mono ?_
        rintro e w2 ⟨rfl, rfl⟩
        go_wp2_with fail
        refine hL.out.mono ?_
        rintro e w2 ⟨rfl, rfl⟩
        go_wp2_with fail
        refine hS.out.mono ?_
        rintro e w2 ⟨rfl, rfl⟩
        go_wp2_with fail
        refine hL.out.mono ?_
        rintro e w2 ⟨rfl, rfl⟩
        go_wp2_with fail
        refine hD.out.mono ?_
        rintro e w2 ⟨rfl, rfl⟩
        go_wp2_with fail
        refine hFr.out.mono ?_
        rintro e w2 ⟨rfl, vv, uu⟩
        have V2 := hide vv
        have U2 := hide (U.out.trans uu (by simp))
        have hD2 := hide (done_w g y w2 vv oy.out)
        have hL2 := hide (last_w g y w2 vv oy.out)
        clear vv uu hD hL hS hFr V U
        go_wp2_with fail
        refine hL2.out.mono ?_
        rintro e w2 ⟨rfl, rfl⟩
        go_wp2_with fail
        refine hD2.out.mono ?_
        rintro e w2 ⟨rfl, rfl⟩
        go_wp2_with fail
        go_roundw
        case rel => exact ⟨k + 1, y, by omega, by go_num, oy.out, by_.out, V2.out, U2.out⟩
        case measure => simp [intOf]; omega
    · obtain rfl : k = xs.length := by omega
      have U := hide hu
      clear hv hu
      go_wp2_with fail
      refine (framed_any _).mono ?_
      rintro e w3 ⟨rfl, u3⟩
      replace u3 := hide u3
      go_wp2_with fail
      go_ret
      exact ⟨rfl, U.out.trans u3.out (by simp)⟩
end Go.Proofs.Ytbknneacegdcaaa
