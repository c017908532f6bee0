/- WindowsPlay: the walk. -/
import Derived.Test.YtbknneacegdcaaaWalkD
import Derived.Deep.CutRange
import Derived.Deep.CutBlock
namespace Go.Proofs.Ytbknneacegdcaaa
open Go.RowKit
set_option linter.unusedVariables false

/-- the acts that lie at an address: Kind and N -/
def Acts (w : World) (b off : Nat) (xs : List (Int × Int)) : Prop :=
  ∀ i, i < xs.length → w.cell? ⟨b, off + i * 2, none⟩ = some (.int .u8 (xs[i]?.getD (0, 0)).1) ∧ w.cell? ⟨b, off + i * 2 + 1, none⟩ = some (.int .i64 (xs[i]?.getD (0, 0)).2)
def Fit (xs : List (Int × Int)) : Prop := ∀ x ∈ xs, 0 ≤ x.1 ∧ x.1 ≤ 255 ∧ -9223372036854775808 ≤ x.2 ∧ x.2 ≤ 9223372036854775807
theorem Acts.upd {w w' : World} {b off : Nat} {xs : List (Int × Int)} {S : List Nat} (h : Acts w b off xs) (u : Upd w w' S) (hb : b ∉ S) : Acts w' b off xs := by
  intro i hi
  obtain ⟨h1, h2⟩ := h i hi
  have hlt := World.block_lt_of_cell? _ _ h1
  exact ⟨(World.cell?_of_block (w := w) (u.block b hlt hb)).trans h1, (World.cell?_of_block (w := w) (u.block b hlt hb)).trans h2⟩

theorem Blk.upd2 {w w' : World} {g t : Nat} {cs : Array Value} {S : List Nat} (h : Blk w g t cs) (u : Upd w w' S) (hg : g ∉ S) : Blk w' g t cs := u.blk h hg
set_option maxRecDepth 100000 in
set_option maxHeartbeats 4000000 in
theorem play_walk (a0 : Option Addr) (b off cap : Nat) (xs : List (Int × Int)) (c l d : Int) (w : World) (ha : 0 < xs.length → a0 = some ⟨b, off, none⟩) (hx : Acts w b off xs) (hf : Fit xs) (hlen : xs.length ≤ 200)
    (o1 : 1 ≤ c) (o2 : c ≤ 16) (o3 : 0 ≤ d) (o4 : d ≤ l) (o5 : l ≤ 4096) :
    Calls Try.prog 4 #[.int .i64 c, .agg #[.int .i64 l, .int .i64 d], .slice a0 xs.length cap] w fun e w' => e = .returned (.bool true) ∧ Upd w w' [] := by
  have X := hide hx
  have F := hide hf
  have HA := hide ha
  clear hx hf ha
  go_enter Try.func4, Try.ntmps4
  go_wp2_with fail
  refine (new_ok c l d _ o1 o2 o3 o4 o5).mono ?_
  rintro e w1 ⟨g, rfl, hg, v1, u1⟩
  have A0 := (Upd.refl w []).alloc (.cells #[.int .i64 l, .int .i64 d] 36)
  have B0 := Blk.new w 36 #[.int .i64 l, .int .i64 d]
  have x0 : w1.cell? ⟨w.heap.size, 0, none⟩ = some (.int .i64 l) := by rw [(u1.blk B0 (by simp)).cell]; rfl
  have x1 : w1.cell? ⟨w.heap.size, 1, none⟩ = some (.int .i64 d) := by rw [(u1.blk B0 (by simp)).cell]; rfl
  replace v1 := hide v1
  replace u1 := hide (A0.trans u1 (by simp))
  clear A0 B0
  go_wp2_with fail
  refine (rnew_ok c l d _ o1 o2 o3 o4 o5).mono ?_
  rintro e w2 ⟨r, rfl, hr, v2, u2⟩
  replace v1 := hide (v1.out.upd u2 (by simp))
  replace v2 := hide v2
  replace u2 := hide (u1.out.trans u2 (by simp))
  have gw : w.heap.size ≤ g ∧ w.heap.size ≤ r := by
    have k1 : w.heap.size + 1 ≤ g := by simpa using hg
    have k2 := u1.out.size
    omega
  clear u1 x0 x1 hg hr
  go_wp2_with fail
  have i0 : Win.Ok ⟨c, l, d, l, 0⟩ := by constructor <;> (simp only; omega)
  go_loopw [11] (fun v wr => ∃ (k : Nat) (x : Win), k ≤ xs.length ∧ v = .int .i64 k ∧ x.Ok ∧ IsW wr g 46 x ∧ IsW wr r 41 x ∧ Upd w wr []) (fun v _ => xs.length - (intOf v).toNat)
  case atStart => exact ⟨0, _, by omega, rfl, i0, v1.out, v2.out, u2.out⟩
  case round =>
    obtain ⟨k, x, hk, rfl, ok, hv, rv, hu⟩ := hrel
    clear v1 v2 u2 i0
    by_cases hlt : k < xs.length
    · obtain rfl := HA.out (by omega)
      have hki : (k : Int) < (xs.length : Int) := by omega
      obtain ⟨a1, a2⟩ := X.out.upd hu (by simp) k hlt
      have fx := F.out (xs[k]?.getD (0, 0)) (by rw [List.getElem?_eq_getElem hlt]; exact List.getElem_mem hlt)
      generalize xs[k]?.getD (0, 0) = q at *
      obtain ⟨K, M⟩ := q
      simp only at a1 a2 fx
      obtain ⟨f1, f2, f3, f4⟩ := fx
      have A0 := (Upd.refl wr []).alloc (.cells #[.int .u8 K, .int .i64 M] 29)
      have B0 := Blk.new wr 29 #[.int .u8 K, .int .i64 M]
      have hv0 := hv.upd A0 (by simp)
      have rv0 := rv.upd A0 (by simp)
      have gr : g < wr.heap.size ∧ r < wr.heap.size ∧ ¬ g = r ∧ ¬ r = g := ⟨Blk.lt hv, Blk.lt rv, Blk.ne_ hv rv (by decide), Blk.ne_ rv hv (by decide)⟩
      have hwr := hu.size
      have b0 := hide B0
      have v0 := hide hv0
      have r0 := hide rv0
      have u0 := hide (hu.trans A0 (by simp))
      replace ok := hide ok
      have l1 := ok.out.l2
      have l2 := ok.out.d2
      have l3 := ok.out.d1
      clear hv rv A0 B0 hv0 rv0 hu
      have hj : 0 ≤ K % 13 ∧ K % 13 < 13 := by omega
      obtain ⟨j, ej⟩ : ∃ j : Nat, K % 13 = j := ⟨(K % 13).toNat, by omega⟩
      go_upto_block 2 with fail
      generalize wr.alloc (.cells #[.int .u8 K, .int .i64 M] 29) = wk at *
      go_cut [13, 14, 15, 16] from 57 to 187 (fun s1 s2 s3 s4 wx => ∃ (y : Win) (bb : Bool) (ii : Int), y.Ok ∧ s1 = .bool bb ∧ s2 = .bool bb ∧ s3 = .int .i64 ii ∧ s4 = .int .i64 ii ∧ IsW wx g 46 y ∧ IsW wx r 41 y ∧ Upd w wx [])
      case first =>
        have hj' : j < 13 := by omega
        match j, hj' with
        | 0, _ =>
          as_aux_lemma =>
          have ej : K % 13 = 0 := ej
          have ej2 := hj
          clear ej2 hj
          go_wp2_with fail
          refine (push_w g x _ v0.out ok.out).mono ?_
          rintro e w1 ⟨rfl, vv1, uu1⟩
          have V1 := hide vv1
          have R1 := hide (r0.out.upd uu1 (by simp; omega))
          have B1 := hide (b0.out.upd2 uu1 (by simp; omega))
          have U1 := hide (u0.out.trans (S := []) uu1 (by simp; omega))
          clear vv1 uu1 v0 r0 b0 u0
          go_wp2_with fail
          refine (rpush_w r x _ R1.out ok.out).mono ?_
          rintro e w2 ⟨rfl, vv2, uu2⟩
          have R2 := hide vv2
          have V2 := hide (V1.out.upd uu2 (by simp; omega))
          have B2 := hide (B1.out.upd2 uu2 (by simp; omega))
          have U2 := hide (U1.out.trans (S := []) uu2 (by simp; omega))
          clear vv2 uu2 V1 R1 B1 U1
          go_wp2_with fail
          go_simp
          go_meet
          exact ⟨pushW x, pushB x, 0, push_ok ok.out, rfl, rfl, rfl, rfl, V2.out, R2.out, U2.out⟩
        | 1, _ =>
          as_aux_lemma =>
          have ej : K % 13 = 1 := ej
          have ej2 := hj
          clear ej2 hj
          go_wp2_with fail
          refine (push_w g x _ v0.out ok.out).mono ?_
          rintro e w1 ⟨rfl, vv1, uu1⟩
          have V1 := hide vv1
          have R1 := hide (r0.out.upd uu1 (by simp; omega))
          have B1 := hide (b0.out.upd2 uu1 (by simp; omega))
          have U1 := hide (u0.out.trans (S := []) uu1 (by simp; omega))
          clear vv1 uu1 v0 r0 b0 u0
          go_wp2_with fail
          refine (rpush_w r x _ R1.out ok.out).mono ?_
          rintro e w2 ⟨rfl, vv2, uu2⟩
          have R2 := hide vv2
          have V2 := hide (V1.out.upd uu2 (by simp; omega))
          have B2 := hide (B1.out.upd2 uu2 (by simp; omega))
          have U2 := hide (U1.out.trans (S := []) uu2 (by simp; omega))
          clear vv2 uu2 V1 R1 B1 U1
          go_wp2_with fail
          go_simp
          go_meet
          exact ⟨pushW x, pushB x, 0, push_ok ok.out, rfl, rfl, rfl, rfl, V2.out, R2.out, U2.out⟩
        | 2, _ =>
          as_aux_lemma =>
          have ej : K % 13 = 2 := ej
          have ej2 := hj
          clear ej2 hj
          go_wp2_with fail
          refine (push_w g x _ v0.out ok.out).mono ?_
          rintro e w1 ⟨rfl, vv1, uu1⟩
          have V1 := hide vv1
          have R1 := hide (r0.out.upd uu1 (by simp; omega))
          have B1 := hide (b0.out.upd2 uu1 (by simp; omega))
          have U1 := hide (u0.out.trans (S := []) uu1 (by simp; omega))
          clear vv1 uu1 v0 r0 b0 u0
          go_wp2_with fail
          refine (rpush_w r x _ R1.out ok.out).mono ?_
          rintro e w2 ⟨rfl, vv2, uu2⟩
          have R2 := hide vv2
          have V2 := hide (V1.out.upd uu2 (by simp; omega))
          have B2 := hide (B1.out.upd2 uu2 (by simp; omega))
          have U2 := hide (U1.out.trans (S := []) uu2 (by simp; omega))
          clear vv2 uu2 V1 R1 B1 U1
          go_wp2_with fail
          go_simp
          go_meet
          exact ⟨pushW x, pushB x, 0, push_ok ok.out, rfl, rfl, rfl, rfl, V2.out, R2.out, U2.out⟩
        | 3, _ =>
          as_aux_lemma =>
          have ej : K % 13 = 3 := ej
          have ej2 := hj
          clear ej2 hj
          have m1 : wk.cell? ⟨wr.heap.size, 1, none⟩ = some (.int .i64 M) := by rw [b0.out.cell]; rfl
          have vd := hide (show IsW wk.drew g 46 x from v0.out)
          have rd := hide (show IsW wk.drew r 41 x from r0.out)
          have bd := hide (show Blk wk.drew wr.heap.size 29 #[.int .u8 K, .int .i64 M] from b0.out)
          have ud := hide (u0.out.drew)
          go_wp2_with fail
          go_region_with (first | (go_at_call 10; refine (ack_w g x M wk.drew vd.out ok.out).mono ?_; rintro e w1 ⟨rfl, vv1, uu1⟩; have V1 := hide vv1; have R1 := hide (rd.out.upd uu1 (by simp; omega)); have B1 := bd.out.upd2 uu1 (by simp; omega); have m2 : w1.cell? ⟨wr.heap.size, 1, none⟩ = some (.int .i64 M) := (by rw [B1.cell]; rfl); have U1 := hide (ud.out.trans (S := []) uu1 (by simp; omega)); clear vv1 uu1 B1) | (go_at_call 20; refine (rack_w r x M w1 R1.out).mono ?_; rintro e w2 ⟨rfl, vv2, uu2⟩; have R2 := hide vv2; have V2 := hide (V1.out.upd uu2 (by simp; omega)); have U2 := hide (U1.out.trans (S := []) uu2 (by simp; omega)); clear vv2 uu2))
          all_goals
            go_wp2_with fail
            go_simp
            go_meet
            exact ⟨ackW x M, ackB x M, 0, ack_ok ok.out M, rfl, rfl, rfl, rfl, V2.out, R2.out, U2.out⟩
        | 4, _ =>
          as_aux_lemma =>
          have ej : K % 13 = 4 := ej
          have ej2 := hj
          clear ej2 hj
          have m1 : wk.cell? ⟨wr.heap.size, 1, none⟩ = some (.int .i64 M) := by rw [b0.out.cell]; rfl
          go_wp2_with fail
          refine (grant_w g x M _ v0.out ok.out).mono ?_
          rintro e w1 ⟨rfl, vv1, uu1⟩
          have V1 := hide vv1
          have R1 := hide (r0.out.upd uu1 (by simp; omega))
          have B1 := hide (b0.out.upd2 uu1 (by simp; omega))
          have U1 := hide (u0.out.trans (S := []) uu1 (by simp; omega))
          clear vv1 uu1 v0 r0 b0 u0
          clear m1
          have m1 : w1.cell? ⟨wr.heap.size, 1, none⟩ = some (.int .i64 M) := by rw [B1.out.cell]; rfl
          go_wp2_with fail
          refine (rgrant_w r x M _ R1.out).mono ?_
          rintro e w2 ⟨rfl, vv2, uu2⟩
          have R2 := hide vv2
          have V2 := hide (V1.out.upd uu2 (by simp; omega))
          have B2 := hide (B1.out.upd2 uu2 (by simp; omega))
          have U2 := hide (U1.out.trans (S := []) uu2 (by simp; omega))
          clear vv2 uu2 V1 R1 B1 U1
          go_wp2_with fail
          go_simp
          go_meet
          exact ⟨grantW x M, false, 0, grant_ok ok.out M, rfl, rfl, rfl, rfl, V2.out, R2.out, U2.out⟩
        | 5, _ =>
          as_aux_lemma =>
          have ej : K % 13 = 5 := ej
          have ej2 := hj
          clear ej2 hj
          go_wp2_with fail
          refine (next_w g x _ v0.out ok.out).mono ?_
          rintro e w1 ⟨rfl, vv1, uu1⟩
          have V1 := hide vv1
          have R1 := hide (r0.out.upd uu1 (by simp; omega))
          have B1 := hide (b0.out.upd2 uu1 (by simp; omega))
          have U1 := hide (u0.out.trans (S := []) uu1 (by simp; omega))
          clear vv1 uu1 v0 r0 b0 u0
          go_wp2_with fail
          refine (rnext_w r x _ R1.out ok.out).mono ?_
          rintro e w2 ⟨rfl, vv2, uu2⟩
          have R2 := hide vv2
          have V2 := hide (V1.out.upd uu2 (by simp; omega))
          have B2 := hide (B1.out.upd2 uu2 (by simp; omega))
          have U2 := hide (U1.out.trans (S := []) uu2 (by simp; omega))
          clear vv2 uu2 V1 R1 B1 U1
          go_wp2_with fail
          go_simp
          go_meet
          exact ⟨nextW x, nextB x, nextI x, next_ok ok.out, rfl, rfl, rfl, rfl, V2.out, R2.out, U2.out⟩
        | 6, _ =>
          as_aux_lemma =>
          have ej : K % 13 = 6 := ej
          have ej2 := hj
          clear ej2 hj
          go_wp2_with fail
          refine (next_w g x _ v0.out ok.out).mono ?_
          rintro e w1 ⟨rfl, vv1, uu1⟩
          have V1 := hide vv1
          have R1 := hide (r0.out.upd uu1 (by simp; omega))
          have B1 := hide (b0.out.upd2 uu1 (by simp; omega))
          have U1 := hide (u0.out.trans (S := []) uu1 (by simp; omega))
          clear vv1 uu1 v0 r0 b0 u0
          go_wp2_with fail
          refine (rnext_w r x _ R1.out ok.out).mono ?_
          rintro e w2 ⟨rfl, vv2, uu2⟩
          have R2 := hide vv2
          have V2 := hide (V1.out.upd uu2 (by simp; omega))
          have B2 := hide (B1.out.upd2 uu2 (by simp; omega))
          have U2 := hide (U1.out.trans (S := []) uu2 (by simp; omega))
          clear vv2 uu2 V1 R1 B1 U1
          go_wp2_with fail
          go_simp
          go_meet
          exact ⟨nextW x, nextB x, nextI x, next_ok ok.out, rfl, rfl, rfl, rfl, V2.out, R2.out, U2.out⟩
        | 7, _ =>
          as_aux_lemma =>
          have ej : K % 13 = 7 := ej
          have ej2 := hj
          clear ej2 hj
          go_wp2_with fail
          refine (next_w g x _ v0.out ok.out).mono ?_
          rintro e w1 ⟨rfl, vv1, uu1⟩
          have V1 := hide vv1
          have R1 := hide (r0.out.upd uu1 (by simp; omega))
          have B1 := hide (b0.out.upd2 uu1 (by simp; omega))
          have U1 := hide (u0.out.trans (S := []) uu1 (by simp; omega))
          clear vv1 uu1 v0 r0 b0 u0
          go_wp2_with fail
          refine (rnext_w r x _ R1.out ok.out).mono ?_
          rintro e w2 ⟨rfl, vv2, uu2⟩
          have R2 := hide vv2
          have V2 := hide (V1.out.upd uu2 (by simp; omega))
          have B2 := hide (B1.out.upd2 uu2 (by simp; omega))
          have U2 := hide (U1.out.trans (S := []) uu2 (by simp; omega))
          clear vv2 uu2 V1 R1 B1 U1
          go_wp2_with fail
          go_simp
          go_meet
          exact ⟨nextW x, nextB x, nextI x, next_ok ok.out, rfl, rfl, rfl, rfl, V2.out, R2.out, U2.out⟩
        | 8, _ =>
          as_aux_lemma =>
          have ej : K % 13 = 8 := ej
          have ej2 := hj
          clear ej2 hj
          have m1 : wk.cell? ⟨wr.heap.size, 1, none⟩ = some (.int .i64 M) := by rw [b0.out.cell]; rfl
          go_wp2_with fail
          refine (back_w g x M _ v0.out ok.out).mono ?_
          rintro e w1 ⟨rfl, vv1, uu1⟩
          have V1 := hide vv1
          have R1 := hide (r0.out.upd uu1 (by simp; omega))
          have B1 := hide (b0.out.upd2 uu1 (by simp; omega))
          have U1 := hide (u0.out.trans (S := []) uu1 (by simp; omega))
          clear vv1 uu1 v0 r0 b0 u0
          clear m1
          have m1 : w1.cell? ⟨wr.heap.size, 1, none⟩ = some (.int .i64 M) := by rw [B1.out.cell]; rfl
          go_wp2_with fail
          refine (rback_w r x M _ R1.out ok.out).mono ?_
          rintro e w2 ⟨rfl, vv2, uu2⟩
          have R2 := hide vv2
          have V2 := hide (V1.out.upd uu2 (by simp; omega))
          have B2 := hide (B1.out.upd2 uu2 (by simp; omega))
          have U2 := hide (U1.out.trans (S := []) uu2 (by simp; omega))
          clear vv2 uu2 V1 R1 B1 U1
          go_wp2_with fail
          go_simp
          go_meet
          exact ⟨backW x M, false, 0, back_ok ok.out M, rfl, rfl, rfl, rfl, V2.out, R2.out, U2.out⟩
        | 9, _ =>
          as_aux_lemma =>
          have ej : K % 13 = 9 := ej
          have ej2 := hj
          clear ej2 hj
          go_wp2_with fail
          refine (renew_w g x _ v0.out ok.out).mono ?_
          rintro e w1 ⟨rfl, vv1, uu1⟩
          have V1 := hide vv1
          have R1 := hide (r0.out.upd uu1 (by simp; omega))
          have B1 := hide (b0.out.upd2 uu1 (by simp; omega))
          have U1 := hide (u0.out.trans (S := []) uu1 (by simp; omega))
          clear vv1 uu1 v0 r0 b0 u0
          go_wp2_with fail
          refine (rrenew_w r x _ R1.out).mono ?_
          rintro e w2 ⟨rfl, vv2, uu2⟩
          have R2 := hide vv2
          have V2 := hide (V1.out.upd uu2 (by simp; omega))
          have B2 := hide (B1.out.upd2 uu2 (by simp; omega))
          have U2 := hide (U1.out.trans (S := []) uu2 (by simp; omega))
          clear vv2 uu2 V1 R1 B1 U1
          go_wp2_with fail
          go_simp
          go_meet
          exact ⟨renewW x, false, 0, renew_ok ok.out, rfl, rfl, rfl, rfl, V2.out, R2.out, U2.out⟩
        | 10, _ =>
          as_aux_lemma =>
          have ej : K % 13 = 10 := ej
          have ej2 := hj
          clear ej2 hj
          have q2 := r0.out.f2
          go_wp2_with fail
          refine (ack_w g x (x.d + 1) _ v0.out ok.out).mono ?_
          rintro e w1 ⟨rfl, vv1, uu1⟩
          have V1 := hide vv1
          have R1 := hide (r0.out.upd uu1 (by simp; omega))
          have B1 := hide (b0.out.upd2 uu1 (by simp; omega))
          have U1 := hide (u0.out.trans (S := []) uu1 (by simp; omega))
          clear vv1 uu1 v0 r0 b0 u0
          clear q2
          have q2 := R1.out.f2
          go_wp2_with fail
          refine (rack_w r x (x.d + 1) _ R1.out).mono ?_
          rintro e w2 ⟨rfl, vv2, uu2⟩
          have R2 := hide vv2
          have V2 := hide (V1.out.upd uu2 (by simp; omega))
          have B2 := hide (B1.out.upd2 uu2 (by simp; omega))
          have U2 := hide (U1.out.trans (S := []) uu2 (by simp; omega))
          clear vv2 uu2 V1 R1 B1 U1
          go_wp2_with fail
          go_simp
          go_meet
          exact ⟨ackW x (x.d + 1), ackB x (x.d + 1), 0, ack_ok ok.out _, rfl, rfl, rfl, rfl, V2.out, R2.out, U2.out⟩
        | 11, _ =>
          as_aux_lemma =>
          have ej : K % 13 = 11 := ej
          have ej2 := hj
          clear ej2 hj
          have q1 := r0.out.f1
          go_wp2_with fail
          refine (grant_w g x (x.l + 2) _ v0.out ok.out).mono ?_
          rintro e w1 ⟨rfl, vv1, uu1⟩
          have V1 := hide vv1
          have R1 := hide (r0.out.upd uu1 (by simp; omega))
          have B1 := hide (b0.out.upd2 uu1 (by simp; omega))
          have U1 := hide (u0.out.trans (S := []) uu1 (by simp; omega))
          clear vv1 uu1 v0 r0 b0 u0
          clear q1
          have q1 := R1.out.f1
          go_wp2_with fail
          refine (rgrant_w r x (x.l + 2) _ R1.out).mono ?_
          rintro e w2 ⟨rfl, vv2, uu2⟩
          have R2 := hide vv2
          have V2 := hide (V1.out.upd uu2 (by simp; omega))
          have B2 := hide (B1.out.upd2 uu2 (by simp; omega))
          have U2 := hide (U1.out.trans (S := []) uu2 (by simp; omega))
          clear vv2 uu2 V1 R1 B1 U1
          go_wp2_with fail
          go_simp
          go_meet
          exact ⟨grantW x (x.l + 2), false, 0, grant_ok ok.out _, rfl, rfl, rfl, rfl, V2.out, R2.out, U2.out⟩
        | 12, _ =>
          as_aux_lemma =>
          have ej : K % 13 = 12 := ej
          have ej2 := hj
          clear ej2 hj
          go_wp2_with fail
          refine (copy_w g x _ v0.out ok.out).mono ?_
          rintro e w0 ⟨gc, rfl, hgc, vc, uc⟩
          have C0 := hide vc
          have V0 := hide (v0.out.upd uc (by simp))
          have R0 := hide (r0.out.upd uc (by simp))
          have B0 := hide (b0.out.upd2 uc (by simp))
          have U0 := hide (u0.out.trans uc (by simp))
          have gk : wr.heap.size < gc := by have := b0.out.lt; omega
          have gw2 : w.heap.size ≤ gc := by omega
          clear vc uc v0 r0 b0 u0 hgc
          go_wp2_with fail
          refine (push_w gc x _ C0.out ok.out).mono ?_
          rintro e w1 ⟨rfl, vv1, uu1⟩
          have C1 := hide vv1
          have V1 := hide (V0.out.upd uu1 (by simp; omega))
          have R1 := hide (R0.out.upd uu1 (by simp; omega))
          have B1 := hide (B0.out.upd2 uu1 (by simp; omega))
          have U1 := hide (U0.out.trans (S := []) uu1 (by simp; omega))
          clear vv1 uu1 V0 R0 B0 U0
          have m1 : w1.cell? ⟨wr.heap.size, 1, none⟩ = some (.int .i64 M) := by rw [B1.out.cell]; rfl
          go_wp2_with fail
          refine (ack_w gc _ M _ C1.out (push_ok ok.out)).mono ?_
          rintro e w2 ⟨rfl, vv2, uu2⟩
          have C2 := hide vv2
          have V2 := hide (V1.out.upd uu2 (by simp; omega))
          have R2 := hide (R1.out.upd uu2 (by simp; omega))
          have B2 := hide (B1.out.upd2 uu2 (by simp; omega))
          have U2 := hide (U1.out.trans (S := []) uu2 (by simp; omega))
          clear vv2 uu2 V1 R1 B1 U1
          clear m1
          have m1 : w2.cell? ⟨wr.heap.size, 1, none⟩ = some (.int .i64 M) := by rw [B2.out.cell]; rfl
          go_wp2_with fail
          refine (grant_w gc _ M _ C2.out (ack_ok (push_ok ok.out) M)).mono ?_
          rintro e w3 ⟨rfl, vv3, uu3⟩
          have C3 := hide vv3
          have V3 := hide (V2.out.upd uu3 (by simp; omega))
          have R3 := hide (R2.out.upd uu3 (by simp; omega))
          have B3 := hide (B2.out.upd2 uu3 (by simp; omega))
          have U3 := hide (U2.out.trans (S := []) uu3 (by simp; omega))
          clear vv3 uu3 V2 R2 B2 U2
          go_wp2_with fail
          refine (next_w gc _ _ C3.out (grant_ok (ack_ok (push_ok ok.out) M) M)).mono ?_
          rintro e w4 ⟨rfl, vv4, uu4⟩
          have C4 := hide vv4
          have V4 := hide (V3.out.upd uu4 (by simp; omega))
          have R4 := hide (R3.out.upd uu4 (by simp; omega))
          have B4 := hide (B3.out.upd2 uu4 (by simp; omega))
          have U4 := hide (U3.out.trans (S := []) uu4 (by simp; omega))
          clear vv4 uu4 V3 R3 B3 U3
          go_wp2_with fail
          refine (renew_w gc _ _ C4.out (next_ok (grant_ok (ack_ok (push_ok ok.out) M) M))).mono ?_
          rintro e w5 ⟨rfl, vv5, uu5⟩
          have C5 := hide vv5
          have V5 := hide (V4.out.upd uu5 (by simp; omega))
          have R5 := hide (R4.out.upd uu5 (by simp; omega))
          have B5 := hide (B4.out.upd2 uu5 (by simp; omega))
          have U5 := hide (U4.out.trans (S := []) uu5 (by simp; omega))
          clear vv5 uu5 V4 R4 B4 U4
          go_wp2_with fail
          go_simp
          go_meet
          exact ⟨x, false, 0, ok.out, rfl, rfl, rfl, rfl, V5.out, R5.out, U5.out⟩
      case rest =>
        as_aux_lemma =>
        obtain ⟨y, bb, ii, oy, rfl, rfl, rfl, rfl, vy, ry, uy⟩ := hcut
        obtain ⟨w1, rfl⟩ : ∃ w1 : World, w1 = wc := ⟨_, rfl⟩
        have AL := hide (alike_w g r y w1 vy ry oy)
        have V := hide vy
        have R := hide ry
        have U := hide uy
        clear vy ry uy v0 r0 b0 u0 ej hj
        go_wp2_with fail
        refine AL.out.mono ?_
        rintro e w2 ⟨rfl, md, rfl⟩
        go_wp2_with fail
        go_roundw
        case rel => exact ⟨k + 1, y, by omega, by go_num, oy, V.out, R.out, U.out.drewN _⟩
        case measure => simp [intOf]; omega
    · obtain rfl : k = xs.length := by omega
      have V := hide hv
      have R := hide rv
      have U := hide hu
      clear hv rv hu
      go_wp2_with fail
      refine (copy_w g x _ V.out ok).mono ?_
      rintro e w1 ⟨gc, rfl, hgc, vc, uc⟩
      have AL := hide (alike_w gc r x w1 vc (R.out.upd uc (by simp)) ok)
      replace uc := hide (U.out.trans uc (by simp))
      clear vc
      go_wp2_with fail
      refine AL.out.mono ?_
      rintro e w2 ⟨rfl, md, rfl⟩
      go_wp2_with fail
      refine (framed_any _).mono ?_
      rintro e w3 ⟨rfl, u3⟩
      replace u3 := hide u3
      go_wp2_with fail
      go_ret
      exact ⟨rfl, (uc.out.drewN _).trans u3.out (by simp)⟩
end Go.Proofs.Ytbknneacegdcaaa
