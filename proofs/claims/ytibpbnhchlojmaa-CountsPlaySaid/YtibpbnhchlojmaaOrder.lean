/- CountsOrder: the walk. -/
import Derived.Test.YtibpbnhchlojmaaAdded
import Derived.Test.YtibpbnhchlojmaaPlain
namespace Go.Proofs.Ytibpbnhchlojmaa
open Go.RowKit
set_option linter.unusedVariables false

/-- the acts that lie at an address: I and By, each fitting 64 bits -/
def Acts (w : World) (b off : Nat) (xs : List (Int × Int)) : Prop :=
  ∀ i, i < xs.length → w.cell? ⟨b, off + i * 2, none⟩ = some (.int .i64 (xs[i]?.getD (0, 0)).1) ∧ w.cell? ⟨b, off + i * 2 + 1, none⟩ = some (.int .i64 (xs[i]?.getD (0, 0)).2)
def Fit (xs : List (Int × Int)) : Prop := ∀ x ∈ xs, -9223372036854775808 ≤ x.1 ∧ x.1 ≤ 9223372036854775807 ∧ -9223372036854775808 ≤ x.2 ∧ x.2 ≤ 9223372036854775807
theorem Acts.upd {w w' : World} {b off : Nat} {xs : List (Int × Int)} {S : List Nat} (h : Acts w b off xs) (u : Upd w w' S) (hb : b ∉ S) : Acts w' b off xs := by
  intro i hi
  obtain ⟨h1, h2⟩ := h i hi
  have hlt := World.block_lt_of_cell? _ _ h1
  exact ⟨(World.cell?_of_block (w := w) (u.block b hlt hb)).trans h1, (World.cell?_of_block (w := w) (u.block b hlt hb)).trans h2⟩

theorem lt2 {w w' : World} {S : List Nat} {a : Nat} (u : Upd w w' S) (h : a < w.heap.size) : a < w'.heap.size := Nat.lt_of_lt_of_le h u.size
/-- Add, at a place that there is -/
theorem add_in (g h j : Nat) (l : List Int) (y r : Int) (w : World) (c : Cnt w g h l) (hj : j < l.length) (hlen : l.length ≤ 64) (hy2 : y ≤ 9223372036854775807) (ok : Ok l) (hr : r = if y < 0 then 2 else 0) :
    Calls Try.prog 8 #[.pointer (some ⟨g, 0, none⟩), .int .i64 (j : Int), .int .i64 y] w fun e w' => (∃ v, e = .returned (.tuple #[.int .i64 v, .int .i64 r])) ∧ Cnt w' g h (step l j y) ∧ Upd w w' [h] := by
  subst hr
  by_cases hy : y < 0
  · refine (add_neg g h _ j y w (by rw [c.1.cell]; rfl) hy).mono ?_
    rintro e w' ⟨rfl, rfl⟩
    exact ⟨⟨0, by rw [if_pos hy]⟩, by unfold step; rw [if_pos hy]; exact c, Upd.refl _ _⟩
  · refine (add_ok g h j l y _ w c hj hlen (by omega) hy2 (ok j).1 (ok j).2 rfl).mono ?_
    rintro e w' ⟨rfl, c', u'⟩
    exact ⟨⟨_, by rw [if_neg hy]⟩, by unfold step; rw [if_neg hy]; exact c', u'⟩
/-- which of the four counters an act adds to -/
def four (x : Int × Int) : Nat := (x.1 % 4).toNat
theorem four_lt (x : Int × Int) : four x < 4 := by unfold four; omega

set_option maxRecDepth 100000 in
set_option maxHeartbeats 1000000 in
theorem order_walk (a0 : Option Addr) (b off cap : Nat) (xs : List (Int × Int)) (t : Nat) (w : World) (ha : 0 < xs.length → a0 = some ⟨b, off, none⟩) (hx : Acts w b off xs) (hf : Fit xs) (hlen : xs.length ≤ 80) (ht : t ≤ 255) :
    Calls Try.prog 3 #[.slice a0 xs.length cap, .int .u8 (t : Int)] w fun e w' => e = .returned (.bool true) ∧ Upd w w' [] := by
  have X := hide hx
  have F := hide hf
  have HA := hide ha
  clear hx hf ha
  go_enter Try.func3, Try.ntmps3
  go_wp2_with fail
  refine (new_ok 4 _ (by decide) (by decide)).mono ?_
  rintro e w1 ⟨g, h, rfl, hg, hh, c1, u1⟩
  replace c1 := hide c1
  replace u1 := hide u1
  go_wp2_with fail
  refine (new_ok 4 _ (by decide) (by decide)).mono ?_
  rintro e w2 ⟨g', h', rfl, hg', hh', c2, u2⟩
  have G1 := hide c1.out.1.lt
  have H1 := hide c1.out.2.lt
  replace c1 := hide (c1.out.upd u2 (by simp) (by simp))
  replace c2 := hide c2
  replace u2 := hide (u1.out.trans u2 (by simp))
  clear u1
  go_wp2_with fail
  have ng : g < g' ∧ g < h' ∧ h < g' ∧ h < h' := by
    have := c1.out.1.lt
    have := c1.out.2.lt
    have k1 : g < w1.heap.size := G1.out
    have k2 : h < w1.heap.size := H1.out
    omega
  have nw : w.heap.size ≤ g ∧ w.heap.size ≤ h := ⟨hg, hh⟩
  clear G1 H1 hg hh hg' hh'
  go_loopw [9] (fun v wr => ∃ k : Nat, k ≤ xs.length ∧ v = .int .i64 k ∧ Cnt wr g h (acc 4 four (xs.take k)) ∧ Cnt wr g' h' (acc 4 four (rot xs t k)) ∧ Upd w wr []) (fun v _ => xs.length - (intOf v).toNat)
  case atStart => exact ⟨0, by omega, rfl, c1.out, c2.out, u2.out⟩
  case round =>
    obtain ⟨k, hk, rfl, ca, cb, hu⟩ := hrel
    clear c1 c2 u2
    obtain ⟨la, oa⟩ := acc_inv 4 four four_lt (xs.take k)
    obtain ⟨lb, ob⟩ := acc_inv 4 four four_lt (rot xs t k)
    by_cases hlt : k < xs.length
    · obtain rfl := HA.out (by omega)
      have hm : (k + t) % xs.length < xs.length := Nat.mod_lt _ (by omega)
      obtain ⟨a1, a2⟩ := X.out.upd hu (by simp) k hlt
      obtain ⟨b1, b2⟩ := X.out.upd hu (by simp) ((k + t) % xs.length) hm
      have hm0 : 0 ≤ ((k : Int) + (t : Int)) % (xs.length : Int) := Int.emod_nonneg _ (by omega)
      have hm1 : ((k : Int) + (t : Int)) % (xs.length : Int) < (xs.length : Int) := Int.emod_lt_of_pos _ (by omega)
      have hb0 : b < wr.heap.size := World.block_lt_of_cell? _ _ a1
      have hb1 : b < wr.heap.size + 1 := by omega
      have hnz : ¬ xs = [] := by intro h; subst h; simp at hlt
      have FA : acc 4 four (xs.take (k + 1)) = step (acc 4 four (xs.take k)) (four (xs[k]?.getD (0, 0))) (xs[k]?.getD (0, 0)).2 := by
        rw [List.take_succ_eq_append_getElem hlt, acc_snoc, List.getElem?_eq_getElem hlt]; rfl
      have FB : acc 4 four (rot xs t (k + 1)) = step (acc 4 four (rot xs t k)) (four (xs[(k + t) % xs.length]?.getD (0, 0))) (xs[(k + t) % xs.length]?.getD (0, 0)).2 := by
        rw [rot_succ, acc_snoc]
      have fx := F.out (xs[k]?.getD (0, 0)) (by rw [List.getElem?_eq_getElem hlt]; exact List.getElem_mem hlt)
      have fy := F.out (xs[(k + t) % xs.length]?.getD (0, 0)) (by rw [List.getElem?_eq_getElem hm]; exact List.getElem_mem hm)
      generalize xs[k]?.getD (0, 0) = x at *
      generalize xs[(k + t) % xs.length]?.getD (0, 0) = y at *
      obtain ⟨I, Y⟩ := x
      obtain ⟨I2, Y2⟩ := y
      simp only at a1 a2 b1 b2 fx fy FA FB
      obtain ⟨hI1, hI2, hY1, hY2⟩ := fx
      obtain ⟨hI3, hI4, hY3, hY4⟩ := fy
      have hj := four_lt (I, Y)
      have hj2 := four_lt (I2, Y2)
      have n1 : bits .and .i64 I 3 = (four (I, Y) : Int) := by rw [and3]; unfold four; simp only; omega
      have n2 : bits .and .i64 I2 3 = (four (I2, Y2) : Int) := by rw [and3]; unfold four; simp only; omega
      generalize four (I, Y) = j at *
      generalize four (I2, Y2) = j2 at *
      replace FA := hide FA
      replace FB := hide FB
      replace la := hide la
      replace lb := hide lb
      replace oa := hide oa
      replace ob := hide ob
      have hgb : g < wr.heap.size ∧ h < wr.heap.size ∧ g' < wr.heap.size ∧ h' < wr.heap.size := ⟨ca.1.lt, ca.2.lt, cb.1.lt, cb.2.lt⟩
      replace ca := hide ca
      replace cb := hide cb
      replace hu := hide hu
      have hki : (k : Int) < (xs.length : Int) := by omega
      go_wp2_with fail
      go_region
      · by_cases s1 : Y < 0 <;> by_cases s2 : Y2 < 0
        · have bF : Blk (((wr.alloc (.cells #[.int .i64 I, .int .i64 Y] 29)).alloc (.cells #[.int .i64 I2, .int .i64 Y2] 29)).drew) wr.heap.size 29 #[.int .i64 I, .int .i64 Y] := ((Blk.new wr 29 _).alloc _).drew
          have bS : Blk (((wr.alloc (.cells #[.int .i64 I, .int .i64 Y] 29)).alloc (.cells #[.int .i64 I2, .int .i64 Y2] 29)).drew) (wr.heap.size + 1) 29 #[.int .i64 I2, .int .i64 Y2] := by have := Blk.new (wr.alloc (.cells #[.int .i64 I, .int .i64 Y] 29)) 29 #[.int .i64 I2, .int .i64 Y2]; simpa using this.drew
          have bX := hide bF
          have bY := hide bS
          have UW := hide ((((Upd.refl wr []).alloc (.cells #[.int .i64 I, .int .i64 Y] 29)).alloc (.cells #[.int .i64 I2, .int .i64 Y2] 29)).drew)
          clear bF bS
          go_wp2_with fail
          refine (add_in g h j _ Y 2 _ (ca.out.upd UW.out (by simp) (by simp)) (by rw [la.out]; exact hj) (by rw [la.out]; decide) hY2 oa.out (by simp [s1])).mono ?_
          rintro e w3 ⟨⟨v1, rfl⟩, c3, u3⟩
          have cb3 := hide ((cb.out.upd UW.out (by simp) (by simp)).upd u3 (by simp; omega) (by simp; omega))
          have bX3 := u3.blk bX.out (by simp; omega)
          have bY3 := u3.blk bY.out (by simp; omega)
          have y0 : w3.cell? ⟨wr.heap.size + 1, 0, none⟩ = some (.int .i64 I2) := by rw [bY3.cell]; rfl
          have y1 : w3.cell? ⟨wr.heap.size + 1, 1, none⟩ = some (.int .i64 Y2) := by rw [bY3.cell]; rfl
          have U3 := hide ((UW.out.mono (S' := [h, h']) (by simp)).trans u3 (by simp))
          replace bX3 := hide bX3
          replace bY3 := hide bY3
          replace c3 := hide c3
          clear u3 bX bY UW
          go_wp2_with fail
          refine (add_in g' h' j2 _ Y2 2 _ cb3.out (by rw [lb.out]; exact hj2) (by rw [lb.out]; decide) hY4 ob.out (by simp [s2])).mono ?_
          rintro e w4 ⟨⟨v2, rfl⟩, c4, u4⟩
          have c34 := hide (c3.out.upd u4 (by simp; omega) (by simp; omega))
          have bX4 := u4.blk bX3.out (by simp; omega)
          have bY4 := u4.blk bY3.out (by simp; omega)
          have x1 : w4.cell? ⟨wr.heap.size, 1, none⟩ = some (.int .i64 Y) := by rw [bX4.cell]; rfl
          have y4 : w4.cell? ⟨wr.heap.size + 1, 1, none⟩ = some (.int .i64 Y2) := by rw [bY4.cell]; rfl
          have U4 := hide (U3.out.trans u4 (by simp))
          replace c4 := hide c4
          clear u4 bX3 bY3 bX4 bY4 y0 y1 U3 c3 cb3
          go_wp2_with fail
          go_roundw
          case rel => exact ⟨k + 1, by omega, by go_num, by rw [FA.out]; exact c34.out, by rw [FB.out]; exact c4.out, hu.out.trans U4.out (by simp; omega)⟩
          case measure => simp [intOf]; omega
        · have bF : Blk (((wr.alloc (.cells #[.int .i64 I, .int .i64 Y] 29)).alloc (.cells #[.int .i64 I2, .int .i64 Y2] 29)).drew) wr.heap.size 29 #[.int .i64 I, .int .i64 Y] := ((Blk.new wr 29 _).alloc _).drew
          have bS : Blk (((wr.alloc (.cells #[.int .i64 I, .int .i64 Y] 29)).alloc (.cells #[.int .i64 I2, .int .i64 Y2] 29)).drew) (wr.heap.size + 1) 29 #[.int .i64 I2, .int .i64 Y2] := by have := Blk.new (wr.alloc (.cells #[.int .i64 I, .int .i64 Y] 29)) 29 #[.int .i64 I2, .int .i64 Y2]; simpa using this.drew
          have bX := hide bF
          have bY := hide bS
          have UW := hide ((((Upd.refl wr []).alloc (.cells #[.int .i64 I, .int .i64 Y] 29)).alloc (.cells #[.int .i64 I2, .int .i64 Y2] 29)).drew)
          clear bF bS
          go_wp2_with fail
          refine (add_in g h j _ Y 2 _ (ca.out.upd UW.out (by simp) (by simp)) (by rw [la.out]; exact hj) (by rw [la.out]; decide) hY2 oa.out (by simp [s1])).mono ?_
          rintro e w3 ⟨⟨v1, rfl⟩, c3, u3⟩
          have cb3 := hide ((cb.out.upd UW.out (by simp) (by simp)).upd u3 (by simp; omega) (by simp; omega))
          have bX3 := u3.blk bX.out (by simp; omega)
          have bY3 := u3.blk bY.out (by simp; omega)
          have y0 : w3.cell? ⟨wr.heap.size + 1, 0, none⟩ = some (.int .i64 I2) := by rw [bY3.cell]; rfl
          have y1 : w3.cell? ⟨wr.heap.size + 1, 1, none⟩ = some (.int .i64 Y2) := by rw [bY3.cell]; rfl
          have U3 := hide ((UW.out.mono (S' := [h, h']) (by simp)).trans u3 (by simp))
          replace bX3 := hide bX3
          replace bY3 := hide bY3
          replace c3 := hide c3
          clear u3 bX bY UW
          go_wp2_with fail
          refine (add_in g' h' j2 _ Y2 0 _ cb3.out (by rw [lb.out]; exact hj2) (by rw [lb.out]; decide) hY4 ob.out (by simp [s2])).mono ?_
          rintro e w4 ⟨⟨v2, rfl⟩, c4, u4⟩
          have c34 := hide (c3.out.upd u4 (by simp; omega) (by simp; omega))
          have bX4 := u4.blk bX3.out (by simp; omega)
          have bY4 := u4.blk bY3.out (by simp; omega)
          have x1 : w4.cell? ⟨wr.heap.size, 1, none⟩ = some (.int .i64 Y) := by rw [bX4.cell]; rfl
          have y4 : w4.cell? ⟨wr.heap.size + 1, 1, none⟩ = some (.int .i64 Y2) := by rw [bY4.cell]; rfl
          have U4 := hide (U3.out.trans u4 (by simp))
          replace c4 := hide c4
          clear u4 bX3 bY3 bX4 bY4 y0 y1 U3 c3 cb3
          go_wp2_with fail
          go_roundw
          case rel => exact ⟨k + 1, by omega, by go_num, by rw [FA.out]; exact c34.out, by rw [FB.out]; exact c4.out, hu.out.trans U4.out (by simp; omega)⟩
          case measure => simp [intOf]; omega
        · have bF : Blk (((wr.alloc (.cells #[.int .i64 I, .int .i64 Y] 29)).alloc (.cells #[.int .i64 I2, .int .i64 Y2] 29)).drew) wr.heap.size 29 #[.int .i64 I, .int .i64 Y] := ((Blk.new wr 29 _).alloc _).drew
          have bS : Blk (((wr.alloc (.cells #[.int .i64 I, .int .i64 Y] 29)).alloc (.cells #[.int .i64 I2, .int .i64 Y2] 29)).drew) (wr.heap.size + 1) 29 #[.int .i64 I2, .int .i64 Y2] := by have := Blk.new (wr.alloc (.cells #[.int .i64 I, .int .i64 Y] 29)) 29 #[.int .i64 I2, .int .i64 Y2]; simpa using this.drew
          have bX := hide bF
          have bY := hide bS
          have UW := hide ((((Upd.refl wr []).alloc (.cells #[.int .i64 I, .int .i64 Y] 29)).alloc (.cells #[.int .i64 I2, .int .i64 Y2] 29)).drew)
          clear bF bS
          go_wp2_with fail
          refine (add_in g h j _ Y 0 _ (ca.out.upd UW.out (by simp) (by simp)) (by rw [la.out]; exact hj) (by rw [la.out]; decide) hY2 oa.out (by simp [s1])).mono ?_
          rintro e w3 ⟨⟨v1, rfl⟩, c3, u3⟩
          have cb3 := hide ((cb.out.upd UW.out (by simp) (by simp)).upd u3 (by simp; omega) (by simp; omega))
          have bX3 := u3.blk bX.out (by simp; omega)
          have bY3 := u3.blk bY.out (by simp; omega)
          have y0 : w3.cell? ⟨wr.heap.size + 1, 0, none⟩ = some (.int .i64 I2) := by rw [bY3.cell]; rfl
          have y1 : w3.cell? ⟨wr.heap.size + 1, 1, none⟩ = some (.int .i64 Y2) := by rw [bY3.cell]; rfl
          have U3 := hide ((UW.out.mono (S' := [h, h']) (by simp)).trans u3 (by simp))
          replace bX3 := hide bX3
          replace bY3 := hide bY3
          replace c3 := hide c3
          clear u3 bX bY UW
          go_wp2_with fail
          refine (add_in g' h' j2 _ Y2 2 _ cb3.out (by rw [lb.out]; exact hj2) (by rw [lb.out]; decide) hY4 ob.out (by simp [s2])).mono ?_
          rintro e w4 ⟨⟨v2, rfl⟩, c4, u4⟩
          have c34 := hide (c3.out.upd u4 (by simp; omega) (by simp; omega))
          have bX4 := u4.blk bX3.out (by simp; omega)
          have bY4 := u4.blk bY3.out (by simp; omega)
          have x1 : w4.cell? ⟨wr.heap.size, 1, none⟩ = some (.int .i64 Y) := by rw [bX4.cell]; rfl
          have y4 : w4.cell? ⟨wr.heap.size + 1, 1, none⟩ = some (.int .i64 Y2) := by rw [bY4.cell]; rfl
          have U4 := hide (U3.out.trans u4 (by simp))
          replace c4 := hide c4
          clear u4 bX3 bY3 bX4 bY4 y0 y1 U3 c3 cb3
          go_wp2_with fail
          go_roundw
          case rel => exact ⟨k + 1, by omega, by go_num, by rw [FA.out]; exact c34.out, by rw [FB.out]; exact c4.out, hu.out.trans U4.out (by simp; omega)⟩
          case measure => simp [intOf]; omega
        · have bF : Blk (((wr.alloc (.cells #[.int .i64 I, .int .i64 Y] 29)).alloc (.cells #[.int .i64 I2, .int .i64 Y2] 29)).drew) wr.heap.size 29 #[.int .i64 I, .int .i64 Y] := ((Blk.new wr 29 _).alloc _).drew
          have bS : Blk (((wr.alloc (.cells #[.int .i64 I, .int .i64 Y] 29)).alloc (.cells #[.int .i64 I2, .int .i64 Y2] 29)).drew) (wr.heap.size + 1) 29 #[.int .i64 I2, .int .i64 Y2] := by have := Blk.new (wr.alloc (.cells #[.int .i64 I, .int .i64 Y] 29)) 29 #[.int .i64 I2, .int .i64 Y2]; simpa using this.drew
          have bX := hide bF
          have bY := hide bS
          have UW := hide ((((Upd.refl wr []).alloc (.cells #[.int .i64 I, .int .i64 Y] 29)).alloc (.cells #[.int .i64 I2, .int .i64 Y2] 29)).drew)
          clear bF bS
          go_wp2_with fail
          refine (add_in g h j _ Y 0 _ (ca.out.upd UW.out (by simp) (by simp)) (by rw [la.out]; exact hj) (by rw [la.out]; decide) hY2 oa.out (by simp [s1])).mono ?_
          rintro e w3 ⟨⟨v1, rfl⟩, c3, u3⟩
          have cb3 := hide ((cb.out.upd UW.out (by simp) (by simp)).upd u3 (by simp; omega) (by simp; omega))
          have bX3 := u3.blk bX.out (by simp; omega)
          have bY3 := u3.blk bY.out (by simp; omega)
          have y0 : w3.cell? ⟨wr.heap.size + 1, 0, none⟩ = some (.int .i64 I2) := by rw [bY3.cell]; rfl
          have y1 : w3.cell? ⟨wr.heap.size + 1, 1, none⟩ = some (.int .i64 Y2) := by rw [bY3.cell]; rfl
          have U3 := hide ((UW.out.mono (S' := [h, h']) (by simp)).trans u3 (by simp))
          replace bX3 := hide bX3
          replace bY3 := hide bY3
          replace c3 := hide c3
          clear u3 bX bY UW
          go_wp2_with fail
          refine (add_in g' h' j2 _ Y2 0 _ cb3.out (by rw [lb.out]; exact hj2) (by rw [lb.out]; decide) hY4 ob.out (by simp [s2])).mono ?_
          rintro e w4 ⟨⟨v2, rfl⟩, c4, u4⟩
          have c34 := hide (c3.out.upd u4 (by simp; omega) (by simp; omega))
          have bX4 := u4.blk bX3.out (by simp; omega)
          have bY4 := u4.blk bY3.out (by simp; omega)
          have x1 : w4.cell? ⟨wr.heap.size, 1, none⟩ = some (.int .i64 Y) := by rw [bX4.cell]; rfl
          have y4 : w4.cell? ⟨wr.heap.size + 1, 1, none⟩ = some (.int .i64 Y2) := by rw [bY4.cell]; rfl
          have U4 := hide (U3.out.trans u4 (by simp))
          replace c4 := hide c4
          clear u4 bX3 bY3 bX4 bY4 y0 y1 U3 c3 cb3
          go_wp2_with fail
          go_roundw
          case rel => exact ⟨k + 1, by omega, by go_num, by rw [FA.out]; exact c34.out, by rw [FB.out]; exact c4.out, hu.out.trans U4.out (by simp; omega)⟩
          case measure => simp [intOf]; omega
      · by_cases s1 : Y < 0 <;> by_cases s2 : Y2 < 0
        · have bF : Blk (((wr.alloc (.cells #[.int .i64 I2, .int .i64 Y2] 29)).alloc (.cells #[.int .i64 I, .int .i64 Y] 29)).drew) wr.heap.size 29 #[.int .i64 I2, .int .i64 Y2] := ((Blk.new wr 29 _).alloc _).drew
          have bS : Blk (((wr.alloc (.cells #[.int .i64 I2, .int .i64 Y2] 29)).alloc (.cells #[.int .i64 I, .int .i64 Y] 29)).drew) (wr.heap.size + 1) 29 #[.int .i64 I, .int .i64 Y] := by have := Blk.new (wr.alloc (.cells #[.int .i64 I2, .int .i64 Y2] 29)) 29 #[.int .i64 I, .int .i64 Y]; simpa using this.drew
          have bX := hide bS
          have bY := hide bF
          have UW := hide ((((Upd.refl wr []).alloc (.cells #[.int .i64 I2, .int .i64 Y2] 29)).alloc (.cells #[.int .i64 I, .int .i64 Y] 29)).drew)
          clear bF bS
          go_wp2_with fail
          refine (add_in g h j _ Y 2 _ (ca.out.upd UW.out (by simp) (by simp)) (by rw [la.out]; exact hj) (by rw [la.out]; decide) hY2 oa.out (by simp [s1])).mono ?_
          rintro e w3 ⟨⟨v1, rfl⟩, c3, u3⟩
          have cb3 := hide ((cb.out.upd UW.out (by simp) (by simp)).upd u3 (by simp; omega) (by simp; omega))
          have bX3 := u3.blk bX.out (by simp; omega)
          have bY3 := u3.blk bY.out (by simp; omega)
          have y0 : w3.cell? ⟨wr.heap.size, 0, none⟩ = some (.int .i64 I2) := by rw [bY3.cell]; rfl
          have y1 : w3.cell? ⟨wr.heap.size, 1, none⟩ = some (.int .i64 Y2) := by rw [bY3.cell]; rfl
          have U3 := hide ((UW.out.mono (S' := [h, h']) (by simp)).trans u3 (by simp))
          replace bX3 := hide bX3
          replace bY3 := hide bY3
          replace c3 := hide c3
          clear u3 bX bY UW
          go_wp2_with fail
          refine (add_in g' h' j2 _ Y2 2 _ cb3.out (by rw [lb.out]; exact hj2) (by rw [lb.out]; decide) hY4 ob.out (by simp [s2])).mono ?_
          rintro e w4 ⟨⟨v2, rfl⟩, c4, u4⟩
          have c34 := hide (c3.out.upd u4 (by simp; omega) (by simp; omega))
          have bX4 := u4.blk bX3.out (by simp; omega)
          have bY4 := u4.blk bY3.out (by simp; omega)
          have x1 : w4.cell? ⟨wr.heap.size + 1, 1, none⟩ = some (.int .i64 Y) := by rw [bX4.cell]; rfl
          have y4 : w4.cell? ⟨wr.heap.size, 1, none⟩ = some (.int .i64 Y2) := by rw [bY4.cell]; rfl
          have U4 := hide (U3.out.trans u4 (by simp))
          replace c4 := hide c4
          clear u4 bX3 bY3 bX4 bY4 y0 y1 U3 c3 cb3
          go_wp2_with fail
          go_roundw
          case rel => exact ⟨k + 1, by omega, by go_num, by rw [FA.out]; exact c34.out, by rw [FB.out]; exact c4.out, hu.out.trans U4.out (by simp; omega)⟩
          case measure => simp [intOf]; omega
        · have bF : Blk (((wr.alloc (.cells #[.int .i64 I2, .int .i64 Y2] 29)).alloc (.cells #[.int .i64 I, .int .i64 Y] 29)).drew) wr.heap.size 29 #[.int .i64 I2, .int .i64 Y2] := ((Blk.new wr 29 _).alloc _).drew
          have bS : Blk (((wr.alloc (.cells #[.int .i64 I2, .int .i64 Y2] 29)).alloc (.cells #[.int .i64 I, .int .i64 Y] 29)).drew) (wr.heap.size + 1) 29 #[.int .i64 I, .int .i64 Y] := by have := Blk.new (wr.alloc (.cells #[.int .i64 I2, .int .i64 Y2] 29)) 29 #[.int .i64 I, .int .i64 Y]; simpa using this.drew
          have bX := hide bS
          have bY := hide bF
          have UW := hide ((((Upd.refl wr []).alloc (.cells #[.int .i64 I2, .int .i64 Y2] 29)).alloc (.cells #[.int .i64 I, .int .i64 Y] 29)).drew)
          clear bF bS
          go_wp2_with fail
          refine (add_in g h j _ Y 2 _ (ca.out.upd UW.out (by simp) (by simp)) (by rw [la.out]; exact hj) (by rw [la.out]; decide) hY2 oa.out (by simp [s1])).mono ?_
          rintro e w3 ⟨⟨v1, rfl⟩, c3, u3⟩
          have cb3 := hide ((cb.out.upd UW.out (by simp) (by simp)).upd u3 (by simp; omega) (by simp; omega))
          have bX3 := u3.blk bX.out (by simp; omega)
          have bY3 := u3.blk bY.out (by simp; omega)
          have y0 : w3.cell? ⟨wr.heap.size, 0, none⟩ = some (.int .i64 I2) := by rw [bY3.cell]; rfl
          have y1 : w3.cell? ⟨wr.heap.size, 1, none⟩ = some (.int .i64 Y2) := by rw [bY3.cell]; rfl
          have U3 := hide ((UW.out.mono (S' := [h, h']) (by simp)).trans u3 (by simp))
          replace bX3 := hide bX3
          replace bY3 := hide bY3
          replace c3 := hide c3
          clear u3 bX bY UW
          go_wp2_with fail
          refine (add_in g' h' j2 _ Y2 0 _ cb3.out (by rw [lb.out]; exact hj2) (by rw [lb.out]; decide) hY4 ob.out (by simp [s2])).mono ?_
          rintro e w4 ⟨⟨v2, rfl⟩, c4, u4⟩
          have c34 := hide (c3.out.upd u4 (by simp; omega) (by simp; omega))
          have bX4 := u4.blk bX3.out (by simp; omega)
          have bY4 := u4.blk bY3.out (by simp; omega)
          have x1 : w4.cell? ⟨wr.heap.size + 1, 1, none⟩ = some (.int .i64 Y) := by rw [bX4.cell]; rfl
          have y4 : w4.cell? ⟨wr.heap.size, 1, none⟩ = some (.int .i64 Y2) := by rw [bY4.cell]; rfl
          have U4 := hide (U3.out.trans u4 (by simp))
          replace c4 := hide c4
          clear u4 bX3 bY3 bX4 bY4 y0 y1 U3 c3 cb3
          go_wp2_with fail
          go_roundw
          case rel => exact ⟨k + 1, by omega, by go_num, by rw [FA.out]; exact c34.out, by rw [FB.out]; exact c4.out, hu.out.trans U4.out (by simp; omega)⟩
          case measure => simp [intOf]; omega
        · have bF : Blk (((wr.alloc (.cells #[.int .i64 I2, .int .i64 Y2] 29)).alloc (.cells #[.int .i64 I, .int .i64 Y] 29)).drew) wr.heap.size 29 #[.int .i64 I2, .int .i64 Y2] := ((Blk.new wr 29 _).alloc _).drew
          have bS : Blk (((wr.alloc (.cells #[.int .i64 I2, .int .i64 Y2] 29)).alloc (.cells #[.int .i64 I, .int .i64 Y] 29)).drew) (wr.heap.size + 1) 29 #[.int .i64 I, .int .i64 Y] := by have := Blk.new (wr.alloc (.cells #[.int .i64 I2, .int .i64 Y2] 29)) 29 #[.int .i64 I, .int .i64 Y]; simpa using this.drew
          have bX := hide bS
          have bY := hide bF
          have UW := hide ((((Upd.refl wr []).alloc (.cells #[.int .i64 I2, .int .i64 Y2] 29)).alloc (.cells #[.int .i64 I, .int .i64 Y] 29)).drew)
          clear bF bS
          go_wp2_with fail
          refine (add_in g h j _ Y 0 _ (ca.out.upd UW.out (by simp) (by simp)) (by rw [la.out]; exact hj) (by rw [la.out]; decide) hY2 oa.out (by simp [s1])).mono ?_
          rintro e w3 ⟨⟨v1, rfl⟩, c3, u3⟩
          have cb3 := hide ((cb.out.upd UW.out (by simp) (by simp)).upd u3 (by simp; omega) (by simp; omega))
          have bX3 := u3.blk bX.out (by simp; omega)
          have bY3 := u3.blk bY.out (by simp; omega)
          have y0 : w3.cell? ⟨wr.heap.size, 0, none⟩ = some (.int .i64 I2) := by rw [bY3.cell]; rfl
          have y1 : w3.cell? ⟨wr.heap.size, 1, none⟩ = some (.int .i64 Y2) := by rw [bY3.cell]; rfl
          have U3 := hide ((UW.out.mono (S' := [h, h']) (by simp)).trans u3 (by simp))
          replace bX3 := hide bX3
          replace bY3 := hide bY3
          replace c3 := hide c3
          clear u3 bX bY UW
          go_wp2_with fail
          refine (add_in g' h' j2 _ Y2 2 _ cb3.out (by rw [lb.out]; exact hj2) (by rw [lb.out]; decide) hY4 ob.out (by simp [s2])).mono ?_
          rintro e w4 ⟨⟨v2, rfl⟩, c4, u4⟩
          have c34 := hide (c3.out.upd u4 (by simp; omega) (by simp; omega))
          have bX4 := u4.blk bX3.out (by simp; omega)
          have bY4 := u4.blk bY3.out (by simp; omega)
          have x1 : w4.cell? ⟨wr.heap.size + 1, 1, none⟩ = some (.int .i64 Y) := by rw [bX4.cell]; rfl
          have y4 : w4.cell? ⟨wr.heap.size, 1, none⟩ = some (.int .i64 Y2) := by rw [bY4.cell]; rfl
          have U4 := hide (U3.out.trans u4 (by simp))
          replace c4 := hide c4
          clear u4 bX3 bY3 bX4 bY4 y0 y1 U3 c3 cb3
          go_wp2_with fail
          go_roundw
          case rel => exact ⟨k + 1, by omega, by go_num, by rw [FA.out]; exact c34.out, by rw [FB.out]; exact c4.out, hu.out.trans U4.out (by simp; omega)⟩
          case measure => simp [intOf]; omega
        · have bF : Blk (((wr.alloc (.cells #[.int .i64 I2, .int .i64 Y2] 29)).alloc (.cells #[.int .i64 I, .int .i64 Y] 29)).drew) wr.heap.size 29 #[.int .i64 I2, .int .i64 Y2] := ((Blk.new wr 29 _).alloc _).drew
          have bS : Blk (((wr.alloc (.cells #[.int .i64 I2, .int .i64 Y2] 29)).alloc (.cells #[.int .i64 I, .int .i64 Y] 29)).drew) (wr.heap.size + 1) 29 #[.int .i64 I, .int .i64 Y] := by have := Blk.new (wr.alloc (.cells #[.int .i64 I2, .int .i64 Y2] 29)) 29 #[.int .i64 I, .int .i64 Y]; simpa using this.drew
          have bX := hide bS
          have bY := hide bF
          have UW := hide ((((Upd.refl wr []).alloc (.cells #[.int .i64 I2, .int .i64 Y2] 29)).alloc (.cells #[.int .i64 I, .int .i64 Y] 29)).drew)
          clear bF bS
          go_wp2_with fail
          refine (add_in g h j _ Y 0 _ (ca.out.upd UW.out (by simp) (by simp)) (by rw [la.out]; exact hj) (by rw [la.out]; decide) hY2 oa.out (by simp [s1])).mono ?_
          rintro e w3 ⟨⟨v1, rfl⟩, c3, u3⟩
          have cb3 := hide ((cb.out.upd UW.out (by simp) (by simp)).upd u3 (by simp; omega) (by simp; omega))
          have bX3 := u3.blk bX.out (by simp; omega)
          have bY3 := u3.blk bY.out (by simp; omega)
          have y0 : w3.cell? ⟨wr.heap.size, 0, none⟩ = some (.int .i64 I2) := by rw [bY3.cell]; rfl
          have y1 : w3.cell? ⟨wr.heap.size, 1, none⟩ = some (.int .i64 Y2) := by rw [bY3.cell]; rfl
          have U3 := hide ((UW.out.mono (S' := [h, h']) (by simp)).trans u3 (by simp))
          replace bX3 := hide bX3
          replace bY3 := hide bY3
          replace c3 := hide c3
          clear u3 bX bY UW
          go_wp2_with fail
          refine (add_in g' h' j2 _ Y2 0 _ cb3.out (by rw [lb.out]; exact hj2) (by rw [lb.out]; decide) hY4 ob.out (by simp [s2])).mono ?_
          rintro e w4 ⟨⟨v2, rfl⟩, c4, u4⟩
          have c34 := hide (c3.out.upd u4 (by simp; omega) (by simp; omega))
          have bX4 := u4.blk bX3.out (by simp; omega)
          have bY4 := u4.blk bY3.out (by simp; omega)
          have x1 : w4.cell? ⟨wr.heap.size + 1, 1, none⟩ = some (.int .i64 Y) := by rw [bX4.cell]; rfl
          have y4 : w4.cell? ⟨wr.heap.size, 1, none⟩ = some (.int .i64 Y2) := by rw [bY4.cell]; rfl
          have U4 := hide (U3.out.trans u4 (by simp))
          replace c4 := hide c4
          clear u4 bX3 bY3 bX4 bY4 y0 y1 U3 c3 cb3
          go_wp2_with fail
          go_roundw
          case rel => exact ⟨k + 1, by omega, by go_num, by rw [FA.out]; exact c34.out, by rw [FB.out]; exact c4.out, hu.out.trans U4.out (by simp; omega)⟩
          case measure => simp [intOf]; omega
    · obtain rfl : k = xs.length := by omega
      rw [acc_perm 4 four four_lt (rot_perm xs t)] at cb
      rw [List.take_length] at ca
      clear la oa lb ob
      obtain ⟨la, oa⟩ := acc_inv 4 four four_lt xs
      replace oa := hide oa
      replace la := hide la
      generalize acc 4 four xs = l at *
      replace ca := hide ca
      replace cb := hide cb
      replace hu := hide hu
      clear X F
      go_wp2_with fail
      go_loop [16] (fun v => ∃ k : Nat, k ≤ 4 ∧ v = .int .i64 k) (fun v => 4 - (intOf v).toNat)
      case atStart => exact ⟨0, by omega, rfl⟩
      case round =>
        obtain ⟨k, hk4, rfl⟩ := hrel
        by_cases hlt : k < 4
        · have G1 := hide (get_ok g h k l wr ca.out (by rw [la.out]; exact hlt) (by rw [la.out]; decide))
          have G2 := hide (get_ok g' h' k l wr cb.out (by rw [la.out]; exact hlt) (by rw [la.out]; decide))
          obtain ⟨o1, o2⟩ := oa.out k
          generalize l[k]?.getD 0 = x at *
          go_wp2_with fail
          refine G1.out.mono ?_
          rintro e w' ⟨rfl, rfl⟩
          go_wp2_with fail
          refine G2.out.mono ?_
          rintro e w' ⟨rfl, rfl⟩
          go_wp2_with fail
          refine G1.out.mono ?_
          rintro e w' ⟨rfl, rfl⟩
          go_wp2_with fail
          refine G1.out.mono ?_
          rintro e w' ⟨rfl, rfl⟩
          go_wp2_with fail
          go_round
          case rel => exact ⟨k + 1, by omega, by go_num⟩
          case measure => simp [intOf]; omega
        · obtain rfl : k = 4 := by omega
          go_wp2_with fail
          refine (added_any _).mono ?_
          rintro e w' ⟨rfl, u'⟩
          replace u' := hide u'
          go_wp2_with fail
          go_ret
          exact ⟨rfl, hu.out.trans u'.out (by simp)⟩
theorem order_long (a : Option Addr) (n cap : Nat) (t : Int) (w : World) (hn : 80 < n) :
    Calls Try.prog 3 #[.slice a n cap, .int .u8 t] w fun e w' => e = .returned (.bool true) ∧ Upd w w' [] := by
  go_enter Try.func3, Try.ntmps3
  go_wp2_with fail
  refine (added_any _).mono ?_
  rintro e w' ⟨rfl, u'⟩
  replace u' := hide u'
  go_wp2_with fail
  go_ret
  exact ⟨rfl, u'.out⟩
end Go.Proofs.Ytibpbnhchlojmaa
