/- CountsPlay: the walk. -/
import Derived.Test.YtibpbnhchlojmaaOrder
import Derived.Deep.CutRange
namespace Go.Proofs.Ytibpbnhchlojmaa
open Go.RowKit
set_option linter.unusedVariables false

theorem Sl.ne_blk {w : World} {g cap n h t e size : Nat} {xs : List Value} {cs : Array Value} (s : Sl w (.slice (some ⟨g, 0, none⟩) n cap) e size n xs) (b : Blk w h t cs) (hne : e ≠ t) : g ≠ h := by
  obtain ⟨_, g', _, cur, hv, hb, _⟩ := s
  injection hv with h1 _ _
  injection h1 with h1
  injection h1 with h1 _ _
  subst h1
  exact hb.ne_ b hne
/-- what Add answers, and leaves -/
def cAdd (l : List Int) (i y : Int) : List Int × Int × Int :=
  if y < 0 then (l, 0, 2) else if i < 0 ∨ (l.length : Int) ≤ i then (l, 0, 4) else (l.set i.toNat (l[i.toNat]?.getD 0 + min y (4611686018427387904 - l[i.toNat]?.getD 0)), l[i.toNat]?.getD 0 + min y (4611686018427387904 - l[i.toNat]?.getD 0), 0)
theorem cAdd_inv (l : List Int) (i y : Int) (ok : Ok l) : (cAdd l i y).1.length = l.length ∧ Ok (cAdd l i y).1 := by
  unfold cAdd
  split
  · exact ⟨rfl, ok⟩
  · split
    · exact ⟨rfl, ok⟩
    · rename_i h1 h2
      have := step_ok l i.toNat y (by omega) ok
      unfold step at this
      rw [if_neg h1] at this
      exact ⟨by simp, this⟩
theorem add_any (g h : Nat) (l l' : List Int) (i y v r : Int) (w : World) (c : Cnt w g h l) (hlen : l.length ≤ 64) (hy2 : y ≤ 9223372036854775807) (ok : Ok l) (hr : cAdd l i y = (l', v, r)) :
    Calls Try.prog 8 #[.pointer (some ⟨g, 0, none⟩), .int .i64 i, .int .i64 y] w fun e w' => e = .returned (.tuple #[.int .i64 v, .int .i64 r]) ∧ Cnt w' g h l' ∧ Upd w w' [h] := by
  unfold cAdd at hr
  split at hr
  · rename_i hy
    simp only [Prod.mk.injEq] at hr
    obtain ⟨rfl, rfl, rfl⟩ := hr
    refine (add_neg g h _ i y w (by rw [c.1.cell]; rfl) hy).mono ?_
    rintro e w' ⟨rfl, rfl⟩
    exact ⟨rfl, c, Upd.refl _ _⟩
  · rename_i hy
    split at hr
    · rename_i hi
      simp only [Prod.mk.injEq] at hr
      obtain ⟨rfl, rfl, rfl⟩ := hr
      by_cases h0 : i < 0
      · refine (add_low g h l.length i y w (by rw [c.1.cell]; rfl) (by omega) h0).mono ?_
        rintro e w' ⟨rfl, rfl⟩
        exact ⟨rfl, c, Upd.refl _ _⟩
      · refine (add_high g h l.length i y w (by rw [c.1.cell]; rfl) (by omega) (by omega) (by omega)).mono ?_
        rintro e w' ⟨rfl, rfl⟩
        exact ⟨rfl, c, Upd.refl _ _⟩
    · rename_i hi
      obtain ⟨k, rfl⟩ := Int.eq_ofNat_of_zero_le (a := i) (by omega)
      simp only [Int.toNat_natCast, Prod.mk.injEq] at hr
      obtain ⟨rfl, hv, rfl⟩ := hr
      subst hv
      exact add_ok g h k l y _ w c (by omega) hlen (by omega) hy2 (ok k).1 (ok k).2 rfl
theorem radd_any (g cap : Nat) (l l' : List Int) (i y v r : Int) (w : World) (c : Sl w (.slice (some ⟨g, 0, none⟩) l.length cap) 2 1 l.length (l.map (Value.int .i64))) (hlen : l.length ≤ 64) (hy2 : y ≤ 9223372036854775807) (ok : Ok l) (hr : cAdd l i y = (l', v, r)) :
    Calls Try.prog 12 #[.slice (some ⟨g, 0, none⟩) l.length cap, .int .i64 i, .int .i64 y] w fun e w' => ∃ g' cap', e = .returned (.tuple #[.slice (some ⟨g', 0, none⟩) l.length cap', .int .i64 v, .int .i64 r]) ∧
      Sl w' (.slice (some ⟨g', 0, none⟩) l.length cap') 2 1 l.length (l'.map (Value.int .i64)) ∧ Upd w w' [] := by
  unfold cAdd at hr
  split at hr
  · rename_i hy
    simp only [Prod.mk.injEq] at hr
    obtain ⟨rfl, rfl, rfl⟩ := hr
    refine (radd_neg g cap l.length i y w hy).mono ?_
    rintro e w' ⟨rfl, rfl⟩
    exact ⟨g, cap, rfl, c, Upd.refl _ _⟩
  · rename_i hy
    split at hr
    · rename_i hi
      simp only [Prod.mk.injEq] at hr
      obtain ⟨rfl, rfl, rfl⟩ := hr
      by_cases h0 : i < 0
      · refine (radd_low g cap l.length i y w (by omega) h0).mono ?_
        rintro e w' ⟨rfl, rfl⟩
        exact ⟨g, cap, rfl, c, Upd.refl _ _⟩
      · refine (radd_high g cap l.length i y w (by omega) (by omega) (by omega)).mono ?_
        rintro e w' ⟨rfl, rfl⟩
        exact ⟨g, cap, rfl, c, Upd.refl _ _⟩
    · rename_i hi
      obtain ⟨k, rfl⟩ := Int.eq_ofNat_of_zero_le (a := i) (by omega)
      simp only [Int.toNat_natCast, Prod.mk.injEq] at hr
      obtain ⟨rfl, hv, rfl⟩ := hr
      subst hv
      refine (radd_ok g cap k l y _ w c (by omega) hlen (by omega) hy2 (ok k).1 (ok k).2 rfl).mono ?_
      rintro e w' ⟨g', cap', rfl, _, s, u⟩
      exact ⟨g', cap', rfl, s, u⟩

set_option maxRecDepth 100000 in
set_option maxHeartbeats 2000000 in
theorem play_walk (a0 : Option Addr) (b off cap : Nat) (xs : List (Int × Int)) (n : Nat) (w : World) (ha : 0 < xs.length → a0 = some ⟨b, off, none⟩) (hx : Acts w b off xs) (hf : Fit xs) (hlen : xs.length ≤ 100) (hn1 : 1 ≤ n) (hn2 : n ≤ 64) :
    Calls Try.prog 4 #[.int .i64 (n : Int), .slice a0 xs.length cap] w fun e w' => e = .returned (.bool true) ∧ Upd w w' [] := by
  have X := hide hx
  have F := hide hf
  have HA := hide ha
  clear hx hf ha
  go_enter Try.func4, Try.ntmps4
  go_wp2_with fail
  refine (new_ok n _ hn1 hn2).mono ?_
  rintro e w1 ⟨g, h, rfl, hg, hh, c1, u1⟩
  replace c1 := hide c1
  replace u1 := hide u1
  go_wp2_with fail
  refine (rnew_ok n _ hn1 hn2).mono ?_
  rintro e w2 ⟨rb, rfl, hrb, s2, u2⟩
  replace c1 := hide (c1.out.upd u2 (by simp) (by simp))
  replace s2 := hide s2
  replace u2 := hide (u1.out.trans u2 (by simp))
  have hh0 : w.heap.size ≤ h := hh
  clear u1 hg hh hrb
  go_wp2_with fail
  go_loopw [9, 7] (fun v r wr => ∃ (k rb rc : Nat) (l : List Int), k ≤ xs.length ∧ v = .int .i64 k ∧ r = .slice (some ⟨rb, 0, none⟩) n rc ∧ l.length = n ∧ Ok l ∧ Cnt wr g h l ∧ Sl wr r 2 1 n (l.map (Value.int .i64)) ∧ Upd w wr [] ∧ w.heap.size ≤ h) (fun v _ _ => xs.length - (intOf v).toNat)
  case atStart => exact ⟨0, rb, n, List.replicate n 0, by omega, rfl, rfl, by simp, zero_ok n, c1.out, s2.out, u2.out, hh0⟩
  case round =>
    obtain ⟨k, rb, rc, l, hk, rfl, rfl, rfl, ok, c, s, hu, hh⟩ := hrel
    clear c1 u2 s2
    by_cases hlt : k < xs.length
    · obtain rfl := HA.out (by omega)
      have hki : (k : Int) < (xs.length : Int) := by omega
      have hch := c.2.lt
      have hwr0 := hide hu.size
      have C := hide c
      have S := hide s
      have U := hide hu
      clear c s hu
      go_wp2_with fail
      refine (copy_ok g h l _ C.out hn1 hn2).mono ?_
      rintro e w3 ⟨g2, h2, rfl, hg2, hh2, c2, u3⟩
      have fx := F.out (xs[k]?.getD (0, 0)) (by rw [List.getElem?_eq_getElem hlt]; exact List.getElem_mem hlt)
      have xa := X.out.upd (U.out.trans u3 (by simp)) (by simp)
      obtain ⟨a1, a2⟩ : w3.cell? ⟨b, off + k * 2, none⟩ = some (.int .i64 (xs[k]?.getD (0, 0)).1) ∧ w3.cell? ⟨b, off + k * 2 + 1, none⟩ = some (.int .i64 (xs[k]?.getD (0, 0)).2) := xa k hlt
      have hbl : b < w.heap.size := by
        have := World.block_lt_of_cell? _ _ (X.out k hlt).1
        exact this
      have n0 := l.length
      have hxk : xs[k]?.getD (0, 0) = ((xs[k]?.getD (0, 0)).1, (xs[k]?.getD (0, 0)).2) := rfl
      obtain ⟨I, hI⟩ : ∃ I, I = (xs[k]?.getD (0, 0)).1 := ⟨_, rfl⟩
      obtain ⟨Y, hY⟩ : ∃ Y, Y = (xs[k]?.getD (0, 0)).2 := ⟨_, rfl⟩
      rw [← hI, ← hY] at fx
      rw [← hI] at a1
      rw [← hY] at a2
      replace hI := hide hI
      replace hY := hide hY
      clear hxk n0
      obtain ⟨_, _, _, hY2⟩ := fx
      obtain ⟨l1, o1⟩ := cAdd_inv l I Y ok
      obtain ⟨l', v, r, hr⟩ : ∃ l' v r, cAdd l I Y = (l', v, r) := ⟨_, _, _, rfl⟩
      rw [hr] at l1 o1
      simp only at l1 o1
      replace hr := hide hr
      replace l1 := hide l1
      replace o1 := hide o1
      replace ok := hide ok
      have c3 := hide (C.out.upd u3 (by simp) (by simp))
      have s3 := hide (S.out.upd u3 (by simp))
      have d3 := hide c2
      have U3 := hide ((U.out.trans u3 (by simp)).mono (S' := [h]) (by simp))
      have hgh : ¬ g2 = h ∧ ¬ h2 = h := by omega
      have hbh : ¬ b = h := by omega
      have xa := hide xa
      clear C S c2 u3 U
      go_wp2_with fail
      go_cut [11, 12] from 47 to 108 (fun sa sr wx => sa = .int .i64 v ∧ sr = .int .i64 r ∧ Cnt wx g h l' ∧ Upd w3 wx [h])
      case first =>
        have c3' := hide (show Cnt w3.drew g h l from c3.out)
        go_region_with (go_at_call 8; refine (add_any g h l l' I Y v r w3.drew c3'.out hn2 hY2 ok.out hr.out).mono ?_; rintro e w4 ⟨rfl, c4, u4⟩)
        all_goals
          replace c4 := hide c4
          replace u4 := hide u4
          go_wp2_with fail
          go_simp
          go_meet
          exact ⟨rfl, rfl, c4.out, ((Upd.refl w3 [h]).drew).trans u4.out (by simp)⟩
      case rest =>
        obtain ⟨rfl, rfl, c4, u4⟩ := hcut
        have sb : rb ∉ [h] := by have := s3.out.ne_blk c3.out.2 (by decide); simpa using this
        have s4 := hide (s3.out.upd u4 sb)
        have d4 := hide (d3.out.upd u4 (by simp [hgh.1]) (by simp [hgh.2]))
        have x4 := xa.out.upd u4 (by simp [hbh])
        obtain ⟨a3, a4⟩ : wc.cell? ⟨b, off + k * 2, none⟩ = some (.int .i64 I) ∧ wc.cell? ⟨b, off + k * 2 + 1, none⟩ = some (.int .i64 Y) := by rw [hI.out, hY.out]; exact x4 k hlt
        have U4 := hide (U3.out.trans u4 (by simp))
        replace c4 := hide c4
        clear x4 u4 c3 s3 d3 U3 xa a1 a2
        obtain ⟨w4, rfl⟩ : ∃ w4 : World, w4 = wc := ⟨_, rfl⟩
        go_wp2_with fail
        go_cut [13, 14, 15] from 47 to 108 (fun ss sb sr wx => (∃ g' cap', ss = .slice (some ⟨g', 0, none⟩) l.length cap' ∧ Sl wx (.slice (some ⟨g', 0, none⟩) l.length cap') 2 1 l.length (l'.map (Value.int .i64))) ∧ sb = .int .i64 v ∧ sr = .int .i64 r ∧ Upd w4 wx [])
        case first =>
          have s4' := hide (show Sl w4.drew _ _ _ _ _ from s4.out)
          go_region_with (go_at_call 12; refine (radd_any rb rc l l' I Y v r w4.drew s4'.out hn2 hY2 ok.out hr.out).mono ?_; rintro e w5 ⟨g', cap', rfl, s5, u5⟩)
          all_goals
            replace s5 := hide s5
            replace u5 := hide u5
            go_wp2_with fail
            go_simp
            go_meet
            exact ⟨⟨_, _, rfl, s5.out⟩, rfl, rfl, ((Upd.refl w4 []).drew).trans u5.out (by simp)⟩
        case rest =>
          obtain ⟨⟨g', cap', rfl, s5⟩, rfl, rfl, u5⟩ := hcut
          obtain ⟨w5, rfl⟩ : ∃ w5 : World, w5 = wc := ⟨_, rfl⟩
          have c5 := hide (c4.out.upd u5 (by simp) (by simp))
          have s6 := hide (s4.out.upd u5 (by simp))
          have d5 := hide (d4.out.upd u5 (by simp) (by simp))
          have U5 := hide (U4.out.trans u5 (by simp))
          replace s5 := hide s5
          clear u5 c4 s4 d4 U4 a3 a4
          go_wp2_with fail
          refine (same_ok g2 h2 rb rc l _ d5.out s6.out hn1 hn2).mono ?_
          rintro e w6 ⟨rfl, u6⟩
          have c6 := hide (c5.out.upd u6 (by simp) (by simp))
          have s7 := hide (s5.out.upd u6 (by simp))
          have d6 := hide (d5.out.upd u6 (by simp) (by simp))
          have U6 := hide (U5.out.trans u6 (by simp))
          clear u6 c5 s5 s6 d5 U5
          go_wp2_with fail
          have SM := same_ok g h g' cap' l' w6 c6.out (by rw [l1.out]; exact s7.out) (by rw [l1.out]; exact hn1) (by rw [l1.out]; exact hn2)
          rw [l1.out] at SM
          refine SM.mono ?_
          rintro e w7 ⟨rfl, u7⟩
          have c7 := hide (c6.out.upd u7 (by simp) (by simp))
          have s8 := hide (s7.out.upd u7 (by simp))
          have d7 := d6.out.upd u7 (by simp) (by simp)
          have U7 := hide (U6.out.trans u7 (by simp))
          clear u7 c6 s7 d6 U6 SM
          have hd : d7 = d7 := rfl
          obtain ⟨q', v', r', hq⟩ : ∃ l' v r, cAdd l 0 5 = (l', v, r) := ⟨_, _, _, rfl⟩
          replace hq := hide hq
          replace d7 := hide d7
          clear hd
          go_wp2_with fail
          refine (add_any g2 h2 l q' 0 5 v' r' _ d7.out hn2 (by decide) ok.out hq.out).mono ?_
          rintro e w8 ⟨rfl, d8, u8⟩
          have hc8 := c7.out.1.ne_ d7.out.2 (by decide)
          have c8 := hide (c7.out.upd u8 (by simp [hc8]) (by simp; omega))
          have s9 := hide (s8.out.upd u8 (by have := s8.out.ne_blk d7.out.2 (by decide); simpa using this))
          have hwr := hide hwr0.out
          have U8 := hide ((U7.out.mono (S' := []) (by simp; omega)).trans u8 (by simp; have := hwr.out; omega))
          clear u8 c7 s8 d7 U7 d8 hq
          go_wp2_with fail
          go_roundw
          case rel => exact ⟨k + 1, g', cap', l', by omega, by go_num, rfl, l1.out, o1.out, c8.out, s9.out, U8.out, hh⟩
          case measure => simp [intOf]; omega
    · obtain rfl : k = xs.length := by omega
      replace c := hide c
      replace s := hide s
      replace hu := hide hu
      go_wp2_with fail
      refine (same_ok g h rb rc l _ c.out s.out hn1 hn2).mono ?_
      rintro e w5 ⟨rfl, u5⟩
      replace u5 := hide u5
      go_wp2_with fail
      refine (added_any _).mono ?_
      rintro e w6 ⟨rfl, u6⟩
      replace u6 := hide u6
      go_wp2_with fail
      go_ret
      exact ⟨rfl, (hu.out.trans u5.out (by simp)).trans u6.out (by simp)⟩
theorem play_long (a : Option Addr) (m cap : Nat) (n : Int) (w : World) (hn : 100 < m) :
    Calls Try.prog 4 #[.int .i64 n, .slice a m cap] w fun e w' => e = .returned (.bool true) ∧ Upd w w' [] := by
  go_enter Try.func4, Try.ntmps4
  go_wp2_with fail
  refine (added_any _).mono ?_
  rintro e w' ⟨rfl, u'⟩
  replace u' := hide u'
  go_wp2_with fail
  go_ret
  exact ⟨rfl, u'.out⟩
theorem play_bad (a : Option Addr) (m cap : Nat) (n : Int) (w : World) (hm : m ≤ 100) (hn : n < 1 ∨ 64 < n) :
    Calls Try.prog 4 #[.int .i64 n, .slice a m cap] w fun e w' => e = .returned (.bool true) ∧ Upd w w' [] := by
  have B1 := hide fun W => new_bad n W hn
  have B2 := hide fun W => rnew_bad n W hn
  clear hn
  go_enter Try.func4, Try.ntmps4
  go_wp2_with fail
  refine (B1.out _).mono ?_
  rintro e w' ⟨rfl, rfl⟩
  go_wp2_with fail
  refine (B2.out _).mono ?_
  rintro e w' ⟨rfl, rfl⟩
  go_wp2_with fail
  refine (added_any _).mono ?_
  rintro e w' ⟨rfl, u'⟩
  replace u' := hide u'
  go_wp2_with fail
  go_ret
  exact ⟨rfl, u'.out⟩
end Go.Proofs.Ytibpbnhchlojmaa
