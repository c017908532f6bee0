/- The walk of TransferTakes (f3). -/
import Derived.Test.YtmmacjjmkaeakaaTakesPlain
import Derived.Test.YtmmacjjmkaeakaaGone
namespace Go.Proofs.Ytmmacjjmkaeakaa
open Go.RowKit
set_option linter.unusedVariables false
set_option linter.unusedSimpArgs false
set_option maxHeartbeats 4000000 in
theorem takes_walk (a0 : Option Addr) (b off cap : Nat) (xs : List Pc) (w : World) (ha : 0 < xs.length → a0 = some ⟨b, off, none⟩) (hx : Pcs w b off xs) (hm : xs.length ≤ 9223372036854775807) :
    Calls Try.prog 3 #[.slice a0 xs.length cap] w fun e w' => e = .returned (.bool true) ∧ Upd w w' [] := by
  by_cases h80 : 80 < (xs.length : Int)
  · go_enter Try.func3, Try.ntmps3
    go_wp2_with fail
    refine (gone_ok w).mono ?_
    rintro e w2 ⟨rfl, k1⟩
    replace k1 := hide k1
    go_wp2_with fail
    go_ret
    exact ⟨rfl, k1.out⟩
  · have hlen : xs.length ≤ 80 := by omega
    have X := hide hx
    have HA := hide ha
    have N := hide (newr_ok w)
    clear hx ha
    go_enter Try.func3, Try.ntmps3
    go_wp2_with fail
    refine N.out.mono ?_
    rintro e w1 ⟨rfl, R1, k1⟩
    have R2 := hide (R1.upd0 ((Upd.refl w1 []).alloc (.cells #[.int .i64 0, .int .i64 0, .slice none 0 0] 29)))
    have D2 := hide (show Rfv (w1.alloc (.cells #[.int .i64 0, .int .i64 0, .slice none 0 0] 29)) w.heap.size w1.heap.size (.slice none 0 0) 0 0 [] from ⟨k1.size, Blk.new w1 29 _, RowOf.nil _ _ _ _⟩)
    have U2 := hide (k1.alloc (.cells #[.int .i64 0, .int .i64 0, .slice none 0 0] 29))
    clear N R1 k1
    go_wp2_with fail
    generalize w1.alloc (.cells #[.int .i64 0, .int .i64 0, .slice none 0 0] 29) = w2 at *
    generalize w1.heap.size = dq at *
    go_loopw [5] (fun vi wr => ∃ (i : Nat) (id total : Int) (ps : List ByteArray) (rv dv : Value), i ≤ xs.length ∧ vi = .int .i64 i ∧ Rcv wr w.heap.size w.heap.size rv id total ps ∧ Rfv wr w.heap.size dq dv id total ps ∧ (∀ g ∈ blkOf rv, g ∉ blkOf dv) ∧ Okr id total ps ∧ Upd w wr []) (fun vi _ => xs.length - (intOf vi).toNat)
    case atStart => exact ⟨0, 0, 0, [], _, _, by omega, rfl, R2.out, D2.out, by simp [blkOf, Value.ownBlock], Okr.zero, U2.out⟩
    case round =>
      clear R2 D2 U2
      obtain ⟨i, id, total, ps, rv, dv, hi, rfl, hr, hd, hsep, hok, hu⟩ := hrel
      by_cases hl : (i : Int) < xs.length
      · have hil : i < xs.length := by omega
        obtain rfl := HA.out (by omega)
        have hX := X.out.upd hu
        have q0 := hX.at0 i hil
        have q1 := hX.at1 i hil
        have q2 := hX.at2 i hil
        have q3 := hX.at3 i hil
        replace hX := hide hX
        have hfew := hok.few
        by_cases h7 : 700 < (xs[i].data.size : Int)
        · go_wp2_with fail
          refine (gone_ok wr).mono ?_
          rintro e w3 ⟨rfl, k1⟩
          have k2 := hide (hu.trans k1 (by simp))
          clear k1
          go_wp2_with fail
          go_ret
          exact ⟨rfl, k2.out⟩
        · have hwb := hide (show w.heap.size ≤ wr.heap.size from hu.size)
          have TK := hide (take_ok xs[i] wr hr hwb.out (by omega))
          have hsz := hide (show w.heap.size < w.heap.size + 1 from Nat.lt_succ_self _)
          replace hr := hide hr
          replace hd := hide hd
          replace hok := hide hok
          replace hu := hide hu
          replace hsep := hide hsep
          have hok2 := hide (hok.out.take xs[i])
          generalize hp : xs[i] = p at *
          replace hp := hide hp
          go_wp2_with fail
          refine TK.out.mono ?_
          rintro e w3 ⟨rv2, rfl, hr2, k1, fr1⟩
          have past := hr.out.past
          have lr := hr.out.head.lt
          have k3 := hide (hu.out.trans k1 (fun j hj hlj => absurd hj (past j hlj)))
          have ne1 := hr.out.row.ne hd.out.head (by decide)
          have ne2 := hd.out.row.ne hr.out.head (by decide)
          have ne0 : dq ≠ w.heap.size := hd.out.head.ne_ hr.out.head (by decide)
          have hd2 := hide (hd.out.upd k1 (by
            intro hm
            rcases List.mem_cons.1 hm with hm | hm
            · exact ne0 hm
            · exact ne1 dq hm (by simp)) (by
            intro g hg hm
            rcases List.mem_cons.1 hm with hm | hm
            · exact ne2 g hg (by simp [hm])
            · exact hsep.out g hm hg))
          have hsep2 := hide (fr1.off (S := blkOf dv) hsep.out (fun g hg => hd.out.row.lt_ g hg))
          have hX2 := X.out.upd k3.out
          have q0 := hX2.at0 i hil
          have q1 := hX2.at1 i hil
          have q2 := hX2.at2 i hil
          have q3 := hX2.at3 i hil
          rw [hp.out] at q0 q1 q2 q3
          have hb3 := hide (show w.heap.size ≤ w3.heap.size from k3.out.size)
          have DT := hide (rtake_ok p w3 hd2.out hb3.out (by omega))
          replace hr2 := hide hr2
          clear past lr k1 ne1 ne2 hX hX2 hu hd hr hsep fr1 TK hwb
          go_wp2_with fail
          refine DT.out.mono ?_
          rintro e w4 ⟨dv2, rfl, hd3, k4, fr2⟩
          have ne1 := hr2.out.row.ne hd2.out.head (by decide)
          have hr3 := hide (hr2.out.upd k4 (by simpa using ne0.symm) ne1)
          have hsep3 := hide (show ∀ g ∈ blkOf rv2, g ∉ blkOf dv2 from fun g hg hm => by
            rcases fr2 g hm with h | h
            · exact hsep2.out g hg h
            · have := hr2.out.row.lt_ g hg
              omega)
          have k5 := hide (k3.out.trans k4 (fun j hj hlj => absurd hj (hd2.out.past j hlj)))
          have few2 := hok2.out.few
          have TX := hide (text_ok w4 hr3.out (by omega) hok2.out.join)
          replace hd3 := hide hd3
          clear q0 q1 q2 q3 ne1 k3 k4 hd2 hr2 hsep2 hok DT fr2
          generalize takeId id total p = id2 at *
          generalize takeTotal id total p = total2 at *
          generalize takePs id total ps p = ps2 at *
          go_wp2_with fail
          refine TX.out.mono ?_
          rintro e w5 ⟨rfl, k6⟩
          have hr4 := hide (hr3.out.upd0 k6)
          have hd4 := hide (hd3.out.upd0 k6)
          have k7 := hide (k5.out.trans k6 (by simp))
          have RT := rtext_ok w5 hd4.out (by omega) hok2.out.size
          rw [hok2.out.texts, hok2.out.text] at RT
          replace RT := hide RT
          clear TX hr3 hd3 k5 k6
          generalize textS id2 total2 ps2 = ts at *
          generalize textB id2 total2 ps2 = tb at *
          go_wp2_with fail
          refine RT.out.mono ?_
          rintro e w6 ⟨rfl, k6⟩
          have hr5 := hide (hr4.out.upd0 k6)
          have hd5 := hide (hd4.out.upd0 k6)
          have k8 := hide (k7.out.trans k6 (by simp))
          clear RT hr4 hd4 k6 k7
          go_wp2_with fail
          case roundEnd =>
            refine ⟨⟨i + 1, id2, total2, ps2, rv2, dv2, by omega, by simp, hr5.out, hd5.out, hsep3.out, hok2.out, k8.out⟩, ?_⟩
            simp only [intOf]; omega
      · go_wp2_with fail
        refine (gone_ok wr).mono ?_
        rintro e w3 ⟨rfl, k1⟩
        have k2 := hide (hu.trans k1 (by simp))
        clear k1
        go_wp2_with fail
        go_ret
        exact ⟨rfl, k2.out⟩
end Go.Proofs.Ytmmacjjmkaeakaa
