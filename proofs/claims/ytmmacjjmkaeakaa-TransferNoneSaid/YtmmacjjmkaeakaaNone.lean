/- The walk of TransferNone (f6). -/
import Derived.Test.YtmmacjjmkaeakaaNoSnd
import Derived.Test.YtmmacjjmkaeakaaGone
namespace Go.Proofs.Ytmmacjjmkaeakaa
open Go.RowKit
set_option linter.unusedVariables false
set_option maxHeartbeats 4000000 in
theorem none_walk (p : Pc) (o a b : Int) (w : World) : Calls Try.prog 6 #[.agg p.cells, .agg #[.int .u8 o, .int .i64 a, .int .i64 b]] w fun e w' => e = .returned (.bool true) ∧ Upd w w' [] := by
  have b1 := Blk.new w 31 p.cells
  have u1 := (Upd.refl w []).alloc (.cells p.cells 31)
  have b2 := hide (Blk.new (w.alloc (.cells p.cells 31)) 55 #[.int .u8 o, .int .i64 a, .int .i64 b])
  have b3 := hide (b1.alloc (.cells #[.int .u8 o, .int .i64 a, .int .i64 b] 55))
  have u2 := hide (u1.alloc (.cells #[.int .u8 o, .int .i64 a, .int .i64 b] 55))
  clear b1 u1
  go_enter Try.func6, Try.ntmps6
  go_wp2_with fail
  have hsz : (w.alloc (.cells p.cells 31)).heap.size = w.heap.size + 1 := by show (w.heap.push _).size = _; simp
  rw [hsz] at b2
  replace hsz := hide hsz
  generalize ((w.alloc (.cells p.cells 31)).alloc (.cells #[.int .u8 o, .int .i64 a, .int .i64 b] 55)) = w1 at *
  generalize w.heap.size = p1 at *
  generalize p1 + 1 = p2 at *
  go_loopw [5, 6, 7] (fun vs vr vi wr => ∃ i : Nat, i ≤ 2 ∧ vi = .int .i64 i ∧ NoSnd wr vs ∧ NoRcv wr vr ∧ Upd w1 wr []) (fun _ _ vi _ => 2 - (intOf vi).toNat)
  case atStart => exact ⟨0, by omega, rfl, .inl rfl, .inl rfl, Upd.refl _ _⟩
  case round =>
    obtain ⟨i, hi, rfl, hs, hr, hu⟩ := hrel
    by_cases h2 : (i : Int) < 2
    · have BK := hide (back_no u5 wr hs)
      go_wp2_with fail
      refine BK.out.mono ?_
      rintro e w2 ⟨rfl, rfl⟩
      have NX := hide (next_no2 u5 _ hs)
      go_wp2_with fail
      refine NX.out.mono ?_
      rintro e w3 ⟨rfl, g1⟩
      have G := hide (g1.alloc (.cells #[.int .i64 0, .int .i64 0, .int .i64 0, .string ⟨#[]⟩] 31))
      have k3 := hu.trans G.out (by simp)
      have c3 := k3.blk b3.out (by simp)
      have hs2 := hide (hs.upd G.out)
      have hr2 := hide (hr.upd G.out)
      have q1 : _ = some (Value.int .i64 p.id) := c3.cell (i := 0)
      have q2 : _ = some (Value.int .i64 p.at_) := c3.cell (i := 1)
      have q3 : _ = some (Value.int .i64 p.total) := c3.cell (i := 2)
      have q4 : _ = some (Value.string p.data) := c3.cell (i := 3)
      replace k3 := hide k3
      clear NX BK G g1 hu hs hr c3
      go_wp2_with fail
      generalize w3.alloc (.cells #[.int .i64 0, .int .i64 0, .int .i64 0, .string ⟨#[]⟩] 31) = w4 at *
      have TK := hide (take_none u6 p w4 hr2.out)
      go_wp2_with fail
      refine TK.out.mono ?_
      rintro e w5 ⟨rfl, g1⟩
      have hs3 := hide (hs2.out.upd g1)
      have hr3 := hide (hr2.out.upd g1)
      have k4 := hide (k3.out.trans g1 (by simp))
      clear q1 q2 q3 q4 TK g1 hs2 hr2 k3
      have TX := hide (text_none u6 w5 hr3.out)
      go_wp2_with fail
      refine TX.out.mono ?_
      rintro e w6 ⟨rfl, g1⟩
      have hs4 := hide (hs3.out.upd g1)
      have hr4 := hide (hr3.out.upd g1)
      have k5 := hide (k4.out.trans g1 (by simp))
      have c2 := k5.out.blk b2.out (by simp)
      have q1 : w6.cell? ⟨p2, 1, none⟩ = some (.int .i64 a) := by rw [c2.cell]; rfl
      have q2 : w6.cell? ⟨p2, 2, none⟩ = some (.int .i64 b) := by rw [c2.cell]; rfl
      clear TX g1 hs3 hr3 k4 c2
      have AK := hide (ack_no u5 a b w6 hs4.out)
      go_wp2_with fail
      refine AK.out.mono ?_
      rintro e w7 ⟨rfl, rfl⟩
      clear AK
      have HV := hide (have_no u5 w7 hs4.out)
      go_wp2_with fail
      refine HV.out.mono ?_
      rintro e w8 ⟨rfl, rfl⟩
      clear HV
      have DN := hide (done_no u5 w8 hs4.out)
      go_wp2_with fail
      refine DN.out.mono ?_
      rintro e w9 ⟨rfl, n, rfl⟩
      clear DN q1 q2
      have hs5 := hide (hs4.out.upd ((Upd.refl _ []).drewN n))
      have hr5 := hide (hr4.out.upd ((Upd.refl _ []).drewN n))
      have k6 := hide (k5.out.drewN n)
      clear hs4 hr4 k5
      generalize w8.drewN n = w9 at *
      go_wp2_with fail
      case roundEnd =>
        have Z := hide (k6.out.alloc (.cells #[.int .i64 0, .slice none 0 0, .int .i64 0, .int .i64 0, .int .i64 0] 64))
        have B1 := hide (Blk.new w9 64 #[.int .i64 0, .slice none 0 0, .int .i64 0, .int .i64 0, .int .i64 0])
        have B2 := hide (Blk.new (w9.alloc (.cells #[.int .i64 0, .slice none 0 0, .int .i64 0, .int .i64 0, .int .i64 0] 64)) 66 #[.bool false, .int .i64 0, .int .i64 0, .slice none 0 0])
        have hs9 : (w9.alloc (.cells #[.int .i64 0, .slice none 0 0, .int .i64 0, .int .i64 0, .int .i64 0] 64)).heap.size = w9.heap.size + 1 := by show (w9.heap.push _).size = _; simp
        rw [hs9] at B2
        refine ⟨⟨i + 1, by omega, by simp, .inr ⟨_, rfl, B1.out.alloc _⟩, .inr ⟨_, rfl, B2.out⟩, Z.out.alloc _⟩, ?_⟩
        simp only [intOf]; omega
    · go_wp2_with fail
      refine (gone_ok wr).mono ?_
      rintro e w2 ⟨rfl, g1⟩
      go_wp2_with fail
      go_ret
      exact ⟨rfl, (u2.out.trans hu (by simp)).trans g1 (by simp)⟩
end Go.Proofs.Ytmmacjjmkaeakaa
