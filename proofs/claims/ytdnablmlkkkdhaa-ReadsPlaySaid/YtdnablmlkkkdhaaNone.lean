/- ReadsNone: the walk. -/
import Derived.Test.YtdnablmlkkkdhaaGreat
namespace Go.Proofs.Ytdnablmlkkkdhaa
open Go.RowKit
set_option linter.unusedVariables false
attribute [-go_sem] loadVar storeVar Instr.buildSlice
attribute [local go_sem] loadVar_else storeVar_else run_load33 run_load35 run_load42 run_load44 run_load49 run_load72 run_store35 run_store42 run_store44 run_store49 aggAt_drew aggAt_drewN aggRoom_drew aggRoom_drewN
def zeroAc : Array Value := #[.int .u8 0, .int .i64 0, .int .i64 0, .int .i64 0, .int .i64 0, .int .i64 0, .int .i64 0, .int .i64 0, .int .i64 0, .string ⟨#[]⟩, .string ⟨#[]⟩, .int .i64 0, .int .i64 0, .string ⟨#[]⟩, .int .i64 0, .int .i64 0,
  .int .i64 0, .int .i64 0, .int .i64 0, .int .i64 0, .int .i64 0, .string ⟨#[]⟩, .string ⟨#[]⟩, .int .i64 0, .int .i64 0, .slice none 0 0, .int .i64 0, .int .i64 0, .int .i64 0, .int .i64 0, .int .i64 0, .string ⟨#[]⟩, .int .i64 0, .int .i64 0, .int .i64 0]
theorem info44 : (Try.prog.info? 44).map (fun i => (i.zero, i.size, i.bytes)) = some (some (.agg zeroAc), 35, 344) := by kernel_rfl
theorem run_one22 (R : Array Value) (w : World) : (Instr.buildSlice 22 1 #[(0, .agg R)]).run Try.prog w = (match R.size == 35 with | true => .ok (.slice (some ⟨w.heap.size, 0, none⟩) 1 1) (w.alloc (.cells R 44)) | false => oneSlow 22 (.agg R) w) := by
  obtain ⟨i, h1, h2, h3⟩ := info_parts3 info44
  exact run_one Try.underlying22 h1 h2 h3 (by decide) (by decide) rfl R w
attribute [local go_sem] run_one22
set_option maxHeartbeats 4000000 in
theorem rnone_walk (a : Ac) (ok : a.ok) (w : World) : Calls Try.prog 5 #[.agg a.cells] w fun e w' => e = .returned (.bool true) ∧ Upd w w' [] := by
  have h35 := a.size ok
  have B1 := Blk.new w 44 a.cells
  have L1 : aggAt 35 (w.alloc (.cells a.cells 44)) w.heap.size 0 = some a.cells := B1.agg0 h35
  have U2 := hide (((Upd.refl w []).alloc (.cells a.cells 44)).alloc (.cells a.cells 44))
  have B2 := Blk.new (w.alloc (.cells a.cells 44)) 44 a.cells
  have B1' := hide (B1.alloc (.cells a.cells 44))
  rw [World.size_alloc] at B2
  have X : Acts ((w.alloc (.cells a.cells 44)).alloc (.cells a.cells 44)) (w.heap.size + 1) 0 [a] := by
    refine ⟨fun b hb => by rw [List.mem_singleton.1 hb]; exact ok, fun j hj => ?_⟩
    obtain rfl : j = 0 := by simpa using hj
    exact B2.agg 0 h35 (fun j _ => by rw [Nat.zero_add]; rfl)
  have G := hide (great_walk (some ⟨w.heap.size + 1, 0, none⟩) (w.heap.size + 1) 0 1 [a] 1 _ (fun _ => rfl) X (by simp))
  rw [great_one a (by omega)] at G
  have facts : ∀ W, Blk W w.heap.size 44 a.cells → ActAt W w.heap.size 0 a := fun W B => act_at ok (B.agg0 h35)
  replace facts := hide facts
  have F29 := ok.fit.size
  replace ok := hide ok
  clear B1 B2 X
  generalize hA : a.cells = A at *
  replace hA := hide hA
  go_enter Try.func5, Try.ntmps5
  go_wp2_with fail
  refine G.out.mono ?_
  rintro e w1 ⟨rfl, rfl⟩
  clear G L1
  generalize (w.alloc (.cells A 44)).alloc (.cells A 44) = w1 at *
  by_cases hw : a.wide
  · go_wp2_with fail
    refine (waited_any _).mono ?_
    rintro e w2 ⟨rfl, u2⟩
    replace u2 := hide (U2.out.trans u2 (by simp))
    go_wp2_with fail
    go_ret
    exact ⟨rfl, u2.out⟩
  · go_wp2_with fail
    go_loopw [3, 4] (fun c v wr => ∃ k : Nat, k ≤ 2 ∧ v = .int .i64 k ∧ NoRds wr c ∧ Blk wr w.heap.size 44 A ∧ Upd w wr []) (fun _ v _ => 2 - (intOf v).toNat)
    case atStart => exact ⟨0, by omega, rfl, .inl rfl, B1'.out, U2.out⟩
    case round =>
      clear B1' U2
      obtain ⟨k, hk, rfl, hc, hB, hu⟩ := hrel
      by_cases hlt : k < 2
      · have hki : (k : Int) < 2 := by omega
        have fa := facts.out _ hB
        have f1 : aggAt 29 wr w.heap.size 1 = some a.F := by have := fa.fF; rwa [Nat.zero_add] at this
        have f2 : aggAt 4 wr w.heap.size 30 = some a.x.cells := by have := fa.fX; rwa [Nat.zero_add] at this
        have P := hide (put_no _ a.F a.x _ hc F29)
        replace hu := hide hu
        replace hc := hide hc
        replace hB := hide hB
        clear fa
        go_wp2_with fail
        refine P.out.mono ?_
        rintro e w2 ⟨rfl, v2⟩
        have hB2 := hide (v2.blk hB.out (by simp))
        have hc2 := hide (hc.out.upd v2)
        have U2 := hide (hu.out.trans v2 (by simp))
        have fN : w2.cell? ⟨w.heap.size, 34, none⟩ = some (.int .i64 a.n) := by have := (facts.out _ hB2.out).fN; rwa [Nat.zero_add] at this
        have P1 := hide (last_no _ _ hc2.out)
        have P2 := hide (sure_no _ a.n _ hc2.out)
        clear P v2 hu f1 f2 hB
        go_wp2_with fail
        refine P1.out.mono ?_
        rintro e w' ⟨rfl, rfl⟩
        clear P1
        go_wp2_with fail
        refine P2.out.mono ?_
        rintro e w3 ⟨rfl, v3⟩
        have hB3 := hide (v3.blk hB2.out (by simp))
        have hc3 := hide (hc2.out.upd v3)
        have U3 := hide (U2.out.trans v3 (by simp))
        have fN3 : w3.cell? ⟨w.heap.size, 34, none⟩ = some (.int .i64 a.n) := by have := (facts.out _ hB3.out).fN; rwa [Nat.zero_add] at this
        have P3 := hide (expire_no _ a.n _ hc3.out)
        clear P2 v3 U2 fN hB2
        go_wp2_with fail
        refine P3.out.mono ?_
        rintro e w4 ⟨rfl, v4⟩
        have hB4 := hide (v4.blk hB3.out (by simp))
        have hc4 := hide (hc3.out.upd v4)
        have U4 := hide (U3.out.trans v4 (by simp))
        have P4 := hide (flush_no _ _ hc4.out)
        clear P3 v4 U3 fN3 hB3
        go_wp2_with fail
        refine P4.out.mono ?_
        rintro e w5 ⟨rfl, v5⟩
        have hB5 := hide (v5.blk hB4.out (by simp))
        have hc5 := hide (hc4.out.upd v5)
        have U5 := hide (U4.out.trans v5 (by simp))
        have P5 := hide (len_no _ _ hc5.out)
        have P6 := hide (copy_no _ _ hc5.out)
        clear P4 v5 U4 hB4
        go_wp2_with fail
        refine P5.out.mono ?_
        rintro e w' ⟨rfl, rfl⟩
        go_wp2_with fail
        refine P6.out.mono ?_
        rintro e w' ⟨rfl, rfl⟩
        go_wp2_with fail
        go_roundw
        case rel => exact ⟨k + 1, by omega, by go_num, .inr ⟨_, rfl, Blk.new _ _ _⟩, hB5.out.alloc _, U5.out.alloc _⟩
        case measure => simp [intOf]; omega
      · obtain rfl : k = 2 := by omega
        replace hu := hide hu
        clear hc hB
        go_wp2_with fail
        refine (waited_any _).mono ?_
        rintro e w6 ⟨rfl, u6⟩
        replace u6 := hide u6
        go_wp2_with fail
        go_ret
        exact ⟨rfl, hu.out.trans u6.out (by simp)⟩
end Go.Proofs.Ytdnablmlkkkdhaa
