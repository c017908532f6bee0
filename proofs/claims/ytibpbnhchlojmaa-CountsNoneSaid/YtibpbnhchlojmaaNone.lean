/- CountsNone: the walk. -/
import Derived.Test.YtibpbnhchlojmaaAdded
namespace Go.Proofs.Ytibpbnhchlojmaa
open Go.RowKit
set_option linter.unusedVariables false

set_option maxHeartbeats 1000000 in
theorem none_walk (I Y : Int) (w : World) :
    Calls Try.prog 5 #[.agg #[.int .i64 I, .int .i64 Y]] w fun e w' => e = .returned (.bool true) ∧ Upd w w' [] := by
  have bX := Blk.new w 29 #[.int .i64 I, .int .i64 Y]
  have uX := (Upd.refl w []).alloc (.cells #[.int .i64 I, .int .i64 Y] 29)
  replace bX := hide bX
  replace uX := hide uX
  go_enter Try.func5, Try.ntmps5
  go_wp2_with fail
  go_loopw [3, 4] (fun c v wr => ∃ k : Nat, k ≤ 2 ∧ v = .int .i64 k ∧ (c = .pointer none ∨ ∃ q, c = .pointer (some ⟨q, 0, none⟩) ∧ Blk wr q 45 #[.slice none 0 0]) ∧ Blk wr w.heap.size 29 #[.int .i64 I, .int .i64 Y] ∧ Upd w wr []) (fun _ v _ => 2 - (intOf v).toNat)
  case atStart => exact ⟨0, by omega, rfl, .inl rfl, bX.out, uX.out⟩
  case round =>
    obtain ⟨k, hk, rfl, hc, hb, hu⟩ := hrel
    clear bX uX
    by_cases hlt : k < 2
    · have x0 : wr.cell? ⟨w.heap.size, 0, none⟩ = some (.int .i64 I) := by rw [hb.cell]; rfl
      have x1 : wr.cell? ⟨w.heap.size, 1, none⟩ = some (.int .i64 Y) := by rw [hb.cell]; rfl
      have hki : (k : Int) < 2 := by omega
      have HB := hide (hb.alloc (.cells #[.slice none 0 0] 45))
      have HU := hide (hu.alloc (.cells #[.slice none 0 0] 45))
      have HQ := hide (Blk.new wr 45 #[.slice none 0 0])
      clear hb hu
      rcases hc with rfl | ⟨q, rfl, h0⟩
      · go_wp2_with fail
        refine (add_nil I Y _).mono ?_
        rintro e w' ⟨rfl, rfl⟩
        go_wp2_with fail
        refine (get_nil I _).mono ?_
        rintro e w' ⟨rfl, rfl⟩
        go_wp2_with fail
        refine (list_nil _).mono ?_
        rintro e w' ⟨rfl, rfl⟩
        go_wp2_with fail
        refine (copy_nil _).mono ?_
        rintro e w' ⟨rfl, rfl⟩
        go_wp2_with fail
        go_roundw
        case rel => exact ⟨k + 1, by omega, by go_num, .inr ⟨_, rfl, HQ.out⟩, HB.out, HU.out⟩
        case measure => simp [intOf]; omega
      · replace h0 : wr.cell? ⟨q, 0, none⟩ = some (.slice none 0 0) := by rw [h0.cell]; rfl
        go_wp2_with fail
        refine (add_empty q I Y _ h0).mono ?_
        rintro e w' ⟨rfl, rfl⟩
        go_wp2_with fail
        refine (get_empty q I _ h0).mono ?_
        rintro e w' ⟨rfl, rfl⟩
        go_wp2_with fail
        refine (list_empty q _ h0).mono ?_
        rintro e w' ⟨rfl, rfl⟩
        go_wp2_with fail
        refine (copy_empty q _ h0).mono ?_
        rintro e w' ⟨rfl, rfl⟩
        go_wp2_with fail
        go_roundw
        case rel => exact ⟨k + 1, by omega, by go_num, .inr ⟨_, rfl, HQ.out⟩, HB.out, HU.out⟩
        case measure => simp [intOf]; omega
    · obtain rfl : k = 2 := by omega
      replace hu := hide hu
      clear hc hb
      go_wp2_with fail
      refine (added_any _).mono ?_
      rintro e w6 ⟨rfl, u6⟩
      replace u6 := hide u6
      go_wp2_with fail
      go_ret
      exact ⟨rfl, hu.out.trans u6.out (by simp)⟩
end Go.Proofs.Ytibpbnhchlojmaa
