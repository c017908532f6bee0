/- WindowsNone: the walk. -/
import Derived.Test.YtbknneacegdcaaaWalkD
namespace Go.Proofs.Ytbknneacegdcaaa
open Go.RowKit
set_option linter.unusedVariables false

theorem offer_zero_any (w : World) (g : Nat) (h0 : w.cell? ⟨g, 0, none⟩ = some (.int .i64 0)) : Calls Try.prog 28 #[.pointer (some ⟨g, 0, none⟩)] w fun e w' => e = .returned (.int .i64 0) ∧ w = w' := offer_zero w g h0
set_option maxHeartbeats 2000000 in
theorem none_walk (n : Int) (w : World) :
    Calls Try.prog 5 #[.int .i64 n] w fun e w' => e = .returned (.bool true) ∧ Upd w w' [] := by
  go_enter Try.func5, Try.ntmps5
  go_wp2_with fail
  go_loopw [3, 4] (fun c v wr => ∃ k : Nat, k ≤ 2 ∧ v = .int .i64 k ∧ (c = .pointer none ∨ ∃ q, c = .pointer (some ⟨q, 0, none⟩) ∧ Blk wr q 46 #[.int .i64 0, .int .i64 0, .int .i64 0, .int .i64 0, .int .i64 0]) ∧ Upd w wr []) (fun _ v _ => 2 - (intOf v).toNat)
  case atStart => exact ⟨0, by omega, rfl, .inl rfl, Upd.refl _ _⟩
  case round =>
    obtain ⟨k, hk, rfl, hc, hu⟩ := hrel
    by_cases hlt : k < 2
    · have hki : (k : Int) < 2 := by omega
      replace hu := hide hu
      rcases hc with rfl | ⟨q, rfl, h0⟩
      · go_wp2_with fail
        refine (grant_nil n _).mono ?_
        rintro e w1 ⟨rfl, rfl⟩
        go_wp2_with fail
        refine (back_nil n _).mono ?_
        rintro e w1 ⟨rfl, rfl⟩
        go_wp2_with fail
        refine (renew_nil _).mono ?_
        rintro e w1 ⟨rfl, rfl⟩
        go_wp2_with fail
        refine (next_nil _).mono ?_
        rintro e w1 ⟨rfl, un⟩
        have U1 := hide (hu.out.trans un (by simp))
        clear un
        go_wp2_with fail
        refine (push_nil _).mono ?_
        rintro e w1 ⟨rfl, rfl⟩
        go_wp2_with fail
        refine (ack_nil n _).mono ?_
        rintro e w1 ⟨rfl, rfl⟩
        go_wp2_with fail
        refine (last_nil _).mono ?_
        rintro e w1 ⟨rfl, rfl⟩
        go_wp2_with fail
        refine (done_nil _).mono ?_
        rintro e w1 ⟨rfl, rfl⟩
        go_wp2_with fail
        refine (sent_nil _).mono ?_
        rintro e w1 ⟨rfl, rfl⟩
        go_wp2_with fail
        refine (limit_nil _).mono ?_
        rintro e w1 ⟨rfl, rfl⟩
        go_wp2_with fail
        refine (offer_nil _).mono ?_
        rintro e w1 ⟨rfl, rfl⟩
        go_wp2_with fail
        refine (free_nil _).mono ?_
        rintro e w1 ⟨rfl, rfl⟩
        go_wp2_with fail
        refine (copy_nil _).mono ?_
        rintro e w1 ⟨rfl, rfl⟩
        go_wp2_with fail
        go_roundw
        case rel => exact ⟨k + 1, by omega, by go_num, .inr ⟨_, rfl, Blk.new _ _ _⟩, U1.out.alloc _⟩
        case measure => simp [intOf]; omega
      · have B0 := hide h0
        replace h0 : wr.cell? ⟨q, 0, none⟩ = some (.int .i64 0) := by rw [h0.cell]; rfl
        go_wp2_with fail
        refine (grant_zero n _ q h0).mono ?_
        rintro e w1 ⟨rfl, rfl⟩
        go_wp2_with fail
        refine (back_zero n _ q h0).mono ?_
        rintro e w1 ⟨rfl, rfl⟩
        go_wp2_with fail
        refine (renew_zero _ q h0).mono ?_
        rintro e w1 ⟨rfl, rfl⟩
        go_wp2_with fail
        refine (next_zero _ q h0).mono ?_
        rintro e w1 ⟨rfl, un⟩
        have U1 := hide (hu.out.trans un (by simp))
        have h1 : w1.cell? ⟨q, 0, none⟩ = some (.int .i64 0) := by rw [(un.blk B0.out (by simp)).cell]; rfl
        clear un h0
        go_wp2_with fail
        refine (push_zero _ q h1).mono ?_
        rintro e w1 ⟨rfl, rfl⟩
        go_wp2_with fail
        refine (ack_zero n _ q h1).mono ?_
        rintro e w1 ⟨rfl, rfl⟩
        go_wp2_with fail
        refine (last_zero _ q h1).mono ?_
        rintro e w1 ⟨rfl, rfl⟩
        go_wp2_with fail
        refine (done_zero _ q h1).mono ?_
        rintro e w1 ⟨rfl, rfl⟩
        go_wp2_with fail
        refine (sent_zero _ q h1).mono ?_
        rintro e w1 ⟨rfl, rfl⟩
        go_wp2_with fail
        refine (limit_zero _ q h1).mono ?_
        rintro e w1 ⟨rfl, rfl⟩
        go_wp2_with fail
        refine (offer_zero _ q h1).mono ?_
        rintro e w1 ⟨rfl, rfl⟩
        go_wp2_with fail
        refine (free_zero _ q h1).mono ?_
        rintro e w1 ⟨rfl, rfl⟩
        go_wp2_with fail
        refine (copy_zero _ q h1).mono ?_
        rintro e w1 ⟨rfl, rfl⟩
        go_wp2_with fail
        go_roundw
        case rel => exact ⟨k + 1, by omega, by go_num, .inr ⟨_, rfl, Blk.new _ _ _⟩, U1.out.alloc _⟩
        case measure => simp [intOf]; omega
    · obtain rfl : k = 2 := by omega
      replace hu := hide hu
      clear hc
      go_wp2_with fail
      refine (framed_any _).mono ?_
      rintro e w6 ⟨rfl, u6⟩
      replace u6 := hide u6
      go_wp2_with fail
      go_ret
      exact ⟨rfl, hu.out.trans u6.out (by simp)⟩
end Go.Proofs.Ytbknneacegdcaaa
