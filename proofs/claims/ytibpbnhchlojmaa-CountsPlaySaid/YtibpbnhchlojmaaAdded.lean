/- The chapter's counters. -/
import Derived.Test.YtibpbnhchlojmaaWalkD
namespace Go.Proofs.Ytibpbnhchlojmaa
open Go.RowKit
set_option linter.unusedVariables false

set_option maxHeartbeats 1000000 in
theorem added_any (w : World) : Calls Try.prog 6 #[] w fun e w' => e = .returned (.bool true) ∧ Upd w w' [] := by
  go_enter Try.func6, Try.ntmps6
  go_wp2_with fail
  refine (new_ok 2 _ (by decide) (by decide)).mono ?_
  rintro e w1 ⟨g, h, rfl, hg, hh, c1, u1⟩
  replace c1 := hide c1
  replace u1 := hide u1
  go_wp2_with fail
  refine (add_ok g h 1 [0, 0] 5 5 _ c1.out (by decide) (by decide) (by decide) (by decide) (by decide) (by decide) (by decide)).mono ?_
  rintro e w2 ⟨rfl, c2, u2⟩
  replace c2 := hide c2
  replace u2 := hide (u1.out.trans u2 (by simp; omega))
  clear c1 u1
  go_wp2_with fail
  refine (add_ok g h 1 [0, 5] 4611686018427387904 4611686018427387904 _ c2.out (by decide) (by decide) (by decide) (by decide) (by decide) (by decide) (by decide)).mono ?_
  rintro e w3 ⟨rfl, c3, u3⟩
  replace c3 := hide c3
  replace u3 := hide (u2.out.trans u3 (by simp; omega))
  clear c2 u2
  go_wp2_with fail
  refine (add_high g h 2 2 1 _ (by rw [c3.out.1.cell]; rfl) (by decide) (by decide) (by decide)).mono ?_
  rintro e w' ⟨rfl, rfl⟩
  go_wp2_with fail
  refine (add_neg g h 2 0 (-1) _ (by rw [c3.out.1.cell]; rfl) (by decide)).mono ?_
  rintro e w' ⟨rfl, rfl⟩
  go_wp2_with fail
  refine (list_ok g h [0, 4611686018427387904] _ c3.out (by decide) (by decide)).mono ?_
  rintro e w4 ⟨M, rfl, hM, hB, u4⟩
  have k0 : w4.cell? ⟨M, 0, none⟩ = some (.int .i64 0) := by rw [hB.cell]; rfl
  have k1 : w4.cell? ⟨M, 1, none⟩ = some (.int .i64 4611686018427387904) := by rw [hB.cell]; rfl
  replace u4 := hide (u3.out.trans u4 (by simp))
  clear hB u3 c3
  go_wp2
  go_ret
  exact ⟨rfl, u4.out⟩
end Go.Proofs.Ytibpbnhchlojmaa
