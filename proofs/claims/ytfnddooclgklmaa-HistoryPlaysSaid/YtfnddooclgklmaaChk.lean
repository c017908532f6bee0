/- The walks of the layer history: Check, and the document's Check. -/
import Derived.Test.YtfnddooclgklmaaWalks
namespace Go.Proofs.Ytfnddooclgklmaa
open Go.RowKit
set_option linter.unusedVariables false
attribute [-go_sem] loadVar storeVar
attribute [local go_sem] loadVar_else storeVar_else run_load29 run_load33 run_load35 run_load48 run_load49 run_load61 run_store29 run_store33 run_store35 run_store48 run_store49 aggAt_drew aggAt_drewN aggRoom_drew aggRoom_drewN
set_option maxHeartbeats 4000000 in
theorem check20_ok (o : Op4) (w : World) : Calls Try.prog 20 #[.agg o.cells] w fun e w' => e = .returned (.int .i64 (chk o)) ∧ Upd w w' [] := by
  have U := hide ((Upd.refl w []).alloc (.cells o.cells 29))
  go_enter Try.func20, Try.ntmps20
  by_cases c0 : o.kind < 1
  · skip
    have hq := hide (show chk o = 2 by unfold chk; rw [if_pos (by omega)])
    go_wp2_with fail
    go_ret
    exact ⟨ret_int hq.out.symm, U.out⟩
  · skip
    by_cases c1 : 4 < o.kind
    · skip
      have hq := hide (show chk o = 2 by unfold chk; rw [if_pos (by omega)])
      go_wp2_with fail
      go_ret
      exact ⟨ret_int hq.out.symm, U.out⟩
    · skip
      by_cases c2 : o.key.size = 0
      · have ck := empty_yes c2
        have hq := hide (show chk o = 2 by unfold chk; rw [if_pos (by omega)])
        go_wp2_with fail
        go_ret
        exact ⟨ret_int hq.out.symm, U.out⟩
      · have ck := empty_no c2
        by_cases c3 : o.ver < 0
        · skip
          have hq := hide (show chk o = 2 by unfold chk; rw [if_pos (by omega)])
          go_wp2_with fail
          go_ret
          exact ⟨ret_int hq.out.symm, U.out⟩
        · skip
          by_cases c4 : 4096 < o.ver
          · skip
            have hq := hide (show chk o = 2 by unfold chk; rw [if_pos (by omega)])
            go_wp2_with fail
            go_ret
            exact ⟨ret_int hq.out.symm, U.out⟩
          · skip
            by_cases c6 : o.ver = 0
            · by_cases c8 : o.val.size = 0
              · have cv := empty_yes c8
                by_cases c9 : 16 < o.key.size
                · skip
                  have hq := hide (show chk o = 3 by unfold chk; rw [if_neg (by omega), if_pos (by omega)])
                  go_wp2_with fail
                  go_ret
                  exact ⟨ret_int hq.out.symm, U.out⟩
                · skip
                  have hq := hide (show chk o = 0 by unfold chk; rw [if_neg (by omega), if_neg (by omega)])
                  go_wp2_with fail
                  go_ret
                  exact ⟨ret_int hq.out.symm, U.out⟩
              · have cv := empty_no c8
                have c8p : 0 < o.val.size := by omega
                by_cases c101 : o.kind = 1
                · skip
                  have hq := hide (show chk o = 2 by unfold chk; rw [if_pos (by omega)])
                  go_wp2_with fail
                  refine (valued_ok _ _).mono ?_
                  rintro e w' ⟨rfl, rfl⟩
                  go_wp2_with fail
                  go_ret
                  exact ⟨ret_int hq.out.symm, U.out⟩
                · skip
                  by_cases c103 : o.kind = 3
                  · skip
                    have hq := hide (show chk o = 2 by unfold chk; rw [if_pos (by omega)])
                    go_wp2_with fail
                    refine (valued_ok _ _).mono ?_
                    rintro e w' ⟨rfl, rfl⟩
                    go_wp2_with fail
                    go_ret
                    exact ⟨ret_int hq.out.symm, U.out⟩
                  · skip
                    have c11 : o.kind = 2 ∨ o.kind = 4 := by omega
                    by_cases c9 : 16 < o.key.size
                    · skip
                      have hq := hide (show chk o = 3 by unfold chk; rw [if_neg (by omega), if_pos (by omega)])
                      go_wp2_with fail
                      refine (valued_ok _ _).mono ?_
                      rintro e w' ⟨rfl, rfl⟩
                      go_wp2_with fail
                      go_ret
                      exact ⟨ret_int hq.out.symm, U.out⟩
                    · skip
                      by_cases c12 : 64 < o.val.size
                      · skip
                        have hq := hide (show chk o = 3 by unfold chk; rw [if_neg (by omega), if_pos (by omega)])
                        go_wp2_with fail
                        refine (valued_ok _ _).mono ?_
                        rintro e w' ⟨rfl, rfl⟩
                        go_wp2_with fail
                        go_ret
                        exact ⟨ret_int hq.out.symm, U.out⟩
                      · skip
                        have hq := hide (show chk o = 0 by unfold chk; rw [if_neg (by omega), if_neg (by omega)])
                        go_wp2_with fail
                        refine (valued_ok _ _).mono ?_
                        rintro e w' ⟨rfl, rfl⟩
                        go_wp2_with fail
                        go_ret
                        exact ⟨ret_int hq.out.symm, U.out⟩
            · have c6p : 0 < o.ver := by omega
              by_cases c7 : o.kind = 4
              · by_cases c8 : o.val.size = 0
                · have cv := empty_yes c8
                  by_cases c9 : 16 < o.key.size
                  · skip
                    have hq := hide (show chk o = 3 by unfold chk; rw [if_neg (by omega), if_pos (by omega)])
                    go_wp2_with fail
                    go_ret
                    exact ⟨ret_int hq.out.symm, U.out⟩
                  · skip
                    have hq := hide (show chk o = 0 by unfold chk; rw [if_neg (by omega), if_neg (by omega)])
                    go_wp2_with fail
                    go_ret
                    exact ⟨ret_int hq.out.symm, U.out⟩
                · have cv := empty_no c8
                  have c8p : 0 < o.val.size := by omega
                  by_cases c9 : 16 < o.key.size
                  · skip
                    have hq := hide (show chk o = 3 by unfold chk; rw [if_neg (by omega), if_pos (by omega)])
                    go_wp2_with fail
                    refine (valued_ok _ _).mono ?_
                    rintro e w' ⟨rfl, rfl⟩
                    go_wp2_with fail
                    go_ret
                    exact ⟨ret_int hq.out.symm, U.out⟩
                  · skip
                    by_cases c12 : 64 < o.val.size
                    · skip
                      have hq := hide (show chk o = 3 by unfold chk; rw [if_neg (by omega), if_pos (by omega)])
                      go_wp2_with fail
                      refine (valued_ok _ _).mono ?_
                      rintro e w' ⟨rfl, rfl⟩
                      go_wp2_with fail
                      go_ret
                      exact ⟨ret_int hq.out.symm, U.out⟩
                    · skip
                      have hq := hide (show chk o = 0 by unfold chk; rw [if_neg (by omega), if_neg (by omega)])
                      go_wp2_with fail
                      refine (valued_ok _ _).mono ?_
                      rintro e w' ⟨rfl, rfl⟩
                      go_wp2_with fail
                      go_ret
                      exact ⟨ret_int hq.out.symm, U.out⟩
              · have c7b : (o.kind != 4) = true := by simpa using c7
                have c6b : (o.ver != 0) = true := by simpa using c6
                have hq := hide (show chk o = 2 by unfold chk; rw [if_pos (by omega)])
                go_wp2_with fail
                all_goals (first | (go_ret; exact ⟨ret_int hq.out.symm, U.out⟩) | (exfalso; simp_all; done))
set_option maxHeartbeats 4000000 in
theorem check21_ok (o : Op4) (w : World) : Calls Try.prog 21 #[.agg o.cells] w fun e w' => e = .returned (.int .i64 (chk o)) ∧ Upd w w' [] := by
  have U := hide ((Upd.refl w []).alloc (.cells o.cells 29))
  go_enter Try.func21, Try.ntmps21
  by_cases c0 : o.kind < 1
  · skip
    have hq := hide (show chk o = 2 by unfold chk; rw [if_pos (by omega)])
    go_wp2_with fail
    all_goals (first | (go_ret; exact ⟨ret_int hq.out.symm, U.out⟩) | (exfalso; simp_all; done) | (exfalso; simp_all; omega))
  · skip
    by_cases c1 : 4 < o.kind
    · skip
      have hq := hide (show chk o = 2 by unfold chk; rw [if_pos (by omega)])
      go_wp2_with fail
      all_goals (first | (go_ret; exact ⟨ret_int hq.out.symm, U.out⟩) | (exfalso; simp_all; done) | (exfalso; simp_all; omega))
    · skip
      by_cases c2 : o.key.size = 0
      · have ck := empty_yes c2
        have hq := hide (show chk o = 2 by unfold chk; rw [if_pos (by omega)])
        go_wp2_with fail
        all_goals (first | (go_ret; exact ⟨ret_int hq.out.symm, U.out⟩) | (exfalso; simp_all; done) | (exfalso; simp_all; omega))
      · have ck := empty_no c2
        by_cases c3 : o.ver < 0
        · skip
          have hq := hide (show chk o = 2 by unfold chk; rw [if_pos (by omega)])
          go_wp2_with fail
          all_goals (first | (go_ret; exact ⟨ret_int hq.out.symm, U.out⟩) | (exfalso; simp_all; done) | (exfalso; simp_all; omega))
        · skip
          by_cases c4 : 4096 < o.ver
          · skip
            have hq := hide (show chk o = 2 by unfold chk; rw [if_pos (by omega)])
            go_wp2_with fail
            all_goals (first | (go_ret; exact ⟨ret_int hq.out.symm, U.out⟩) | (exfalso; simp_all; done) | (exfalso; simp_all; omega))
          · skip
            by_cases c6 : o.ver = 0
            · by_cases c8 : o.val.size = 0
              · have cv := empty_yes c8
                by_cases c9 : 16 < o.key.size
                · skip
                  have hq := hide (show chk o = 3 by unfold chk; rw [if_neg (by omega), if_pos (by omega)])
                  go_wp2_with fail
                  all_goals (first | (go_ret; exact ⟨ret_int hq.out.symm, U.out⟩) | (exfalso; simp_all; done) | (exfalso; simp_all; omega))
                · skip
                  have hq := hide (show chk o = 0 by unfold chk; rw [if_neg (by omega), if_neg (by omega)])
                  go_wp2_with fail
                  all_goals (first | (go_ret; exact ⟨ret_int hq.out.symm, U.out⟩) | (exfalso; simp_all; done) | (exfalso; simp_all; omega))
              · have cv := empty_no c8
                have c8p : 0 < o.val.size := by omega
                by_cases c101 : o.kind = 1
                · skip
                  have hq := hide (show chk o = 2 by unfold chk; rw [if_pos (by omega)])
                  go_wp2_with fail
                  all_goals (first | (go_ret; exact ⟨ret_int hq.out.symm, U.out⟩) | (exfalso; simp_all; done) | (exfalso; simp_all; omega))
                · skip
                  by_cases c103 : o.kind = 3
                  · skip
                    have hq := hide (show chk o = 2 by unfold chk; rw [if_pos (by omega)])
                    go_wp2_with fail
                    all_goals (first | (go_ret; exact ⟨ret_int hq.out.symm, U.out⟩) | (exfalso; simp_all; done) | (exfalso; simp_all; omega))
                  · skip
                    have c11 : o.kind = 2 ∨ o.kind = 4 := by omega
                    by_cases c9 : 16 < o.key.size
                    · skip
                      have hq := hide (show chk o = 3 by unfold chk; rw [if_neg (by omega), if_pos (by omega)])
                      go_wp2_with fail
                      all_goals (first | (go_ret; exact ⟨ret_int hq.out.symm, U.out⟩) | (exfalso; simp_all; done) | (exfalso; simp_all; omega))
                    · skip
                      by_cases c12 : 64 < o.val.size
                      · skip
                        have hq := hide (show chk o = 3 by unfold chk; rw [if_neg (by omega), if_pos (by omega)])
                        go_wp2_with fail
                        all_goals (first | (go_ret; exact ⟨ret_int hq.out.symm, U.out⟩) | (exfalso; simp_all; done) | (exfalso; simp_all; omega))
                      · skip
                        have hq := hide (show chk o = 0 by unfold chk; rw [if_neg (by omega), if_neg (by omega)])
                        go_wp2_with fail
                        all_goals (first | (go_ret; exact ⟨ret_int hq.out.symm, U.out⟩) | (exfalso; simp_all; done) | (exfalso; simp_all; omega))
            · have c6p : 0 < o.ver := by omega
              by_cases c7 : o.kind = 4
              · by_cases c8 : o.val.size = 0
                · have cv := empty_yes c8
                  by_cases c9 : 16 < o.key.size
                  · skip
                    have hq := hide (show chk o = 3 by unfold chk; rw [if_neg (by omega), if_pos (by omega)])
                    go_wp2_with fail
                    all_goals (first | (go_ret; exact ⟨ret_int hq.out.symm, U.out⟩) | (exfalso; simp_all; done) | (exfalso; simp_all; omega))
                  · skip
                    have hq := hide (show chk o = 0 by unfold chk; rw [if_neg (by omega), if_neg (by omega)])
                    go_wp2_with fail
                    all_goals (first | (go_ret; exact ⟨ret_int hq.out.symm, U.out⟩) | (exfalso; simp_all; done) | (exfalso; simp_all; omega))
                · have cv := empty_no c8
                  have c8p : 0 < o.val.size := by omega
                  by_cases c9 : 16 < o.key.size
                  · skip
                    have hq := hide (show chk o = 3 by unfold chk; rw [if_neg (by omega), if_pos (by omega)])
                    go_wp2_with fail
                    all_goals (first | (go_ret; exact ⟨ret_int hq.out.symm, U.out⟩) | (exfalso; simp_all; done) | (exfalso; simp_all; omega))
                  · skip
                    by_cases c12 : 64 < o.val.size
                    · skip
                      have hq := hide (show chk o = 3 by unfold chk; rw [if_neg (by omega), if_pos (by omega)])
                      go_wp2_with fail
                      all_goals (first | (go_ret; exact ⟨ret_int hq.out.symm, U.out⟩) | (exfalso; simp_all; done) | (exfalso; simp_all; omega))
                    · skip
                      have hq := hide (show chk o = 0 by unfold chk; rw [if_neg (by omega), if_neg (by omega)])
                      go_wp2_with fail
                      all_goals (first | (go_ret; exact ⟨ret_int hq.out.symm, U.out⟩) | (exfalso; simp_all; done) | (exfalso; simp_all; omega))
              · have c7b : (o.kind != 4) = true := by simpa using c7
                have c6b : (o.ver != 0) = true := by simpa using c6
                have hq := hide (show chk o = 2 by unfold chk; rw [if_pos (by omega)])
                go_wp2_with fail
                all_goals (first | (go_ret; exact ⟨ret_int hq.out.symm, U.out⟩) | (exfalso; simp_all; done))
end Go.Proofs.Ytfnddooclgklmaa
