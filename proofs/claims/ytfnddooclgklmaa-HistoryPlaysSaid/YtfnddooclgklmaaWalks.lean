/- The walks of the layer history: none, Events, valued, Check, the document's Check. -/
import Derived.Test.YtfnddooclgklmaaWords
namespace Go.Proofs.Ytfnddooclgklmaa
open Go.RowKit
set_option linter.unusedVariables false
attribute [-go_sem] loadVar storeVar
attribute [local go_sem] loadVar_else storeVar_else run_load29 run_load33 run_load35 run_load48 run_load49 run_load61 run_store29 run_store33 run_store35 run_store48 run_store49 aggAt_drew aggAt_drewN aggRoom_drew aggRoom_drewN
theorem none_yes (v : Value) (w : World) (h : NoHist w v) : Calls Try.prog 17 #[v] w fun e w' => e = .returned (.bool true) ∧ w = w' := by
  rcases h with rfl | ⟨r, rfl, hb⟩
  · go_enter Try.func17, Try.ntmps17
    go_wp2
    go_ret
    exact ⟨rfl, rfl⟩
  · have h0 : w.cell? ⟨r, 0, none⟩ = some (.bool false) := by rw [hb.cell]; rfl
    clear hb
    go_enter Try.func17, Try.ntmps17
    go_wp2
    go_ret
    exact ⟨rfl, rfl⟩
theorem none_no (h : Nat) (w : World) (h0 : w.cell? ⟨h, 0, none⟩ = some (.bool true)) : Calls Try.prog 17 #[.pointer (some ⟨h, 0, none⟩)] w fun e w' => e = .returned (.bool false) ∧ w = w' := by
  go_enter Try.func17, Try.ntmps17
  go_wp2
  go_ret
  exact ⟨rfl, rfl⟩
theorem events_ok {base h : Nat} {v : Value} {rs : List Rec} {ev : Nat} (w : World) (H : Hist w base h v rs ev) : Calls Try.prog 16 #[.pointer (some ⟨h, 0, none⟩)] w fun e w' => e = .returned (.int .i64 ev) ∧ w = w' := by
  have h0 := H.c0
  have h2 := H.c2
  clear H
  go_enter Try.func16, Try.ntmps16
  go_wp2_with fail
  refine (none_no h w h0).mono ?_
  rintro e w' ⟨rfl, rfl⟩
  go_wp2_with fail
  go_ret
  exact ⟨rfl, rfl⟩
theorem events_none (v : Value) (w : World) (H : NoHist w v) : Calls Try.prog 16 #[v] w fun e w' => e = .returned (.int .i64 0) ∧ w = w' := by
  have H1 := hide (none_yes v w H)
  clear H
  go_enter Try.func16, Try.ntmps16
  go_wp2_with fail
  refine H1.out.mono ?_
  rintro e w' ⟨rfl, rfl⟩
  go_wp2_with fail
  go_ret
  exact ⟨rfl, rfl⟩
theorem records_none (v : Value) (w : World) (H : NoHist w v) : Calls Try.prog 14 #[v] w fun e w' => e = .returned (.slice none 0 0) ∧ w = w' := by
  have H1 := hide (none_yes v w H)
  clear H
  go_enter Try.func14, Try.ntmps14
  go_wp2_with fail
  refine H1.out.mono ?_
  rintro e w' ⟨rfl, rfl⟩
  go_wp2_with fail
  go_ret
  exact ⟨rfl, rfl⟩
theorem valued_ok (k : Int) (w : World) : Calls Try.prog 22 #[.int .i64 k] w fun e w' => e = .returned (.bool (decide (k = 2 ∨ k = 4))) ∧ w = w' := by
  by_cases h2 : k = 2
  · go_enter Try.func22, Try.ntmps22
    go_wp2
    go_ret
    exact ⟨ret_bool (by simp [h2]), rfl⟩
  · by_cases h4 : k = 4
    · go_enter Try.func22, Try.ntmps22
      go_wp2
      go_ret
      exact ⟨ret_bool (by simp [h4]), rfl⟩
    · go_enter Try.func22, Try.ntmps22
      go_wp2
      go_ret
      exact ⟨ret_bool (by simp [h2, h4]), rfl⟩
end Go.Proofs.Ytfnddooclgklmaa
