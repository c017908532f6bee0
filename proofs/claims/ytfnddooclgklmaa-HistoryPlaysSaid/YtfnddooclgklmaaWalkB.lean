/- The walks of the layer history: lastOf, Records. -/
import Derived.Test.YtfnddooclgklmaaWalks
namespace Go.Proofs.Ytfnddooclgklmaa
open Go.RowKit
set_option linter.unusedVariables false
attribute [-go_sem] loadVar storeVar
attribute [local go_sem] loadVar_else storeVar_else run_load29 run_load33 run_load35 run_load48 run_load49 run_load61 run_store29 run_store33 run_store35 run_store48 run_store49 aggAt_drew aggAt_drewN aggRoom_drew aggRoom_drewN
variable {base h : Nat} {v : Value} {rs : List Rec} {ev : Nat}
theorem last_out (c : Int) (w : World) (hv : Value) (hc : c < 0 ∨ 5 < c) : Calls Try.prog 18 #[hv, .int .i64 c] w fun e w' => e = .returned (.pointer none) ∧ w = w' := by
  by_cases h1 : c < 0
  · clear hc
    go_enter Try.func18, Try.ntmps18
    go_wp2
    go_ret
    exact ⟨rfl, rfl⟩
  · have h2 : 6 ≤ c := by omega
    clear hc
    go_enter Try.func18, Try.ntmps18
    go_wp2
    go_ret
    exact ⟨rfl, rfl⟩
theorem last_no (c : Nat) (w : World) (H : Hist w base h v rs ev) (hc : c < 6) (hp : place c rs = 0) : Calls Try.prog 18 #[.pointer (some ⟨h, 0, none⟩), .int .i64 c] w fun e w' => e = .returned (.pointer none) ∧ w = w' := by
  have l := H.last c hc
  rw [hp] at l
  have hc' : ¬ (6 : Int) ≤ c := by omega
  clear H hp
  go_enter Try.func18, Try.ntmps18
  go_wp2
  go_ret
  exact ⟨rfl, rfl⟩
theorem last_yes (c : Nat) (w : World) {g cap : Nat} (H : Hist w base h (.slice (some ⟨g, 0, none⟩) rs.length cap) rs ev) (hc : c < 6) (p : Nat) (hp : place c rs = p + 1) :
    Calls Try.prog 18 #[.pointer (some ⟨h, 0, none⟩), .int .i64 c] w fun e w' => e = .returned (.pointer (some ⟨g, p * 14, none⟩)) ∧ ∃ m, w' = w.drewN m := by
  have l := H.last c hc
  have l1 := H.c1
  have hle := place_le c rs
  rw [hp] at l hle
  have hc' : ¬ (6 : Int) ≤ c := by omega
  have hne : ((p : Int) + 1 == 0) = false := by simp; omega
  have hc0 : ¬ (c : Int) < 0 := by omega
  have hlt : (p : Int) < rs.length := by omega
  have hlt2 : p < rs.length := by omega
  have hfew := H.few
  unfold maxLen at hfew
  have hb : (p : Int) ≤ 9223372036854775806 := by omega
  clear hfew
  clear H hp
  go_enter Try.func18, Try.ntmps18
  go_wp2
  go_quiet (fail)
  go_wp2
  go_ret
  exact ⟨rfl, _, rfl⟩
end Go.Proofs.Ytfnddooclgklmaa
