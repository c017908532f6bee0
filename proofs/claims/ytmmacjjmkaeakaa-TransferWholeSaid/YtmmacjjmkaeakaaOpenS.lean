/- The walks of the layer transfer: Open, where it refuses. -/
import Derived.Test.YtmmacjjmkaeakaaSWords
import Derived.Test.YtmmacjjmkaeakaaRegF
import Derived.Deep.CutRange
import Derived.Lib.Hide
namespace Go.Proofs.Ytmmacjjmkaeakaa
open Go.RowKit
set_option linter.unusedVariables false
/-- what Open refuses -/
def openBad (id size win : Int) : Bool := decide (id < 1) || decide (1099511627776 < id) || decide (size < 1) || decide (512 < size) || decide (win < 1) || decide (16 < win)
def openE (id size win : Int) (n : Nat) : Int := if openBad id size win = true then 2 else if size * 4096 < (n : Int) then 3 else 0
set_option maxHeartbeats 2000000 in
theorem open_bad (id size win : Int) (t : ByteArray) (w : World) (h : openBad id size win = true) :
    Calls Try.prog 14 #[.int .i64 id, .string t, .int .i64 size, .int .i64 win] w fun e w' => e = .returned (.tuple #[.pointer none, .int .i64 2]) ∧ w' = w := by
  simp only [openBad, Bool.or_eq_true, decide_eq_true_eq] at h
  go_enter Try.func14, Try.ntmps14
  go_wp2_with fail
  all_goals first
    | (go_ret2; exact ⟨rfl, rfl⟩)
    | (exfalso; omega)
    | (trace_state; done)
set_option maxHeartbeats 2000000 in
theorem open_long (id size win : Int) (t : ByteArray) (w : World) (h : openBad id size win = false) (h2 : size * 4096 < (t.size : Int)) :
    Calls Try.prog 14 #[.int .i64 id, .string t, .int .i64 size, .int .i64 win] w fun e w' => e = .returned (.tuple #[.pointer none, .int .i64 3]) ∧ w' = w := by
  simp only [openBad, Bool.or_eq_false_iff, decide_eq_false_iff_not] at h
  obtain ⟨⟨⟨⟨⟨h3, h4⟩, h5⟩, h6⟩, h7⟩, h8⟩ := h
  have wr : IntKind.i64.wrap (size * 4096) = size * 4096 := IntWalk.i64_in _ (by omega)
  go_enter Try.func14, Try.ntmps14
  go_wp2_with fail
  all_goals first
    | (go_ret2; exact ⟨rfl, rfl⟩)
    | (exfalso; omega)
    | (trace_state; done)
end Go.Proofs.Ytmmacjjmkaeakaa
