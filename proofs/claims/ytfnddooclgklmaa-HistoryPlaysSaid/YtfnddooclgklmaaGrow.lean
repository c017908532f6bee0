/- HistoryGrows: what the walk needs. -/
import Derived.Test.YtfnddooclgklmaaTold
import Derived.Test.YtfnddooclgklmaaGreat
namespace Go.Proofs.Ytfnddooclgklmaa
open Go.RowKit
set_option linter.unusedVariables false
deriving instance DecidableEq for Op4, Out6, Rec, Ev
def recEq (a b : Rec) : Bool := decide (a = b)
theorem toList_beq (a b : ByteArray) : (a.toList == b.toList) = decide (a = b) := by
  rw [ByteArray.toList_eq, ByteArray.toList_eq]
  by_cases h : a = b
  · simp [h]
  · have : ¬ a.data = b.data := fun e => h (by
      obtain ⟨a⟩ := a; obtain ⟨b⟩ := b
      exact congrArg _ e)
    have h2 : ¬ a.data.toList = b.data.toList := fun e => this (Array.ext' e)
    rw [decide_eq_false h]
    exact beq_false_of_ne h2
theorem toList_inj (a b : ByteArray) : a.toList = b.toList ↔ a = b := by
  have := toList_beq a b
  constructor
  · intro h; rw [h, beq_self_eq_true] at this; exact of_decide_eq_true this.symm
  · intro h; rw [h]
theorem eq29 (d : Nat) (a1 : Int) (a2 a3 : ByteArray) (a4 b1 : Int) (b2 b3 : ByteArray) (b4 : Int) (w : World) :
    (Op.equalIn (d + 2) 29 (.agg #[.int .i64 a1, .string a2, .string a3, .int .i64 a4]) (.agg #[.int .i64 b1, .string b2, .string b3, .int .i64 b4])).run Try.prog w = .ok (decide (a1 = b1 ∧ a2 = b2 ∧ a3 = b3 ∧ a4 = b4)) w := by
  have u3 := Try.underlying3
  have u9 := Try.underlying9
  have h29 : Try.prog.stoodInHeld 29 = false := by kernel_rfl
  have k29 : Try.prog.underlying 29 = some (.struct (Try.prog.fieldsOf 29)) := by kernel_rfl
  rw [run_equalIn_agg w _ _ _ _ k29 h29]
  clear k29
  simp only [Program.fieldsOf, Try.underlying29]
  go_simp
  simp only [toList_inj]
  by_cases h1 : a1 = b1 <;> by_cases h2 : a2 = b2 <;> by_cases h3 : a3 = b3 <;> by_cases h4 : a4 = b4 <;> simp [h1, h2, h3, h4]
theorem eq31 (d : Nat) (a1 : Int) (a2 : ByteArray) (a3 a4 b1 : Int) (b2 : ByteArray) (b3 b4 : Int) (w : World) :
    (Op.equalIn (d + 2) 31 (.agg #[.int .i64 a1, .string a2, .int .i64 a3, .int .i64 a4]) (.agg #[.int .i64 b1, .string b2, .int .i64 b3, .int .i64 b4])).run Try.prog w = .ok (decide (a1 = b1 ∧ a2 = b2 ∧ a3 = b3 ∧ a4 = b4)) w := by
  have u3 := Try.underlying3
  have u9 := Try.underlying9
  have h29 : Try.prog.stoodInHeld 31 = false := by kernel_rfl
  have k29 : Try.prog.underlying 31 = some (.struct (Try.prog.fieldsOf 31)) := by kernel_rfl
  rw [run_equalIn_agg w _ _ _ _ k29 h29]
  clear k29
  simp only [Program.fieldsOf, Try.underlying31]
  go_simp
  simp only [toList_inj]
  by_cases h1 : a1 = b1 <;> by_cases h2 : a2 = b2 <;> by_cases h3 : a3 = b3 <;> by_cases h4 : a4 = b4 <;> simp [h1, h2, h3, h4]
theorem eq33 (d : Nat) (a b : Out6) (w : World) : (Op.equalIn (d + 3) 33 (.agg a.cells) (.agg b.cells)).run Try.prog w = .ok (decide (a = b)) w := by
  have u3 := Try.underlying3
  have u9 := Try.underlying9
  have h29 : Try.prog.stoodInHeld 33 = false := by kernel_rfl
  have k29 : Try.prog.underlying 33 = some (.struct (Try.prog.fieldsOf 33)) := by kernel_rfl
  rw [run_equalIn_agg w _ _ _ _ k29 h29]
  clear k29
  obtain ⟨a1, a2, a3, a4, a5, a6⟩ := a
  obtain ⟨b1, b2, b3, b4, b5, b6⟩ := b
  have h31 := fun (w : World) => eq31 d a3 a4 a5 a6 b3 b4 b5 b6 w
  simp only [Program.fieldsOf, Try.underlying33]
  go_simp
  by_cases h1 : a1 = b1 <;> by_cases h2 : a2 = b2 <;> by_cases h3 : a3 = b3 <;> by_cases h4 : a4 = b4 <;> by_cases h5 : a5 = b5 <;> by_cases h6 : a6 = b6 <;> simp [h1, h2, h3, h4, h5, h6]
theorem eq49 (a b : Rec) (w : World) : (Op.equalIn 10000 49 (.agg a.cells) (.agg b.cells)).run Try.prog w = .ok (decide (a = b)) w := by
  have u3 := Try.underlying3
  have u9 := Try.underlying9
  have h29 : Try.prog.stoodInHeld 49 = false := by kernel_rfl
  have k29 : Try.prog.underlying 49 = some (.struct (Try.prog.fieldsOf 49)) := by kernel_rfl
  rw [show 10000 = 9999 + 1 from rfl, run_equalIn_agg w _ _ _ _ k29 h29]
  clear k29
  have h29 := fun (w : World) => eq29 9997 a.op.kind a.op.key a.op.val a.op.ver b.op.kind b.op.key b.op.val b.op.ver w
  have h33 := fun (w : World) => eq33 9996 a.out b.out w
  simp only [Program.fieldsOf, Try.underlying49]
  go_simp
  obtain ⟨a1, a2, ⟨o1, o2, o3, o4⟩, a4, a5, a6⟩ := a
  obtain ⟨b1, b2, ⟨p1, p2, p3, p4⟩, b4, b5, b6⟩ := b
  dsimp only
  by_cases h1 : a1 = b1 <;> by_cases h2 : a2 = b2 <;> by_cases h4 : a4 = b4 <;> by_cases h5 : a5 = b5 <;> by_cases h6 : a6 = b6 <;> by_cases h3 : (o1 = p1 ∧ o2 = p2 ∧ o3 = p3 ∧ o4 = p4) <;> simp [h1, h2, h3, h4, h5, h6]
  all_goals (first | (intro q1 q2 q3 q4; exact h3 ⟨q1, q2, q3, q4⟩) | (split <;> first | rfl | skip))
theorem run_neq49 (a b : Rec) (w : World) : (binOp .neq 49 (.agg a.cells) (.agg b.cells)).run Try.prog w = .ok (.bool (!decide (a = b))) w := by
  rw [run_neq_struct, eq49]; rfl
theorem run_neq29 (a b : Op4) (w : World) : (binOp .neq 29 (.agg a.cells) (.agg b.cells)).run Try.prog w = .ok (.bool (!decide (a = b))) w := by
  rw [run_neq_struct]
  have := eq29 9998 a.kind a.key a.val a.ver b.kind b.key b.val b.ver w
  rw [show (10000 : Nat) = 9998 + 2 from rfl, this]
  obtain ⟨a1, a2, a3, a4⟩ := a
  obtain ⟨b1, b2, b3, b4⟩ := b
  simp
end Go.Proofs.Ytfnddooclgklmaa
