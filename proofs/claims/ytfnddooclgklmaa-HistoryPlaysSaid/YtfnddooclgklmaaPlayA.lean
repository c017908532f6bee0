/- HistoryPlays: what the walk needs. -/
import Derived.Test.YtfnddooclgklmaaPlayPlainB
import Derived.Test.YtfnddooclgklmaaGrow
import Derived.Test.YtfnddooclgklmaaRefF
namespace Go.Proofs.Ytfnddooclgklmaa
open Go.RowKit
set_option linter.unusedVariables false
theorem eq48 (a b : Rec) (w : World) : (Op.equalIn 10000 48 (.agg a.cells) (.agg b.cells)).run Try.prog w = .ok (decide (a = b)) w := by
  have u3 := Try.underlying3
  have u9 := Try.underlying9
  have h29 : Try.prog.stoodInHeld 48 = false := by kernel_rfl
  have k29 : Try.prog.underlying 48 = some (.struct (Try.prog.fieldsOf 48)) := by kernel_rfl
  rw [show 10000 = 9999 + 1 from rfl, run_equalIn_agg w _ _ _ _ k29 h29]
  clear k29
  have h29 := fun (w : World) => eq29 9997 a.op.kind a.op.key a.op.val a.op.ver b.op.kind b.op.key b.op.val b.op.ver w
  have h33 := fun (w : World) => eq33 9996 a.out b.out w
  simp only [Program.fieldsOf, Try.underlying48]
  go_simp
  obtain ⟨a1, a2, ⟨o1, o2, o3, o4⟩, a4, a5, a6⟩ := a
  obtain ⟨b1, b2, ⟨p1, p2, p3, p4⟩, b4, b5, b6⟩ := b
  dsimp only
  by_cases h1 : a1 = b1 <;> by_cases h2 : a2 = b2 <;> by_cases h4 : a4 = b4 <;> by_cases h5 : a5 = b5 <;> by_cases h6 : a6 = b6 <;> by_cases h3 : (o1 = p1 ∧ o2 = p2 ∧ o3 = p3 ∧ o4 = p4) <;> simp [h1, h2, h3, h4, h5, h6]
  all_goals (first | (intro q1 q2 q3 q4; exact h3 ⟨q1, q2, q3, q4⟩) | (split <;> first | rfl | skip))
theorem run_neq48 (a b : Rec) (w : World) : (binOp .neq 48 (.agg a.cells) (.agg b.cells)).run Try.prog w = .ok (.bool (!decide (a = b))) w := by
  rw [run_neq_struct, eq48]; rfl
theorem built_zero : Try.prog.built 49 [] = some zeroRec := by rfl
/-- a record of zeros, as one word -/
theorem wpList_zero {ops : Array Oper} {rest : List Oper} {o : Oper} {a : Act} {w : World} {Q : Exit → Act → World → Prop} (hg : o.guard = none) (ho : o.op = .build 49 #[])
    (h : wpList Try.prog ops Q rest (a.put o.dst (.agg zeroRec)) w) : wpList Try.prog ops Q (o :: rest) a w := by
  refine wpList_build hg 49 #[] ho ?_ ?_
  · rw [show (#[].map fun (x : Nat × Operand) => (x.1, a.eval x.2)).toList = [] by simp, built_zero]; rfl
  · rw [show (#[].map fun (x : Nat × Operand) => (x.1, a.eval x.2)).toList = [] by simp, built_zero]; exact h
/-- rows of other types lie elsewhere -/
theorem RowOf.apart {w : World} {b b' : Nat} {e e' : TypeId} {n n' : Nat} {v v' : Value} {Fs Fs' : List (Array Value)} (h : RowOf w b e n v Fs) (h' : RowOf w b' e' n' v' Fs') (hne : e ≠ e') : ∀ g ∈ blkOf v, g ∉ blkOf v' := by
  intro x hx hx'
  rcases h.slice with ⟨rfl, _⟩ | ⟨g, cap, rfl, _, _, cur, hb, _⟩
  · simp [blkOf, Value.ownBlock] at hx
  · rcases h'.slice with ⟨rfl, _⟩ | ⟨g', cap', rfl, _, _, cur', hb', _⟩
    · simp [blkOf, Value.ownBlock] at hx'
    · simp [blkOf, Value.ownBlock] at hx hx'
      exact hb.ne_ hb' hne (hx.symm.trans hx')
theorem RowOf.ge {w : World} {b : Nat} {e : TypeId} {n : Nat} {v : Value} {Fs : List (Array Value)} (h : RowOf w b e n v Fs) : ∀ g ∈ blkOf v, b ≤ g := by
  intro x hx
  rcases h.slice with ⟨rfl, _⟩ | ⟨g, cap, rfl, hg, _⟩
  · simp [blkOf, Value.ownBlock] at hx
  · simp [blkOf, Value.ownBlock] at hx; omega
theorem RowOf.lt_ {w : World} {b : Nat} {e : TypeId} {n : Nat} {v : Value} {Fs : List (Array Value)} (h : RowOf w b e n v Fs) : ∀ g ∈ blkOf v, g < w.heap.size := by
  intro x hx
  rcases h.slice with ⟨rfl, _⟩ | ⟨g, cap, rfl, hg, _, cur, hb, _⟩
  · simp [blkOf, Value.ownBlock] at hx
  · simp [blkOf, Value.ownBlock] at hx; subst hx; exact hb.lt
theorem Hist.farRow {w : World} {base h : Nat} {v : Value} {rs : List Rec} {ev : Nat} (H : Hist w base h v rs ev) {b : Nat} {e : TypeId} {n : Nat} {u : Value} {Fs : List (Array Value)} (R : RowOf w b e n u Fs) (h1 : e ≠ 53) (h2 : e ≠ 49) : ∀ g ∈ blkOf u, g ∉ h :: blkOf v := by
  intro x hx
  rcases R.slice with ⟨rfl, _⟩ | ⟨g, cap, rfl, _, _, cur, hb, _⟩
  · simp [blkOf, Value.ownBlock] at hx
  · simp [blkOf, Value.ownBlock] at hx
    subst hx
    exact H.far hb h1 h2
theorem zeroRec_one : ∀ u ∈ zeroRec.toList, u.oneCell' = true := by
  intro u hu
  have := Array.all_eq_true_iff_forall_mem.1 (show zeroRec.all (·.oneCell') = true by simp [zeroRec, Value.oneCell'])
  exact this u (by simpa using hu)
/-- a record of a row is wiped -/
theorem RowOf.wipe {w : World} {base g cap n : Nat} {Fs : List (Array Value)} (h : RowOf w base 49 14 (.slice (some ⟨g, 0, none⟩) n cap) Fs) (hn : Fs.length = n) (i : Nat) (hi : i < n) :
    aggRoom 14 w g (i * 14) zeroRec = true ∧ RowOf (w.setCells g (i * 14) zeroRec.toList) base 49 14 (.slice (some ⟨g, 0, none⟩) n cap) (Fs.set i zeroRec) := by
  subst hn
  have h1 := h.room i hi 0 14 (by omega) (F := zeroRec) rfl (Array.all_eq_true_iff_forall_mem.2 fun u hu => zeroRec_one u (by simpa using hu))
  have h2 := h.put i hi 0 zeroRec.toList (by decide) zeroRec_one
  rw [Nat.add_zero] at h1 h2
  rw [putAt_all (by rw [h.sizes _ (List.getElem_mem hi)]; rfl)] at h2
  exact ⟨h1, h2⟩
theorem RowOf.rec48 {w : World} {b g cap : Nat} {rs : List Rec} (R : RowOf w b 48 14 (.slice (some ⟨g, 0, none⟩) rs.length cap) (recCells rs)) (i : Nat) (hi : i < rs.length) : aggAt 14 w g (i * 14) = some rs[i].cells := by
  rw [← recCells_len] at R
  have h2 := R.agg i (by simpa [recCells] using hi)
  simpa [recCells] using h2
theorem RowOf.recAt {w : World} {b g cap n : Nat} {Fs : List (Array Value)} {A : Array Value} (R : RowOf w b 49 14 (.slice (some ⟨g, 0, none⟩) n cap) Fs) (hn : Fs.length = n) (i : Nat) (hi : i < n) (hA : Fs[i]? = some A) : aggAt 14 w g (i * 14) = some A := by
  subst hn
  rw [R.agg i hi, ← hA, List.getElem?_eq_getElem hi]
theorem callN_le2 (rs : List Rec) (c s : Int) (o : Op4) (ev : Nat) : callN rs c s o ev ≤ ev + 1 := by unfold callN; split <;> omega
theorem endN_le2 (rs : List Rec) (c s : Int) (o : Out6) (ev : Nat) : endN rs c s o ev ≤ ev + 1 := by unfold endN; split <;> omega
end Go.Proofs.Ytfnddooclgklmaa
