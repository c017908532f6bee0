/- Words of the layer reads: a read that is built, and a slice of one, as words of the walk. -/
import Derived.Test.YtdnablmlkkkdhaaWords
import Derived.Great.BuildSlice
namespace Go.Proofs.Ytdnablmlkkkdhaa
open Go.RowKit
set_option linter.unusedVariables false
noncomputable def buildSlow (t : TypeId) (ps : Array (Nat × Value)) (w : World) : Result Value := (Instr.build t ps).run Try.prog w
noncomputable def oneSlow (t : TypeId) (v : Value) (w : World) : Result Value := (Instr.buildSlice t 1 #[(0, v)]).run Try.prog w
theorem run_build49 (n : Int) (F X : Array Value) (w : World) : (Instr.build 49 #[(0, .int .i64 n), (1, .agg F), (2, .agg X)]).run Try.prog w =
    (match F.size == 29 && X.size == 4 with | true => .ok (.agg (rdOf n F X)) w | false => buildSlow 49 #[(0, .int .i64 n), (1, .agg F), (2, .agg X)] w) := by
  split
  · next h =>
    simp only [Bool.and_eq_true, beq_iff_eq] at h
    exact run_build w 49 _ _ (by rw [built49_]; exact fill_read n h.1 h.2)
  · rfl
theorem run_build72 (n : Int) (F X : Array Value) (w : World) : (Instr.build 72 #[(0, .int .i64 n), (1, .agg F), (2, .agg X)]).run Try.prog w =
    (match F.size == 29 && X.size == 4 with | true => .ok (.agg (rdOf n F X)) w | false => buildSlow 72 #[(0, .int .i64 n), (1, .agg F), (2, .agg X)] w) := by
  split
  · next h =>
    simp only [Bool.and_eq_true, beq_iff_eq] at h
    exact run_build w 72 _ _ (by rw [built72_]; exact fill_read n h.1 h.2)
  · rfl
theorem run_one {t e : TypeId} {n : Nat} {ie : TypeInfo} {z : Array Value} (hu : Try.prog.underlying t = some (.slice e)) (hi : Try.prog.info? e = some ie) (hz : ie.zero = some (.agg z)) (hn : ie.size = n) (h0 : 0 < n) (h1 : n ≤ 1000) (hzs : z.size = n)
    (R : Array Value) (w : World) : (Instr.buildSlice t 1 #[(0, .agg R)]).run Try.prog w = (match R.size == n with | true => .ok (.slice (some ⟨w.heap.size, 0, none⟩) 1 1) (w.alloc (.cells R e)) | false => oneSlow t (.agg R) w) := by
  split
  · next h =>
    have h : R.size = n := by simpa using h
    refine run_buildSlice w t e 1 _ R ie (.agg z) hu hi hz (by rw [hn]; omega) (by rw [hn]; omega) ?_
    show Instr.fill _ _ [(0, .agg R)] = some R
    have hs : (((Array.range (1 * ie.size)).map ((Value.agg z).cells[· % (Value.agg z).cells.size]!)) : Array Value).size = n := by simp [hn]
    rw [fill_cons (o := 0) (s := n) (v := .agg R) (by simp [hn]) h (by rw [hs]; omega), Instr.fill]
    congr 1
    exact putAt_all (by rw [hs]; exact h)
  · rfl
theorem info_parts3 {P : Program} {e : TypeId} {z : Value} {s b : Nat} (h : (P.info? e).map (fun i => (i.zero, i.size, i.bytes)) = some (some z, s, b)) : ∃ i, P.info? e = some i ∧ i.zero = some z ∧ i.size = s := by
  obtain ⟨i, h1, h2, h3, _⟩ := info_parts h
  exact ⟨i, h1, h2, h3⟩
theorem run_one30 (R : Array Value) (w : World) : (Instr.buildSlice 30 1 #[(0, .agg R)]).run Try.prog w = (match R.size == 34 with | true => .ok (.slice (some ⟨w.heap.size, 0, none⟩) 1 1) (w.alloc (.cells R 49)) | false => oneSlow 30 (.agg R) w) := by
  obtain ⟨i, h1, h2, h3⟩ := info_parts3 info49
  exact run_one Try.underlying30 h1 h2 h3 (by decide) (by decide) rfl R w
theorem run_one56 (R : Array Value) (w : World) : (Instr.buildSlice 56 1 #[(0, .agg R)]).run Try.prog w = (match R.size == 34 with | true => .ok (.slice (some ⟨w.heap.size, 0, none⟩) 1 1) (w.alloc (.cells R 72)) | false => oneSlow 56 (.agg R) w) := by
  obtain ⟨i, h1, h2, h3⟩ := info_parts3 info72
  exact run_one Try.underlying56 h1 h2 h3 (by decide) (by decide) rfl R w
theorem run_one74 (R : Array Value) (w : World) : (Instr.buildSlice 74 1 #[(0, .agg R)]).run Try.prog w = (match R.size == 29 with | true => .ok (.slice (some ⟨w.heap.size, 0, none⟩) 1 1) (w.alloc (.cells R 42)) | false => oneSlow 74 (.agg R) w) := by
  obtain ⟨i, h1, h2, h3⟩ := info_parts3 info42
  exact run_one Try.underlying74 h1 h2 h3 (by decide) (by decide) rfl R w
end Go.Proofs.Ytdnablmlkkkdhaa
