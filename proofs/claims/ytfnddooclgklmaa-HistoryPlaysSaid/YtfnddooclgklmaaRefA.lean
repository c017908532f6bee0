/- The walks of the layer history: the document's last. -/
import Derived.Test.YtfnddooclgklmaaSpec
namespace Go.Proofs.Ytfnddooclgklmaa
open Go.RowKit
set_option linter.unusedVariables false
attribute [-go_sem] loadVar storeVar
attribute [local go_sem] loadVar_else storeVar_else run_load29 run_load33 run_load35 run_load48 run_load49 run_load61 run_store29 run_store33 run_store35 run_store48 run_store49 aggAt_drew aggAt_drewN aggRoom_drew aggRoom_drewN
theorem evCells_len (es : List Ev) : (evCells es).length = es.length := by simp [evCells]
/-- a client's last event: its Seq, and whether it is an end -/
def lastE (c : Int) (es : List Ev) : Int × Bool := es.foldl (fun a e => if e.cl = c then (e.seq, decide (e.out.kind ≠ 0)) else a) (0, true)
theorem lastE_snoc (c : Int) (es : List Ev) (e : Ev) : lastE c (es ++ [e]) = if e.cl = c then (e.seq, decide (e.out.kind ≠ 0)) else lastE c es := by
  unfold lastE; rw [List.foldl_append]; rfl
theorem RowOf.ev_ {w : World} {b g cap : Nat} {es : List Ev} (R : RowOf w b 61 12 (.slice (some ⟨g, 0, none⟩) es.length cap) (evCells es)) (i : Nat) (hi : i < es.length) : aggAt 12 w g (i * 12) = some es[i].cells := by
  rw [← evCells_len] at R
  have h2 := R.agg i (by simpa [evCells] using hi)
  simpa [evCells] using h2
theorem RowOf.form3 {w : World} {base : Nat} {e : TypeId} {n : Nat} {v : Value} {Fs : List (Array Value)} (h : RowOf w base e n v Fs) : ∃ ga cap, v = .slice ga Fs.length cap ∧ (0 < Fs.length → ∃ g, ga = some ⟨g, 0, none⟩) := by
  rcases h.slice with ⟨rfl, rfl⟩ | ⟨g, cap, rfl, _⟩
  · exact ⟨none, 0, rfl, fun h => absurd h (by simp)⟩
  · exact ⟨_, cap, rfl, fun _ => ⟨g, rfl⟩⟩
set_option maxHeartbeats 4000000 in
theorem rlast_ok (u : Value) (es : List Ev) (c : Int) (w : World) (base : Nat) (R : RowOf w base 61 12 u (evCells es)) (hn : es.length ≤ 1000) :
    Calls Try.prog 19 #[u, .int .i64 c] w fun e w' => e = .returned (.tuple #[.int .i64 (lastE c es).1, .bool (lastE c es).2]) ∧ ∃ m, w' = w.drewN m := by
  obtain ⟨ga, cap, rfl, hga⟩ := R.form3
  rw [evCells_len] at hga R
  rw [evCells_len]
  replace R := hide R
  replace hga := hide hga
  go_enter Try.func19, Try.ntmps19
  go_wp2_with fail
  go_loopw [6, 7, 8] (fun vs ve vi wr => ∃ (k : Nat) (s : Int) (t : Bool), k ≤ es.length ∧ vi = .int .i64 k ∧ vs = .int .i64 s ∧ ve = .bool t ∧ lastE c (es.take k) = (s, t) ∧ ∃ m, wr = w.drewN m) (fun _ _ vi _ => es.length - (intOf vi).toNat)
  case atStart => exact ⟨0, 0, true, by omega, rfl, rfl, rfl, rfl, 0, rfl⟩
  case round =>
    obtain ⟨k, s, t, hk, rfl, rfl, rfl, hl, m, rfl⟩ := hrel
    by_cases hlt : k < es.length
    · obtain ⟨g, rfl⟩ := hga.out (by omega)
      have hki : (k : Int) < es.length := by omega
      have A := R.out.ev_ k hlt
      have a0 : w.cell? ⟨g, k * 12, none⟩ = some (.int .i64 es[k].cl) := aggAt_cell A 0 (by decide)
      have a1 : w.cell? ⟨g, k * 12 + 1, none⟩ = some (.int .i64 es[k].seq) := aggAt_cell A 1 (by decide)
      have a6 : w.cell? ⟨g, k * 12 + 6, none⟩ = some (.int .i64 es[k].out.kind) := aggAt_cell A 6 (by decide)
      have hs : lastE c (es.take (k + 1)) = if es[k].cl = c then (es[k].seq, decide (es[k].out.kind ≠ 0)) else (s, t) := by
        rw [List.take_succ_eq_append_getElem hlt, lastE_snoc, hl]
      clear A hl
      generalize es[k].cl = C at *
      generalize es[k].seq = S at *
      generalize es[k].out.kind = Kd at *
      by_cases hc : C = c
      · rw [if_pos hc] at hs
        subst hc
        replace hs := hide hs
        go_wp2_with fail
        go_quiet (fail)
        go_wp2_with fail
        go_roundw
        case rel => exact ⟨k + 1, S, _, by omega, by go_num, rfl, rfl, by rw [hs.out]; congr 1; by_cases h : Kd = 0 <;> simp [h], _, rfl⟩
        case measure => simp [intOf]; omega
      · rw [if_neg hc] at hs
        replace hs := hide hs
        have hcb : (C == c) = false := by simpa using hc
        go_wp2_with fail
        go_roundw
        case rel => exact ⟨k + 1, s, t, by omega, by go_num, rfl, rfl, hs.out, _, rfl⟩
        case measure => simp [intOf]; omega
    · obtain rfl : k = es.length := by omega
      rw [List.take_length] at hl
      replace hl := hide hl
      go_wp2_with fail
      go_ret2
      exact ⟨by rw [hl.out]; rfl, _, rfl⟩
end Go.Proofs.Ytfnddooclgklmaa
