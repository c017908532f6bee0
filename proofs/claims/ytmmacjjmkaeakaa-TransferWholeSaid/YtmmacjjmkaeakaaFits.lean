/- The walks of the layer transfer: New, and fits. (Printed by gen28fits.py.) -/
import Derived.Test.YtmmacjjmkaeakaaWords
namespace Go.Proofs.Ytmmacjjmkaeakaa
open Go.RowKit
set_option linter.unusedVariables false
set_option linter.unusedSimpArgs false
theorem newr_ok (w : World) : Calls Try.prog 9 #[] w fun e w' => e = .returned (.pointer (some ⟨w.heap.size, 0, none⟩)) ∧ Rcv w' w.heap.size w.heap.size (.slice none 0 0) 0 0 [] ∧ Upd w w' [] := by
  have b1 := hide (Blk.new w 66 #[.bool true, .int .i64 0, .int .i64 0, .slice none 0 0])
  go_enter Try.func9, Try.ntmps9
  go_wp2
  go_ret
  exact ⟨rfl, ⟨Nat.le_refl _, b1.out, RowOf.nil _ _ _ _⟩, (Upd.refl _ _).alloc _⟩
/-- does a piece change anything, or might it? -/
def fitsB (id total : Int) (p : Pc) : Bool := !(decide (p.id < id) || decide (p.id < 1) || decide (p.total < 1) || decide (4096 < p.total) || decide (p.at_ < 0) || decide (p.total ≤ p.at_) || decide (512 < (p.data.size : Int)) || (decide (p.id = id) && !decide (p.total = total)))
set_option maxHeartbeats 4000000 in
theorem fits_ok (r : Nat) (id total : Int) (p : Pc) (w : World) (a1 : w.cell? ⟨r, 1, none⟩ = some (.int .i64 id)) (a2 : w.cell? ⟨r, 2, none⟩ = some (.int .i64 total)) :
    Calls Try.prog 24 #[.pointer (some ⟨r, 0, none⟩), .agg p.cells] w fun e w' => e = .returned (.bool (fitsB id total p)) ∧ Upd w w' [] := by
  have U := hide ((Upd.refl w []).alloc (.cells p.cells 31))
  have c1 := cell_upd a1 U.out (by simp)
  have c2 := cell_upd a2 U.out (by simp)
  clear a1 a2
  by_cases h0 : p.id < id
  · have e : fitsB id total p = false := by simp [fitsB, h0]
    rw [e]
    clear e
    go_enter Try.func24, Try.ntmps24
    go_wp2_with fail
    go_quiet (fail)
    go_wp2_with fail
    go_ret
    exact ⟨rfl, U.out.drewN _⟩
  by_cases h1 : p.id < 1
  · have e : fitsB id total p = false := by simp [fitsB, h0, h1]
    rw [e]
    clear e
    go_enter Try.func24, Try.ntmps24
    go_wp2_with fail
    go_quiet (fail)
    go_wp2_with fail
    go_ret
    exact ⟨rfl, U.out.drewN _⟩
  by_cases h2 : p.total < 1
  · have e : fitsB id total p = false := by simp [fitsB, h0, h1, h2]
    rw [e]
    clear e
    go_enter Try.func24, Try.ntmps24
    go_wp2_with fail
    go_quiet (fail)
    go_wp2_with fail
    go_ret
    exact ⟨rfl, U.out.drewN _⟩
  by_cases h3 : 4096 < p.total
  · have e : fitsB id total p = false := by simp [fitsB, h0, h1, h2, h3]
    rw [e]
    clear e
    go_enter Try.func24, Try.ntmps24
    go_wp2_with fail
    go_quiet (fail)
    go_wp2_with fail
    go_ret
    exact ⟨rfl, U.out.drewN _⟩
  by_cases h4 : p.at_ < 0
  · have e : fitsB id total p = false := by simp [fitsB, h0, h1, h2, h3, h4]
    rw [e]
    clear e
    go_enter Try.func24, Try.ntmps24
    go_wp2_with fail
    go_quiet (fail)
    go_wp2_with fail
    go_ret
    exact ⟨rfl, U.out.drewN _⟩
  by_cases h5 : p.total ≤ p.at_
  · have e : fitsB id total p = false := by simp [fitsB, h0, h1, h2, h3, h4, h5]
    rw [e]
    clear e
    go_enter Try.func24, Try.ntmps24
    go_wp2_with fail
    go_quiet (fail)
    go_wp2_with fail
    go_ret
    exact ⟨rfl, U.out.drewN _⟩
  by_cases h6 : 512 < (p.data.size : Int)
  · have e : fitsB id total p = false := by simp [fitsB, h0, h1, h2, h3, h4, h5, h6]
    rw [e]
    clear e
    go_enter Try.func24, Try.ntmps24
    go_wp2_with fail
    go_quiet (fail)
    go_wp2_with fail
    go_ret
    exact ⟨rfl, U.out.drewN _⟩
  by_cases h8 : p.id = id
  · by_cases h9 : p.total = total
    · have e : fitsB id total p = true := by simp [fitsB, h0, h1, h2, h3, h4, h5, h6, h8, h9] <;> omega
      rw [e]
      clear e
      have b1 : (p.id == id) = true := by simp [h8]
      have b2 : (p.total == total) = true := by simp [h9]
      replace h8 := hide h8
      replace h9 := hide h9
      go_enter Try.func24, Try.ntmps24
      go_wp2_with fail
      go_quiet (fail)
      go_wp2_with fail
      go_quiet (fail)
      go_wp2_with fail
      go_ret
      exact ⟨rfl, (U.out.drewN _).drewN _⟩
    · have e : fitsB id total p = false := by simp [fitsB, h8, h9]
      rw [e]
      clear e
      have b1 : (p.id == id) = true := by simp [h8]
      have b2 : (p.total == total) = false := beq_false_of_ne h9
      replace h8 := hide h8
      replace h9 := hide h9
      go_enter Try.func24, Try.ntmps24
      go_wp2_with fail
      go_quiet (fail)
      go_wp2_with fail
      go_quiet (fail)
      go_wp2_with fail
      go_ret
      exact ⟨rfl, (U.out.drewN _).drewN _⟩
  · have e : fitsB id total p = true := by simp [fitsB, h0, h1, h2, h3, h4, h5, h6, h8] <;> omega
    rw [e]
    clear e
    have b1 : (p.id == id) = false := beq_false_of_ne h8
    replace h8 := hide h8
    go_enter Try.func24, Try.ntmps24
    go_wp2_with fail
    go_quiet (fail)
    go_wp2_with fail
    go_quiet (fail)
    go_wp2_with fail
    go_ret
    exact ⟨rfl, (U.out.drewN _).drewN _⟩
end Go.Proofs.Ytmmacjjmkaeakaa
