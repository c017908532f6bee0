/- The walks of the layer transfer: Text. -/
import Derived.Test.YtmmacjjmkaeakaaWords
import Derived.Test.YtmmacjjmkaeakaaShelf
import Derived.BigQuiet
namespace Go.Proofs.Ytmmacjjmkaeakaa
open Go.RowKit
set_option linter.unusedVariables false
set_option linter.unusedSimpArgs false
def joinT (ps : List ByteArray) : ByteArray := ⟨(Lib.join (ps.map (·.data.toList)) ((⟨#[]⟩ : ByteArray).data.toList)).toArray⟩
/-- is all there? -/
def textB (id total : Int) (ps : List ByteArray) : Bool := !(decide (id = 0) || decide ((ps.length : Int) < total))
def textS (id total : Int) (ps : List ByteArray) : ByteArray := if textB id total ps = true then joinT ps else ⟨#[]⟩
theorem flat_str : ∀ l : List ByteArray, flat (strCells l) = l.map .string
  | [] => rfl
  | a :: l => by
    show #[Value.string a].toList ++ flat (strCells l) = _
    rw [flat_str l]; rfl
theorem str_cells {w : World} {base g cap : Nat} {ps : List ByteArray} (h : RowOf w base 9 1 (.slice (some ⟨g, 0, none⟩) ps.length cap) (strCells ps)) :
    g < w.heap.size ∧ ps.length ≤ cap ∧ ∀ (j : Nat) x, ps[j]? = some x → w.cell? ⟨g, 0 + j, none⟩ = some (.string x) := by
  refine ⟨RowOf.lt h, ?_, fun j x hx => ?_⟩
  · rcases h.slice with ⟨h1, _⟩ | ⟨g', cap', hv, _, hc, _⟩
    · cases h1
    · injection hv with h3 h4 h5
      rw [strCells_len] at hc
      omega
  · have := RowOf.src h j (.string x) (by rw [flat_str, List.getElem?_map, hx]; rfl)
    rw [Addr.add_mid] at this
    exact this
theorem text_none (v : Value) (w : World) (h : v = .pointer none ∨ ∃ r, v = .pointer (some ⟨r, 0, none⟩) ∧ Blk w r 66 #[.bool false, .int .i64 0, .int .i64 0, .slice none 0 0]) :
    Calls Try.prog 12 #[v] w fun e w' => e = .returned (.tuple #[.string ⟨#[]⟩, .bool false]) ∧ Upd w w' [] := by
  rcases h with rfl | ⟨r, rfl, hb⟩
  · go_enter Try.func12, Try.ntmps12
    go_wp2_with fail
    go_quiet (fail)
    go_wp2_with fail
    go_ret2
    exact ⟨rfl, (Upd.refl _ _).drewN _⟩
  · have a0 : w.cell? ⟨r, 0, none⟩ = some (.bool false) := by rw [hb.cell]; rfl
    clear hb
    go_enter Try.func12, Try.ntmps12
    go_wp2_with fail
    go_quiet (fail)
    go_wp2_with fail
    go_ret2
    exact ⟨rfl, (Upd.refl _ _).drewN _⟩
set_option maxHeartbeats 4000000 in
theorem text_ok {base r : Nat} {v : Value} {id total : Int} {ps : List ByteArray} (w : World) (H : Rcv w base r v id total ps) (hn : ps.length ≤ 100000) (hj : (Lib.join (ps.map (·.data.toList)) ((⟨#[]⟩ : ByteArray).data.toList)).length ≤ 140737488355328) :
    Calls Try.prog 12 #[.pointer (some ⟨r, 0, none⟩)] w fun e w' => e = .returned (.tuple #[.string (textS id total ps), .bool (textB id total ps)]) ∧ Upd w w' [] := by
  have a0 := H.a0
  have a1 := H.a1
  have a2 := H.a2
  have a3 := H.a3
  obtain ⟨ga, c, hv, hpos⟩ := H.form
  subst hv
  replace hpos := hide hpos
  have R := hide H.row
  clear H
  by_cases h0 : id = 0
  · have e1 := hide (show textB id total ps = false by simp [textB, h0])
    have e2 := hide (show textS id total ps = ⟨#[]⟩ by simp [textS, e1.out])
    have b0 : (id == 0) = true := by simp [h0]
    replace h0 := hide h0
    go_enter Try.func12, Try.ntmps12
    go_wp2_with fail
    go_quiet (fail)
    go_wp2_with fail
    go_ret2
    exact ⟨by rw [e1.out, e2.out]; rfl, (Upd.refl _ _).drewN _⟩
  · have b0 : (id == 0) = false := beq_false_of_ne h0
    by_cases h1 : (ps.length : Int) < total
    · have e1 := hide (show textB id total ps = false by simp [textB, h1])
      have e2 := hide (show textS id total ps = ⟨#[]⟩ by simp [textS, e1.out])
      replace h0 := hide h0
      go_enter Try.func12, Try.ntmps12
      go_wp2_with fail
      go_quiet (fail)
      go_wp2_with fail
      go_ret2
      exact ⟨by rw [e1.out, e2.out]; rfl, (Upd.refl _ _).drewN _⟩
    · have e1 := hide (show textB id total ps = true by simp [textB, h1, h0])
      have e2 := hide (show textS id total ps = joinT ps by simp [textS, e1.out])
      replace h0 := hide h0
      have JN : ∀ w2, Upd w w2 [] → Calls Try.prog 25 #[.slice ga ps.length c, .string ⟨#[]⟩] w2 fun e w' => e = .returned (.string (joinT ps)) ∧ Upd w2 w' [] := by
        intro w2 u2
        have R2 := R.out.upd u2 (by simp)
        cases ps with
        | nil => exact (Try.strings_Join_none ga c ⟨#[]⟩ w2).mono (by rintro e w' ⟨rfl, rfl⟩; exact ⟨rfl, Upd.refl _ _⟩)
        | cons x xs =>
          obtain ⟨g, rfl⟩ := hpos.out (by simp)
          obtain ⟨s1, s2, s3⟩ := str_cells R2
          exact (Try.strings_Join g 0 c (x :: xs) ⟨#[]⟩ w2 s3 s1 (by omega) s2 hj).mono (by rintro e w' ⟨rfl, hb⟩; exact ⟨rfl, Upd.of_below (B := 0) hb⟩)
      replace JN := hide JN
      go_enter Try.func12, Try.ntmps12
      go_wp2_with fail
      go_quiet (fail)
      go_wp2_with fail
      refine (JN.out _ ((Upd.refl _ _).drewN _)).mono ?_
      rintro e w' ⟨rfl, u⟩
      have U := hide (((Upd.refl w []).drewN nq).trans u (by simp))
      clear u
      go_wp2_with fail
      go_ret2
      exact ⟨by rw [e1.out, e2.out]; rfl, U.out⟩
end Go.Proofs.Ytmmacjjmkaeakaa
