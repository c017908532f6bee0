/- The walks of the layer transfer: the document's text. -/
import Derived.Test.YtmmacjjmkaeakaaRefW
import Derived.Test.YtmmacjjmkaeakaaText
namespace Go.Proofs.Ytmmacjjmkaeakaa
open Go.RowKit
set_option linter.unusedVariables false
set_option linter.unusedSimpArgs false
variable {base q : Nat} {v : Value} {id total : Int} {ps : List ByteArray}
theorem join_flat (xs : List (List UInt8)) : Lib.join xs [] = xs.flatten := by
  cases xs with
  | nil => rfl
  | cons x r => rw [Lib.join_cons, Lib.joinTail]; simp
theorem joinT_data (ps : List ByteArray) : (joinT ps).data.toList = (ps.map (·.data.toList)).flatten := by
  show (Lib.join (ps.map (·.data.toList)) []) = _
  exact join_flat _
theorem bytes_ext {a b : ByteArray} (h : a.data.toList = b.data.toList) : a = b := by
  cases a; cases b; congr; exact Array.ext' h
theorem joinT_push (ps : List ByteArray) (s : ByteArray) : joinT (ps ++ [s]) = joinT ps ++ s := by
  apply bytes_ext
  rw [joinT_data]
  simp [joinT_data]
theorem joinT_nil : joinT [] = ⟨#[]⟩ := rfl
theorem joinT_size (ps : List ByteArray) : (joinT ps).size = (ps.map (·.size)).sum := by
  show (joinT ps).data.size = _
  rw [← Array.length_toList, joinT_data, List.length_flatten, List.map_map]
  rfl
theorem joinT_take (ps : List ByteArray) (i : Nat) : (joinT (ps.take i)).size ≤ (joinT ps).size := by
  rw [joinT_size, joinT_size]
  conv => rhs; rw [← List.take_append_drop i ps]
  rw [List.map_append, List.sum_append]
  omega
/-- is all there, as the document asks? -/
def rtextB (total : Int) (ps : List ByteArray) : Bool := !(decide (total = 0) || decide ((ps.length : Int) ≠ total))
def rtextS (total : Int) (ps : List ByteArray) : ByteArray := if rtextB total ps = true then joinT ps else ⟨#[]⟩
set_option maxHeartbeats 4000000 in
theorem rtext_ok (w : World) (H : Rfv w base q v id total ps) (hn : ps.length ≤ 100000) (hs : (joinT ps).size ≤ 100000000) :
    Calls Try.prog 13 #[.pointer (some ⟨q, 0, none⟩)] w fun e w' => e = .returned (.tuple #[.string (rtextS total ps), .bool (rtextB total ps)]) ∧ Upd w w' [] := by
  obtain ⟨ga, c, hv, _, hpos⟩ := H.form
  subst hv
  have a1 := H.a1
  have a2 := H.a2
  replace hpos := hide hpos
  have R := hide H
  clear H
  by_cases h0 : total = 0
  · have e1 := hide (show rtextB total ps = false by simp [rtextB, h0])
    have e2 := hide (show rtextS total ps = ⟨#[]⟩ by simp [rtextS, e1.out])
    have b0 : (total == 0) = true := by simp [h0]
    replace h0 := hide h0
    go_enter Try.func13, Try.ntmps13
    go_wp2_with fail
    go_quiet (fail)
    go_wp2_with fail
    go_ret2
    exact ⟨by rw [e1.out, e2.out]; rfl, (Upd.refl _ _).drewN _⟩
  · have b0 : (total == 0) = false := beq_false_of_ne h0
    by_cases h1 : (ps.length : Int) = total
    · have e1 := hide (show rtextB total ps = true by simp [rtextB, h1, h0])
      have e2 := hide (show rtextS total ps = joinT ps by simp [rtextS, e1.out])
      have b1 : ((ps.length : Int) == total) = true := by simp [h1]
      have b2 : ((ps.length : Int) != total) = false := by simp [h1]
      replace h0 := hide h0
      replace h1 := hide h1
      go_enter Try.func13, Try.ntmps13
      go_wp2_with fail
      go_quiet (fail)
      have R2 := hide (R.out.upd0 ((Upd.refl _ []).drewN nq))
      have U2 := hide ((Upd.refl w []).drewN nq)
      clear R a1 a2
      generalize w.drewN nq = w2 at *
      go_wp2_with fail
      go_loopw [4, 5] (fun vs vi wr => ∃ i : Nat, i ≤ ps.length ∧ vi = .int .i64 i ∧ vs = .string (joinT (ps.take i)) ∧ wr = w2) (fun _ vi _ => ps.length - (intOf vi).toNat)
      case atStart => exact ⟨0, by omega, rfl, rfl, rfl⟩
      case round =>
        obtain ⟨i, hi, rfl, rfl, rfl⟩ := hrel
        have a2 := R2.out.a2
        by_cases h2 : (i : Int) < ps.length
        · obtain ⟨g, hg⟩ := hpos.out (by omega)
          subst hg
          have hil : i < ps.length := by omega
          have e0 := (str_cells R2.out.row).2.2 i ps[i] (by simp [hil])
          rw [Nat.zero_add] at e0
          have eT := hide (show joinT (ps.take (i + 1)) = joinT (ps.take i) ++ ps[i] by rw [← joinT_push, List.take_append_getElem])
          have hsz : ¬ 9223372036854775807 < (joinT (ps.take i)).size + ps[i].size := by
            have k := joinT_take ps (i + 1)
            rw [eT.out, ByteArray.size_append] at k
            omega
          generalize ps[i] = s at *
          go_wp2_with fail
          case roundEnd =>
            refine ⟨⟨i + 1, by omega, by simp, by rw [eT.out], trivial⟩, ?_⟩
            simp only [intOf]; omega
        · have hi2 : i = ps.length := by omega
          have hT : ps.take i = ps := by rw [hi2, List.take_length]
          rw [hT]
          replace hi2 := hide hi2
          clear hT
          go_wp2_with fail
          go_ret2
          exact ⟨by rw [e1.out, e2.out]; rfl, U2.out⟩
    · have e1 := hide (show rtextB total ps = false by simp [rtextB, h1])
      have e2 := hide (show rtextS total ps = ⟨#[]⟩ by simp [rtextS, e1.out])
      have b1 : ((ps.length : Int) == total) = false := beq_false_of_ne h1
      have b2 : ((ps.length : Int) != total) = true := by simp [h1]
      replace h0 := hide h0
      replace h1 := hide h1
      go_enter Try.func13, Try.ntmps13
      go_wp2_with fail
      go_quiet (fail)
      go_wp2_with fail
      go_ret2
      exact ⟨by rw [e1.out, e2.out]; rfl, (Upd.refl _ _).drewN _⟩
end Go.Proofs.Ytmmacjjmkaeakaa
