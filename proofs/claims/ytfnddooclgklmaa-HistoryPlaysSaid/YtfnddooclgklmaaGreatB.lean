/- The walks of the layer history: Great, at a list of whatever length. -/
import Derived.Test.YtfnddooclgklmaaGreat
namespace Go.Proofs.Ytfnddooclgklmaa
open Go.RowKit
set_option linter.unusedVariables false
attribute [-go_sem] loadVar storeVar
attribute [local go_sem] loadVar_else storeVar_else run_load29 run_load33 run_load35 run_load48 run_load49 run_load61 run_store29 run_store33 run_store35 run_store48 run_store49 aggAt_drew aggAt_drewN aggRoom_drew aggRoom_drewN
set_option maxHeartbeats 4000000 in
theorem great_walk2 (a0 : Option Addr) (b off cap : Nat) (xs : List Ac) (most : Nat) (w : World) (ha : 0 < xs.length → a0 = some ⟨b, off, none⟩) (hx : Acts w b off xs) (hm : xs.length ≤ 9223372036854775807) :
    Calls Try.prog 7 #[.slice a0 xs.length cap, .int .i64 most] w fun e w' => e = .returned (.bool (great xs most)) ∧ w = w' := by
  have X := hide hx
  have HA := hide ha
  clear hx ha
  go_enter Try.func7, Try.ntmps7
  go_wp2_with fail
  go_loopw [5] (fun v wr => ∃ (k : Nat), k ≤ xs.length ∧ v = .int .i64 k ∧ (∀ i (h : i < xs.length), i < k → ¬ xs[i].wide) ∧ wr = w) (fun v _ => xs.length - (intOf v).toNat)
  case atStart => exact ⟨0, by omega, rfl, fun i _ h => absurd h (by omega), rfl⟩
  case round =>
    obtain ⟨k, hk, rfl, hno, rfl⟩ := hrel
    by_cases hlt : k < xs.length
    · obtain rfl := HA.out (by omega)
      have q := X.out k hlt
      have c1 : wr.cell? ⟨b, off + k * 13 + 4, none⟩ = some (.string xs[k].op.key) := aggAt_cell q 4 (by decide)
      have c2 : wr.cell? ⟨b, off + k * 13 + 5, none⟩ = some (.string xs[k].op.val) := aggAt_cell q 5 (by decide)
      have c3 : wr.cell? ⟨b, off + k * 13 + 10, none⟩ = some (.string xs[k].out.val) := aggAt_cell q 10 (by decide)
      have hw := hide (fun h : xs[k].wide => show great xs most = true by
        unfold great
        rw [List.any_eq_true.2 ⟨xs[k], List.getElem_mem hlt, by simpa using h⟩]; rfl)
      have hnw := hide (fun h : ¬ xs[k].wide => show ∀ i (h : i < xs.length), i < k + 1 → ¬ xs[i].wide from fun i hi hik => by
        by_cases e : i = k
        · subst e; exact h
        · exact hno i hi (by omega))
      clear hno q
      unfold Ac.wide at hw
      rw [show xs[k].wide = (200 < xs[k].op.key.size ∨ 200 < xs[k].op.val.size ∨ 200 < xs[k].out.val.size) from rfl] at hnw
      generalize xs[k].op.key = s1 at *
      generalize xs[k].op.val = s2 at *
      generalize xs[k].out.val = s3 at *
      by_cases d1 : 200 < s1.size
      · have hq := hide (hw.out (by omega))
        clear hw hnw
        go_wp2_with fail
        go_ret
        exact ⟨ret_bool hq.out.symm, rfl⟩
      · by_cases d2 : 200 < s2.size
        · have hq := hide (hw.out (by omega))
          clear hw hnw
          go_wp2_with fail
          go_ret
          exact ⟨ret_bool hq.out.symm, rfl⟩
        · by_cases d3 : 200 < s3.size
          · have hq := hide (hw.out (by omega))
            clear hw hnw
            go_wp2_with fail
            go_ret
            exact ⟨ret_bool hq.out.symm, rfl⟩
          · have hq := hide (hnw.out (by omega))
            clear hw hnw
            go_wp2_with fail
            go_roundw
            case rel => exact ⟨k + 1, by omega, by go_num, hq.out, trivial⟩
            case measure => simp [intOf]; omega
    · obtain rfl : k = xs.length := by omega
      have hg : great xs most = decide (most < xs.length) := by
        unfold great
        rw [List.any_eq_false.2 (fun x hx => by
          obtain ⟨i, hi, rfl⟩ := List.mem_iff_getElem.1 hx
          simpa using hno i hi hi)]
        simp
      clear hno
      replace hg := hide hg
      go_wp2_with fail
      go_ret
      exact ⟨ret_bool (by rw [hg.out]), rfl⟩
end Go.Proofs.Ytfnddooclgklmaa
