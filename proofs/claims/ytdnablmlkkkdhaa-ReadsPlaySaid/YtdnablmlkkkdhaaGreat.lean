/- The walks of the layer reads: Great. -/
import Derived.Test.YtdnablmlkkkdhaaActs
namespace Go.Proofs.Ytdnablmlkkkdhaa
open Go.RowKit
set_option linter.unusedVariables false
attribute [-go_sem] loadVar storeVar
attribute [local go_sem] loadVar_else storeVar_else run_load33 run_load35 run_load42 run_load44 run_load49 run_load72 run_store35 run_store42 run_store44 run_store49 aggAt_drew aggAt_drewN aggRoom_drew aggRoom_drewN
set_option maxHeartbeats 4000000 in
theorem great_walk (a0 : Option Addr) (b off cap : Nat) (xs : List Ac) (most : Nat) (w : World) (ha : 0 < xs.length → a0 = some ⟨b, off, none⟩) (hx : Acts w b off xs) (hm : xs.length ≤ 9223372036854775807) :
    Calls Try.prog 6 #[.slice a0 xs.length cap, .int .i64 most] w fun e w' => e = .returned (.bool (great xs most)) ∧ w = w' := by
  have X := hide hx.2
  have OK := hide hx.1
  have HA := hide ha
  clear hx ha
  go_enter Try.func6, Try.ntmps6
  go_wp2_with fail
  go_loopw [5] (fun v wr => ∃ (k : Nat), k ≤ xs.length ∧ v = .int .i64 k ∧ (∀ i (h : i < xs.length), i < k → ¬ xs[i].wide) ∧ wr = w) (fun v _ => xs.length - (intOf v).toNat)
  case atStart => exact ⟨0, by omega, rfl, fun i _ h => absurd h (by omega), rfl⟩
  case round =>
    obtain ⟨k, hk, rfl, hno, rfl⟩ := hrel
    by_cases hlt : k < xs.length
    · obtain rfl := HA.out (by omega)
      have q := act_at (OK.out _ (List.getElem_mem hlt)) (X.out k hlt)
      have c1 := q.key
      have c2 := q.val
      have c3 := q.xval
      obtain ⟨ad, c, c4⟩ := q.mem
      have hw := hide (fun h : xs[k].wide => show great xs most = true by
        unfold great
        rw [List.any_eq_true.2 ⟨xs[k], List.getElem_mem hlt, by simpa using h⟩]; rfl)
      have hnw := hide (fun h : ¬ xs[k].wide => show ∀ i (h : i < xs.length), i < k + 1 → ¬ xs[i].wide from fun i hi hik => by
        by_cases e : i = k
        · subst e; exact h
        · exact hno i hi (by omega))
      clear hno q
      unfold Ac.wide at hw
      rw [show xs[k].wide = (200 < xs[k].d.op.key.size ∨ 200 < xs[k].d.op.val.size ∨ 200 < xs[k].x.val.size ∨ 0 < xs[k].m) from rfl] at hnw
      generalize xs[k].d.op.key = s1 at *
      generalize xs[k].d.op.val = s2 at *
      generalize xs[k].x.val = s3 at *
      generalize xs[k].m = s4 at *
      by_cases d1 : 200 < s1.size
      · have hq := hide (hw.out (by omega))
        clear hw hnw
        go_wp2_with fail
        go_ret
        exact ⟨ret_bool hq.out.symm, rfl⟩
      · by_cases d2 : 200 < s2.size
        · have hq := hide (hw.out (by omega))
          clear hw hnw
          go_wp2_with fail
          go_ret
          exact ⟨ret_bool hq.out.symm, rfl⟩
        · by_cases d3 : 200 < s3.size
          · have hq := hide (hw.out (by omega))
            clear hw hnw
            go_wp2_with fail
            go_ret
            exact ⟨ret_bool hq.out.symm, rfl⟩
          · by_cases d4 : 0 < s4
            · have hq := hide (hw.out (by omega))
              clear hw hnw
              go_wp2_with fail
              go_ret
              exact ⟨ret_bool hq.out.symm, rfl⟩
            · have hq := hide (hnw.out (by omega))
              clear hw hnw
              obtain rfl : s4 = 0 := by omega
              go_wp2_with fail
              go_roundw
              case rel => exact ⟨k + 1, by omega, by go_num, hq.out, trivial⟩
              case measure => simp [intOf]; omega
    · obtain rfl : k = xs.length := by omega
      have hg : great xs most = decide (most < xs.length) := by
        unfold great
        rw [List.any_eq_false.2 (fun x hx => by
          obtain ⟨i, hi, rfl⟩ := List.mem_iff_getElem.1 hx
          simpa using hno i hi hi)]
        simp
      clear hno
      replace hg := hide hg
      go_wp2_with fail
      go_ret
      exact ⟨ret_bool (by rw [hg.out]), rfl⟩
end Go.Proofs.Ytdnablmlkkkdhaa
