/- The walks of the layer rings: Great, of lists of any length. -/
import Derived.Test.YtkopocbcldjjbaaGreat
namespace Go.Proofs.Ytkopocbcldjjbaa
open Go.RowKit
set_option linter.unusedVariables false
attribute [-go_sem] loadVar storeVar
attribute [local go_sem] loadVar_else storeVar_else run_load40 run_store40 frameAt_drew frameAt_drewN roomAt_drew roomAt_drewN
set_option maxHeartbeats 4000000 in
theorem great_walk2 (a0 : Option Addr) (b off cap : Nat) (Fs : List (Array Value × Eyes)) (most : Nat) (w : World) (ha : 0 < Fs.length → a0 = some ⟨b, off, none⟩) (hx : Acts w b off Fs) (hm : Fs.length ≤ 9223372036854775807) :
    Calls Try.prog 12 #[.slice a0 Fs.length cap, .int .i64 most] w fun e w' => e = .returned (.bool (great Fs most)) ∧ Upd w w' [] := by
  have X := hide hx
  have HA := hide ha
  clear hx ha
  go_enter Try.func12, Try.ntmps12
  go_wp2_with fail
  go_loopw [5] (fun v wr => ∃ (k : Nat), k ≤ Fs.length ∧ v = .int .i64 k ∧ (∀ i (h : i < Fs.length), i < k → ¬ Fs[i].2.wide) ∧ Upd w wr []) (fun v _ => Fs.length - (intOf v).toNat)
  case atStart => exact ⟨0, by omega, rfl, fun i _ h => absurd h (by omega), Upd.refl _ _⟩
  case round =>
    obtain ⟨k, hk, rfl, hno, hu⟩ := hrel
    by_cases hlt : k < Fs.length
    · obtain rfl := HA.out (by omega)
      obtain ⟨a1, a2⟩ := X.out.upd hu k hlt
      obtain ⟨F, e⟩ : ∃ F : Array Value, F = Fs[k].1 := ⟨_, rfl⟩
      rw [← e] at a1 a2
      have hw : Fs[k].2.wide → great Fs most = true := fun h => by
        unfold great
        rw [List.any_eq_true.2 ⟨Fs[k], List.getElem_mem hlt, by simpa using h⟩]; rfl
      have hnw : ¬ Fs[k].2.wide → ∀ i (h : i < Fs.length), i < k + 1 → ¬ Fs[i].2.wide := fun h i hi hik => by
        by_cases e : i = k
        · subst e; exact h
        · exact hno i hi (by omega)
      clear hno
      generalize Fs[k].2 = y at *
      have hS := a2.size
      have b0 := Blk.new wr 40 zeroF
      have r0 := b0.room 0 (by decide) hS a2.one
      have b1 := (b0.setCells F.toList 0).congr (putAt_all (by rw [hS]; rfl))
      have c8 : ((wr.alloc (.cells zeroF 40)).setCells wr.heap.size 0 F.toList).cell? ⟨wr.heap.size, 8, none⟩ = some (.string y.s8) := by rw [b1.cell]; exact a2.g8
      have c9 : ((wr.alloc (.cells zeroF 40)).setCells wr.heap.size 0 F.toList).cell? ⟨wr.heap.size, 9, none⟩ = some (.string y.s9) := by rw [b1.cell]; exact a2.g9
      have c12 : ((wr.alloc (.cells zeroF 40)).setCells wr.heap.size 0 F.toList).cell? ⟨wr.heap.size, 12, none⟩ = some (.string y.s12) := by rw [b1.cell]; exact a2.g12
      have c20 : ((wr.alloc (.cells zeroF 40)).setCells wr.heap.size 0 F.toList).cell? ⟨wr.heap.size, 20, none⟩ = some (.string y.s20) := by rw [b1.cell]; exact a2.g20
      have c21 : ((wr.alloc (.cells zeroF 40)).setCells wr.heap.size 0 F.toList).cell? ⟨wr.heap.size, 21, none⟩ = some (.string y.s21) := by rw [b1.cell]; exact a2.g21
      have c24 : ((wr.alloc (.cells zeroF 40)).setCells wr.heap.size 0 F.toList).cell? ⟨wr.heap.size, 24, none⟩ = some (.slice y.ad y.n y.c) := by rw [b1.cell]; exact a2.g24
      have hz := hu.size
      have U := hide (Upd.setCells (b := wr.heap.size) (by simp; omega) F.toList 0 (hu.alloc (.cells zeroF 40)))
      unfold zeroF at r0 c8 c9 c12 c20 c21 c24
      replace hw := hide hw
      replace hnw := hide hnw
      clear b0 b1 a2 hu e
      unfold Eyes.wide at hw hnw
      by_cases d1 : 200 < y.s8.size
      · have hq : great Fs most = true := hw.out (by omega)
        replace hq := hide hq
        clear hw hnw
        go_wp2_with fail
        go_ret
        exact ⟨ret_bool hq.out.symm, U.out⟩
      · by_cases d2 : 200 < y.s9.size
        · have hq : great Fs most = true := hw.out (by omega)
          replace hq := hide hq
          clear hw hnw
          go_wp2_with fail
          go_ret
          exact ⟨ret_bool hq.out.symm, U.out⟩
        · by_cases d3 : 200 < y.s20.size
          · have hq : great Fs most = true := hw.out (by omega)
            replace hq := hide hq
            clear hw hnw
            go_wp2_with fail
            go_ret
            exact ⟨ret_bool hq.out.symm, U.out⟩
          · by_cases d4 : 200 < y.s21.size
            · have hq : great Fs most = true := hw.out (by omega)
              replace hq := hide hq
              clear hw hnw
              go_wp2_with fail
              go_ret
              exact ⟨ret_bool hq.out.symm, U.out⟩
            · by_cases d5 : 200 < y.s12.size
              · have hq : great Fs most = true := hw.out (by omega)
                replace hq := hide hq
                clear hw hnw
                go_wp2_with fail
                go_ret
                exact ⟨ret_bool hq.out.symm, U.out⟩
              · by_cases d6 : 10 < y.n
                · have hq : great Fs most = true := hw.out (by omega)
                  replace hq := hide hq
                  clear hw hnw
                  go_wp2_with fail
                  go_ret
                  exact ⟨ret_bool hq.out.symm, U.out⟩
                · have hq := hnw.out (by omega)
                  replace hq := hide hq
                  clear hw hnw
                  go_wp2_with fail
                  go_roundw
                  case rel => exact ⟨k + 1, by omega, by go_num, hq.out, U.out⟩
                  case measure => simp [intOf]; omega
    · obtain rfl : k = Fs.length := by omega
      have hg : great Fs most = decide (most < Fs.length) := by
        unfold great
        rw [List.any_eq_false.2 (fun x hx => by
          obtain ⟨i, hi, rfl⟩ := List.mem_iff_getElem.1 hx
          simpa using hno i hi hi)]
        simp
      have U := hide hu
      clear hu hno
      replace hg := hide hg
      go_wp2_with fail
      go_ret
      exact ⟨ret_bool (by rw [hg.out]), U.out⟩
end Go.Proofs.Ytkopocbcldjjbaa
