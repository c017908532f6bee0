/- The walks of the layer rings, 6: Front, Pop; what finds no frame. -/
import Derived.Test.YtkopocbcldjjbaaRingD
import Derived.Test.YtkopocbcldjjbaaRingE
namespace Go.Proofs.Ytkopocbcldjjbaa
open Go.RowKit
set_option linter.unusedVariables false
attribute [-go_sem] loadVar storeVar
attribute [local go_sem] loadVar_else storeVar_else run_load40 run_store40 frameAt_drew frameAt_drewN roomAt_drew roomAt_drewN
theorem built_zero : Try.prog.built 40 [] = some zeroF := by kernel_rfl
/-- the frame without anything is built: it stays one word -/
theorem wpList_zero {ops : Array Oper} {rest : List Oper} {o : Oper} {a : Act} {w : World} {Q : Exit → Act → World → Prop} (hg : o.guard = none) (ho : o.op = .build 40 #[])
    (h : wpList Try.prog ops Q rest (a.put o.dst (.agg zeroF)) w) : wpList Try.prog ops Q (o :: rest) a w := by
  refine wpList_build hg 40 #[] ho ?_ ?_
  · rw [show (#[].map fun (x : Nat × Operand) => (x.1, a.eval x.2)).toList = [] by simp, built_zero]; rfl
  · rw [show (#[].map fun (x : Nat × Operand) => (x.1, a.eval x.2)).toList = [] by simp, built_zero]; exact h
/-- the frame of a Seq -/
def seqF (n : Int) : Array Value := zeroF.setIfInBounds 3 (.int .i64 n)
theorem built_seq (n : Int) : Try.prog.built 40 [(3, .int .i64 n)] = some (seqF n) := by rfl
theorem wpList_seq {ops : Array Oper} {rest : List Oper} {o : Oper} {a : Act} {w : World} {Q : Exit → Act → World → Prop} (hg : o.guard = none) (x : Operand) (ho : o.op = .build 40 #[(3, x)]) (n : Int) (hx : a.eval x = .int .i64 n)
    (h : wpList Try.prog ops Q rest (a.put o.dst (.agg (seqF n))) w) : wpList Try.prog ops Q (o :: rest) a w := by
  refine wpList_build hg 40 #[(3, x)] ho ?_ ?_
  · rw [show (#[(3, x)].map fun (x : Nat × Operand) => (x.1, a.eval x.2)).toList = [(3, .int .i64 n)] by simp [hx], built_seq]; rfl
  · rw [show (#[(3, x)].map fun (x : Nat × Operand) => (x.1, a.eval x.2)).toList = [(3, .int .i64 n)] by simp [hx], built_seq]; exact h
theorem push_full (r pb cap first : Nat) (fs : Nat → Fr) (F : Array Value) (w : World) (h : Ring w r pb cap first cap fs) :
    Calls Try.prog 9 #[.pointer (some ⟨r, 0, none⟩), .agg F] w fun e w' => e = .returned (.bool false) ∧ Upd w w' [] := by
  have R0 := h.upd ((Upd.refl w []).alloc (.cells F 40)) (by simp) (by simp) (Off.nil _)
  have U0 := hide ((Upd.refl w []).alloc (.cells F 40))
  have h0 := R0.c0
  have h2 := R0.c2
  have HN := hide fun (n : Nat) => none_no r pb cap ((w.alloc (.cells F 40)).drewN n) h0
  clear h R0
  go_enter Try.func9, Try.ntmps9
  go_wp2_with fail
  go_quiet ((first | (go_at_call 23; exact quiet_left (HN.out _))))
  go_wp2_with fail
  go_ret
  exact ⟨rfl, U0.out.drewN _⟩
theorem at_no (r pb cap first cnt : Nat) (fs : Nat → Fr) (w : World) (h : Ring w r pb cap first cnt fs) (i : Int) (hi : i < 0 ∨ (cnt : Int) ≤ i) :
    Calls Try.prog 17 #[.pointer (some ⟨r, 0, none⟩), .int .i64 i] w fun e w' => e = .returned (.tuple #[.agg zeroF, .bool false]) ∧ Upd w w' [] := by
  have R0 := h.upd ((Upd.refl w []).alloc (.cells zeroF 40)) (by simp) (by simp) (Off.nil _)
  obtain ⟨l1, l2, l3, l4⟩ := (zero_isF (w.alloc (.cells zeroF 40)) 0).lay (Blk.new w 40 zeroF) rfl
  have U0 := hide (Upd.setCells (b := w.heap.size) (by simp) zeroF.toList 0 ((Upd.refl w []).alloc (.cells zeroF 40)))
  have h0 := R0.c0
  have h2 := R0.c2
  clear h R0 l3 l4
  have HL := hide l2
  clear l2
  by_cases hn : i < 0
  · clear hi
    go_enter Try.func17, Try.ntmps17
    go_wp2_with fail
    refine (none_no _ _ _ _ h0).mono ?_
    rintro e w' ⟨rfl, rfl⟩
    go_wp2_with (refine wpList_zero rfl rfl ?_)
    refine bodyPost_ret (results_frame2 rfl rfl HL.out) rfl ?_
    exact ⟨rfl, U0.out⟩
  · have hc : (cnt : Int) ≤ i := by omega
    clear hi
    go_enter Try.func17, Try.ntmps17
    go_wp2_with fail
    refine (none_no _ _ _ _ h0).mono ?_
    rintro e w' ⟨rfl, rfl⟩
    go_wp2_with (refine wpList_zero rfl rfl ?_)
    refine bodyPost_ret (results_frame2 rfl rfl HL.out) rfl ?_
    exact ⟨rfl, U0.out⟩
theorem front_ok (r pb cap first cnt : Nat) (fs : Nat → Fr) (w : World) (h : Ring w r pb cap first cnt fs) (hc : 0 < cnt) :
    Calls Try.prog 15 #[.pointer (some ⟨r, 0, none⟩)] w fun e w' => ∃ F, e = .returned (.tuple #[.agg F, .bool true]) ∧ IsF w' w.heap.size F (fs first) ∧ Upd w w' [] := by
  have R0 := h.upd ((Upd.refl w []).alloc (.cells zeroF 40)) (by simp) (by simp) (Off.nil _)
  have U0 := hide ((Upd.refl w []).alloc (.cells zeroF 40))
  have B0 := hide (Blk.new w 40 zeroF)
  have HA := at_ok r pb cap first cnt fs _ R0 0 hc
  have hm : (first + 0) % cap = first := Nat.mod_eq_of_lt h.hf
  rw [hm] at HA
  replace HA := hide HA
  clear h R0
  go_enter Try.func15, Try.ntmps15
  go_wp2_with fail
  refine HA.out.mono ?_
  rintro e w1 ⟨F', rfl, hF', hu⟩
  obtain ⟨l1, l2, l3, l4⟩ := hF'.lay (hu.blk B0.out (by simp)) rfl
  replace hF' := hide l4
  replace hu := hide (Upd.setCells (b := w.heap.size) (by simp) F'.toList 0 (U0.out.trans hu (by simp)))
  clear l3 l4
  replace l2 := hide l2
  go_wp2_with fail
  refine bodyPost_ret (results_frame2 rfl rfl l2.out) rfl ?_
  exact ⟨_, rfl, hF'.out.mono (by simp), hu.out⟩
theorem front_no (r pb cap first : Nat) (fs : Nat → Fr) (w : World) (h : Ring w r pb cap first 0 fs) :
    Calls Try.prog 15 #[.pointer (some ⟨r, 0, none⟩)] w fun e w' => e = .returned (.tuple #[.agg zeroF, .bool false]) ∧ Upd w w' [] := by
  have R0 := h.upd ((Upd.refl w []).alloc (.cells zeroF 40)) (by simp) (by simp) (Off.nil _)
  have U0 := hide ((Upd.refl w []).alloc (.cells zeroF 40))
  have B0 := hide (Blk.new w 40 zeroF)
  have HA := hide (at_no r pb cap first 0 fs _ R0 0 (by omega))
  clear h R0
  go_enter Try.func15, Try.ntmps15
  go_wp2_with fail
  refine HA.out.mono ?_
  rintro e w1 ⟨rfl, hu⟩
  obtain ⟨l1, l2, l3, l4⟩ := (zero_isF w1 0).lay (hu.blk B0.out (by simp)) rfl
  replace hu := hide (Upd.setCells (b := w.heap.size) (by simp) zeroF.toList 0 (U0.out.trans hu (by simp)))
  clear l3 l4
  replace l2 := hide l2
  go_wp2_with fail
  refine bodyPost_ret (results_frame2 rfl rfl l2.out) rfl ?_
  exact ⟨rfl, hu.out⟩
end Go.Proofs.Ytkopocbcldjjbaa
