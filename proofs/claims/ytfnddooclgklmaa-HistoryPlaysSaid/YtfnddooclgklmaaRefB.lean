/- The walks of the layer history: the document's End. -/
import Derived.Test.YtfnddooclgklmaaRefA
import Derived.Deep.CutRange
namespace Go.Proofs.Ytfnddooclgklmaa
open Go.RowKit
set_option linter.unusedVariables false
attribute [-go_sem] loadVar storeVar
attribute [local go_sem] loadVar_else storeVar_else run_load29 run_load33 run_load35 run_load48 run_load49 run_load61 run_store29 run_store33 run_store35 run_store48 run_store49 aggAt_drew aggAt_drewN aggRoom_drew aggRoom_drewN
def rendE (es : List Ev) (c s : Int) (o : Out6) : Int := if o.kind < 1 ∨ 3 < o.kind then 2 else if (lastE c es).1 = 0 ∨ (lastE c es).2 = true ∨ (lastE c es).1 ≠ s then 4 else 0
def endEv (c s : Int) (o : Out6) : Ev := ⟨c, s, zeroOp, o⟩
def callEv (c s : Int) (o : Op4) : Ev := ⟨c, s, o, zeroOut⟩
theorem rend_kind (u : Value) (c s : Int) (o : Out6) (w : World) (h : o.kind < 1 ∨ 3 < o.kind) :
    Calls Try.prog 11 #[u, .int .i64 c, .int .i64 s, .agg o.cells] w fun e w' => e = .returned (.tuple #[u, .int .i64 2]) ∧ Upd w w' [] := by
  have U := hide ((Upd.refl w []).alloc (.cells o.cells 33))
  by_cases h1 : o.kind < 1
  · clear h
    go_enter Try.func11, Try.ntmps11
    go_wp2_with fail
    go_ret2
    exact ⟨rfl, U.out⟩
  · have h2 : 3 < o.kind := by omega
    clear h
    go_enter Try.func11, Try.ntmps11
    go_wp2_with fail
    go_ret2
    exact ⟨rfl, U.out⟩
theorem rend_no (u : Value) (es : List Ev) (c s : Int) (o : Out6) (w : World) (base : Nat) (R : RowOf w base 61 12 u (evCells es)) (hn : es.length ≤ 1000) (h : ¬ (o.kind < 1 ∨ 3 < o.kind))
    (hx : (lastE c es).1 = 0 ∨ (lastE c es).2 = true ∨ (lastE c es).1 ≠ s) :
    Calls Try.prog 11 #[u, .int .i64 c, .int .i64 s, .agg o.cells] w fun e w' => e = .returned (.tuple #[u, .int .i64 4]) ∧ Upd w w' [] := by
  have U := hide ((Upd.refl w []).alloc (.cells o.cells 33))
  have L := hide (rlast_ok u es c _ base (R.upd U.out (by simp)) hn)
  have h1 : ¬ o.kind < 1 := by omega
  have h2 : ¬ 3 < o.kind := by omega
  clear h R
  generalize (lastE c es).1 = a at *
  generalize (lastE c es).2 = b at *
  by_cases q1 : a = 0
  · clear hx
    subst q1
    go_enter Try.func11, Try.ntmps11
    go_wp2_with fail
    refine L.out.mono ?_
    rintro e w' ⟨rfl, m, rfl⟩
    go_wp2_with fail
    go_ret2
    exact ⟨rfl, U.out.drewN m⟩
  · cases b with
    | true =>
      have q2 : (a == 0) = false := by simpa using q1
      clear hx
      go_enter Try.func11, Try.ntmps11
      go_wp2_with fail
      refine L.out.mono ?_
      rintro e w' ⟨rfl, m, rfl⟩
      go_wp2_with fail
      go_ret2
      exact ⟨rfl, U.out.drewN m⟩
    | false =>
      have q2 : (a == 0) = false := by simpa using q1
      have q3 : ¬ a = s := by rcases hx with h | h | h <;> first | exact absurd h q1 | (cases h) | exact h
      have q4 : (a != s) = true := by simpa using q3
      clear hx
      go_enter Try.func11, Try.ntmps11
      go_wp2_with fail
      refine L.out.mono ?_
      rintro e w' ⟨rfl, m, rfl⟩
      go_wp2_with fail
      all_goals (first | (go_ret2; exact ⟨rfl, U.out.drewN m⟩) | (exfalso; simp_all; done))
end Go.Proofs.Ytfnddooclgklmaa
