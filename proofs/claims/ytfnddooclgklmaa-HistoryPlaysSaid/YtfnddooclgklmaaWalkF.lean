/- The walks of the layer history: End. -/
import Derived.Test.YtfnddooclgklmaaWalkE
namespace Go.Proofs.Ytfnddooclgklmaa
open Go.RowKit
set_option linter.unusedVariables false
attribute [-go_sem] loadVar storeVar
attribute [local go_sem] loadVar_else storeVar_else run_load29 run_load33 run_load35 run_load48 run_load49 run_load61 run_store29 run_store33 run_store35 run_store48 run_store49 aggAt_drew aggAt_drewN aggRoom_drew aggRoom_drewN
variable {base h : Nat} {v : Value} {rs : List Rec} {ev : Nat}
theorem end_none (v : Value) (c s : Int) (o : Out6) (w : World) (H : NoHist w v) : Calls Try.prog 10 #[v, .int .i64 c, .int .i64 s, .agg o.cells] w fun e w' => e = .returned (.int .i64 1) ∧ Upd w w' [] := by
  have U := hide ((Upd.refl w []).alloc (.cells o.cells 33))
  have N := hide (none_yes v _ (H.upd U.out))
  clear H
  go_enter Try.func10, Try.ntmps10
  go_wp2_with fail
  refine N.out.mono ?_
  rintro e w' ⟨rfl, rfl⟩
  go_wp2_with fail
  go_ret
  exact ⟨rfl, U.out⟩
theorem end_bad (c s : Int) (o : Out6) (w : World) (H : Hist w base h v rs ev) (h1 : o.kind ≠ 1) (h2 : o.kind ≠ 2) (h3 : o.kind ≠ 3) : Calls Try.prog 10 #[.pointer (some ⟨h, 0, none⟩), .int .i64 c, .int .i64 s, .agg o.cells] w fun e w' => e = .returned (.int .i64 2) ∧ Upd w w' [] := by
  have U := hide ((Upd.refl w []).alloc (.cells o.cells 33))
  have N := hide (none_no h _ (H.upd0 U.out).c0)
  clear H
  go_enter Try.func10, Try.ntmps10
  go_wp2_with fail
  refine N.out.mono ?_
  rintro e w' ⟨rfl, rfl⟩
  go_wp2_with fail
  all_goals (first | (go_ret; exact ⟨rfl, U.out⟩) | (exfalso; simp_all; done))
theorem end_nil (c s : Int) (o : Out6) (w : World) (H : Hist w base h v rs ev) (hk : o.kind = 1 ∨ o.kind = 2 ∨ o.kind = 3)
    (hl : ∀ w, Hist w base h v rs ev → Calls Try.prog 18 #[.pointer (some ⟨h, 0, none⟩), .int .i64 c] w fun e w' => e = .returned (.pointer none) ∧ w = w') :
    Calls Try.prog 10 #[.pointer (some ⟨h, 0, none⟩), .int .i64 c, .int .i64 s, .agg o.cells] w fun e w' => e = .returned (.int .i64 4) ∧ Upd w w' [] := by
  have U := hide ((Upd.refl w []).alloc (.cells o.cells 33))
  have H1 := H.upd0 U.out
  have N := hide (none_no h _ H1.c0)
  have L := hide (hl _ H1)
  clear H hl H1
  obtain ⟨ok, orr, oc, ov, ove, oa⟩ := o
  dsimp only at hk
  rcases hk with rfl | rfl | rfl
  all_goals
    go_enter Try.func10, Try.ntmps10
    go_wp2_with fail
    refine N.out.mono ?_
    rintro e w' ⟨rfl, rfl⟩
    go_wp2_with fail
    refine L.out.mono ?_
    rintro e w' ⟨rfl, rfl⟩
    go_wp2_with fail
    go_ret
    exact ⟨rfl, U.out⟩
theorem end_no (c : Nat) (s : Int) (o : Out6) (w : World) (H : Hist w base h v rs ev) (hc : c < 6) (hk : o.kind = 1 ∨ o.kind = 2 ∨ o.kind = 3) (p : Nat) (hp : place c rs = p + 1) (hpl : p < rs.length) (hx : rs[p].seq ≠ s ∨ 0 ≤ rs[p].to) :
    Calls Try.prog 10 #[.pointer (some ⟨h, 0, none⟩), .int .i64 c, .int .i64 s, .agg o.cells] w fun e w' => e = .returned (.int .i64 4) ∧ Upd w w' [] := by
  rcases H.slice with ⟨_, rfl⟩ | ⟨g, cap, rfl, _, _, _⟩
  · simp at hpl
  have U := hide ((Upd.refl w []).alloc (.cells o.cells 33))
  have H1 := H.upd0 U.out
  have N := hide (none_no h _ H1.c0)
  have N2 := hide (last_yes c _ H1 hc p hp)
  have t1 : (w.alloc (.cells o.cells 33)).cell? ⟨g, p * 14 + 7, none⟩ = some (.int .i64 rs[p].to) := aggAt_cell (H1.rec_ p hpl) 7 (by decide)
  have t2 : (w.alloc (.cells o.cells 33)).cell? ⟨g, p * 14 + 1, none⟩ = some (.int .i64 rs[p].seq) := aggAt_cell (H1.rec_ p hpl) 1 (by decide)
  clear H H1
  generalize rs[p].to = rt at *
  generalize rs[p].seq = rq at *
  obtain ⟨ok, orr, oc, ov, ove, oa⟩ := o
  dsimp only [Out6.cells] at *
  by_cases e1 : rq = s
  · have e2 : 0 ≤ rt := by omega
    clear hx
    rcases hk with rfl | rfl | rfl
    all_goals
      go_enter Try.func10, Try.ntmps10
      go_wp2_with fail
      refine N.out.mono ?_
      rintro e w' ⟨rfl, rfl⟩
      go_wp2_with fail
      refine N2.out.mono ?_
      rintro e w' ⟨rfl, m, rfl⟩
      go_wp2_with fail
      go_ret
      exact ⟨rfl, U.out.drewN m⟩
  · have e2 : (rq != s) = true := by simpa using e1
    clear hx
    rcases hk with rfl | rfl | rfl
    all_goals
      go_enter Try.func10, Try.ntmps10
      go_wp2_with fail
      refine N.out.mono ?_
      rintro e w' ⟨rfl, rfl⟩
      go_wp2_with fail
      refine N2.out.mono ?_
      rintro e w' ⟨rfl, m, rfl⟩
      go_wp2_with fail
      all_goals (first | (go_ret; exact ⟨rfl, U.out.drewN m⟩) | (exfalso; simp_all; done))
def endRec (r : Rec) (ev : Nat) (o : Out6) : Rec := { r with to := ev, out := o }
theorem head_end (v : Value) (ev p : Nat) (rs : List Rec) (hp : p < rs.length) (r : Rec) (hr : r.cl = rs[p].cl) :
    (headOf v ev rs).setIfInBounds 2 (.int .i64 (ev + 1)) = headOf v (ev + 1) (rs.set p r) := by
  simp [headOf, place_set, hp, hr]
end Go.Proofs.Ytfnddooclgklmaa
