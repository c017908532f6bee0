/- The walks of the layer history: what Call refuses. -/
import Derived.Test.YtfnddooclgklmaaWalkD
namespace Go.Proofs.Ytfnddooclgklmaa
open Go.RowKit
set_option linter.unusedVariables false
attribute [-go_sem] loadVar storeVar
attribute [local go_sem] loadVar_else storeVar_else run_load29 run_load33 run_load35 run_load48 run_load49 run_load61 run_store29 run_store33 run_store35 run_store48 run_store49 aggAt_drew aggAt_drewN aggRoom_drew aggRoom_drewN
variable {base h : Nat} {v : Value} {rs : List Rec} {ev : Nat}
theorem call_none (v : Value) (c s : Int) (o : Op4) (w : World) (H : NoHist w v) : Calls Try.prog 12 #[v, .int .i64 c, .int .i64 s, .agg o.cells] w fun e w' => e = .returned (.int .i64 1) ∧ Upd w w' [] := by
  have U := hide ((Upd.refl w []).alloc (.cells o.cells 29))
  have N := hide (none_yes v _ (H.upd U.out))
  clear H
  go_enter Try.func12, Try.ntmps12
  go_wp2_with fail
  refine N.out.mono ?_
  rintro e w' ⟨rfl, rfl⟩
  go_wp2_with fail
  go_ret
  exact ⟨rfl, U.out⟩
theorem call_bad (c s : Int) (o : Op4) (w : World) (H : Hist w base h v rs ev) (hx : c < 0 ∨ 5 < c ∨ s < 1) : Calls Try.prog 12 #[.pointer (some ⟨h, 0, none⟩), .int .i64 c, .int .i64 s, .agg o.cells] w fun e w' => e = .returned (.int .i64 2) ∧ Upd w w' [] := by
  have U := hide ((Upd.refl w []).alloc (.cells o.cells 29))
  have N := hide (none_no h _ (H.upd0 U.out).c0)
  clear H
  by_cases h1 : c < 0
  · clear hx
    go_enter Try.func12, Try.ntmps12
    go_wp2_with fail
    refine N.out.mono ?_
    rintro e w' ⟨rfl, rfl⟩
    go_wp2_with fail
    go_ret
    exact ⟨rfl, U.out⟩
  · by_cases h2 : 6 ≤ c
    · clear hx
      go_enter Try.func12, Try.ntmps12
      go_wp2_with fail
      refine N.out.mono ?_
      rintro e w' ⟨rfl, rfl⟩
      go_wp2_with fail
      go_ret
      exact ⟨rfl, U.out⟩
    · have h3 : s < 1 := by omega
      clear hx
      go_enter Try.func12, Try.ntmps12
      go_wp2_with fail
      refine N.out.mono ?_
      rintro e w' ⟨rfl, rfl⟩
      go_wp2_with fail
      go_ret
      exact ⟨rfl, U.out⟩
theorem call_chk (c s : Int) (o : Op4) (w : World) (H : Hist w base h v rs ev) (hc0 : ¬ c < 0) (hc : ¬ 6 ≤ c) (hs : ¬ s < 1) (ho : chk o ≠ 0)
    (hk : ∀ w, Calls Try.prog 20 #[.agg o.cells] w fun e w' => e = .returned (.int .i64 (chk o)) ∧ Upd w w' []) :
    Calls Try.prog 12 #[.pointer (some ⟨h, 0, none⟩), .int .i64 c, .int .i64 s, .agg o.cells] w fun e w' => e = .returned (.int .i64 2) ∧ Upd w w' [] := by
  have U := hide ((Upd.refl w []).alloc (.cells o.cells 29))
  have N := hide (none_no h _ (H.upd0 U.out).c0)
  have L : aggAt 4 (w.alloc (.cells o.cells 29)) w.heap.size 0 = some o.cells := (Blk.new w 29 o.cells).agg0 rfl
  have HK := hide hk
  clear H hk
  go_enter Try.func12, Try.ntmps12
  go_wp2_with fail
  refine N.out.mono ?_
  rintro e w' ⟨rfl, rfl⟩
  go_wp2_with fail
  refine (HK.out _).mono ?_
  rintro e w1 ⟨rfl, u1⟩
  replace u1 := hide u1
  go_wp2_with fail
  all_goals (first | (go_ret; exact ⟨rfl, U.out.trans u1.out (by simp)⟩) | (exfalso; simp_all; done))
theorem call_last (c : Nat) (s : Int) (o : Op4) (w : World) (H : Hist w base h v rs ev) (hc : c < 6) (hs : 1 ≤ s) (ho : chk o = 0) (p : Nat) (hp : place c rs = p + 1) (hpl : p < rs.length) (n : Int) (hx : (rs[p].to < 0 ∧ n = 63) ∨ (0 ≤ rs[p].to ∧ s ≤ rs[p].seq ∧ n = 70))
    (hk : ∀ w, Calls Try.prog 20 #[.agg o.cells] w fun e w' => e = .returned (.int .i64 (chk o)) ∧ Upd w w' []) :
    Calls Try.prog 12 #[.pointer (some ⟨h, 0, none⟩), .int .i64 c, .int .i64 s, .agg o.cells] w fun e w' => e = .returned (.int .i64 n) ∧ Upd w w' [] := by
  rcases H.slice with ⟨_, rfl⟩ | ⟨g, cap, rfl, _, _, _⟩
  · simp at hpl
  have U := hide ((Upd.refl w []).alloc (.cells o.cells 29))
  have H1 := hide (H.upd0 U.out)
  have N := hide (none_no h _ H1.out.c0)
  have L : aggAt 4 (w.alloc (.cells o.cells 29)) w.heap.size 0 = some o.cells := (Blk.new w 29 o.cells).agg0 rfl
  have HK := hide hk
  have hc' : ¬ (6 : Int) ≤ c := by omega
  have hc0 : ¬ (c : Int) < 0 := by omega
  have hs' : ¬ s < 1 := by omega
  clear H hk
  rw [ho] at HK
  go_enter Try.func12, Try.ntmps12
  go_wp2_with fail
  refine N.out.mono ?_
  rintro e w' ⟨rfl, rfl⟩
  go_wp2_with fail
  refine (HK.out _).mono ?_
  rintro e w1 ⟨rfl, u1⟩
  have H2 := H1.out.upd0 u1
  have U2 := hide (U.out.trans u1 (by simp))
  have N2 := hide (last_yes c w1 H2 hc p hp)
  have t1 : w1.cell? ⟨g, p * 14 + 7, none⟩ = some (.int .i64 rs[p].to) := aggAt_cell (H2.rec_ p hpl) 7 (by decide)
  have t2 : w1.cell? ⟨g, p * 14 + 1, none⟩ = some (.int .i64 rs[p].seq) := aggAt_cell (H2.rec_ p hpl) 1 (by decide)
  clear L N HK H1 U u1 H2
  generalize rs[p].to = rt at *
  generalize rs[p].seq = rq at *
  rcases hx with ⟨e1, rfl⟩ | ⟨e0, e2, rfl⟩
  · go_wp2_with fail
    refine N2.out.mono ?_
    rintro e w' ⟨rfl, m, rfl⟩
    go_wp2_with fail
    go_ret
    exact ⟨rfl, U2.out.drewN m⟩
  · have e1 : ¬ rt < 0 := by omega
    go_wp2_with fail
    refine N2.out.mono ?_
    rintro e w' ⟨rfl, m, rfl⟩
    go_wp2_with fail
    go_ret
    exact ⟨rfl, U2.out.drewN m⟩
/-- what Call answers -/
def callE (rs : List Rec) (c s : Int) (o : Op4) : Int := if c < 0 ∨ 5 < c ∨ s < 1 ∨ chk o ≠ 0 then 2 else
  match lastRec c rs with
  | none => 0
  | some r => if r.to < 0 then 63 else if s ≤ r.seq then 70 else 0
def callR (rs : List Rec) (c s : Int) (o : Op4) (ev : Nat) : List Rec := if callE rs c s o = 0 then rs ++ [newRec c s o ev] else rs
def callN (rs : List Rec) (c s : Int) (o : Op4) (ev : Nat) : Nat := if callE rs c s o = 0 then ev + 1 else ev
theorem call_spec (c s : Int) (o : Op4) (w : World) (H : Hist w base h v rs ev) (hb : base ≤ w.heap.size) (hn : rs.length ≤ 1000) (he : ev ≤ 1000)
    (hk : ∀ w, Calls Try.prog 20 #[.agg o.cells] w fun e w' => e = .returned (.int .i64 (chk o)) ∧ Upd w w' []) :
    Calls Try.prog 12 #[.pointer (some ⟨h, 0, none⟩), .int .i64 c, .int .i64 s, .agg o.cells] w fun e w' => ∃ v', e = .returned (.int .i64 (callE rs c s o)) ∧ Hist w' base h v' (callR rs c s o ev) (callN rs c s o ev) ∧ Upd w w' (h :: blkOf v) := by
  have no : ∀ n : Int, callE rs c s o = n → n ≠ 0 → Calls Try.prog 12 #[.pointer (some ⟨h, 0, none⟩), .int .i64 c, .int .i64 s, .agg o.cells] w (fun e w' => e = .returned (.int .i64 n) ∧ Upd w w' []) →
      Calls Try.prog 12 #[.pointer (some ⟨h, 0, none⟩), .int .i64 c, .int .i64 s, .agg o.cells] w fun e w' => ∃ v', e = .returned (.int .i64 (callE rs c s o)) ∧ Hist w' base h v' (callR rs c s o ev) (callN rs c s o ev) ∧ Upd w w' (h :: blkOf v) := by
    intro n h1 h2 hcall
    refine hcall.mono ?_
    rintro e w' ⟨rfl, u⟩
    refine ⟨v, by rw [h1], ?_, u.mono (by simp)⟩
    unfold callR callN
    rw [if_neg (by omega), if_neg (by omega)]
    exact H.upd0 u
  by_cases h1 : c < 0 ∨ 5 < c ∨ s < 1
  · exact no 2 (by unfold callE; rw [if_pos (by omega)]) (by decide) (call_bad c s o w H h1)
  by_cases h2 : chk o = 0
  · obtain ⟨k, rfl⟩ : ∃ k : Nat, c = k := ⟨c.toNat, by omega⟩
    have hk6 : k < 6 := by omega
    have e0 : callE rs k s o = match lastRec k rs with
      | none => 0
      | some r => if r.to < 0 then 63 else if s ≤ r.seq then 70 else 0 := by unfold callE; rw [if_neg (by omega)]
    by_cases hq : ∀ r, lastRec k rs = some r → 0 ≤ r.to ∧ r.seq < s
    · have e1 : callE rs k s o = 0 := by
        rw [e0]
        cases hl : lastRec k rs with
        | none => rfl
        | some r =>
          obtain ⟨q1, q2⟩ := hq r hl
          show (if r.to < 0 then _ else _) = _
          rw [if_neg (by omega), if_neg (by omega)]
      unfold callR callN
      rw [e1, if_pos rfl, if_pos rfl]
      exact call_ok k s o w H hb hn he hk6 (by omega) h2 hq hk
    · simp only [Classical.not_forall] at hq
      obtain ⟨r, hl, hr⟩ := hq
      have hl0 := hl
      unfold lastRec at hl
      rw [if_neg (by omega)] at hl
      split at hl
      · cases hl
      · next hp =>
        obtain ⟨p, hp⟩ := Nat.exists_eq_succ_of_ne_zero hp
        rw [hp] at hl
        obtain ⟨hpl, hr2⟩ := List.getElem?_eq_some_iff.1 hl
        simp only [Nat.succ_eq_add_one, Nat.add_sub_cancel] at hpl hr2
        subst hr2
        have hx : rs[p].to < 0 ∨ s ≤ rs[p].seq := by omega
        refine no (if rs[p].to < 0 then 63 else 70) ?_ (by split <;> decide) (call_last k s o w H hk6 (by omega) h2 p hp hpl _ (by split <;> omega) hk)
        rw [e0, hl0]
        show (if rs[p].to < 0 then (63 : Int) else if s ≤ rs[p].seq then 70 else 0) = _
        split
        · rfl
        · rw [if_pos (by omega)]
  · exact no 2 (by unfold callE; rw [if_pos (by omega)]) (by decide) (call_chk c s o w H (by omega) (by omega) (by omega) h2 hk)
end Go.Proofs.Ytfnddooclgklmaa
