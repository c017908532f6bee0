/- What the layer history answers: Call, End, as a whole; New; Great. -/
import Derived.Test.YtfnddooclgklmaaWalkG
import Derived.Test.YtfnddooclgklmaaChk
namespace Go.Proofs.Ytfnddooclgklmaa
open Go.RowKit
set_option linter.unusedVariables false
attribute [-go_sem] loadVar storeVar
attribute [local go_sem] loadVar_else storeVar_else run_load29 run_load33 run_load35 run_load48 run_load49 run_load61 run_store29 run_store33 run_store35 run_store48 run_store49 aggAt_drew aggAt_drewN aggRoom_drew aggRoom_drewN
variable {base h : Nat} {v : Value} {rs : List Rec} {ev : Nat}
theorem call_all (c s : Int) (o : Op4) (w : World) (H : Hist w base h v rs ev) (hb : base ≤ w.heap.size) (hn : rs.length ≤ 1000) (he : ev ≤ 1000) :
    Calls Try.prog 12 #[.pointer (some ⟨h, 0, none⟩), .int .i64 c, .int .i64 s, .agg o.cells] w fun e w' => ∃ v', e = .returned (.int .i64 (callE rs c s o)) ∧ Hist w' base h v' (callR rs c s o ev) (callN rs c s o ev) ∧ Upd w w' (h :: blkOf v) :=
  call_spec c s o w H hb hn he (fun w => check20_ok o w)
/-- what End answers -/
def endE (rs : List Rec) (c s : Int) (o : Out6) : Int := if o.kind < 1 ∨ 3 < o.kind then 2 else
  match lastRec c rs with
  | none => 4
  | some r => if r.seq = s ∧ r.to < 0 then 0 else 4
def endR (rs : List Rec) (c s : Int) (o : Out6) (ev : Nat) : List Rec := if endE rs c s o = 0 then
  match lastRec c rs with
  | none => rs
  | some r => rs.set (place c rs - 1) (endRec r ev o) else rs
def endN (rs : List Rec) (c s : Int) (o : Out6) (ev : Nat) : Nat := if endE rs c s o = 0 then ev + 1 else ev
theorem end_all (c s : Int) (o : Out6) (w : World) (H : Hist w base h v rs ev) (he : ev ≤ 1000) :
    Calls Try.prog 10 #[.pointer (some ⟨h, 0, none⟩), .int .i64 c, .int .i64 s, .agg o.cells] w fun e w' => ∃ v', e = .returned (.int .i64 (endE rs c s o)) ∧ Hist w' base h v' (endR rs c s o ev) (endN rs c s o ev) ∧ Upd w w' (h :: blkOf v) := by
  have no : ∀ n : Int, endE rs c s o = n → n ≠ 0 → Calls Try.prog 10 #[.pointer (some ⟨h, 0, none⟩), .int .i64 c, .int .i64 s, .agg o.cells] w (fun e w' => e = .returned (.int .i64 n) ∧ Upd w w' []) →
      Calls Try.prog 10 #[.pointer (some ⟨h, 0, none⟩), .int .i64 c, .int .i64 s, .agg o.cells] w fun e w' => ∃ v', e = .returned (.int .i64 (endE rs c s o)) ∧ Hist w' base h v' (endR rs c s o ev) (endN rs c s o ev) ∧ Upd w w' (h :: blkOf v) := by
    intro n h1 h2 hcall
    refine hcall.mono ?_
    rintro e w' ⟨rfl, u⟩
    refine ⟨v, by rw [h1], ?_, u.mono (by simp)⟩
    unfold endR endN
    rw [if_neg (by omega), if_neg (by omega)]
    exact H.upd0 u
  by_cases h1 : o.kind < 1 ∨ 3 < o.kind
  · exact no 2 (by unfold endE; rw [if_pos h1]) (by decide) (end_bad c s o w H (by omega) (by omega) (by omega))
  have hk : o.kind = 1 ∨ o.kind = 2 ∨ o.kind = 3 := by omega
  have e0 : endE rs c s o = match lastRec c rs with
      | none => 4
      | some r => if r.seq = s ∧ r.to < 0 then 0 else 4 := by unfold endE; rw [if_neg h1]
  by_cases h2 : c < 0 ∨ 5 < c
  · have hl : lastRec c rs = none := by unfold lastRec; rw [if_pos h2]
    exact no 4 (by rw [e0, hl]) (by decide) (end_nil c s o w H hk (fun w _ => last_out c w _ h2))
  obtain ⟨k, rfl⟩ : ∃ k : Nat, c = k := ⟨c.toNat, by omega⟩
  have hk6 : k < 6 := by omega
  by_cases hp : place k rs = 0
  · have hl : lastRec k rs = none := by unfold lastRec; rw [if_neg h2, if_pos hp]
    exact no 4 (by rw [e0, hl]) (by decide) (end_nil k s o w H hk (fun w H => last_no k w H hk6 hp))
  · have hp0 := hp
    obtain ⟨p, hp⟩ := Nat.exists_eq_succ_of_ne_zero hp
    have hple := place_le k rs
    have hpl : p < rs.length := by omega
    have hl : lastRec k rs = some rs[p] := by unfold lastRec; rw [if_neg h2, if_neg hp0, hp]; simp [hpl]
    by_cases hq : rs[p].seq = s ∧ rs[p].to < 0
    · have e1 : endE rs k s o = 0 := by rw [e0, hl]; exact if_pos hq
      refine (end_ok k s o w H he hk6 hk p hp hpl hq.1 hq.2).mono ?_
      rintro e w' ⟨rfl, h3, u⟩
      refine ⟨v, by rw [e1], ?_, u⟩
      unfold endR endN
      rw [e1, if_pos rfl, if_pos rfl, hl, hp]
      exact h3
    · refine no 4 (by rw [e0, hl]; exact if_neg hq) (by decide) (end_no k s o w H hk6 hk p hp hpl ?_)
      by_cases hs : rs[p].seq = s
      · right; have : ¬ rs[p].to < 0 := fun h => hq ⟨hs, h⟩
        omega
      · exact .inl hs
theorem new_ok (w : World) : Calls Try.prog 9 #[] w fun e w' => e = .returned (.pointer (some ⟨w.heap.size, 0, none⟩)) ∧ Hist w' w.heap.size w.heap.size (.slice none 0 0) [] 0 ∧ Upd w w' [] := by
  go_enter Try.func9, Try.ntmps9
  go_wp2
  go_ret
  exact ⟨rfl, ⟨Nat.le_refl _, Blk.new w 53 _, RowOf.nil _ _ _ _⟩, (Upd.refl _ _).alloc _⟩
end Go.Proofs.Ytfnddooclgklmaa
