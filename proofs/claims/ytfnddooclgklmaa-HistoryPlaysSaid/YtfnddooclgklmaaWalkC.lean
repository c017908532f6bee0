/- The walks of the layer history: Records. -/
import Derived.Test.YtfnddooclgklmaaWalkB
import Derived.Laws.AppendOwnNone
namespace Go.Proofs.Ytfnddooclgklmaa
open Go.RowKit
set_option linter.unusedVariables false
attribute [-go_sem] loadVar storeVar
attribute [local go_sem] loadVar_else storeVar_else run_load29 run_load33 run_load35 run_load48 run_load49 run_load61 run_store29 run_store33 run_store35 run_store48 run_store49 aggAt_drew aggAt_drewN aggRoom_drew aggRoom_drewN
variable {base h : Nat} {v : Value} {rs : List Rec} {ev : Nat}
def zeroRec : Array Value := #[.int .i64 0, .int .i64 0, .int .i64 0, .string ⟨#[]⟩, .string ⟨#[]⟩, .int .i64 0, .int .i64 0, .int .i64 0, .int .i64 0, .int .i64 0, .int .i64 0, .string ⟨#[]⟩, .int .i64 0, .int .i64 0]
theorem info49 : (Try.prog.info? 49).map (fun i => (i.zero, i.size, i.bytes)) = some (some (.agg zeroRec), 14, 136) := by kernel_rfl
theorem records_ok (w : World) (H : Hist w base h v rs ev) (hn : rs.length ≤ 1000) :
    Calls Try.prog 14 #[.pointer (some ⟨h, 0, none⟩)] w fun e w' => ∃ v', e = .returned v' ∧ RowOf w' w.heap.size 49 14 v' (recCells rs) ∧ Upd w w' [] := by
  obtain ⟨i0, hi0, hz0, hz1, hz2⟩ := info_parts info49
  have h0 := H.c0
  have h1 := H.c1
  rcases H.slice with ⟨rfl, rfl⟩ | ⟨g, cap, rfl, hg, hgh, hgl⟩
  · clear H
    go_enter Try.func14, Try.ntmps14
    go_wp2_with fail
    refine (none_no h w h0).mono ?_
    rintro e w' ⟨rfl, rfl⟩
    go_wp2_with (at_builtin; refine wpList_append_own_none rfl (.const (.slice none 0 0)) (.tmp 8) 42 rfl w.heap.size 49 i0 14 Try.underlying42 hi0 (.slice none 0 0) 0 [] rfl (World.ownsRow_nil w _ _ _) rfl ?_)
    go_ret
    exact ⟨_, rfl, RowOf.nil _ _ _ _, Upd.refl _ _⟩
  · have hs := hide H.row.src
    have h2 := hide H.row.flat_one
    have hl := hide (flat_length (n := 14) _ H.row.sizes)
    have s1 := hide H.row.sizes
    have s2 := hide H.row.ones
    clear H
    go_enter Try.func14, Try.ntmps14
    go_wp2_with fail
    refine (none_no h w h0).mono ?_
    rintro e w' ⟨rfl, rfl⟩
    go_wp2_with (at_builtin; refine wpList_append_own _ rfl (.const (.slice none 0 0)) (.tmp 8) 42 rfl w.heap.size 49 i0 (.agg zeroRec) 14 136 Try.underlying42 hi0 hz0 hz1 hz2 rfl (by decide) (.slice none 0 0) 0 [] rfl (World.ownsRow_nil w _ _ _) ⟨g, 0, none⟩ rs.length cap (flat (recCells rs)) rfl (by rw [hl.out, recCells_len]) hs.out h2.out (by unfold maxLen; omega) (by omega) (Nat.le_refl _) ?_; intro v1 w1 hown hgr hnil)
    rw [Nat.zero_add, List.nil_append] at hown
    have K := hide (RowOf.mk s1.out s2.out (by rw [recCells_len]; exact hown))
    have U := hide (Upd.of_grown (S := []) hgr (by simp [Value.ownBlock]))
    clear hown hgr hnil
    go_wp2_with fail
    go_ret
    exact ⟨_, rfl, K.out, U.out⟩
end Go.Proofs.Ytfnddooclgklmaa
