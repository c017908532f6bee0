/- The walk of the document's reads: Expire. (Printed by gen18exp.py.) -/
import Derived.Test.YtdnablmlkkkdhaaRefSure
import Derived.Lib.Hide
namespace Go.Proofs.Ytdnablmlkkkdhaa
open Go.RowKit
set_option linter.unusedVariables false
attribute [-go_sem] loadVar storeVar Instr.build Instr.buildSlice
attribute [local go_sem] loadVar_else storeVar_else run_load33 run_load35 run_load42 run_load44 run_load49 run_load72 run_store35 run_store42 run_store44 run_store49 aggAt_drew aggAt_drewN aggRoom_drew aggRoom_drewN run_build72 run_one56
variable {q : Nat} {v : Value} {cap n : Nat} {L : List Rd}
def RExpire (w : World) (q cap n : Nat) (L : List Rd) (now : Int) (e : Ending) (w' : World) : Prop :=
  ∃ (v1 v2 : Value), e = .returned v1 ∧ RowAt w' 72 34 v1 (rdCells (L.filter (fun x => !expireP now x))) ∧ Doc w' q v2 cap n (L.filter (expireP now)) ∧ Upd w w' [q]
theorem rexpire_end {w w' : World} (H : Doc w q v cap n L) {v1 v2 : Value} {b : Nat} {now : Int} (u : Upd w w' []) (hT : Two w' b 72 v1 v2 (L.filter (fun x => !expireP now x)) (L.filter (expireP now))) : RExpire w q cap n L now (.returned v1) (w'.setCell ⟨q, 1, none⟩ v2) := by
  have H' := H.upd0 u
  have k : Upd w' (w'.setCell ⟨q, 1, none⟩ v2) [q] := (Upd.refl _ _).setCell (p := ⟨q, 1, none⟩) (by simp) _
  exact ⟨v1, v2, rfl, (hT.rk.upd k (hT.rk.ne H'.head (by decide))).at_ (by decide), ⟨H'.head.set_ 1 _, (hT.rg.upd k (hT.rg.ne H'.head (by decide))).at_ (by decide), fun x hx => H.ok x (List.mem_filter.1 hx).1⟩, (u.mono (S' := [q]) (by simp)).trans k (fun i h _ => h)⟩
set_option maxHeartbeats 4000000 in
theorem rexpire_ok (now : Int) (w : World) (H : Doc w q v cap n L) (h16 : L.length ≤ 16) : Calls Try.prog 17 #[.pointer (some ⟨q, 0, none⟩), .int .i64 now] w (RExpire w q cap n L now) := by
  obtain ⟨i0, hi0, hz0, hz1, hz2⟩ := info_parts info72
  have hrow := hide H.row
  obtain ⟨ga, c, hv, hlc, hcm, hgn, hga⟩ := H.form
  have a1 := hide H.a1
  have f1 := hide H.head
  have HX := hide H.ok
  have hE := hide (fun (w' : World) (v1 v2 : Value) (b : Nat) (u : Upd w w' []) (hT : Two w' b 72 v1 v2 (L.filter (fun x => !expireP now x)) (L.filter (expireP now))) => rexpire_end H u hT)
  rw [hv] at a1 hrow
  clear H hv hgn hcm
  replace hga := hide hga
  go_enter Try.func17, Try.ntmps17
  go_wp2_with fail
  go_loopw [5, 6, 7] (fun vo vs vi wr => ∃ i : Nat, i ≤ L.length ∧ vi = .int .i64 i ∧ Two wr w.heap.size 72 vo vs ((L.take i).filter (fun x => !expireP now x)) ((L.take i).filter (expireP now)) ∧ Upd w wr []) (fun _ _ vi _ => L.length - (intOf vi).toNat)
  case atStart => exact ⟨0, by omega, rfl, by simpa using Two.nil w w.heap.size 72, Upd.refl _ _⟩
  case round =>
    obtain ⟨i, hi, rfl, hT, hu⟩ := hrel
    have b1 := cell_upd a1.out hu (by simp)
    have fk := filter_take_le (fun x => !expireP now x) L i
    have fg := filter_take_le (expireP now) L i
    by_cases hlt : i < L.length
    · obtain ⟨g, off, rfl, _⟩ := hga.out (by omega)
      have hxo : (L[i]).ok := HX.out _ (List.getElem_mem hlt)
      have A := (hrow.out.upd hu (OffT.nil _ _)).rd i hlt
      have h34 := (L[i]).size hxo
      have A7 := aggAt_cell A 7 (by decide)
      rw [show (7 : Nat) = 1 + 6 from rfl, Rd.atF hxo 6 (by decide), hxo.c6] at A7
      have A7 : wr.cell? ⟨g, off + i * 34 + 7, none⟩ = some (.int .i64 (L[i]).d.dl) := A7
      have ONE := hide (fun (u : Value) (hu : u ∈ (L[i]).cells.toList) => (L[i]).one hxo u (by rw [Array.mem_toList_iff] at hu; exact hu))
      have hii : (i : Int) < L.length := by omega
      obtain ⟨Kx, eKx⟩ : ∃ Kx, (L[i]).cells = Kx := ⟨_, rfl⟩
      have hKx : Hid ((L[i]).cells = Kx) := Lib.hid eKx
      rw [eKx] at A h34 ONE
      clear eKx
      have T1a := hide (hT.upd0 ((Upd.refl wr []).alloc (.cells Kx 72)))
      have hbs := hide (show w.heap.size ≤ (wr.alloc (.cells Kx 72)).heap.size from (hu.alloc _).size)
      replace hu := hide hu
      replace hT := hide hT
      cases hp : expireP now L[i] with
      | true =>
        have hlt2 : ¬ (L[i]).d.dl < now := by simpa [expireP] using hp
        replace hp := hide hp
        generalize (L[i]).d.dl = z at *
        have OW := T1a.out.swap.rk.own
        rw [rdCells_len] at OW
        replace OW := hide OW
        go_wp2_with (at_builtin; refine wpList_append_lies _ rfl (.tmp 38) (.tmp 46) 56 rfl w.heap.size 72 i0 (.agg zeroRd) 34 336 Try.underlying56 hi0 hz0 hz1 hz2 rfl (by decide) u6 ((L.take i).filter (expireP now)).length (flat (rdCells ((L.take i).filter (expireP now)))) rfl OW.out ⟨wr.heap.size, 0, none⟩ 1 1 Kx.toList rfl (by simp [h34]) (news_at (Blk.new wr 72 Kx)) ONE.out (by decide) (by unfold maxLen; omega) (by omega) hbs.out _ rfl ?_; intro g1 c1 w4 hown hgr hat hlt3; have T4k := T1a.out.swap.push (x := L[i]) (HX.out _ (List.getElem_mem hlt)) (by rw [hKx.out]; exact hown) hgr hat; have T4 := hide T4k.1; have U4 := hide ((hu.out.alloc (.cells Kx 72)).trans T4k.2 (fun g hg hl => by have := T1a.out.swap.rk.ge g hg; omega)); clear hown hgr hat OW T4k)
        go_roundw
        case rel => exact ⟨i + 1, by omega, by go_num, by rw [filter_take_no (fun x => !expireP now x) L i hlt (by show (!expireP now L[i]) = _; rw [hp.out]; rfl), filter_take_yes (expireP now) L i hlt hp.out]; exact T4.out.swap, U4.out⟩
        case measure => simp [intOf]; omega
      | false =>
        have hlt2 : (L[i]).d.dl < now := by simpa [expireP] using hp
        replace hp := hide hp
        generalize (L[i]).d.dl = z at *
        have OW := T1a.out.rk.own
        rw [rdCells_len] at OW
        replace OW := hide OW
        go_wp2_with (at_builtin; refine wpList_append_lies _ rfl (.tmp 28) (.tmp 36) 56 rfl w.heap.size 72 i0 (.agg zeroRd) 34 336 Try.underlying56 hi0 hz0 hz1 hz2 rfl (by decide) u5 ((L.take i).filter (fun x => !expireP now x)).length (flat (rdCells ((L.take i).filter (fun x => !expireP now x)))) rfl OW.out ⟨wr.heap.size, 0, none⟩ 1 1 Kx.toList rfl (by simp [h34]) (news_at (Blk.new wr 72 Kx)) ONE.out (by decide) (by unfold maxLen; omega) (by omega) hbs.out _ rfl ?_; intro g1 c1 w4 hown hgr hat hlt3; have T4k := T1a.out.push (x := L[i]) (HX.out _ (List.getElem_mem hlt)) (by rw [hKx.out]; exact hown) hgr hat; have T4 := hide T4k.1; have U4 := hide ((hu.out.alloc (.cells Kx 72)).trans T4k.2 (fun g hg hl => by have := T1a.out.rk.ge g hg; omega)); clear hown hgr hat OW T4k)
        go_roundw
        case rel => exact ⟨i + 1, by omega, by go_num, by rw [filter_take_yes (fun x => !expireP now x) L i hlt (by show (!expireP now L[i]) = _; rw [hp.out]; rfl), filter_take_no (expireP now) L i hlt hp.out]; exact T4.out, U4.out⟩
        case measure => simp [intOf]; omega
    · obtain rfl : i = L.length := by omega
      rw [List.take_length] at hT
      have F := hide (hE.out _ _ _ _ hu hT)
      have f2 := (hu.blk f1.out (by simp)).frozen 1
      obtain ⟨xa, xn, rfl, _⟩ := hT.rg.form
      clear hT hu
      go_wp2_with fail
      go_ret
      exact F.out
end Go.Proofs.Ytdnablmlkkkdhaa
