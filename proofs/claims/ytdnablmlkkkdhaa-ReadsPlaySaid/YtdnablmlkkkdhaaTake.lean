/- The walks of the layer reads: take, for each function that is handed to it; Flush, Sure, Expire. (Printed by gen18take.py.) -/
import Derived.Test.YtdnablmlkkkdhaaTwo
import Derived.OwnWalk
import Derived.Lib.Hide
import Derived.Deep.CutRange
namespace Go.Proofs.Ytdnablmlkkkdhaa
open Go.RowKit
set_option linter.unusedVariables false
attribute [-go_sem] loadVar storeVar Instr.build Instr.buildSlice
attribute [local go_sem] loadVar_else storeVar_else run_load33 run_load35 run_load42 run_load44 run_load49 run_load72 run_store35 run_store42 run_store44 run_store49 aggAt_drew aggAt_drewN aggRoom_drew aggRoom_drewN run_build49 run_one30
variable {base r : Nat} {v : Value} {cap last : Nat} {L : List Rd}
def sureP (n : Int) (x : Rd) : Bool := decide (n < x.id)
def expireP (n : Int) (x : Rd) : Bool := decide (n ≤ x.d.dl)
def flushP (x : Rd) : Bool := false
theorem cl25 (x : Rd) (w : World) (hx : x.ok) : Calls Try.prog 25 #[.agg x.cells] w fun e w' => e = .returned (.bool (flushP x)) ∧ Upd w w' [] := by
  have U := hide ((Upd.refl w []).alloc (.cells x.cells 49))
  have h34 := x.size hx
  generalize x.cells = K at *
  clear hx
  go_enter Try.func25, Try.ntmps25
  go_wp2_with fail
  go_ret
  exact ⟨rfl, U.out⟩
theorem cl26 (c : Nat) (n : Int) (x : Rd) (w : World) (hx : x.ok) (hc : w.cell? ⟨c, 0, none⟩ = some (.int .i64 n)) : Calls Try.prog 26 #[.agg x.cells, .pointer (some ⟨c, 0, none⟩)] w fun e w' => e = .returned (.bool (sureP n x)) ∧ Upd w w' [] := by
  have U := hide ((Upd.refl w []).alloc (.cells x.cells 49))
  have h34 := x.size hx
  have h0 : (w.alloc (.cells x.cells 49)).cell? ⟨w.heap.size, 0, none⟩ = some (.int .i64 x.id) := by rw [(Blk.new w 49 x.cells).cell]; exact x.at0
  have hc' := cell_upd hc U.out (by simp)
  unfold sureP
  generalize x.cells = K at *
  generalize x.id = z at *
  clear hx hc
  go_enter Try.func26, Try.ntmps26
  go_wp2_with fail
  go_ret
  exact ⟨rfl, U.out⟩
theorem cl27 (c : Nat) (n : Int) (x : Rd) (w : World) (hx : x.ok) (hc : w.cell? ⟨c, 0, none⟩ = some (.int .i64 n)) : Calls Try.prog 27 #[.agg x.cells, .pointer (some ⟨c, 0, none⟩)] w fun e w' => e = .returned (.bool (expireP n x)) ∧ Upd w w' [] := by
  have U := hide ((Upd.refl w []).alloc (.cells x.cells 49))
  have h34 := x.size hx
  have h0 : (w.alloc (.cells x.cells 49)).cell? ⟨w.heap.size, 7, none⟩ = some (.int .i64 x.d.dl) := by rw [(Blk.new w 49 x.cells).cell]; exact (Rd.atF hx 6 (by decide)).trans hx.c6
  have hc' := cell_upd hc U.out (by simp)
  unfold expireP
  generalize x.cells = K at *
  generalize x.d.dl = z at *
  clear hx hc
  go_enter Try.func27, Try.ntmps27
  go_wp2_with fail
  go_ret
  exact ⟨rfl, U.out⟩


set_option maxHeartbeats 4000000 in
theorem take25 (w : World) (H : Rds w base r v cap last L) (hb : base ≤ w.heap.size) :
    Calls Try.prog 24 #[.pointer (some ⟨r, 0, none⟩), .func (.func 25) #[] #[]] w fun e w' => ∃ vg vk, e = .returned vg ∧ RowOf w' w.heap.size 49 34 vg (rdCells (L.filter (fun x => !flushP x))) ∧ Rds w' base r vk cap last (L.filter flushP) ∧ (∀ g ∈ blkOf vk, g ∉ blkOf vg) ∧ Upd w w' [r] := by
  obtain ⟨i0, hi0, hz0, hz1, hz2⟩ := info_parts info49
  have N := hide (none_no r cap w H.a0 H.c0)
  obtain ⟨ga, cc, hv, hga⟩ := H.form
  have a2 := H.a2
  rw [hv] at a2
  have hrow := H.row
  rw [hv] at hrow
  have HX := hide H.ok
  have hlen : L.length ≤ 16 := Nat.le_trans H.few H.c1
  have C := hide (fun (W : World) (x : Rd) (hx : x.ok) (u : Upd w W []) => cl25 x W hx)
  replace hrow := hide hrow
  replace hga := hide hga
  replace hv := hide hv
  have HH := hide H
  clear H
  go_enter Try.func24, Try.ntmps24
  go_wp2_with fail
  refine N.out.mono ?_
  rintro e w' ⟨rfl, rfl⟩
  clear N
  go_wp2_with fail
  go_loopw [5, 6, 16] (fun vk vg vi wr => ∃ i : Nat, i ≤ L.length ∧ vi = .int .i64 i ∧ Two wr w.heap.size 49 vk vg ((L.take i).filter flushP) ((L.take i).filter (fun x => !flushP x)) ∧ Upd w wr []) (fun _ _ vi _ => L.length - (intOf vi).toNat)
  case atStart => exact ⟨0, by omega, rfl, by simpa using Two.nil w w.heap.size 49, Upd.refl _ _⟩
  case round =>
    obtain ⟨i, hi, rfl, hT, hu⟩ := hrel
    have fk := filter_take_le flushP L i
    have fg := filter_take_le (fun x => !flushP x) L i
    by_cases hlt : i < L.length
    · obtain ⟨g, rfl⟩ := hga.out (by omega)
      have A := (hrow.out.upd hu (by simp)).rd i hlt
      have h34 := (L[i]).size (HX.out _ (List.getElem_mem hlt))
      have ONE := hide (fun (u : Value) (hu : u ∈ (L[i]).cells.toList) => (L[i]).one (HX.out _ (List.getElem_mem hlt)) u (by rw [Array.mem_toList_iff] at hu; exact hu))
      have hall := (L[i]).all (HX.out _ (List.getElem_mem hlt))
      have b0 := Blk.new wr 49 zeroRd
      have r0 := b0.aggRoom 0 (n := 34) (by decide) h34 hall
      have b1 := b0.laid (cs' := (L[i]).cells) (by rw [h34]; rfl)
      have d1 := Upd.setCells (b := wr.heap.size) (S := []) (by simp) (L[i]).cells.toList 0 ((Upd.refl wr []).alloc (.cells zeroRd 49))
      have T1 := hide (hT.upd0 d1)
      have U2 := hide (hu.trans d1 (by simp))
      have CC := hide (C.out _ L[i] (HX.out _ (List.getElem_mem hlt)) U2.out)
      have K1 := hide (b1.agg0 h34)
      have hbs := hide (show w.heap.size ≤ (((wr.alloc (.cells zeroRd 49)).setCells wr.heap.size 0 (L[i]).cells.toList).alloc (.cells (L[i]).cells 49)).heap.size from (U2.out.alloc _).size)
      have hii : (i : Int) < L.length := by omega
      clear hT hu b0 b1 d1
      unfold zeroRd at r0 T1 U2 CC K1 hbs
      obtain ⟨Kx, eKx⟩ : ∃ Kx, (L[i]).cells = Kx := ⟨_, rfl⟩
      have hKx : Hid ((L[i]).cells = Kx) := Lib.hid eKx
      rw [eKx] at A h34 ONE hall r0 T1 U2 CC K1 hbs
      clear eKx
      go_upto_region 7 with fail
      generalize (wr.alloc (.cells #[.int .i64 0, .int .i64 0, .int .i64 0, .int .i64 0, .int .i64 0, .int .i64 0, .int .i64 0, .int .i64 0, .int .i64 0, .string ⟨#[]⟩, .string ⟨#[]⟩, .int .i64 0, .int .i64 0, .string ⟨#[]⟩, .int .i64 0, .int .i64 0, .int .i64 0, .int .i64 0, .int .i64 0, .int .i64 0, .int .i64 0, .string ⟨#[]⟩, .string ⟨#[]⟩, .int .i64 0, .int .i64 0, .slice none 0 0, .int .i64 0, .int .i64 0, .int .i64 0, .int .i64 0, .int .i64 0, .string ⟨#[]⟩, .int .i64 0, .int .i64 0] 49)).setCells wr.heap.size 0 Kx.toList = w2 at *
      have K2 := K1.out
      clear A r0
      generalize wr.heap.size = xb at *
      go_wp2_with fail
      refine CC.out.mono ?_
      rintro e w3 ⟨rfl, u3⟩
      have T2 := hide (T1.out.upd0 u3)
      have U3 := hide (U2.out.trans u3 (by simp))
      have K3 := aggAt_upd (by decide) K1.out u3 (by simp)
      have hbs3 := hide (show w.heap.size ≤ (w3.alloc (.cells Kx 49)).heap.size from (U3.out.alloc _).size)
      have T2a := hide (T2.out.upd0 ((Upd.refl w3 []).alloc (.cells Kx 49)))
      clear T1 U2 CC K1 K2 u3 hbs
      have hp := hide (show flushP L[i] = false from rfl)
      have OW := T2a.out.swap.rk.own
      rw [rdCells_len] at OW
      replace OW := hide OW
      go_wp2_with (at_builtin; refine wpList_append_lies _ rfl (.tmp 27) (.tmp 29) 30 rfl w.heap.size 49 i0 (.agg zeroRd) 34 336 Try.underlying30 hi0 hz0 hz1 hz2 rfl (by decide) u6 ((L.take i).filter (fun x => !flushP x)).length (flat (rdCells ((L.take i).filter (fun x => !flushP x)))) rfl OW.out ⟨w3.heap.size, 0, none⟩ 1 1 Kx.toList rfl (by simp [h34]) (news_at (Blk.new w3 49 Kx)) ONE.out (by decide) (by unfold maxLen; omega) (by omega) hbs3.out _ rfl ?_; intro g1 c1 w4 hown hgr hat hlt3; have T4k := T2a.out.swap.push (x := L[i]) (HX.out _ (List.getElem_mem hlt)) (by rw [hKx.out]; exact hown) hgr hat; have T4 := hide T4k.1; have U4 := hide ((U3.out.alloc (.cells Kx 49)).trans T4k.2 (fun g hg hl => by have := T2a.out.swap.rk.ge g hg; omega)); clear hown hgr hat OW T4k)
      go_roundw
      case rel => exact ⟨i + 1, by omega, by go_num, by rw [filter_take_no flushP L i hlt hp.out, filter_take_yes (fun x => !flushP x) L i hlt (by show (!flushP L[i]) = _; rw [hp.out]; rfl)]; exact T4.out.swap, U4.out⟩
      case measure => simp [intOf]; omega
    · obtain rfl : i = L.length := by omega
      rw [List.take_length] at hT
      have R2 := hide (HH.out.upd0 hu)
      have e2 := R2.out.head.frozen 2
      have e3 := R2.out.a2
      rw [hv.out] at e3
      have hT2 := hide hT
      have hu2 := hide hu
      obtain ⟨xa, xn, rfl, xs⟩ := hT.rk.form
      clear hT hu
      go_wp2_with fail
      go_ret
      exact ⟨_, _, rfl, take_end R2.out hT2.out hb hu2.out⟩


set_option maxHeartbeats 4000000 in
theorem take26 (c : Nat) (n : Int) (w : World) (H : Rds w base r v cap last L) (hb : base ≤ w.heap.size) (hc : w.cell? ⟨c, 0, none⟩ = some (.int .i64 n)) :
    Calls Try.prog 24 #[.pointer (some ⟨r, 0, none⟩), .func (.func 26) #[] #[.pointer (some ⟨c, 0, none⟩)]] w fun e w' => ∃ vg vk, e = .returned vg ∧ RowOf w' w.heap.size 49 34 vg (rdCells (L.filter (fun x => !sureP n x))) ∧ Rds w' base r vk cap last (L.filter (sureP n)) ∧ (∀ g ∈ blkOf vk, g ∉ blkOf vg) ∧ Upd w w' [r] := by
  obtain ⟨i0, hi0, hz0, hz1, hz2⟩ := info_parts info49
  have N := hide (none_no r cap w H.a0 H.c0)
  obtain ⟨ga, cc, hv, hga⟩ := H.form
  have a2 := H.a2
  rw [hv] at a2
  have hrow := H.row
  rw [hv] at hrow
  have HX := hide H.ok
  have hlen : L.length ≤ 16 := Nat.le_trans H.few H.c1
  have C := hide (fun (W : World) (x : Rd) (hx : x.ok) (u : Upd w W []) => cl26 c n x W hx (cell_upd hc u (by simp)))
  replace hrow := hide hrow
  replace hga := hide hga
  replace hv := hide hv
  have HH := hide H
  clear H hc
  go_enter Try.func24, Try.ntmps24
  go_wp2_with fail
  refine N.out.mono ?_
  rintro e w' ⟨rfl, rfl⟩
  clear N
  go_wp2_with fail
  go_loopw [5, 6, 16] (fun vk vg vi wr => ∃ i : Nat, i ≤ L.length ∧ vi = .int .i64 i ∧ Two wr w.heap.size 49 vk vg ((L.take i).filter (sureP n)) ((L.take i).filter (fun x => !sureP n x)) ∧ Upd w wr []) (fun _ _ vi _ => L.length - (intOf vi).toNat)
  case atStart => exact ⟨0, by omega, rfl, by simpa using Two.nil w w.heap.size 49, Upd.refl _ _⟩
  case round =>
    obtain ⟨i, hi, rfl, hT, hu⟩ := hrel
    have fk := filter_take_le (sureP n) L i
    have fg := filter_take_le (fun x => !sureP n x) L i
    by_cases hlt : i < L.length
    · obtain ⟨g, rfl⟩ := hga.out (by omega)
      have A := (hrow.out.upd hu (by simp)).rd i hlt
      have h34 := (L[i]).size (HX.out _ (List.getElem_mem hlt))
      have ONE := hide (fun (u : Value) (hu : u ∈ (L[i]).cells.toList) => (L[i]).one (HX.out _ (List.getElem_mem hlt)) u (by rw [Array.mem_toList_iff] at hu; exact hu))
      have hall := (L[i]).all (HX.out _ (List.getElem_mem hlt))
      have b0 := Blk.new wr 49 zeroRd
      have r0 := b0.aggRoom 0 (n := 34) (by decide) h34 hall
      have b1 := b0.laid (cs' := (L[i]).cells) (by rw [h34]; rfl)
      have d1 := Upd.setCells (b := wr.heap.size) (S := []) (by simp) (L[i]).cells.toList 0 ((Upd.refl wr []).alloc (.cells zeroRd 49))
      have T1 := hide (hT.upd0 d1)
      have U2 := hide (hu.trans d1 (by simp))
      have CC := hide (C.out _ L[i] (HX.out _ (List.getElem_mem hlt)) U2.out)
      have K1 := hide (b1.agg0 h34)
      have hbs := hide (show w.heap.size ≤ (((wr.alloc (.cells zeroRd 49)).setCells wr.heap.size 0 (L[i]).cells.toList).alloc (.cells (L[i]).cells 49)).heap.size from (U2.out.alloc _).size)
      have hii : (i : Int) < L.length := by omega
      clear hT hu b0 b1 d1
      unfold zeroRd at r0 T1 U2 CC K1 hbs
      obtain ⟨Kx, eKx⟩ : ∃ Kx, (L[i]).cells = Kx := ⟨_, rfl⟩
      have hKx : Hid ((L[i]).cells = Kx) := Lib.hid eKx
      rw [eKx] at A h34 ONE hall r0 T1 U2 CC K1 hbs
      clear eKx
      go_upto_region 7 with fail
      generalize (wr.alloc (.cells #[.int .i64 0, .int .i64 0, .int .i64 0, .int .i64 0, .int .i64 0, .int .i64 0, .int .i64 0, .int .i64 0, .int .i64 0, .string ⟨#[]⟩, .string ⟨#[]⟩, .int .i64 0, .int .i64 0, .string ⟨#[]⟩, .int .i64 0, .int .i64 0, .int .i64 0, .int .i64 0, .int .i64 0, .int .i64 0, .int .i64 0, .string ⟨#[]⟩, .string ⟨#[]⟩, .int .i64 0, .int .i64 0, .slice none 0 0, .int .i64 0, .int .i64 0, .int .i64 0, .int .i64 0, .int .i64 0, .string ⟨#[]⟩, .int .i64 0, .int .i64 0] 49)).setCells wr.heap.size 0 Kx.toList = w2 at *
      have K2 := K1.out
      clear A r0
      generalize wr.heap.size = xb at *
      go_wp2_with fail
      refine CC.out.mono ?_
      rintro e w3 ⟨rfl, u3⟩
      have T2 := hide (T1.out.upd0 u3)
      have U3 := hide (U2.out.trans u3 (by simp))
      have K3 := aggAt_upd (by decide) K1.out u3 (by simp)
      have hbs3 := hide (show w.heap.size ≤ (w3.alloc (.cells Kx 49)).heap.size from (U3.out.alloc _).size)
      have T2a := hide (T2.out.upd0 ((Upd.refl w3 []).alloc (.cells Kx 49)))
      clear T1 U2 CC K1 K2 u3 hbs
      cases hp : sureP n L[i] with
      | true =>
        replace hp := hide hp
        have OW := T2a.out.rk.own
        rw [rdCells_len] at OW
        replace OW := hide OW
        go_wp2_with (at_builtin; refine wpList_append_lies _ rfl (.tmp 23) (.tmp 25) 30 rfl w.heap.size 49 i0 (.agg zeroRd) 34 336 Try.underlying30 hi0 hz0 hz1 hz2 rfl (by decide) u5 ((L.take i).filter (sureP n)).length (flat (rdCells ((L.take i).filter (sureP n)))) rfl OW.out ⟨w3.heap.size, 0, none⟩ 1 1 Kx.toList rfl (by simp [h34]) (news_at (Blk.new w3 49 Kx)) ONE.out (by decide) (by unfold maxLen; omega) (by omega) hbs3.out _ rfl ?_; intro g1 c1 w4 hown hgr hat hlt3; have T4k := T2a.out.push (x := L[i]) (HX.out _ (List.getElem_mem hlt)) (by rw [hKx.out]; exact hown) hgr hat; have T4 := hide T4k.1; have U4 := hide ((U3.out.alloc (.cells Kx 49)).trans T4k.2 (fun g hg hl => by have := T2a.out.rk.ge g hg; omega)); clear hown hgr hat OW T4k)
        go_roundw
        case rel => exact ⟨i + 1, by omega, by go_num, by rw [filter_take_yes (sureP n) L i hlt hp.out, filter_take_no (fun x => !sureP n x) L i hlt (by show (!sureP n L[i]) = _; rw [hp.out]; rfl)]; exact T4.out, U4.out⟩
        case measure => simp [intOf]; omega
      | false =>
        replace hp := hide hp
        have OW := T2a.out.swap.rk.own
        rw [rdCells_len] at OW
        replace OW := hide OW
        go_wp2_with (at_builtin; refine wpList_append_lies _ rfl (.tmp 27) (.tmp 29) 30 rfl w.heap.size 49 i0 (.agg zeroRd) 34 336 Try.underlying30 hi0 hz0 hz1 hz2 rfl (by decide) u6 ((L.take i).filter (fun x => !sureP n x)).length (flat (rdCells ((L.take i).filter (fun x => !sureP n x)))) rfl OW.out ⟨w3.heap.size, 0, none⟩ 1 1 Kx.toList rfl (by simp [h34]) (news_at (Blk.new w3 49 Kx)) ONE.out (by decide) (by unfold maxLen; omega) (by omega) hbs3.out _ rfl ?_; intro g1 c1 w4 hown hgr hat hlt3; have T4k := T2a.out.swap.push (x := L[i]) (HX.out _ (List.getElem_mem hlt)) (by rw [hKx.out]; exact hown) hgr hat; have T4 := hide T4k.1; have U4 := hide ((U3.out.alloc (.cells Kx 49)).trans T4k.2 (fun g hg hl => by have := T2a.out.swap.rk.ge g hg; omega)); clear hown hgr hat OW T4k)
        go_roundw
        case rel => exact ⟨i + 1, by omega, by go_num, by rw [filter_take_no (sureP n) L i hlt hp.out, filter_take_yes (fun x => !sureP n x) L i hlt (by show (!sureP n L[i]) = _; rw [hp.out]; rfl)]; exact T4.out.swap, U4.out⟩
        case measure => simp [intOf]; omega
    · obtain rfl : i = L.length := by omega
      rw [List.take_length] at hT
      have R2 := hide (HH.out.upd0 hu)
      have e2 := R2.out.head.frozen 2
      have e3 := R2.out.a2
      rw [hv.out] at e3
      have hT2 := hide hT
      have hu2 := hide hu
      obtain ⟨xa, xn, rfl, xs⟩ := hT.rk.form
      clear hT hu
      go_wp2_with fail
      go_ret
      exact ⟨_, _, rfl, take_end R2.out hT2.out hb hu2.out⟩


set_option maxHeartbeats 4000000 in
theorem take27 (c : Nat) (n : Int) (w : World) (H : Rds w base r v cap last L) (hb : base ≤ w.heap.size) (hc : w.cell? ⟨c, 0, none⟩ = some (.int .i64 n)) :
    Calls Try.prog 24 #[.pointer (some ⟨r, 0, none⟩), .func (.func 27) #[] #[.pointer (some ⟨c, 0, none⟩)]] w fun e w' => ∃ vg vk, e = .returned vg ∧ RowOf w' w.heap.size 49 34 vg (rdCells (L.filter (fun x => !expireP n x))) ∧ Rds w' base r vk cap last (L.filter (expireP n)) ∧ (∀ g ∈ blkOf vk, g ∉ blkOf vg) ∧ Upd w w' [r] := by
  obtain ⟨i0, hi0, hz0, hz1, hz2⟩ := info_parts info49
  have N := hide (none_no r cap w H.a0 H.c0)
  obtain ⟨ga, cc, hv, hga⟩ := H.form
  have a2 := H.a2
  rw [hv] at a2
  have hrow := H.row
  rw [hv] at hrow
  have HX := hide H.ok
  have hlen : L.length ≤ 16 := Nat.le_trans H.few H.c1
  have C := hide (fun (W : World) (x : Rd) (hx : x.ok) (u : Upd w W []) => cl27 c n x W hx (cell_upd hc u (by simp)))
  replace hrow := hide hrow
  replace hga := hide hga
  replace hv := hide hv
  have HH := hide H
  clear H hc
  go_enter Try.func24, Try.ntmps24
  go_wp2_with fail
  refine N.out.mono ?_
  rintro e w' ⟨rfl, rfl⟩
  clear N
  go_wp2_with fail
  go_loopw [5, 6, 16] (fun vk vg vi wr => ∃ i : Nat, i ≤ L.length ∧ vi = .int .i64 i ∧ Two wr w.heap.size 49 vk vg ((L.take i).filter (expireP n)) ((L.take i).filter (fun x => !expireP n x)) ∧ Upd w wr []) (fun _ _ vi _ => L.length - (intOf vi).toNat)
  case atStart => exact ⟨0, by omega, rfl, by simpa using Two.nil w w.heap.size 49, Upd.refl _ _⟩
  case round =>
    obtain ⟨i, hi, rfl, hT, hu⟩ := hrel
    have fk := filter_take_le (expireP n) L i
    have fg := filter_take_le (fun x => !expireP n x) L i
    by_cases hlt : i < L.length
    · obtain ⟨g, rfl⟩ := hga.out (by omega)
      have A := (hrow.out.upd hu (by simp)).rd i hlt
      have h34 := (L[i]).size (HX.out _ (List.getElem_mem hlt))
      have ONE := hide (fun (u : Value) (hu : u ∈ (L[i]).cells.toList) => (L[i]).one (HX.out _ (List.getElem_mem hlt)) u (by rw [Array.mem_toList_iff] at hu; exact hu))
      have hall := (L[i]).all (HX.out _ (List.getElem_mem hlt))
      have b0 := Blk.new wr 49 zeroRd
      have r0 := b0.aggRoom 0 (n := 34) (by decide) h34 hall
      have b1 := b0.laid (cs' := (L[i]).cells) (by rw [h34]; rfl)
      have d1 := Upd.setCells (b := wr.heap.size) (S := []) (by simp) (L[i]).cells.toList 0 ((Upd.refl wr []).alloc (.cells zeroRd 49))
      have T1 := hide (hT.upd0 d1)
      have U2 := hide (hu.trans d1 (by simp))
      have CC := hide (C.out _ L[i] (HX.out _ (List.getElem_mem hlt)) U2.out)
      have K1 := hide (b1.agg0 h34)
      have hbs := hide (show w.heap.size ≤ (((wr.alloc (.cells zeroRd 49)).setCells wr.heap.size 0 (L[i]).cells.toList).alloc (.cells (L[i]).cells 49)).heap.size from (U2.out.alloc _).size)
      have hii : (i : Int) < L.length := by omega
      clear hT hu b0 b1 d1
      unfold zeroRd at r0 T1 U2 CC K1 hbs
      obtain ⟨Kx, eKx⟩ : ∃ Kx, (L[i]).cells = Kx := ⟨_, rfl⟩
      have hKx : Hid ((L[i]).cells = Kx) := Lib.hid eKx
      rw [eKx] at A h34 ONE hall r0 T1 U2 CC K1 hbs
      clear eKx
      go_upto_region 7 with fail
      generalize (wr.alloc (.cells #[.int .i64 0, .int .i64 0, .int .i64 0, .int .i64 0, .int .i64 0, .int .i64 0, .int .i64 0, .int .i64 0, .int .i64 0, .string ⟨#[]⟩, .string ⟨#[]⟩, .int .i64 0, .int .i64 0, .string ⟨#[]⟩, .int .i64 0, .int .i64 0, .int .i64 0, .int .i64 0, .int .i64 0, .int .i64 0, .int .i64 0, .string ⟨#[]⟩, .string ⟨#[]⟩, .int .i64 0, .int .i64 0, .slice none 0 0, .int .i64 0, .int .i64 0, .int .i64 0, .int .i64 0, .int .i64 0, .string ⟨#[]⟩, .int .i64 0, .int .i64 0] 49)).setCells wr.heap.size 0 Kx.toList = w2 at *
      have K2 := K1.out
      clear A r0
      generalize wr.heap.size = xb at *
      go_wp2_with fail
      refine CC.out.mono ?_
      rintro e w3 ⟨rfl, u3⟩
      have T2 := hide (T1.out.upd0 u3)
      have U3 := hide (U2.out.trans u3 (by simp))
      have K3 := aggAt_upd (by decide) K1.out u3 (by simp)
      have hbs3 := hide (show w.heap.size ≤ (w3.alloc (.cells Kx 49)).heap.size from (U3.out.alloc _).size)
      have T2a := hide (T2.out.upd0 ((Upd.refl w3 []).alloc (.cells Kx 49)))
      clear T1 U2 CC K1 K2 u3 hbs
      cases hp : expireP n L[i] with
      | true =>
        replace hp := hide hp
        have OW := T2a.out.rk.own
        rw [rdCells_len] at OW
        replace OW := hide OW
        go_wp2_with (at_builtin; refine wpList_append_lies _ rfl (.tmp 23) (.tmp 25) 30 rfl w.heap.size 49 i0 (.agg zeroRd) 34 336 Try.underlying30 hi0 hz0 hz1 hz2 rfl (by decide) u5 ((L.take i).filter (expireP n)).length (flat (rdCells ((L.take i).filter (expireP n)))) rfl OW.out ⟨w3.heap.size, 0, none⟩ 1 1 Kx.toList rfl (by simp [h34]) (news_at (Blk.new w3 49 Kx)) ONE.out (by decide) (by unfold maxLen; omega) (by omega) hbs3.out _ rfl ?_; intro g1 c1 w4 hown hgr hat hlt3; have T4k := T2a.out.push (x := L[i]) (HX.out _ (List.getElem_mem hlt)) (by rw [hKx.out]; exact hown) hgr hat; have T4 := hide T4k.1; have U4 := hide ((U3.out.alloc (.cells Kx 49)).trans T4k.2 (fun g hg hl => by have := T2a.out.rk.ge g hg; omega)); clear hown hgr hat OW T4k)
        go_roundw
        case rel => exact ⟨i + 1, by omega, by go_num, by rw [filter_take_yes (expireP n) L i hlt hp.out, filter_take_no (fun x => !expireP n x) L i hlt (by show (!expireP n L[i]) = _; rw [hp.out]; rfl)]; exact T4.out, U4.out⟩
        case measure => simp [intOf]; omega
      | false =>
        replace hp := hide hp
        have OW := T2a.out.swap.rk.own
        rw [rdCells_len] at OW
        replace OW := hide OW
        go_wp2_with (at_builtin; refine wpList_append_lies _ rfl (.tmp 27) (.tmp 29) 30 rfl w.heap.size 49 i0 (.agg zeroRd) 34 336 Try.underlying30 hi0 hz0 hz1 hz2 rfl (by decide) u6 ((L.take i).filter (fun x => !expireP n x)).length (flat (rdCells ((L.take i).filter (fun x => !expireP n x)))) rfl OW.out ⟨w3.heap.size, 0, none⟩ 1 1 Kx.toList rfl (by simp [h34]) (news_at (Blk.new w3 49 Kx)) ONE.out (by decide) (by unfold maxLen; omega) (by omega) hbs3.out _ rfl ?_; intro g1 c1 w4 hown hgr hat hlt3; have T4k := T2a.out.swap.push (x := L[i]) (HX.out _ (List.getElem_mem hlt)) (by rw [hKx.out]; exact hown) hgr hat; have T4 := hide T4k.1; have U4 := hide ((U3.out.alloc (.cells Kx 49)).trans T4k.2 (fun g hg hl => by have := T2a.out.swap.rk.ge g hg; omega)); clear hown hgr hat OW T4k)
        go_roundw
        case rel => exact ⟨i + 1, by omega, by go_num, by rw [filter_take_no (expireP n) L i hlt hp.out, filter_take_yes (fun x => !expireP n x) L i hlt (by show (!expireP n L[i]) = _; rw [hp.out]; rfl)]; exact T4.out.swap, U4.out⟩
        case measure => simp [intOf]; omega
    · obtain rfl : i = L.length := by omega
      rw [List.take_length] at hT
      have R2 := hide (HH.out.upd0 hu)
      have e2 := R2.out.head.frozen 2
      have e3 := R2.out.a2
      rw [hv.out] at e3
      have hT2 := hide hT
      have hu2 := hide hu
      obtain ⟨xa, xn, rfl, xs⟩ := hT.rk.form
      clear hT hu
      go_wp2_with fail
      go_ret
      exact ⟨_, _, rfl, take_end R2.out hT2.out hb hu2.out⟩

end Go.Proofs.Ytdnablmlkkkdhaa
