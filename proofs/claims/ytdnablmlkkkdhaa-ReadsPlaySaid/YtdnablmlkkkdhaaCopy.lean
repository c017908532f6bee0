/- The walk of the layer reads: Copy. (Printed by gen18copy.py.) -/
import Derived.Test.YtdnablmlkkkdhaaWrap
namespace Go.Proofs.Ytdnablmlkkkdhaa
open Go.RowKit
set_option linter.unusedVariables false
attribute [-go_sem] loadVar storeVar Instr.buildSlice
attribute [local go_sem] loadVar_else storeVar_else run_load33 run_load35 run_load42 run_load44 run_load49 run_load72 run_store35 run_store42 run_store44 run_store49 aggAt_drew aggAt_drewN aggRoom_drew aggRoom_drewN run_one30
variable {base r : Nat} {v : Value} {cap last : Nat} {L : List Rd}
/-- the frame of a read is laid anew -/
theorem rd_put {x : Rd} (hx : x.ok) {F : Array Value} (hF : F.size = 29) : putAt x.cells 1 F.toList = (⟨x.id, x.d, x.x, F⟩ : Rd).cells := by
  apply putAt_part
  · rw [Rd.size hx]; simp [Rd.cells, rdOf, hF]
  · rw [Rd.size hx, hF]; decide
  · intro j hj
    unfold Rd.cells rdOf
    rw [Array.getElem?_append_left (by simp [hF]; omega), Array.getElem?_append_right (by simp)]
    simp
  · intro k hk
    have h29 := hx.size
    unfold Rd.cells rdOf
    dsimp only
    rcases hk with hk | hk
    · obtain rfl : k = 0 := by omega
      rw [Array.getElem?_append_left (by simp; omega), Array.getElem?_append_left (by simp), Array.getElem?_append_left (by simp; omega), Array.getElem?_append_left (by simp)]
    · rw [Array.getElem?_append_right (by simp [hF]; omega), Array.getElem?_append_right (by simp [h29]; omega)]
      simp [hF, h29]
/-- what is there behind the append of a copied read -/
theorem copy_after {W w2 w3 : World} {b c n l : Nat} {L' : List Rd} {x : Rd} {v v2 : Value} (H : Rds W b c v n l L') (k2 : Upd W w2 []) (hx : x.ok)
    (hown : w3.ownsRow b 49 34 v2 (L'.length + 1) (flat (rdCells L') ++ x.cells.toList)) (hgr : w2.grownBy w3 v.ownBlock) (hl : L'.length < n) :
    Upd W w3 (blkOf v) ∧ w3.frozen? ⟨c, 2, none⟩ = false ∧ Hid (Rds (w3.setCell ⟨c, 2, none⟩ v2) b c v2 n l (L' ++ [x]) ∧ Upd W (w3.setCell ⟨c, 2, none⟩ v2) (c :: blkOf v)) := by
  have k3 : Upd W w3 (blkOf v) := (k2.mono (S' := blkOf v) (by simp)).trans (Upd.of_grown (S := blkOf v) hgr (by intro k hk _; simp [blkOf, hk])) (fun i h _ => h)
  have hd3 := k3.blk H.head (fun h => H.sep c h (by simp))
  have R3 := rd_push H.row.sizes H.row.ones hx hown
  refine ⟨k3, hd3.frozen 2, ⟨H.ge, (hd3.set_ 2 v2).congr (by simp), R3.upd ((Upd.refl _ [c]).setCell (p := ⟨c, 2, none⟩) (by simp) _) (R3.ne hd3 (by decide)), fun y hy => ?_, H.c0, H.c1, by simp; omega⟩, (k3.mono (S' := c :: blkOf v) (by intro i hi _; exact List.mem_cons_of_mem _ hi)).setCell (by simp) _⟩
  rcases List.mem_append.1 hy with hy | hy
  · exact H.ok y hy
  · rw [List.mem_singleton.1 hy]; exact hx
theorem keepC {W : World} {r xb : Nat} {v : Value} {X : Array Value} (h : W.cell? ⟨r, 2, none⟩ = some v ∧ aggAt 34 W xb 0 = some X) :
    ∀ S w', Upd W w' S → r ∉ S → xb ∉ S → w'.cell? ⟨r, 2, none⟩ = some v ∧ aggAt 34 w' xb 0 = some X := fun S w' u h1 h2 =>
  ⟨cell_upd h.1 u h1, aggAt_upd (by decide) h.2 u h2⟩
set_option maxHeartbeats 4000000 in
theorem copy_ok (w : World) (H : Rds w base r v cap last L) :
    Calls Try.prog 19 #[.pointer (some ⟨r, 0, none⟩)] w fun e w' => ∃ c v' L', e = .returned (.pointer (some ⟨c, 0, none⟩)) ∧ w.heap.size ≤ c ∧ Rds w' w.heap.size c v' cap last L' ∧ L'.length = L.length ∧ Upd w w' [] := by
  obtain ⟨i0, hi0, hz0, hz1, hz2⟩ := info_parts info49
  have N := hide (none_no r cap w H.a0 H.c0)
  obtain ⟨ga, cc, hv, hga⟩ := H.form
  have a0 := H.a0
  have a1 := H.a1
  have a2 := H.a2
  rw [hv] at a2
  have hrow := H.row
  rw [hv] at hrow
  have HX := hide H.ok
  have hlen : L.length ≤ 16 := Nat.le_trans H.few H.c1
  have hcap := H.few
  have hc0 := H.c0
  have hc1 := H.c1
  replace hrow := hide hrow
  replace hga := hide hga
  have HH := hide H
  clear H hv
  go_enter Try.func19, Try.ntmps19
  go_wp2_with fail
  refine N.out.mono ?_
  rintro e w' ⟨rfl, rfl⟩
  clear N
  go_wp2_with fail
  refine F_start 10 (fun w' => w'.cell? ⟨r, 0, none⟩ = some (.int .i64 cap) ∧ w'.cell? ⟨r, 1, none⟩ = some (.int .i64 last)) (by kernel_rfl) ?_
  have hS : w.drew.cell? ⟨r, 0, none⟩ = some (.int .i64 cap) ∧ w.drew.cell? ⟨r, 1, none⟩ = some (.int .i64 last) := ⟨a0, a1⟩
  refine F_take (i := 0) [9, 8, 3, 2, 1] (v := ?_) rfl (by kernel_rfl) (by kernel_rfl) (by kernel_rfl) (by kernel_rfl) (fun _ _ _ h => h) rfl ?_ hS ?_
  rotate_left
  · intro w hSw
    try dsimp only at hSw
    go_simp
    try with_reducible rfl
  try simp only [Act.put, List.setIfInBounds_toArray, List.set_cons_zero, List.set_cons_succ]
  refine F_take (i := 1) [9, 8, 3, 2] (v := ?_) rfl (by kernel_rfl) (by kernel_rfl) (by kernel_rfl) (by kernel_rfl) (fun _ _ _ h => h) rfl ?_ hS ?_
  rotate_left
  · intro w hSw
    try dsimp only at hSw
    go_simp
    try with_reducible rfl
  try simp only [Act.put, List.setIfInBounds_toArray, List.set_cons_zero, List.set_cons_succ]
  refine F_take (i := 2) [9, 8, 3] (v := ?_) rfl (by kernel_rfl) (by kernel_rfl) (by kernel_rfl) (by kernel_rfl) (fun _ _ _ h => h) rfl ?_ hS ?_
  rotate_left
  · intro w hSw
    try dsimp only at hSw
    go_simp
    try with_reducible rfl
  try simp only [Act.put, List.setIfInBounds_toArray, List.set_cons_zero, List.set_cons_succ]
  refine F_take (i := 3) [9, 8] (v := ?_) rfl (by kernel_rfl) (by kernel_rfl) (by kernel_rfl) (by kernel_rfl) (fun _ _ _ h => h) rfl ?_ hS ?_
  rotate_left
  · intro w hSw
    try dsimp only at hSw
    go_simp
    try with_reducible rfl
  try simp only [Act.put, List.setIfInBounds_toArray, List.set_cons_zero, List.set_cons_succ]
  refine F_take (i := 4) [9, 8, 7, 6, 5] (v := ?_) rfl (by kernel_rfl) (by kernel_rfl) (by kernel_rfl) (by kernel_rfl) (fun _ _ _ h => h) rfl ?_ hS ?_
  rotate_left
  · intro w hSw
    try dsimp only at hSw
    go_simp
    try with_reducible rfl
  try simp only [Act.put, List.setIfInBounds_toArray, List.set_cons_zero, List.set_cons_succ]
  refine F_take (i := 5) [9, 8, 7, 6] (v := ?_) rfl (by kernel_rfl) (by kernel_rfl) (by kernel_rfl) (by kernel_rfl) (fun _ _ _ h => h) rfl ?_ hS ?_
  rotate_left
  · intro w hSw
    try dsimp only at hSw
    go_simp
    try with_reducible rfl
  try simp only [Act.put, List.setIfInBounds_toArray, List.set_cons_zero, List.set_cons_succ]
  refine F_take (i := 6) [9, 8, 7] (v := ?_) rfl (by kernel_rfl) (by kernel_rfl) (by kernel_rfl) (by kernel_rfl) (fun _ _ _ h => h) rfl ?_ hS ?_
  rotate_left
  · intro w hSw
    try dsimp only at hSw
    go_simp
    try with_reducible rfl
  try simp only [Act.put, List.setIfInBounds_toArray, List.set_cons_zero, List.set_cons_succ]
  refine F_take (i := 7) [9, 8] (v := ?_) rfl (by kernel_rfl) (by kernel_rfl) (by kernel_rfl) (by kernel_rfl) (fun _ _ _ h => h) rfl ?_ hS ?_
  rotate_left
  · intro w hSw
    try dsimp only at hSw
    go_simp
    try with_reducible rfl
  try simp only [Act.put, List.setIfInBounds_toArray, List.set_cons_zero, List.set_cons_succ]
  refine F_take (i := 8) [9] (v := ?_) rfl (by kernel_rfl) (by kernel_rfl) (by kernel_rfl) (by kernel_rfl) (fun _ _ _ h => h) rfl ?_ hS ?_
  rotate_left
  · intro w hSw
    try dsimp only at hSw
    go_simp
    try with_reducible rfl
  try simp only [Act.put, List.setIfInBounds_toArray, List.set_cons_zero, List.set_cons_succ]
  refine F_step (i := 9) rfl (by kernel_rfl) (fun K hK => ?_)
  go_simp
  have hS2 : (w.drew.alloc (.cells #[.int .i64 cap, .int .i64 last, .slice none 0 0] 66)).cell? ⟨r, 0, none⟩ = some (.int .i64 cap) ∧ (w.drew.alloc (.cells #[.int .i64 cap, .int .i64 last, .slice none 0 0] 66)).cell? ⟨r, 1, none⟩ = some (.int .i64 last) := ⟨cell_upd a0 ((Upd.refl w []).drew.alloc _) (by simp), cell_upd a1 ((Upd.refl w []).drew.alloc _) (by simp)⟩
  refine hK.out _ _ (Or.inr hS2) ?_
  clear hK K
  try simp only [Act.put, List.setIfInBounds_toArray, List.set_cons_zero, List.set_cons_succ]
  refine F_step (i := 10) rfl (by kernel_rfl) (fun K hK => ?_)
  go_simp
  refine hK.out _ _ (Or.inl rfl) ?_
  clear hK K
  try simp only [Act.put, List.setIfInBounds_toArray, List.set_cons_zero, List.set_cons_succ]
  have u1 : Upd w (w.alloc (.cells #[.int .i64 cap, .int .i64 last, .slice none 0 0] 66)).drew [] := ((Upd.refl w []).alloc _).drew
  have C1 : Rds (w.alloc (.cells #[.int .i64 cap, .int .i64 last, .slice none 0 0] 66)).drew w.heap.size w.heap.size (.slice none 0 0) cap last [] := ⟨Nat.le_refl _, Blk.new w 66 _, RowOf.nil _ _ _ _, by simp, hc0, hc1, by simp⟩
  have b2 := cell_upd a2 u1 (by simp)
  replace u1 := hide u1
  replace C1 := hide C1
  clear a0 a1 a2 hS
  refine F_done (by kernel_rfl) ?_ _
  go_wp2_with fail
  generalize (w.alloc (.cells #[.int .i64 cap, .int .i64 last, .slice none 0 0] 66)).drew = w1 at *
  have hz1' := u1.out.size
  have U1 := hide ((u1.out.mono (S' := [w.heap.size]) (by simp)))
  generalize hnb : w.heap.size = nb at *
  have xbw := hide (show nb ≤ w1.heap.size from hnb ▸ u1.out.size)
  replace hnb := hide hnb
  go_loopw [23] (fun vi wr => ∃ (i : Nat) (L' : List Rd) (v' : Value), i ≤ L.length ∧ vi = .int .i64 i ∧ Rds wr nb nb v' cap last L' ∧ L'.length = i ∧ Upd w wr []) (fun vi _ => L.length - (intOf vi).toNat)
  case atStart => exact ⟨0, [], _, by omega, rfl, C1.out, rfl, u1.out⟩
  case round =>
    clear C1 u1 U1 b2
    obtain ⟨i, L', v', hi, rfl, hC, hl', hu⟩ := hrel
    by_cases hlt : i < L.length
    · have hll : L'.length ≤ i := by omega
      replace hl' := hide hl'
      obtain ⟨g, rfl⟩ := hga.out (by omega)
      have hxo : (L[i]).ok := HX.out _ (List.getElem_mem hlt)
      have A := (hrow.out.upd hu (by simp)).rd i hlt
      have h34 := (L[i]).size hxo
      have hii : (i : Int) < L.length := by omega
      have b0 := Blk.new wr 49 zeroRd
      have r0 := b0.aggRoom 0 (n := 34) (by decide) h34 ((L[i]).all hxo)
      have b1 := b0.laid (cs' := (L[i]).cells) (by rw [h34]; rfl)
      have d1 := Upd.setCells (b := wr.heap.size) (S := []) (by simp) (L[i]).cells.toList 0 ((Upd.refl wr []).alloc (.cells zeroRd 49))
      have K1 := b1.agg 1 (n := 29) hxo.size (fun j hj => (L[i]).atF hxo j hj)
      have O1 := hide (own0 (L[i]).F (L[i]).d _ hxo : Calls Try.prog 29 #[.agg (L[i]).F] ((wr.alloc (.cells zeroRd 49)).setCells wr.heap.size 0 (L[i]).cells.toList) _)
      have C2 := hide (hC.upd0 d1)
      have U2 := hide (hu.trans d1 (by simp))
      have U2r := hide d1
      have xbs := hide (rfl : wr.heap.size = wr.heap.size)
      have lt0 := hide (hC.row.lt_)
      have eC := hide (hC.ok)
      clear hC b0 d1
      have hP := hide (fun (F : Array Value) (h : F.size = 29) => rd_put hxo h)
      obtain ⟨x, hx⟩ : ∃ x, L[i] = x := ⟨_, rfl⟩
      rw [hx] at hxo A h34 r0 b1 K1 O1 C2 U2 U2r hP
      clear hx
      have h4 := x.size hxo
      obtain ⟨Kx, eKx⟩ : ∃ Kx, x.cells = Kx := ⟨_, rfl⟩
      rw [eKx] at A h34 r0 b1 K1 O1 C2 U2 U2r hP
      clear eKx h4
      replace b1 := hide b1
      unfold zeroRd at r0 b1 K1 O1 C2 U2 U2r
      go_upto_region 7 with fail
      clear A r0
      generalize (wr.alloc (.cells #[.int .i64 0, .int .i64 0, .int .i64 0, .int .i64 0, .int .i64 0, .int .i64 0, .int .i64 0, .int .i64 0, .int .i64 0, .string ⟨#[]⟩, .string ⟨#[]⟩, .int .i64 0, .int .i64 0, .string ⟨#[]⟩, .int .i64 0, .int .i64 0, .int .i64 0, .int .i64 0, .int .i64 0, .int .i64 0, .int .i64 0, .string ⟨#[]⟩, .string ⟨#[]⟩, .int .i64 0, .int .i64 0, .slice none 0 0, .int .i64 0, .int .i64 0, .int .i64 0, .int .i64 0, .int .i64 0, .string ⟨#[]⟩, .int .i64 0, .int .i64 0] 49)).setCells wr.heap.size 0 Kx.toList = w2 at *
      have xl := b1.out.lt
      generalize hxb : wr.heap.size = xb at *
      clear xbs
      have hxb2 := hide hxb
      clear hxb
      go_wp2_with fail
      refine O1.out.mono ?_
      rintro e w3 ⟨F', rfl, hF', u3⟩
      have q29 := hF'.size
      have b3 := u3.blk b1.out (by simp)
      have r3 : aggRoom 29 w3 xb 1 F' = true := b3.aggRoom 1 (by omega) q29 hF'.all
      have b4 := hide ((b3.setCells F'.toList 1).congr (hP.out F' q29))
      have d4 : Upd w3 (w3.setCells xb 1 F'.toList) [xb] := Upd.setCells (b := xb) (by simp) F'.toList 1 (Upd.refl _ _)
      have U24 : Upd w2 (w3.setCells xb 1 F'.toList) [xb] := (u3.mono (S' := [xb]) (by simp)).trans d4 (fun i h _ => h)
      have C4 := hide ((C2.out.upd0 u3).upd d4 (by simpa using (C2.out.head.ne_ b1.out (by decide))) (fun g hg hm => by have := lt0.out g hg; simp at hm; omega))
      have U4 := hide (U2.out.trans U24 (fun i hi hl => by simp at hi; subst hi; have := hu.size; have := hxb2.out; have := xbw.out; omega))
      have e4 := C4.out.a2
      have K4 := b4.out.agg0 (n := 34) (Rd.size (r := ⟨x.id, x.d, x.x, F'⟩) hF')
      clear C2 U2 U2r K1 O1 b1 u3 d4 U24 b3
      go_wp2_with fail
      generalize w3.setCells xb 1 F'.toList = w5 at *
      clear r3
      have k34 := Rd.size (r := ⟨x.id, x.d, x.x, F'⟩) hF'
      have kone := hide (Rd.one (r := ⟨x.id, x.d, x.x, F'⟩) hF')
      have hx' : Hid (Rd.ok ⟨x.id, x.d, x.x, F'⟩) := hide hF'
      obtain ⟨Ky, eKy⟩ : ∃ Ky, (⟨x.id, x.d, x.x, F'⟩ : Rd).cells = Ky := ⟨_, rfl⟩
      rw [eKy] at K4 k34 kone b4
      have hKy : Hid ((⟨x.id, x.d, x.x, F'⟩ : Rd).cells = Ky) := Lib.hid eKy
      clear eKy hF' hP
      have SS := hide (keepC ⟨e4, K4⟩)
      have nm1 := hide (fun h => C4.out.sep nb h (by simp) : nb ∉ blkOf v')
      have nm2 := hide (fun h => by have := lt0.out _ h; omega : xb ∉ blkOf v')
      have lc : L'.length < cap := by omega
      have ONE := hide (fun (u : Value) (hu : u ∈ Ky.toList) => kone.out u (by rw [Array.mem_toList_iff] at hu; exact hu))
      have OW := (C4.out.row.upd ((Upd.refl w5 []).drew.alloc (.cells Ky 49)) (by simp)).own
      rw [rdCells_len] at OW
      replace OW := hide OW
      have hbs := hide (show nb ≤ (w5.drew.alloc (.cells Ky 49)).heap.size from (by have := U4.out.size; have := hnb.out; have := ((Upd.refl w5 []).drew.alloc (.cells Ky 49)).size; omega))
      refine F_start 10 (fun w' => w'.cell? ⟨nb, 2, none⟩ = some v' ∧ aggAt 34 w' xb 0 = some Ky) (by kernel_rfl) ?_
      have hS := SS.out [] w5.drew ((Upd.refl _ _).drew) (by simp) (by simp)
      refine F_take (i := 0) [9, 8] (v := ?_) rfl (by kernel_rfl) (by kernel_rfl) (by kernel_rfl) (by kernel_rfl) (fun _ _ _ h => h) rfl ?_ hS ?_
      rotate_left
      · intro w hSw
        try dsimp only at hSw
        go_simp
        try with_reducible rfl
      try simp only [Act.put, List.setIfInBounds_toArray, List.set_cons_zero, List.set_cons_succ]
      refine F_take (i := 1) [7, 4, 3, 2] (v := ?_) rfl (by kernel_rfl) (by kernel_rfl) (by kernel_rfl) (by kernel_rfl) (fun _ _ _ h => h) rfl ?_ hS ?_
      rotate_left
      · intro w hSw
        try dsimp only at hSw
        go_simp
        try with_reducible rfl
      try simp only [Act.put, List.setIfInBounds_toArray, List.set_cons_zero, List.set_cons_succ]
      refine F_take (i := 2) [7, 4, 3] (v := ?_) rfl (by kernel_rfl) (by kernel_rfl) (by kernel_rfl) (by kernel_rfl) (fun _ _ _ h => h) rfl ?_ hS ?_
      rotate_left
      · intro w hSw
        try dsimp only at hSw
        go_simp
        try with_reducible rfl
      try simp only [Act.put, List.setIfInBounds_toArray, List.set_cons_zero, List.set_cons_succ]
      refine F_take (i := 3) [7, 4] (v := ?_) rfl (by kernel_rfl) (by kernel_rfl) (by kernel_rfl) (by kernel_rfl) (fun _ _ _ h => h) rfl ?_ hS ?_
      rotate_left
      · intro w hSw
        try dsimp only at hSw
        go_simp
        try with_reducible rfl
      try simp only [Act.put, List.setIfInBounds_toArray, List.set_cons_zero, List.set_cons_succ]
      refine F_take (i := 4) [7] (v := ?_) rfl (by kernel_rfl) (by kernel_rfl) (by kernel_rfl) (by kernel_rfl) (fun _ _ _ h => h) rfl ?_ hS ?_
      rotate_left
      · intro w hSw
        try dsimp only at hSw
        go_simp
        try with_reducible rfl
      try simp only [Act.put, List.setIfInBounds_toArray, List.set_cons_zero, List.set_cons_succ]
      refine F_take (i := 5) [7, 6] (v := ?_) rfl (by kernel_rfl) (by kernel_rfl) (by kernel_rfl) (by kernel_rfl) (fun _ _ _ h => h) rfl ?_ hS ?_
      rotate_left
      · intro w hSw
        try dsimp only at hSw
        go_simp
        try with_reducible rfl
      try simp only [Act.put, List.setIfInBounds_toArray, List.set_cons_zero, List.set_cons_succ]
      refine F_step (i := 6) rfl (by kernel_rfl) (fun K hK => ?_)
      go_simp
      clear hS
      have hS := SS.out [] _ ((Upd.refl w5 []).drew.alloc (.cells Ky 49)) (by simp) (by simp)
      refine hK.out _ _ (Or.inr hS) ?_
      clear hK K
      try simp only [Act.put, List.setIfInBounds_toArray, List.set_cons_zero, List.set_cons_succ]
      refine F_step (i := 7) rfl (by kernel_rfl) (fun K hK => ?_)
      refine step_append_own rfl (.tmp 35) (.tmp 37) 30 rfl nb 49 i0 (.agg zeroRd) 34 336 Try.underlying30 hi0 hz0 hz1 hz2 rfl (by decide) v' L'.length (flat (rdCells L')) (by simp [Act.eval]) OW.out ⟨w5.heap.size, 0, none⟩ 1 1 Ky.toList (by simp [Act.eval]) (by simp [k34]) (news_at (Blk.new w5.drew 49 _)) ONE.out (by unfold maxLen; omega) (by omega) hbs.out ?_
      intro v2 w6 hown hgr hnil
      obtain ⟨g3, c3, rfl⟩ := own_slice hown
      obtain ⟨k3, fz, fin⟩ := copy_after C4.out ((Upd.refl w5 []).drew.alloc (.cells Ky 49)) hx'.out (by rw [hKy.out]; exact hown) hgr lc
      have cz := cell_upd e4 k3 nm1.out
      clear hS
      have hS := SS.out _ _ k3 nm1.out nm2.out
      replace k3 := hide k3
      clear hown hgr hnil OW ONE hbs
      refine hK.out _ _ (Or.inr hS) ?_
      clear hK K
      try simp only [Act.put, List.setIfInBounds_toArray, List.set_cons_zero, List.set_cons_succ]
      refine F_take (i := 8) [9] (v := ?_) rfl (by kernel_rfl) (by kernel_rfl) (by kernel_rfl) (by kernel_rfl) (fun _ _ _ h => h) rfl ?_ hS ?_
      rotate_left
      · intro w hSw
        try dsimp only at hSw
        go_simp
        try with_reducible rfl
      try simp only [Act.put, List.setIfInBounds_toArray, List.set_cons_zero, List.set_cons_succ]
      refine F_take (i := 9) [] (v := ?_) rfl (by kernel_rfl) (by kernel_rfl) (by kernel_rfl) (by kernel_rfl) (fun _ _ _ h => h) rfl ?_ hS ?_
      rotate_left
      · intro w hSw
        try dsimp only at hSw
        go_simp
        try with_reducible rfl
      try simp only [Act.put, List.setIfInBounds_toArray, List.set_cons_zero, List.set_cons_succ]
      refine F_step (i := 10) rfl (by kernel_rfl) (fun K hK => ?_)
      go_simp
      refine hK.out _ _ (Or.inl rfl) ?_
      clear hK K
      try simp only [Act.put, List.setIfInBounds_toArray, List.set_cons_zero, List.set_cons_succ]
      refine F_done (by kernel_rfl) ?_ _
      have C6 := hide fin.out.1
      have U6 := hide (U4.out.trans fin.out.2 (fun i hi hl => by rcases List.mem_cons.1 hi with rfl | hi; · have := hnb.out; omega
                                                                 · have := C4.out.row.ge i hi; have := hnb.out; omega))
      clear fin
      go_wp2_with fail
      go_roundw
      case rel => exact ⟨i + 1, _, _, by omega, by go_num, C6.out, by rw [List.length_append, hl'.out]; rfl, U6.out⟩
      case measure => simp [intOf]; omega
    · obtain rfl : i = L.length := by omega
      have C6 := hide hC
      have U6 := hide hu
      have hl2 := hide hl'
      clear hC hu hl'
      go_wp2_with fail
      go_ret
      exact ⟨nb, _, _, rfl, by rw [hnb.out]; exact Nat.le_refl _, by rw [hnb.out]; exact C6.out, hl2.out, U6.out⟩
end Go.Proofs.Ytdnablmlkkkdhaa
