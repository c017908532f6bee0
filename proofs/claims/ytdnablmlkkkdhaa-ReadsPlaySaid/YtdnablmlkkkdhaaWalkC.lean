/- The walks of the layer reads: Put. -/
import Derived.Test.YtdnablmlkkkdhaaWalkB
import Derived.Test.YtdnablmlkkkdhaaWordsB
import Derived.Test.YtdnablmlkkkdhaaRegF
namespace Go.Proofs.Ytdnablmlkkkdhaa
open Go.RowKit
set_option linter.unusedVariables false
attribute [-go_sem] loadVar storeVar Instr.build Instr.buildSlice
attribute [local go_sem] loadVar_else storeVar_else run_load33 run_load35 run_load42 run_load44 run_load49 run_load72 run_store35 run_store42 run_store44 run_store49 aggAt_drew aggAt_drewN aggRoom_drew aggRoom_drewN run_build49 run_one30
variable {base r : Nat} {v : Value} {cap last : Nat} {L : List Rd}
theorem put_no (v : Value) (F : Array Value) (x : Res) (w : World) (h : NoRds w v) (hF : F.size = 29) :
    Calls Try.prog 12 #[v, .agg F, .agg x.cells] w fun e w' => e = .returned (.tuple #[.int .i64 0, .int .i64 1]) ∧ Upd w w' [] := by
  have N := hide (none_yes v ((w.alloc (.cells F 42)).alloc (.cells x.cells 35)) (h.upd (((Upd.refl w []).alloc _).alloc _)))
  have U := hide (((Upd.refl w []).alloc (.cells F 42)).alloc (.cells x.cells 35))
  clear h
  go_enter Try.func12, Try.ntmps12
  go_wp2_with fail
  refine N.out.mono ?_
  rintro e w' ⟨rfl, rfl⟩
  clear N
  go_wp2_with fail
  go_ret2
  exact ⟨rfl, U.out⟩
theorem put_full (F : Array Value) (x : Res) (w : World) (H : Rds w base r v cap last L) (hF : F.size = 29) (hl : cap ≤ L.length) :
    Calls Try.prog 12 #[.pointer (some ⟨r, 0, none⟩), .agg F, .agg x.cells] w fun e w' => e = .returned (.tuple #[.int .i64 0, .int .i64 60]) ∧ Upd w w' [] := by
  have U := hide (((Upd.refl w []).alloc (.cells F 42)).alloc (.cells x.cells 35))
  have H1 := H.upd0 U.out
  have N := hide (none_no r cap _ H1.a0 H1.c0)
  obtain ⟨ga, c, rfl, _⟩ := H1.form
  have a0 := H1.a0
  have a2 := H1.a2
  have hlt : ¬ L.length < cap := by omega
  clear H H1
  go_enter Try.func12, Try.ntmps12
  go_wp2_with fail
  refine N.out.mono ?_
  rintro e w' ⟨rfl, rfl⟩
  clear N
  go_wp2_with fail
  go_quiet (fail)
  go_wp2_with fail
  go_ret2
  exact ⟨rfl, U.out.drewN _⟩
theorem keepS {W : World} {r fb xb : Nat} {v : Value} {n : Int} {F X : Array Value} (h : W.cell? ⟨r, 2, none⟩ = some v ∧ W.cell? ⟨r, 1, none⟩ = some (.int .i64 n) ∧ aggAt 29 W fb 0 = some F ∧ aggAt 4 W xb 0 = some X) :
    ∀ S w', Upd W w' S → r ∉ S → fb ∉ S → xb ∉ S → w'.cell? ⟨r, 2, none⟩ = some v ∧ w'.cell? ⟨r, 1, none⟩ = some (.int .i64 n) ∧ aggAt 29 w' fb 0 = some F ∧ aggAt 4 w' xb 0 = some X := fun S w' u h1 h2 h3 =>
  ⟨cell_upd h.1 u h1, cell_upd h.2.1 u h1, aggAt_upd (by decide) h.2.2.1 u h2, aggAt_upd (by decide) h.2.2.2 u h3⟩
theorem RowOf.ne {w : World} {b : Nat} {e t : TypeId} {n r : Nat} {v : Value} {Fs : List (Array Value)} {cs : Array Value} (h : RowOf w b e n v Fs) (hb : Blk w r t cs) (hne : t ≠ e) : ∀ g ∈ blkOf v, g ∉ [r] := by
  intro g hg hm
  rw [List.mem_singleton] at hm
  subst hm
  rcases h.slice with ⟨rfl, _⟩ | ⟨g', c, rfl, _, _, cur, hc, _⟩
  · simp [blkOf, Value.ownBlock] at hg
  · simp [blkOf, Value.ownBlock] at hg
    subst hg
    exact hb.ne_ hc hne rfl
theorem RowOf.lt_ {w : World} {b : Nat} {e : TypeId} {n : Nat} {v : Value} {Fs : List (Array Value)} (h : RowOf w b e n v Fs) : ∀ g ∈ blkOf v, g < w.heap.size := by
  intro x hx
  rcases h.slice with ⟨rfl, _⟩ | ⟨g, cap, rfl, hg, _, cur, hb, _⟩
  · simp [blkOf, Value.ownBlock] at hx
  · simp [blkOf, Value.ownBlock] at hx; subst hx; exact hb.lt
theorem RowOf.ge {w : World} {b : Nat} {e : TypeId} {n : Nat} {v : Value} {Fs : List (Array Value)} (h : RowOf w b e n v Fs) : ∀ g ∈ blkOf v, b ≤ g := by
  intro x hx
  rcases h.slice with ⟨rfl, _⟩ | ⟨g, cap, rfl, hg, _⟩
  · simp [blkOf, Value.ownBlock] at hx
  · simp [blkOf, Value.ownBlock] at hx; omega
theorem own_slice {w : World} {base : Nat} {e : TypeId} {k n : Nat} {v : Value} {xs : List Value} (h : w.ownsRow base e k v n xs) : ∃ a c, v = .slice a n c := by
  obtain ⟨_, ⟨rfl, rfl, _⟩ | ⟨g, cap, cur, rfl, _⟩⟩ := h
  · exact ⟨_, _, rfl⟩
  · exact ⟨_, _, rfl⟩
/-- behind the append of a read -/
theorem rd_push {w2 : World} {base : Nat} {t : TypeId} {v2 : Value} {L : List Rd} {x : Rd} (hs : ∀ G ∈ rdCells L, G.size = 34) (ho : ∀ G ∈ rdCells L, ∀ u ∈ G, u.oneCell' = true) (hx : x.ok)
    (hown : w2.ownsRow base t 34 v2 (L.length + 1) (flat (rdCells L) ++ x.cells.toList)) : RowOf w2 base t 34 v2 (rdCells (L ++ [x])) := by
  have := RowOf.push (F := x.cells) hs ho (Rd.size hx) (Rd.one hx) (by rw [rdCells_len]; exact hown)
  simpa [rdCells] using this
theorem news_at {W : World} {k : Nat} {t : TypeId} {R : Array Value} (B : Blk W k t R) : ∀ j u, R.toList[j]? = some u → W.cell? ((⟨k, 0, none⟩ : Addr).add j) = some u := fun j u hu => by
  rw [Addr.add_mid, Nat.zero_add, B.cell, ← Array.getElem?_toList]; exact hu
theorem rdOf_one {n : Int} {F : Array Value} {d : Fd} {x : Res} (h : Fit F d) : ∀ u ∈ (rdOf n F x.cells).toList, u.oneCell' = true := fun u hu => Rd.one (r := ⟨n, d, x, F⟩) h u (by rw [Array.mem_toList_iff] at hu; exact hu)
/-- what is there behind the append of a read -/
theorem put_after {W1 w2 w3 : World} {F' : Array Value} {n : Nat} {d : Fd} {x : Res} {v v2 : Value} (hd : Blk W1 r 66 #[.int .i64 cap, .int .i64 ((n : Int) + 1), v]) (k2 : Upd W1 w2 []) (hrow : RowOf W1 base 49 34 v (rdCells L)) (hF : Fit F' d)
    (hown : w3.ownsRow base 49 34 v2 (L.length + 1) (flat (rdCells L) ++ (rdOf ((n : Int) + 1) F' x.cells).toList)) (hgr : (w2.alloc (.cells (rdOf ((n : Int) + 1) F' x.cells) 49)).grownBy w3 v.ownBlock)
    (ge : base ≤ r) (ok : ∀ x ∈ L, x.ok) (h0 : 0 < cap) (h16 : cap ≤ 16) (hl : L.length < cap) :
    Upd W1 w3 (blkOf v) ∧ w3.frozen? ⟨r, 2, none⟩ = false ∧ Hid (Rds (w3.setCell ⟨r, 2, none⟩ v2) base r v2 cap (n + 1) (L ++ [⟨((n + 1 : Nat) : Int), d, x, F'⟩]) ∧ Upd W1 (w3.setCell ⟨r, 2, none⟩ v2) (r :: blkOf v)) := by
  have k3 : Upd W1 w3 (blkOf v) := ((k2.alloc _).mono (S' := blkOf v) (by simp)).trans (Upd.of_grown (S := blkOf v) hgr (by intro k hk _; simp [blkOf, hk])) (fun i h _ => h)
  have sep := hrow.ne hd (by decide)
  have hd3 := k3.blk hd (fun h => sep r h (by simp))
  have hok : Rd.ok ⟨((n + 1 : Nat) : Int), d, x, F'⟩ := hF
  have R3 : RowOf w3 base 49 34 v2 (rdCells (L ++ [⟨((n + 1 : Nat) : Int), d, x, F'⟩])) := rd_push hrow.sizes hrow.ones hok hown
  refine ⟨k3, hd3.frozen 2, ?_, ?_⟩
  · refine ⟨ge, (hd3.set_ 2 v2).congr ?_, R3.upd ((Upd.refl _ [r]).setCell (p := ⟨r, 2, none⟩) (by simp) _) (R3.ne hd3 (by decide)), ?_, h0, h16, by simp; omega⟩
    · simp
    · intro y hy
      rcases List.mem_append.1 hy with hy | hy
      · exact ok y hy
      · rw [List.mem_singleton.1 hy]; exact hok
  · exact (k3.mono (S' := r :: blkOf v) (by intro i hi _; exact List.mem_cons_of_mem _ hi)).setCell (by simp) _
theorem Rds.sep {w : World} (H : Rds w base r v cap last L) : ∀ g ∈ blkOf v, g ∉ [r] := by
  intro g hg hm
  rw [List.mem_singleton] at hm
  subst hm
  rcases H.row.slice with ⟨rfl, _⟩ | ⟨g', c, rfl, _, _, cur, hb, _⟩
  · simp [blkOf, Value.ownBlock] at hg
  · simp [blkOf, Value.ownBlock] at hg
    subst hg
    exact H.head.ne_ hb (by decide) rfl
set_option maxHeartbeats 4000000 in
theorem put_ok (F : Array Value) (d : Fd) (x : Res) (w : World) (H : Rds w base r v cap last L) (hb : base ≤ w.heap.size) (hF : Fit F d) (hl : L.length < cap) (hn : last ≤ 1000) :
    Calls Try.prog 12 #[.pointer (some ⟨r, 0, none⟩), .agg F, .agg x.cells] w fun e w' => ∃ v' F', e = .returned (.tuple #[.int .i64 ((last + 1 : Nat) : Int), .int .i64 0]) ∧ Fit F' d ∧ Rds w' base r v' cap (last + 1) (L ++ [⟨((last + 1 : Nat) : Int), d, x, F'⟩]) ∧ Upd w w' (r :: blkOf v) := by
  obtain ⟨i0, hi0, hz0, hz1, hz2⟩ := info_parts info49
  have hF0 : F.size = 29 := hF.size
  have ltv := hide H.row.lt_
  have U := hide (((Upd.refl w []).alloc (.cells F 42)).alloc (.cells x.cells 35))
  have fF := hide (((Blk.new w 42 F).alloc (.cells x.cells 35)).agg0 (n := 29) hF0)
  have fX := hide ((Blk.new (w.alloc (.cells F 42)) 35 x.cells).agg0 (n := 4) rfl)
  rw [World.size_alloc] at fX
  have H1 := H.upd0 U.out
  have N := hide (none_no r cap _ H1.a0 H1.c0)
  have hc16 := H.c1
  obtain ⟨ga, c, hv, hga⟩ := H1.form
  have a0 := H1.a0
  have a1 := H1.a1
  have a2 := H1.a2
  rw [hv] at a2
  have f1 := H1.head.frozen 1
  have rl := H.head.lt
  replace H1 := hide H1
  have HF := hide hF
  replace hv := hide hv
  clear hF hga
  go_enter Try.func12, Try.ntmps12
  go_wp2_with fail
  refine N.out.mono ?_
  rintro e w' ⟨rfl, rfl⟩
  clear N
  go_wp2_with fail
  go_quiet (fail)
  go_wp2_with fail
  have H2 := H1.out.upd0 ((Upd.refl _ []).drewN nq)
  have gF0 : aggAt 29 ((((w.alloc (.cells F 42)).alloc (.cells x.cells 35))).drewN nq) w.heap.size 0 = some F := fF.out
  have gX0 : aggAt 4 ((((w.alloc (.cells F 42)).alloc (.cells x.cells 35))).drewN nq) (w.heap.size + 1) 0 = some x.cells := fX.out
  have U0 := U.out.drewN nq
  generalize (((w.alloc (.cells F 42)).alloc (.cells x.cells 35))).drewN nq = W0 at *
  have sep := H2.sep
  have rl0 := H1.out.head.lt
  have rw0 : r < w.heap.size ∨ base ≤ r := .inr H2.ge
  have u1 : Upd W0 (W0.setCell ⟨r, 1, none⟩ (.int .i64 ((last : Int) + 1))) [r] := (Upd.refl _ _).setCell (p := ⟨r, 1, none⟩) (by simp) _
  have hd : Blk (W0.setCell ⟨r, 1, none⟩ (.int .i64 ((last : Int) + 1))) r 66 #[.int .i64 cap, .int .i64 ((last : Int) + 1), v] := H2.head.set_ 1 _
  have hrow := H2.row.upd u1 sep
  have gF := aggAt_upd (by decide) gF0 u1 (by simp; omega)
  have gX := aggAt_upd (by decide) gX0 u1 (by simp; omega)
  have UA := hide ((U0.mono (S' := [r]) (by simp)).trans u1 (fun i h _ => h))
  have c1 : (W0.setCell ⟨r, 1, none⟩ (.int .i64 ((last : Int) + 1))).cell? ⟨r, 1, none⟩ = some (.int .i64 ((last : Int) + 1)) := by rw [hd.cell]; rfl
  have c2 : (W0.setCell ⟨r, 1, none⟩ (.int .i64 ((last : Int) + 1))).cell? ⟨r, 2, none⟩ = some (.slice ga L.length c) := by rw [hd.cell, ← hv.out]; rfl
  have hz : w.heap.size + 2 ≤ (W0.setCell ⟨r, 1, none⟩ (.int .i64 ((last : Int) + 1))).heap.size := by
    have h1 := World.block_lt_of_cell? _ _ (show W0.cell? ⟨w.heap.size + 1, 0, none⟩ = _ from aggAt_cell gX0 0 (by decide))
    have h2 := u1.size
    simp only at h1
    omega
  have SS := hide (keepS ⟨c2, c1, gF, gX⟩)
  have HX := hide H2.ok
  have OK := hide H2.ge
  have OKf := hide H2.few
  have k0 := H2.c0
  clear H1 H2 gF0 gX0 U0 a0 a1 a2 f1 u1 c1 gF gX U fF fX rl rl0 rw0
  generalize W0.setCell ⟨r, 1, none⟩ (.int .i64 ((last : Int) + 1)) = W1 at *
  have nm1 := hide (show r ∉ blkOf v from fun h => sep r h (by simp))
  have nm2 := hide (show w.heap.size ∉ blkOf v from fun h => by have := ltv.out _ h; omega)
  have nm3 := hide (show w.heap.size + 1 ∉ blkOf v from fun h => by have := ltv.out _ h; omega)
  have hr29 := fun (F' : Array Value) (h : F'.size = 29) => rdOf_size ((last : Int) + 1) h (show x.cells.size = 4 from rfl)
  replace hr29 := hide hr29
  replace hd := hide hd
  replace hrow := hide hrow
  replace sep := hide sep
  refine F_start 17 (fun w' => w'.cell? ⟨r, 2, none⟩ = some (.slice ga L.length c) ∧ w'.cell? ⟨r, 1, none⟩ = some (.int .i64 ((last : Int) + 1)) ∧ aggAt 29 w' w.heap.size 0 = some F ∧ aggAt 4 w' (w.heap.size + 1) 0 = some x.cells) (by kernel_rfl) ?_
  have hS := SS.out [] W1.drew ((Upd.refl _ _).drew) (by simp) (by simp) (by simp)
  refine F_take (i := 0) [16, 15] (v := ?_) rfl (by kernel_rfl) (by kernel_rfl) (by kernel_rfl) (by kernel_rfl) (fun _ _ _ h => h) rfl ?_ hS ?_
  rotate_left
  · intro w hSw
    try dsimp only at hSw
    go_simp
    try with_reducible rfl
  try simp only [Act.put, List.setIfInBounds_toArray, List.set_cons_zero, List.set_cons_succ]
  refine F_take (i := 1) [14, 4, 3, 2] (v := ?_) rfl (by kernel_rfl) (by kernel_rfl) (by kernel_rfl) (by kernel_rfl) (fun _ _ _ h => h) rfl ?_ hS ?_
  rotate_left
  · intro w hSw
    try dsimp only at hSw
    go_simp
    try with_reducible rfl
  try simp only [Act.put, List.setIfInBounds_toArray, List.set_cons_zero, List.set_cons_succ]
  refine F_take (i := 2) [14, 4, 3] (v := ?_) rfl (by kernel_rfl) (by kernel_rfl) (by kernel_rfl) (by kernel_rfl) (fun _ _ _ h => h) rfl ?_ hS ?_
  rotate_left
  · intro w hSw
    try dsimp only at hSw
    go_simp
    try with_reducible rfl
  try simp only [Act.put, List.setIfInBounds_toArray, List.set_cons_zero, List.set_cons_succ]
  refine F_take (i := 3) [14, 4] (v := ?_) rfl (by kernel_rfl) (by kernel_rfl) (by kernel_rfl) (by kernel_rfl) (fun _ _ _ h => h) rfl ?_ hS ?_
  rotate_left
  · intro w hSw
    try dsimp only at hSw
    go_simp
    try with_reducible rfl
  try simp only [Act.put, List.setIfInBounds_toArray, List.set_cons_zero, List.set_cons_succ]
  refine F_take (i := 4) [14] (v := ?_) rfl (by kernel_rfl) (by kernel_rfl) (by kernel_rfl) (by kernel_rfl) (fun _ _ _ h => h) rfl ?_ hS ?_
  rotate_left
  · intro w hSw
    try dsimp only at hSw
    go_simp
    try with_reducible rfl
  try simp only [Act.put, List.setIfInBounds_toArray, List.set_cons_zero, List.set_cons_succ]
  refine F_take (i := 5) [14, 13, 12, 8, 7, 6] (v := ?_) rfl (by kernel_rfl) (by kernel_rfl) (by kernel_rfl) (by kernel_rfl) (fun _ _ _ h => h) rfl ?_ hS ?_
  rotate_left
  · intro w hSw
    try dsimp only at hSw
    go_simp
    try with_reducible rfl
  try simp only [Act.put, List.setIfInBounds_toArray, List.set_cons_zero, List.set_cons_succ]
  refine F_take (i := 6) [14, 13, 12, 8, 7] (v := ?_) rfl (by kernel_rfl) (by kernel_rfl) (by kernel_rfl) (by kernel_rfl) (fun _ _ _ h => h) rfl ?_ hS ?_
  rotate_left
  · intro w hSw
    try dsimp only at hSw
    go_simp
    try with_reducible rfl
  try simp only [Act.put, List.setIfInBounds_toArray, List.set_cons_zero, List.set_cons_succ]
  refine F_take (i := 7) [14, 13, 12, 8] (v := ?_) rfl (by kernel_rfl) (by kernel_rfl) (by kernel_rfl) (by kernel_rfl) (fun _ _ _ h => h) rfl ?_ hS ?_
  rotate_left
  · intro w hSw
    try dsimp only at hSw
    go_simp
    try with_reducible rfl
  try simp only [Act.put, List.setIfInBounds_toArray, List.set_cons_zero, List.set_cons_succ]
  refine F_take (i := 8) [14, 13, 12] (v := ?_) rfl (by kernel_rfl) (by kernel_rfl) (by kernel_rfl) (by kernel_rfl) (fun _ _ _ h => h) rfl ?_ hS ?_
  rotate_left
  · intro w hSw
    try dsimp only at hSw
    go_simp
    try with_reducible rfl
  try simp only [Act.put, List.setIfInBounds_toArray, List.set_cons_zero, List.set_cons_succ]
  refine F_take (i := 9) [14, 13, 12, 10] (v := ?_) rfl (by kernel_rfl) (by kernel_rfl) (by kernel_rfl) (by kernel_rfl) (fun _ _ _ h => h) rfl ?_ hS ?_
  rotate_left
  · intro w hSw
    try dsimp only at hSw
    go_simp
    try with_reducible rfl
  try simp only [Act.put, List.setIfInBounds_toArray, List.set_cons_zero, List.set_cons_succ]
  refine F_take (i := 11) [14, 13, 12] (v := ?_) rfl (by kernel_rfl) (by kernel_rfl) (by kernel_rfl) (by kernel_rfl) (fun _ _ _ h => h) rfl ?_ hS ?_
  rotate_left
  · intro w hSw
    try dsimp only at hSw
    go_simp
    try with_reducible rfl
  try simp only [Act.put, List.setIfInBounds_toArray, List.set_cons_zero, List.set_cons_succ]
  refine F_step (i := 10) rfl (by kernel_rfl) (fun K hK => ?_)
  refine step_call rfl 29 #[.agg F] (by go_simp) ((own0 F d _ HF.out).mono ?_)
  rintro e w2 ⟨F', rfl, hF', u2⟩
  refine ⟨_, rfl, ?_⟩
  have k2 : Upd W1 w2 [] := ⟨u2.os, u2.tape, u2.output, u2.size, u2.block⟩
  clear hS
  have hS := SS.out [] _ k2 (by simp) (by simp) (by simp)
  refine hK.out _ _ (Or.inr hS) ?_
  clear hK K
  try simp only [Act.put, List.setIfInBounds_toArray, List.set_cons_zero, List.set_cons_succ]
  replace k2 := hide k2
  have q29 := hF'.size
  have q34 := hr29.out F' q29
  replace hF' := hide hF'
  have OW := (hrow.out.upd (k2.out.alloc (.cells (rdOf ((last : Int) + 1) F' x.cells) 49)) (by simp)).own
  rw [rdCells_len, hv.out] at OW
  replace OW := hide OW
  have ON := hide (rdOf_one (n := (last : Int) + 1) (x := x) hF'.out)
  have hb2 := hide (show base ≤ (w2.alloc (.cells (rdOf ((last : Int) + 1) F' x.cells) 49)).heap.size from (by have := k2.out.size; simp; omega))
  clear u2
  refine F_take (i := 12) [14, 13] (v := ?_) rfl (by kernel_rfl) (by kernel_rfl) (by kernel_rfl) (by kernel_rfl) (fun _ _ _ h => h) rfl ?_ hS ?_
  rotate_left
  · intro w hSw
    try dsimp only at hSw
    go_simp
    try with_reducible rfl
  try simp only [Act.put, List.setIfInBounds_toArray, List.set_cons_zero, List.set_cons_succ]
  refine F_step (i := 13) rfl (by kernel_rfl) (fun K hK => ?_)
  go_simp
  clear hS
  have hS := SS.out [] _ (k2.out.alloc (.cells (rdOf ((last : Int) + 1) F' x.cells) 49)) (by simp) (by simp) (by simp)
  refine hK.out _ _ (Or.inr hS) ?_
  clear hK K
  try simp only [Act.put, List.setIfInBounds_toArray, List.set_cons_zero, List.set_cons_succ]
  refine F_step (i := 14) rfl (by kernel_rfl) (fun K hK => ?_)
  refine step_append_own rfl (.tmp 33) (.tmp 42) 30 rfl base 49 i0 (.agg zeroRd) 34 336 Try.underlying30 hi0 hz0 hz1 hz2 rfl (by decide) (.slice ga L.length c) L.length (flat (rdCells L)) (by simp [Act.eval]) OW.out ⟨w2.heap.size, 0, none⟩ 1 1 (rdOf ((last : Int) + 1) F' x.cells).toList (by simp [Act.eval]) (by simp [q34]) (news_at (Blk.new w2 49 _)) ON.out (by unfold maxLen; omega) (by omega) hb2.out ?_
  intro v2 w3 hown3 hgr3 hnil3
  rw [← hv.out] at hgr3
  obtain ⟨g3, c3, rfl⟩ := own_slice hown3
  obtain ⟨k3, fz, fin⟩ := put_after hd.out k2.out hrow.out hF'.out hown3 hgr3 OK.out HX.out k0 hc16 hl
  have cz := cell_upd c2 k3 nm1.out
  clear hS
  have hS := SS.out _ _ k3 nm1.out nm2.out nm3.out
  replace k3 := hide k3
  clear hown3 hgr3 hnil3 OW ON hb2
  refine hK.out _ _ (Or.inr hS) ?_
  clear hK K
  try simp only [Act.put, List.setIfInBounds_toArray, List.set_cons_zero, List.set_cons_succ]
  refine F_take (i := 15) [16] (v := ?_) rfl (by kernel_rfl) (by kernel_rfl) (by kernel_rfl) (by kernel_rfl) (fun _ _ _ h => h) rfl ?_ hS ?_
  rotate_left
  · intro w hSw
    try dsimp only at hSw
    go_simp
    try with_reducible rfl
  try simp only [Act.put, List.setIfInBounds_toArray, List.set_cons_zero, List.set_cons_succ]
  refine F_take (i := 16) [] (v := ?_) rfl (by kernel_rfl) (by kernel_rfl) (by kernel_rfl) (by kernel_rfl) (fun _ _ _ h => h) rfl ?_ hS ?_
  rotate_left
  · intro w hSw
    try dsimp only at hSw
    go_simp
    try with_reducible rfl
  try simp only [Act.put, List.setIfInBounds_toArray, List.set_cons_zero, List.set_cons_succ]
  refine F_step (i := 17) rfl (by kernel_rfl) (fun K hK => ?_)
  have cy := hS.2.1
  go_simp
  refine hK.out _ _ (Or.inl rfl) ?_
  clear hK K
  try simp only [Act.put, List.setIfInBounds_toArray, List.set_cons_zero, List.set_cons_succ]
  refine F_done (by kernel_rfl) ?_ _
  go_wp2_with fail
  go_ret2
  exact ⟨_, F', by simp, hF'.out, fin.out.1, (UA.out.mono (S' := r :: blkOf v) (by intro i hi _; simp at hi; simp [hi])).trans fin.out.2 (fun i h _ => h)⟩
end Go.Proofs.Ytdnablmlkkkdhaa
