/- The walks of the document's reads: New, Put, Flush, Last. (Put is printed by gen18ref.py.) -/
import Derived.Test.YtdnablmlkkkdhaaRowAt
namespace Go.Proofs.Ytdnablmlkkkdhaa
open Go.RowKit
set_option linter.unusedVariables false
attribute [-go_sem] loadVar storeVar Instr.build Instr.buildSlice
attribute [local go_sem] loadVar_else storeVar_else run_load33 run_load35 run_load42 run_load44 run_load49 run_load72 run_store35 run_store42 run_store44 run_store49 aggAt_drew aggAt_drewN aggRoom_drew aggRoom_drewN run_build72 run_one56
variable {q : Nat} {v : Value} {cap n : Nat} {L : List Rd}
/-- append onto nil of a slice that lies wherever (nil too), as one step -/
theorem step_append_src {P : Program} {ops : Array Oper} {o : Oper} {a : Act} {w : World} {K : Act → World → Prop} {Q : Exit → Act → World → Prop} {E : Prop}
    (hg : o.guard = none) (x : Operand) (t : TypeId) (hop : o.op = Op.call { callee := Callee.builtin Builtin.append, args := #[.const (.slice none 0 0), x], argTypes := #[t, t] })
    (base : Nat) (e : TypeId) (i : TypeInfo) (z : Value) (size bytes : Nat) (ht : P.underlying t = some (.slice e)) (hi : P.info? e = some i) (hz : i.zero = some z)
    (hsize : i.size = size) (hby : i.bytes = bytes) (hzs : z.cells.size = size) (hsz : 0 < size)
    (ga : Option Addr) (m c : Nat) (news : List Value) (hx : a.eval x = .slice ga m c) (hl : news.length = m * size) (hn : ga = none → m = 0 ∧ c = 0) (hnews : ∀ ad, ga = some ad → ∀ j u, news[j]? = some u → w.cell? (ad.add j) = some u) (h1 : ∀ u ∈ news, u.oneCell' = true)
    (h63 : m ≤ maxLen) (hbytes : m * bytes ≤ 140737488355328) (hbase : base ≤ w.heap.size)
    (h : ∀ v' w', w'.ownsRow base e size v' m news → Upd w w' [] → K (a.put o.dst v') w') :
    if Region.wanted o (yielded ops a.tmps) = true then Oper.wp P o a w K Q else E := by
  cases ga with
  | none =>
    obtain ⟨rfl, rfl⟩ := hn rfl
    have hnil : news = [] := List.eq_nil_of_length_eq_zero (by simpa using hl)
    subst hnil
    have hw : Region.wanted o (yielded ops a.tmps) = true := by simp [Region.wanted, hg]
    rw [if_pos hw]
    have hrun := run_append_owned_none (P := P) (w := w) base t o.type e i size ht hi (.slice none 0 0) 0 [] (World.ownsRow_nil w base e size)
    have h2 := h _ w (World.ownsRow_nil w base e size) (Upd.refl _ _)
    have hs : a.eval (.const (.slice none 0 0)) = .slice none 0 0 := rfl
    unfold Oper.wp
    simp [execOp, hop, resolve, invoke, builtin, hs, hx, hrun, Result.andThen]
    exact h2
  | some ad =>
    refine step_append_own hg (.const (.slice none 0 0)) x t hop base e i z size bytes ht hi hz hsize hby hzs hsz (.slice none 0 0) 0 [] rfl (World.ownsRow_nil _ _ _ _) ad m c news hx hl (hnews ad rfl) h1 (by omega) (by rw [Nat.zero_add]; exact hbytes) hbase ?_
    intro v' w' hown hgr hnil
    rw [Nat.zero_add, List.nil_append] at hown
    exact h v' w' hown (Upd.of_grown hgr (by simp [Value.ownBlock]))
theorem built63 (k : Int) : Try.prog.built 63 [(0, .int .i64 k)] = some #[.int .i64 k, .slice none 0 0, .int .i64 0] := by rfl
theorem wpList_doc {ops : Array Oper} {rest : List Oper} {o : Oper} {a : Act} {w : World} {Q : Exit → Act → World → Prop} (hg : o.guard = none) (x : Operand) (ho : o.op = .build 63 #[(0, x)]) (n : Int) (hx : a.eval x = .int .i64 n)
    (h : wpList Try.prog ops Q rest (a.put o.dst (.agg #[.int .i64 n, .slice none 0 0, .int .i64 0])) w) : wpList Try.prog ops Q (o :: rest) a w := by
  refine wpList_build hg 63 #[(0, x)] ho ?_ ?_
  · rw [show (#[(0, x)].map fun (x : Nat × Operand) => (x.1, a.eval x.2)).toList = [(0, .int .i64 n)] by simp [hx], built63]; rfl
  · rw [show (#[(0, x)].map fun (x : Nat × Operand) => (x.1, a.eval x.2)).toList = [(0, .int .i64 n)] by simp [hx], built63]; exact h
theorem rnew_ok (k : Nat) (w : World) (h0 : 0 < k) (h1 : k ≤ 16) :
    Calls Try.prog 14 #[.int .i64 k] w fun e w' => e = .returned (.tuple #[.pointer (some ⟨w.heap.size, 0, none⟩), .int .i64 0]) ∧ Doc w' w.heap.size (.slice none 0 0) k 0 [] ∧ Upd w w' [] := by
  have b1 := hide (Blk.new w 63 #[.int .i64 k, .slice none 0 0, .int .i64 (0 : Nat)])
  have a0 : decide ((k : Int) < 1) = false := by simp; omega
  have a1 : decide (16 < (k : Int)) = false := by simp; omega
  have U := hide ((Upd.refl w []).alloc (.cells #[.int .i64 k, .slice none 0 0, .int .i64 (0 : Nat)] 63))
  go_enter Try.func14, Try.ntmps14
  go_wp2_with (refine wpList_doc rfl _ rfl k rfl ?_)
  go_ret2
  exact ⟨rfl, ⟨b1.out, RowAt.nil _ _ _, by simp⟩, U.out⟩
theorem rnew_bad (n : Int) (w : World) (h : n < 1 ∨ 16 < n) :
    Calls Try.prog 14 #[.int .i64 n] w fun e w' => e = .returned (.tuple #[.pointer none, .int .i64 2]) ∧ w = w' := by
  by_cases h1 : n < 1
  · clear h
    go_enter Try.func14, Try.ntmps14
    go_wp2
    go_ret2
    exact ⟨rfl, rfl⟩
  · have h2 : 16 < n := by omega
    clear h
    go_enter Try.func14, Try.ntmps14
    go_wp2
    go_ret2
    exact ⟨rfl, rfl⟩
theorem rflush_ok (w : World) (H : Doc w q v cap n L) : Calls Try.prog 18 #[.pointer (some ⟨q, 0, none⟩)] w fun e w' => e = .returned v ∧ Doc w' q (.slice none 0 0) cap n [] ∧ Upd w w' [q] := by
  have a1 := H.a1
  have f1 := H.head.frozen 1
  have k : Upd w (w.setCell ⟨q, 1, none⟩ (.slice none 0 0)) [q] := (Upd.refl _ _).setCell (p := ⟨q, 1, none⟩) (by simp) _
  have D := hide (show Doc (w.setCell ⟨q, 1, none⟩ (.slice none 0 0)) q (.slice none 0 0) cap n [] from ⟨H.head.set_ 1 _, RowAt.nil _ _ _, by simp⟩)
  replace k := hide k
  clear H
  go_enter Try.func18, Try.ntmps18
  go_wp2_with fail
  go_ret
  exact ⟨rfl, D.out, k.out⟩
theorem rlast_ok (w : World) (H : Doc w q v cap n L) (h16 : L.length ≤ 16) :
    Calls Try.prog 22 #[.pointer (some ⟨q, 0, none⟩)] w fun e w' => e = .returned (.tuple #[.int .i64 (lastA L).1, .bool (lastA L).2]) ∧ Upd w w' [] := by
  have hrow := H.row
  obtain ⟨ga, c, rfl, _, _, _, hga⟩ := H.form
  have a1 := H.a1
  by_cases hl : 0 < L.length
  · obtain ⟨g, off, rfl, _⟩ := hga hl
    have A := hrow.rd (L.length - 1) (by omega)
    have A0 := aggAt_cell A 0 (by decide)
    rw [Rd.at0] at A0
    obtain ⟨m, hm⟩ : ∃ m, L.length = m + 1 := ⟨L.length - 1, by omega⟩
    have hE := lastA_eq L hl
    have e0 : L.length - 1 = m := by omega
    obtain ⟨z, hz⟩ : ∃ z, z = (L[L.length - 1]).id := ⟨_, rfl⟩
    rw [← hz] at A0 hE
    replace hE := hide hE
    clear hz
    rw [e0] at A0
    have A0 : w.cell? ⟨g, off + m * 34, none⟩ = some (.int .i64 z) := A0
    have hb : ((L.length : Int) == 0) = false := beq_false_of_ne (by omega)
    have s1 : IntKind.i64.wrap ((L.length : Int) - 1) = (m : Int) := by rw [IntWalk.i64_in _ (by omega)]; omega
    have hlt : m < L.length := by omega
    have hlt2 : (m : Int) < L.length := by omega
    clear A H hga hl hm e0 hrow
    go_enter Try.func22, Try.ntmps22
    go_wp2_with fail
    go_quiet (fail)
    go_wp2_with fail
    go_ret2
    refine ⟨?_, (Upd.refl _ _).drewN _⟩
    rw [hE.out]
    rfl
  · have h0 : L.length = 0 := by omega
    obtain rfl := List.eq_nil_of_length_eq_zero h0
    clear H hga hl h0 hrow h16
    go_enter Try.func22, Try.ntmps22
    go_wp2_with fail
    go_ret2
    exact ⟨rfl, Upd.refl _ _⟩
theorem rput_full (F : Array Value) (x : Res) (w : World) (H : Doc w q v cap n L) (hF : F.size = 29) (hl : cap ≤ L.length) (h16 : L.length ≤ 16) :
    Calls Try.prog 20 #[.pointer (some ⟨q, 0, none⟩), .agg F, .agg x.cells] w fun e w' => e = .returned (.tuple #[.int .i64 0, .int .i64 60]) ∧ Upd w w' [] := by
  have U := hide (((Upd.refl w []).alloc (.cells F 42)).alloc (.cells x.cells 35))
  have H1 := H.upd0 U.out
  obtain ⟨ga, c, rfl, _⟩ := H1.form
  have a0 := H1.a0
  have a1 := H1.a1
  have hlt : ¬ L.length < cap := by omega
  clear H H1
  go_enter Try.func20, Try.ntmps20
  go_wp2_with fail
  go_quiet (fail)
  go_wp2_with fail
  go_ret2
  exact ⟨rfl, U.out.drewN _⟩
/-- what is there behind the append of the document's read -/
theorem rput_after {W1 w3 : World} {F : Array Value} {d : Fd} {x : Res} {v v2 : Value} {b : Nat} (hd : Blk W1 q 63 #[.int .i64 cap, v, .int .i64 ((n : Int) + 1)]) (k2 : Upd W1 w3 []) (hF : Fit F d) (ok : ∀ x ∈ L, x.ok)
    (sz : ∀ G ∈ rdCells L, G.size = 34) (on : ∀ G ∈ rdCells L, ∀ u ∈ G, u.oneCell' = true)
    (hown : w3.ownsRow b 72 34 v2 (L.length + 1) (flat (rdCells L) ++ (rdOf ((n : Int) + 1) F x.cells).toList)) :
    w3.frozen? ⟨q, 1, none⟩ = false ∧ (Doc (w3.setCell ⟨q, 1, none⟩ v2) q v2 cap (n + 1) (L ++ [⟨((n + 1 : Nat) : Int), d, x, F⟩]) ∧ Upd W1 (w3.setCell ⟨q, 1, none⟩ v2) [q]) := by
  have hd3 := k2.blk hd (by simp)
  have hok : Rd.ok ⟨((n + 1 : Nat) : Int), d, x, F⟩ := hF
  have R3 : RowOf w3 b 72 34 v2 (rdCells (L ++ [⟨((n + 1 : Nat) : Int), d, x, F⟩])) := rd_push sz on hok hown
  refine ⟨hd3.frozen 1, ⟨(hd3.set_ 1 v2).congr (by simp), (R3.upd ((Upd.refl _ [q]).setCell (p := ⟨q, 1, none⟩) (by simp) _) (R3.ne hd3 (by decide))).at_ (by decide), fun y hy => ?_⟩, (k2.mono (S' := [q]) (by simp)).setCell (by simp) _⟩
  rcases List.mem_append.1 hy with hy | hy
  · exact ok y hy
  · rw [List.mem_singleton.1 hy]; exact hok
theorem keepD {W : World} {q fb xb : Nat} {v : Value} {n : Int} {F X : Array Value} (h : W.cell? ⟨q, 1, none⟩ = some v ∧ W.cell? ⟨q, 2, none⟩ = some (.int .i64 n) ∧ aggAt 29 W fb 0 = some F ∧ aggAt 4 W xb 0 = some X) :
    ∀ w', Upd W w' [] → w'.cell? ⟨q, 1, none⟩ = some v ∧ w'.cell? ⟨q, 2, none⟩ = some (.int .i64 n) ∧ aggAt 29 w' fb 0 = some F ∧ aggAt 4 w' xb 0 = some X := fun w' u =>
  ⟨cell_upd h.1 u (by simp), cell_upd h.2.1 u (by simp), aggAt_upd (by decide) h.2.2.1 u (by simp), aggAt_upd (by decide) h.2.2.2 u (by simp)⟩
set_option maxHeartbeats 4000000 in
theorem rput_ok (F : Array Value) (d : Fd) (x : Res) (w : World) (H : Doc w q v cap n L) (hF : Fit F d) (hl : L.length < cap) (h16 : cap ≤ 16) (hn : n ≤ 1000) :
    Calls Try.prog 20 #[.pointer (some ⟨q, 0, none⟩), .agg F, .agg x.cells] w fun e w' => ∃ v', e = .returned (.tuple #[.int .i64 ((n + 1 : Nat) : Int), .int .i64 0]) ∧ Doc w' q v' cap (n + 1) (L ++ [⟨((n + 1 : Nat) : Int), d, x, F⟩]) ∧ Upd w w' [q] := by
  obtain ⟨i0, hi0, hz0, hz1, hz2⟩ := info_parts info72
  have hF0 : F.size = 29 := hF.size
  have U := hide (((Upd.refl w []).alloc (.cells F 42)).alloc (.cells x.cells 35))
  have fF := hide (((Blk.new w 42 F).alloc (.cells x.cells 35)).agg0 (n := 29) hF0)
  have fX := hide ((Blk.new (w.alloc (.cells F 42)) 35 x.cells).agg0 (n := 4) rfl)
  rw [World.size_alloc] at fX
  have H1 := H.upd0 U.out
  obtain ⟨ga, c, rfl, hlc, hcm, hgn, _⟩ := H1.form
  have a0 := H1.a0
  have a1 := H1.a1
  have a2 := H1.a2
  have f2 := H1.head.frozen 2
  have rl := H.head.lt
  replace H1 := hide H1
  have HF := hide hF
  have hgn := hide (fun h => (⟨by have := hgn h; omega, hgn h⟩ : L.length = 0 ∧ c = 0))
  clear hF
  go_enter Try.func20, Try.ntmps20
  go_wp2_with fail
  go_quiet (fail)
  go_wp2_with fail
  have H2 := H1.out.upd0 ((Upd.refl _ []).drewN nq)
  have gF0 : aggAt 29 ((((w.alloc (.cells F 42)).alloc (.cells x.cells 35))).drewN nq) w.heap.size 0 = some F := fF.out
  have gX0 : aggAt 4 ((((w.alloc (.cells F 42)).alloc (.cells x.cells 35))).drewN nq) (w.heap.size + 1) 0 = some x.cells := fX.out
  have U0 := U.out.drewN nq
  generalize (((w.alloc (.cells F 42)).alloc (.cells x.cells 35))).drewN nq = W0 at *
  have u1 : Upd W0 (W0.setCell ⟨q, 2, none⟩ (.int .i64 ((n : Int) + 1))) [q] := (Upd.refl _ _).setCell (p := ⟨q, 2, none⟩) (by simp) _
  have hd : Blk (W0.setCell ⟨q, 2, none⟩ (.int .i64 ((n : Int) + 1))) q 63 #[.int .i64 cap, .slice ga L.length c, .int .i64 ((n : Int) + 1)] := H2.head.set_ 2 _
  have hrow := H2.row.upd u1 (OffT.one H2.head (by decide))
  have gF := aggAt_upd (by decide) gF0 u1 (by simp; omega)
  have gX := aggAt_upd (by decide) gX0 u1 (by simp; omega)
  have UA := hide ((U0.mono (S' := [q]) (by simp)).trans u1 (fun i h _ => h))
  have c1 : (W0.setCell ⟨q, 2, none⟩ (.int .i64 ((n : Int) + 1))).cell? ⟨q, 1, none⟩ = some (.slice ga L.length c) := by rw [hd.cell]; rfl
  have c2 : (W0.setCell ⟨q, 2, none⟩ (.int .i64 ((n : Int) + 1))).cell? ⟨q, 2, none⟩ = some (.int .i64 ((n : Int) + 1)) := by rw [hd.cell]; rfl
  have hz := UA.out.size
  have SS := hide (keepD ⟨c1, c2, gF, gX⟩)
  have HX := hide H2.ok
  have hokx : Rd.ok ⟨(n : Int) + 1, d, x, F⟩ := HF.out
  have q34 : (rdOf ((n : Int) + 1) F x.cells).size = 34 := rdOf_size _ hF0 rfl
  have ON := hide (rdOf_one (n := (n : Int) + 1) (x := x) HF.out)
  have hl34 : (flat (rdCells L)).length = L.length * 34 := by rw [flat_length _ hrow.sizes, rdCells_len]
  have FONE := hide hrow.flat_one
  have SRC := hide (fun (W : World) (u : Upd (W0.setCell ⟨q, 2, none⟩ (.int .i64 ((n : Int) + 1))) W []) (ad : Addr) (h : ga = some ad) => (hrow.upd u (OffT.nil _ _)).src (by rw [h]))
  have sz := hide hrow.sizes
  have on := hide hrow.ones
  replace hd := hide hd
  clear H1 H2 gF0 gX0 U0 a0 a1 a2 f2 u1 gF gX U fF fX rl hrow c1 c2
  generalize W0.setCell ⟨q, 2, none⟩ (.int .i64 ((n : Int) + 1)) = W1 at *
  have hl34 := hide hl34
  refine F_start 17 (fun w' => w'.cell? ⟨q, 1, none⟩ = some (.slice ga L.length c) ∧ w'.cell? ⟨q, 2, none⟩ = some (.int .i64 ((n : Int) + 1)) ∧ aggAt 29 w' w.heap.size 0 = some F ∧ aggAt 4 w' (w.heap.size + 1) 0 = some x.cells) (by kernel_rfl) ?_
  have hS := SS.out W1.drew (Upd.refl _ _).drew
  refine F_take (i := 0) [16, 15] (v := ?_) rfl (by kernel_rfl) (by kernel_rfl) (by kernel_rfl) (by kernel_rfl) (fun _ _ _ h => h) rfl ?_ hS ?_
  rotate_left
  · intro w hSw
    try dsimp only at hSw
    go_simp
    try with_reducible rfl
  try simp only [Act.put, List.setIfInBounds_toArray, List.set_cons_zero, List.set_cons_succ]
  refine F_take (i := 1) [14, 5, 4, 3, 2] (v := ?_) rfl (by kernel_rfl) (by kernel_rfl) (by kernel_rfl) (by kernel_rfl) (fun _ _ _ h => h) rfl ?_ hS ?_
  rotate_left
  · intro w hSw
    try dsimp only at hSw
    go_simp
    try with_reducible rfl
  try simp only [Act.put, List.setIfInBounds_toArray, List.set_cons_zero, List.set_cons_succ]
  refine F_take (i := 2) [14, 5, 4, 3] (v := ?_) rfl (by kernel_rfl) (by kernel_rfl) (by kernel_rfl) (by kernel_rfl) (fun _ _ _ h => h) rfl ?_ hS ?_
  rotate_left
  · intro w hSw
    try dsimp only at hSw
    go_simp
    try with_reducible rfl
  try simp only [Act.put, List.setIfInBounds_toArray, List.set_cons_zero, List.set_cons_succ]
  refine F_take (i := 3) [14, 5, 4] (v := ?_) rfl (by kernel_rfl) (by kernel_rfl) (by kernel_rfl) (by kernel_rfl) (fun _ _ _ h => h) rfl ?_ hS ?_
  rotate_left
  · intro w hSw
    try dsimp only at hSw
    go_simp
    try with_reducible rfl
  try simp only [Act.put, List.setIfInBounds_toArray, List.set_cons_zero, List.set_cons_succ]
  refine F_take (i := 4) [14, 5] (v := ?_) rfl (by kernel_rfl) (by kernel_rfl) (by kernel_rfl) (by kernel_rfl) (fun _ _ _ h => h) rfl ?_ hS ?_
  rotate_left
  · intro w hSw
    try dsimp only at hSw
    go_simp
    try with_reducible rfl
  try simp only [Act.put, List.setIfInBounds_toArray, List.set_cons_zero, List.set_cons_succ]
  refine F_take (i := 6) [14, 13, 12, 9, 8, 7] (v := ?_) rfl (by kernel_rfl) (by kernel_rfl) (by kernel_rfl) (by kernel_rfl) (fun _ _ _ h => h) rfl ?_ hS ?_
  rotate_left
  · intro w hSw
    try dsimp only at hSw
    go_simp
    try with_reducible rfl
  try simp only [Act.put, List.setIfInBounds_toArray, List.set_cons_zero, List.set_cons_succ]
  refine F_take (i := 7) [14, 13, 12, 9, 8] (v := ?_) rfl (by kernel_rfl) (by kernel_rfl) (by kernel_rfl) (by kernel_rfl) (fun _ _ _ h => h) rfl ?_ hS ?_
  rotate_left
  · intro w hSw
    try dsimp only at hSw
    go_simp
    try with_reducible rfl
  try simp only [Act.put, List.setIfInBounds_toArray, List.set_cons_zero, List.set_cons_succ]
  refine F_take (i := 8) [14, 13, 12, 9] (v := ?_) rfl (by kernel_rfl) (by kernel_rfl) (by kernel_rfl) (by kernel_rfl) (fun _ _ _ h => h) rfl ?_ hS ?_
  rotate_left
  · intro w hSw
    try dsimp only at hSw
    go_simp
    try with_reducible rfl
  try simp only [Act.put, List.setIfInBounds_toArray, List.set_cons_zero, List.set_cons_succ]
  refine F_take (i := 9) [14, 13, 12] (v := ?_) rfl (by kernel_rfl) (by kernel_rfl) (by kernel_rfl) (by kernel_rfl) (fun _ _ _ h => h) rfl ?_ hS ?_
  rotate_left
  · intro w hSw
    try dsimp only at hSw
    go_simp
    try with_reducible rfl
  try simp only [Act.put, List.setIfInBounds_toArray, List.set_cons_zero, List.set_cons_succ]
  refine F_take (i := 10) [14, 13, 12] (v := ?_) rfl (by kernel_rfl) (by kernel_rfl) (by kernel_rfl) (by kernel_rfl) (fun _ _ _ h => h) rfl ?_ hS ?_
  rotate_left
  · intro w hSw
    try dsimp only at hSw
    go_simp
    try with_reducible rfl
  try simp only [Act.put, List.setIfInBounds_toArray, List.set_cons_zero, List.set_cons_succ]
  refine F_take (i := 11) [14, 13, 12] (v := ?_) rfl (by kernel_rfl) (by kernel_rfl) (by kernel_rfl) (by kernel_rfl) (fun _ _ _ h => h) rfl ?_ hS ?_
  rotate_left
  · intro w hSw
    try dsimp only at hSw
    go_simp
    try with_reducible rfl
  try simp only [Act.put, List.setIfInBounds_toArray, List.set_cons_zero, List.set_cons_succ]
  refine F_take (i := 12) [14, 13] (v := ?_) rfl (by kernel_rfl) (by kernel_rfl) (by kernel_rfl) (by kernel_rfl) (fun _ _ _ h => h) rfl ?_ hS ?_
  rotate_left
  · intro w hSw
    try dsimp only at hSw
    go_simp
    try with_reducible rfl
  try simp only [Act.put, List.setIfInBounds_toArray, List.set_cons_zero, List.set_cons_succ]
  refine F_two (i := 5) (j := 13) rfl rfl (by kernel_rfl) (fun K hK => ?_) (fun K hK => ?_)
  · refine step_append_src rfl (.tmp 29) 56 rfl W1.heap.size 72 i0 (.agg zeroRd) 34 336 Try.underlying56 hi0 hz0 hz1 hz2 rfl (by decide) ga L.length c (flat (rdCells L)) (by simp [Act.eval]) hl34.out hgn.out (SRC.out _ (Upd.refl _ _).drew) FONE.out (by unfold maxLen; omega) (by omega) (Nat.le_refl _) ?_
    intro v1 w2 hown1 ua
    have ua : Upd W1 w2 [] := ⟨ua.os, ua.tape, ua.output, ua.size, ua.block⟩
    clear hS
    have hS := SS.out w2 ua
    have OW := hide (show (w2.alloc (.cells (rdOf ((n : Int) + 1) F x.cells) 72)).ownsRow W1.heap.size 72 34 v1 L.length (flat (rdCells L)) from by
      have k := (RowOf.mk sz.out on.out (by rw [rdCells_len]; exact hown1) : RowOf w2 W1.heap.size 72 34 v1 (rdCells L)).upd ((Upd.refl w2 []).alloc (.cells (rdOf ((n : Int) + 1) F x.cells) 72)) (by simp)
      have k := k.own
      rwa [rdCells_len] at k)
    replace ua := hide ua
    have hb2 := hide (show W1.heap.size ≤ (w2.alloc (.cells (rdOf ((n : Int) + 1) F x.cells) 72)).heap.size from (by have := ua.out.size; simp; omega))
    clear hown1
    refine hK.out _ _ (Or.inr hS) ?_
    clear hK K
    try simp only [Act.put, List.setIfInBounds_toArray, List.set_cons_zero, List.set_cons_succ]
    refine F_step (i := 13) rfl (by kernel_rfl) (fun K hK => ?_)
    go_simp
    clear hS
    have hS := SS.out _ (ua.out.alloc (.cells (rdOf ((n : Int) + 1) F x.cells) 72))
    refine hK.out _ _ (Or.inr hS) ?_
    clear hK K
    try simp only [Act.put, List.setIfInBounds_toArray, List.set_cons_zero, List.set_cons_succ]
    refine F_step (i := 14) rfl (by kernel_rfl) (fun K hK => ?_)
    refine step_append_own rfl (.tmp 30) (.tmp 38) 56 rfl W1.heap.size 72 i0 (.agg zeroRd) 34 336 Try.underlying56 hi0 hz0 hz1 hz2 rfl (by decide) v1 L.length (flat (rdCells L)) (by simp [Act.eval]) OW.out ⟨w2.heap.size, 0, none⟩ 1 1 (rdOf ((n : Int) + 1) F x.cells).toList (by simp [Act.eval]) (by simp [q34]) (news_at (Blk.new w2 72 _)) ON.out (by unfold maxLen; omega) (by omega) hb2.out ?_
    intro v2 w3 hown hgr hnil
    obtain ⟨g3, c3, rfl⟩ := own_slice hown
    have k3 : Upd W1 w3 [] := Upd.own (ua.out.alloc _) (Nat.le_refl _) OW.out hgr
    obtain ⟨fz, fin⟩ := rput_after (d := d) hd.out k3 HF.out HX.out sz.out on.out hown
    clear hS
    have hS := SS.out _ k3
    replace fin := hide (show Doc _ _ _ _ _ _ ∧ Upd w _ [q] from ⟨fin.1, UA.out.trans fin.2 (fun i h _ => h)⟩)
    replace k3 := hide k3
    clear hown hgr hnil OW hb2
    refine hK.out _ _ (Or.inr hS) ?_
    clear hK K
    try simp only [Act.put, List.setIfInBounds_toArray, List.set_cons_zero, List.set_cons_succ]
    refine F_take (i := 15) [16] (v := ?_) rfl (by kernel_rfl) (by kernel_rfl) (by kernel_rfl) (by kernel_rfl) (fun _ _ _ h => h) rfl ?_ hS ?_
    rotate_left
    · intro w hSw
      try dsimp only at hSw
      go_simp
      try with_reducible rfl
    try simp only [Act.put, List.setIfInBounds_toArray, List.set_cons_zero, List.set_cons_succ]
    refine F_take (i := 16) [] (v := ?_) rfl (by kernel_rfl) (by kernel_rfl) (by kernel_rfl) (by kernel_rfl) (fun _ _ _ h => h) rfl ?_ hS ?_
    rotate_left
    · intro w hSw
      try dsimp only at hSw
      go_simp
      try with_reducible rfl
    try simp only [Act.put, List.setIfInBounds_toArray, List.set_cons_zero, List.set_cons_succ]
    refine F_step (i := 17) rfl (by kernel_rfl) (fun K hK => ?_)
    have cz := hS.1
    have cy := hS.2.1
    go_simp
    refine hK.out _ _ (Or.inl rfl) ?_
    clear hK K
    try simp only [Act.put, List.setIfInBounds_toArray, List.set_cons_zero, List.set_cons_succ]
    refine F_done (by kernel_rfl) ?_ _
    go_wp2_with fail
    go_ret2
    exact ⟨_, by simp, fin.out.1, fin.out.2⟩
  · go_simp
    have ub : Upd W1 ((W1.alloc (.cells (rdOf ((n : Int) + 1) F x.cells) 72)).drew) [] := ((Upd.refl W1 []).alloc _).drew
    clear hS
    have hS := SS.out _ ub
    have Bn := Blk.new W1 72 (rdOf ((n : Int) + 1) F x.cells)
    have hzb : W1.heap.size ≤ (W1.alloc (.cells (rdOf ((n : Int) + 1) F x.cells) 72)).drew.heap.size := by have := ub.size; omega
    refine hK.out _ _ (Or.inr hS) ?_
    clear hK K
    try simp only [Act.put, List.setIfInBounds_toArray, List.set_cons_zero, List.set_cons_succ]
    have Bn : Blk ((W1.alloc (.cells (rdOf ((n : Int) + 1) F x.cells) 72)).drew) W1.heap.size 72 (rdOf ((n : Int) + 1) F x.cells) := Bn
    generalize (W1.alloc (.cells (rdOf ((n : Int) + 1) F x.cells) 72)).drew = w5 at *
    refine F_step (i := 5) rfl (by kernel_rfl) (fun K hK => ?_)
    refine step_append_src rfl (.tmp 29) 56 rfl W1.heap.size 72 i0 (.agg zeroRd) 34 336 Try.underlying56 hi0 hz0 hz1 hz2 rfl (by decide) ga L.length c (flat (rdCells L)) (by simp [Act.eval]) hl34.out hgn.out (SRC.out _ ub) FONE.out (by unfold maxLen; omega) (by omega) hzb ?_
    intro v1 w2 hown1 ua
    have uc := hide (ub.trans ua (by simp))
    clear hS
    have hS := SS.out w2 uc.out
    have B2 := ua.blk Bn (by simp)
    have OW := hide hown1
    have hb2 := hide (show W1.heap.size ≤ w2.heap.size from (by have := uc.out.size; omega))
    clear hown1 ua
    refine hK.out _ _ (Or.inr hS) ?_
    clear hK K
    try simp only [Act.put, List.setIfInBounds_toArray, List.set_cons_zero, List.set_cons_succ]
    refine F_step (i := 14) rfl (by kernel_rfl) (fun K hK => ?_)
    refine step_append_own rfl (.tmp 30) (.tmp 38) 56 rfl W1.heap.size 72 i0 (.agg zeroRd) 34 336 Try.underlying56 hi0 hz0 hz1 hz2 rfl (by decide) v1 L.length (flat (rdCells L)) (by simp [Act.eval]) OW.out ⟨W1.heap.size, 0, none⟩ 1 1 (rdOf ((n : Int) + 1) F x.cells).toList (by simp [Act.eval]) (by simp [q34]) (news_at B2) ON.out (by unfold maxLen; omega) (by omega) hb2.out ?_
    intro v2 w3 hown hgr hnil
    obtain ⟨g3, c3, rfl⟩ := own_slice hown
    have k3 : Upd W1 w3 [] := Upd.own uc.out (Nat.le_refl _) OW.out hgr
    obtain ⟨fz, fin⟩ := rput_after (d := d) hd.out k3 HF.out HX.out sz.out on.out hown
    clear hS
    have hS := SS.out _ k3
    replace fin := hide (show Doc _ _ _ _ _ _ ∧ Upd w _ [q] from ⟨fin.1, UA.out.trans fin.2 (fun i h _ => h)⟩)
    replace k3 := hide k3
    clear hown hgr hnil OW hb2
    refine hK.out _ _ (Or.inr hS) ?_
    clear hK K
    try simp only [Act.put, List.setIfInBounds_toArray, List.set_cons_zero, List.set_cons_succ]
    refine F_take (i := 15) [16] (v := ?_) rfl (by kernel_rfl) (by kernel_rfl) (by kernel_rfl) (by kernel_rfl) (fun _ _ _ h => h) rfl ?_ hS ?_
    rotate_left
    · intro w hSw
      try dsimp only at hSw
      go_simp
      try with_reducible rfl
    try simp only [Act.put, List.setIfInBounds_toArray, List.set_cons_zero, List.set_cons_succ]
    refine F_take (i := 16) [] (v := ?_) rfl (by kernel_rfl) (by kernel_rfl) (by kernel_rfl) (by kernel_rfl) (fun _ _ _ h => h) rfl ?_ hS ?_
    rotate_left
    · intro w hSw
      try dsimp only at hSw
      go_simp
      try with_reducible rfl
    try simp only [Act.put, List.setIfInBounds_toArray, List.set_cons_zero, List.set_cons_succ]
    refine F_step (i := 17) rfl (by kernel_rfl) (fun K hK => ?_)
    have cz := hS.1
    have cy := hS.2.1
    go_simp
    refine hK.out _ _ (Or.inl rfl) ?_
    clear hK K
    try simp only [Act.put, List.setIfInBounds_toArray, List.set_cons_zero, List.set_cons_succ]
    refine F_done (by kernel_rfl) ?_ _
    go_wp2_with fail
    go_ret2
    exact ⟨_, by simp, fin.out.1, fin.out.2⟩
end Go.Proofs.Ytdnablmlkkkdhaa
