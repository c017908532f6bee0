/- The walks of the layer transfer: Open, where it makes a sender. -/
import Derived.Test.YtmmacjjmkaeakaaOpenS
namespace Go.Proofs.Ytmmacjjmkaeakaa
open Go.RowKit
set_option linter.unusedVariables false
theorem info73 : (Try.prog.info? 73).map (fun i => (i.zero, i.size, i.bytes)) = some (some (.slice none 0 0), 1, 24) := by kernel_rfl
/-- the pieces that a text is cut into -/
def Cut (n size i : Nat) : Prop := 1 ≤ i ∧ n ≤ i * size ∧ (i = 1 ∨ (i - 1) * size < n)
theorem bytes_new (w : World) (t : ByteArray) (cap : Nat) : Bytes (w.alloc (.cells (bytesRow t cap) 5 ((bytesRow t cap).size, (bytesRow t cap).size + 1))) w.heap.size t :=
  ⟨_, _, heap_alloc_new w _, fun j h => by
    have hj : j < t.data.size := by simpa using h
    rw [bytesRow_at t cap j hj]; simp⟩
theorem cut_push {w2 : World} {base bb size n k : Nat} {v2 X : Value} (hX : cutV bb size n k = X) (hs : ∀ G ∈ cutCells bb size n k, G.size = 1) (ho : ∀ G ∈ cutCells bb size n k, ∀ u ∈ G, u.oneCell' = true)
    (hown : w2.ownsRow base 73 1 v2 (k + 1) (flat (cutCells bb size n k) ++ [X])) : RowOf w2 base 73 1 v2 (cutCells bb size n (k + 1)) := by
  have := RowOf.push (F := #[X]) hs ho rfl (by intro u hu; simp at hu; subst hu; rw [← hX]; rfl) (by rw [cutCells_len]; exact hown)
  rw [cutCells_succ, hX]
  exact this
/-- what is there behind the append of a piece -/
theorem open_after {W w2 w3 : World} {base r bb size k : Nat} {v v2 X : Value} {t : ByteArray} {id win hv sent : Int} (H : Snd W base r v bb t size k id win hv sent) (hX : cutV bb size t.size k = X) (k2 : Upd W w2 [])
    (hown : w3.ownsRow base 73 1 v2 (k + 1) (flat (cutCells bb size t.size k) ++ [X])) (hgr : w2.grownBy w3 v.ownBlock) (hbb : bb ∉ blkOf v) :
    Upd W w3 (blkOf v) ∧ w3.frozen? ⟨r, 1, none⟩ = false ∧ (Snd (w3.setCell ⟨r, 1, none⟩ v2) base r v2 bb t size (k + 1) id win hv sent ∧ Upd W (w3.setCell ⟨r, 1, none⟩ v2) (r :: blkOf v)) := by
  have k3 : Upd W w3 (blkOf v) := (k2.mono (S' := blkOf v) (by simp)).trans (Upd.of_grown (S := blkOf v) hgr (by intro k hk _; simp [blkOf, hk])) (fun i h _ => h)
  have sep := H.row.ne H.head (by decide)
  have hd3 := k3.blk H.head (fun h => sep r h (by simp))
  have R3 := cut_push hX H.row.sizes H.row.ones hown
  have m3 := H.mem.upd k3 hbb
  have ks : Upd w3 (w3.setCell ⟨r, 1, none⟩ v2) [r] := (Upd.refl _ [r]).setCell (p := ⟨r, 1, none⟩) (by simp) _
  exact ⟨k3, hd3.frozen 1, ⟨H.ge, (hd3.set_ 1 v2).congr (by simp), R3.upd ks (R3.ne hd3 (by decide)), m3.upd ks (by simpa using m3.ne hd3 (by decide))⟩, (k3.mono (S' := r :: blkOf v) (by intro i hi _; exact List.mem_cons_of_mem _ hi)).setCell (by simp) _⟩
theorem Bytes.not_row {w : World} {bb base n : Nat} {e : TypeId} {v : Value} {t : ByteArray} {Fs : List (Array Value)} (h : Bytes w bb t) (hr : RowOf w base e n v Fs) (hne : e ≠ 5) : bb ∉ blkOf v := by
  intro hm
  rcases hr.slice with ⟨rfl, _⟩ | ⟨g, c, rfl, _, _, cur, hb, _⟩
  · simp [blkOf, Value.ownBlock] at hm
  · simp [blkOf, Value.ownBlock] at hm
    exact h.ne hb hne hm
set_option maxHeartbeats 4000000 in
theorem open_ok (id win : Int) (size : Nat) (t : ByteArray) (w : World) (h : openBad id size win = false) (h2 : t.size ≤ size * 4096) :
    Calls Try.prog 14 #[.int .i64 id, .string t, .int .i64 size, .int .i64 win] w fun e w' => ∃ r bb v k, e = .returned (.tuple #[.pointer (some ⟨r, 0, none⟩), .int .i64 0]) ∧ w.heap.size ≤ r ∧ w.heap.size ≤ bb ∧ Snd w' w.heap.size r v bb t size k id win 0 0 ∧ Cut t.size size k ∧ Upd w w' [] := by
  simp only [openBad, Bool.or_eq_false_iff, decide_eq_false_iff_not] at h
  obtain ⟨⟨⟨⟨⟨h3, h4⟩, h5⟩, h6⟩, h7⟩, h8⟩ := h
  have hlen : ¬ (size : Int) * 4096 < (t.size : Int) := by omega
  have wr : IntKind.i64.wrap ((size : Int) * 4096) = (size : Int) * 4096 := IntWalk.i64_in _ (by omega)
  have kc := fun (W : World) => run_bytes_of_string (P := Try.prog) W 9 73 5 t Try.underlying9 Try.underlying73 Try.underlying5
  have b1 := Blk.new w 64 #[.int .i64 id, .slice none 0 0, .int .i64 win, .int .i64 0, .int .i64 0]
  have u1 := (Upd.refl w []).alloc (.cells #[.int .i64 id, .slice none 0 0, .int .i64 win, .int .i64 0, .int .i64 0] 64)
  have hsz : (w.alloc (.cells #[.int .i64 id, .slice none 0 0, .int .i64 win, .int .i64 0, .int .i64 0] 64)).heap.size = w.heap.size + 1 := by show (w.heap.push _).size = _; simp
  have b3 := bytes_new (w.alloc (.cells #[.int .i64 id, .slice none 0 0, .int .i64 win, .int .i64 0, .int .i64 0] 64)) t (grownCap (w.alloc (.cells #[.int .i64 id, .slice none 0 0, .int .i64 win, .int .i64 0, .int .i64 0] 64)) t.size 0 5)
  have u3 := u1.alloc (.cells (bytesRow t (grownCap (w.alloc (.cells #[.int .i64 id, .slice none 0 0, .int .i64 win, .int .i64 0, .int .i64 0] 64)) t.size 0 5)) 5 ((bytesRow t (grownCap (w.alloc (.cells #[.int .i64 id, .slice none 0 0, .int .i64 win, .int .i64 0, .int .i64 0] 64)) t.size 0 5)).size, (bytesRow t (grownCap (w.alloc (.cells #[.int .i64 id, .slice none 0 0, .int .i64 win, .int .i64 0, .int .i64 0] 64)) t.size 0 5)).size + 1))
  have b4 := b1.alloc (.cells (bytesRow t (grownCap (w.alloc (.cells #[.int .i64 id, .slice none 0 0, .int .i64 win, .int .i64 0, .int .i64 0] 64)) t.size 0 5)) 5 ((bytesRow t (grownCap (w.alloc (.cells #[.int .i64 id, .slice none 0 0, .int .i64 win, .int .i64 0, .int .i64 0] 64)) t.size 0 5)).size, (bytesRow t (grownCap (w.alloc (.cells #[.int .i64 id, .slice none 0 0, .int .i64 win, .int .i64 0, .int .i64 0] 64)) t.size 0 5)).size + 1))
  have hcap := grownCap_ge (w.alloc (.cells #[.int .i64 id, .slice none 0 0, .int .i64 win, .int .i64 0, .int .i64 0] 64)) t.size 0 5
  rw [hsz] at b3
  have u5 := u3.drew
  have C0 : Snd _ w.heap.size w.heap.size (.slice none 0 0) (w.heap.size + 1) t size 0 id win 0 0 := ⟨Nat.le_refl _, b4.drew, RowOf.nil _ _ _ _, (show Bytes (World.drew _) _ t from b3)⟩
  replace C0 := hide C0
  replace u5 := hide u5
  clear b1 u1 b3 u3 b4
  replace hsz := hide hsz
  go_enter Try.func14, Try.ntmps14
  go_wp2_with fail
  generalize grownCap (w.alloc (.cells #[.int .i64 id, .slice none 0 0, .int .i64 win, .int .i64 0, .int .i64 0] 64)) t.size 0 5 = cap at *
  generalize ((w.alloc (.cells #[.int .i64 id, .slice none 0 0, .int .i64 win, .int .i64 0, .int .i64 0] 64)).alloc (.cells (bytesRow t cap) 5 ((bytesRow t cap).size, (bytesRow t cap).size + 1))).drew = w1 at *
  clear kc
  have hb0 := hide (show w.heap.size ≤ w.heap.size + 1 by omega)
  generalize w.heap.size + 1 = bb at *
  generalize hr : w.heap.size = r at *
  replace hr := hide hr
  obtain ⟨i0, hi0, hz0, hz1, hz2⟩ := info_parts info73
  go_loopw [12] (fun vi wr => ∃ (i : Nat) (v' : Value), vi = .int .i64 ((i * size : Nat) : Int) ∧ Snd wr r r v' bb t size i id win 0 0 ∧ (i = 0 ∨ i = 1 ∨ (i - 1) * size < t.size) ∧ Upd w wr []) (fun vi _ => t.size + 1 - (intOf vi).toNat)
  case atStart => exact ⟨0, _, by simp, C0.out, .inl rfl, u5.out⟩
  case round =>
    clear C0 u5
    obtain ⟨i, v', rfl, hC, hi, hu⟩ := hrel
    have a1 := hC.a1
    obtain ⟨ga, c, hv1, hp⟩ := hC.form
    have hif := hide (show i ≤ i * size from Nat.le_mul_of_pos_right i (by omega))
    generalize hf : i * size = f at *
    by_cases h0 : f = 0
    · subst h0
      have wf : IntKind.i64.wrap (size : Int) = (size : Int) := IntWalk.i64_in _ (by omega)
      by_cases h9 : t.size < size
      · skip
        have h11 : t.size ≤ cap := hcap
        replace hf := hide hf
        have hX := hide (show cutV bb size t.size i = (.slice (some ⟨bb, 0, none⟩) (t.size) (t.size)) by (try have := hq.out); unfold cutV cutHi; rw [hf.out]; congr 1 <;> omega)
        have rb := hC.row.ne hC.head (by decide)
        have hbb := hide (hC.mem.not_row hC.row (by decide))
        have nm1 := hide (show r ∉ blkOf v' from fun h => rb r h (by simp))
        have OW := (hC.row.upd ((Upd.refl wr []).drew.alloc (.cells #[(.slice (some ⟨bb, 0, none⟩) (t.size) (t.size))] 73)) (by simp)).own
        rw [cutCells_len] at OW
        replace OW := hide OW
        have hbs := hide (show r ≤ (wr.drew.alloc (.cells #[(.slice (some ⟨bb, 0, none⟩) (t.size) (t.size))] 73)).heap.size from (by have := hC.head.lt; have := ((Upd.refl wr []).drew.alloc (.cells #[(.slice (some ⟨bb, 0, none⟩) (t.size) (t.size))] 73)).size; omega))
        have hil := hide (show i + 1 ≤ 3000000 by have := hif.out; omega)
        clear rb
        replace hC := hide hC
        replace hu := hide hu
        go_wp2_with fail
        refine F_start 14 (fun w' => w'.cell? ⟨r, 1, none⟩ = some v') (by kernel_rfl) ?_
        have hS : wr.drew.cell? ⟨r, 1, none⟩ = some v' := a1
        refine F_take (i := 0) [13, 12] (v := ?_) rfl (by kernel_rfl) (by kernel_rfl) (by kernel_rfl) (by kernel_rfl) (fun _ _ _ h => h) rfl ?_ hS ?_
        rotate_left
        · intro w hSw
          try dsimp only at hSw
          go_simp
          try with_reducible rfl
        try simp only [Act.put, List.setIfInBounds_toArray, List.set_cons_zero, List.set_cons_succ]
        refine F_take (i := 1) [11, 4, 3, 2] (v := ?_) rfl (by kernel_rfl) (by kernel_rfl) (by kernel_rfl) (by kernel_rfl) (fun _ _ _ h => h) rfl ?_ hS ?_
        rotate_left
        · intro w hSw
          try dsimp only at hSw
          go_simp
          try with_reducible rfl
        try simp only [Act.put, List.setIfInBounds_toArray, List.set_cons_zero, List.set_cons_succ]
        refine F_take (i := 2) [11, 4, 3] (v := ?_) rfl (by kernel_rfl) (by kernel_rfl) (by kernel_rfl) (by kernel_rfl) (fun _ _ _ h => h) rfl ?_ hS ?_
        rotate_left
        · intro w hSw
          try dsimp only at hSw
          go_simp
          try with_reducible rfl
        try simp only [Act.put, List.setIfInBounds_toArray, List.set_cons_zero, List.set_cons_succ]
        refine F_take (i := 3) [11, 4] (v := ?_) rfl (by kernel_rfl) (by kernel_rfl) (by kernel_rfl) (by kernel_rfl) (fun _ _ _ h => h) rfl ?_ hS ?_
        rotate_left
        · intro w hSw
          try dsimp only at hSw
          go_simp
          try with_reducible rfl
        try simp only [Act.put, List.setIfInBounds_toArray, List.set_cons_zero, List.set_cons_succ]
        refine F_take (i := 4) [11] (v := ?_) rfl (by kernel_rfl) (by kernel_rfl) (by kernel_rfl) (by kernel_rfl) (fun _ _ _ h => h) rfl ?_ hS ?_
        rotate_left
        · intro w hSw
          try dsimp only at hSw
          go_simp
          try with_reducible rfl
        try simp only [Act.put, List.setIfInBounds_toArray, List.set_cons_zero, List.set_cons_succ]
        refine F_take (i := 5) [11, 10, 9] (v := ?_) rfl (by kernel_rfl) (by kernel_rfl) (by kernel_rfl) (by kernel_rfl) (fun _ _ _ h => h) rfl ?_ hS ?_
        rotate_left
        · intro w hSw
          try dsimp only at hSw
          go_simp
          try with_reducible rfl
        try simp only [Act.put, List.setIfInBounds_toArray, List.set_cons_zero, List.set_cons_succ]
        refine F_take (i := 6) [11, 10, 9] (v := ?_) rfl (by kernel_rfl) (by kernel_rfl) (by kernel_rfl) (by kernel_rfl) (fun _ _ _ h => h) rfl ?_ hS ?_
        rotate_left
        · intro w hSw
          try dsimp only at hSw
          go_simp
          try with_reducible rfl
        try simp only [Act.put, List.setIfInBounds_toArray, List.set_cons_zero, List.set_cons_succ]
        refine F_take (i := 7) [11, 10, 9] (v := ?_) rfl (by kernel_rfl) (by kernel_rfl) (by kernel_rfl) (by kernel_rfl) (fun _ _ _ h => h) rfl ?_ hS ?_
        rotate_left
        · intro w hSw
          try dsimp only at hSw
          go_simp
          try with_reducible rfl
        try simp only [Act.put, List.setIfInBounds_toArray, List.set_cons_zero, List.set_cons_succ]
        refine F_take (i := 8) [11, 10, 9] (v := ?_) rfl (by kernel_rfl) (by kernel_rfl) (by kernel_rfl) (by kernel_rfl) (fun _ _ _ h => h) rfl ?_ hS ?_
        rotate_left
        · intro w hSw
          try dsimp only at hSw
          go_simp
          try with_reducible rfl
        try simp only [Act.put, List.setIfInBounds_toArray, List.set_cons_zero, List.set_cons_succ]
        refine F_take (i := 9) [11, 10] (v := ?_) rfl (by kernel_rfl) (by kernel_rfl) (by kernel_rfl) (by kernel_rfl) (fun _ _ _ h => h) rfl ?_ hS ?_
        rotate_left
        · intro w hSw
          try dsimp only at hSw
          go_simp
          try with_reducible rfl
        try simp only [Act.put, List.setIfInBounds_toArray, List.set_cons_zero, List.set_cons_succ]
        refine F_step (i := 10) rfl (by kernel_rfl) (fun K hK => ?_)
        go_simp
        clear hS
        have hS : (wr.drew.alloc (.cells #[(.slice (some ⟨bb, 0, none⟩) (t.size) (t.size))] 73)).cell? ⟨r, 1, none⟩ = some v' := cell_upd a1 ((Upd.refl wr []).drew.alloc (.cells #[(.slice (some ⟨bb, 0, none⟩) (t.size) (t.size))] 73)) (by simp)
        refine hK.out _ _ (Or.inr hS) ?_
        clear hK K
        try simp only [Act.put, List.setIfInBounds_toArray, List.set_cons_zero, List.set_cons_succ]
        refine F_step (i := 11) rfl (by kernel_rfl) (fun K hK => ?_)
        refine step_append_own rfl (.tmp 68) (.tmp 74) 62 rfl r 73 i0 (.slice none 0 0) 1 24 Try.underlying62 hi0 hz0 hz1 hz2 rfl (by decide) v' i (flat (cutCells bb size t.size i)) (by simp [Act.eval, hv1]) OW.out ⟨wr.heap.size, 0, none⟩ 1 1 [(.slice (some ⟨bb, 0, none⟩) (t.size) (t.size))] (by simp [Act.eval]) rfl (news_at (R := #[(.slice (some ⟨bb, 0, none⟩) (t.size) (t.size))]) (Blk.new wr.drew 73 _)) (by intro u hu; simp at hu; subst hu; rfl) (by have := hil.out; unfold maxLen; omega) (by have := hil.out; omega) hbs.out ?_
        intro v5 w6 hown hgr hnil
        obtain ⟨g5, c5, rfl⟩ := own_slice hown
        obtain ⟨k3, fz, fin⟩ := open_after hC.out hX.out ((Upd.refl wr []).drew.alloc (.cells #[(.slice (some ⟨bb, 0, none⟩) (t.size) (t.size))] 73)) hown hgr hbb.out
        have cz := cell_upd a1 k3 nm1.out
        clear hS
        have hS := cz
        replace fin := hide fin
        clear hown hgr hnil OW hbs k3
        refine hK.out _ _ (Or.inr hS) ?_
        clear hK K
        try simp only [Act.put, List.setIfInBounds_toArray, List.set_cons_zero, List.set_cons_succ]
        refine F_take (i := 12) [13] (v := ?_) rfl (by kernel_rfl) (by kernel_rfl) (by kernel_rfl) (by kernel_rfl) (fun _ _ _ h => h) rfl ?_ hS ?_
        rotate_left
        · intro w hSw
          try dsimp only at hSw
          go_simp
          try with_reducible rfl
        try simp only [Act.put, List.setIfInBounds_toArray, List.set_cons_zero, List.set_cons_succ]
        refine F_take (i := 13) [] (v := ?_) rfl (by kernel_rfl) (by kernel_rfl) (by kernel_rfl) (by kernel_rfl) (fun _ _ _ h => h) rfl ?_ hS ?_
        rotate_left
        · intro w hSw
          try dsimp only at hSw
          go_simp
          try with_reducible rfl
        try simp only [Act.put, List.setIfInBounds_toArray, List.set_cons_zero, List.set_cons_succ]
        refine F_step (i := 14) rfl (by kernel_rfl) (fun K hK => ?_)
        go_simp
        refine hK.out _ _ (Or.inl rfl) ?_
        clear hK K
        try simp only [Act.put, List.setIfInBounds_toArray, List.set_cons_zero, List.set_cons_succ]
        refine F_done (by kernel_rfl) ?_ _
        go_wp2_with fail
        refine ⟨⟨i + 1, _, ?_, fin.out.1, ?_, ?_⟩, ?_⟩
        · rw [Nat.succ_mul, hf.out]; simp
        · exact .inr (.inl (by have := hif.out; omega))
        · exact hu.out.trans fin.out.2 (fun k hk hl => by
            exfalso
            have h20 := hr.out
            rcases List.mem_cons.1 hk with rfl | hk
            · omega
            · have := hC.out.row.ge k hk
              omega)
        · show t.size + 1 - ((size : Int)).toNat < t.size + 1 - ((0 : Nat) : Int).toNat
          (try have := hq.out)
          omega
      · skip
        have h10 : size ≤ t.size := by omega
        have h11 : size ≤ cap := by omega
        replace hf := hide hf
        have hX := hide (show cutV bb size t.size i = (.slice (some ⟨bb, 0, none⟩) (size) (size)) by (try have := hq.out); unfold cutV cutHi; rw [hf.out]; congr 1 <;> omega)
        have rb := hC.row.ne hC.head (by decide)
        have hbb := hide (hC.mem.not_row hC.row (by decide))
        have nm1 := hide (show r ∉ blkOf v' from fun h => rb r h (by simp))
        have OW := (hC.row.upd ((Upd.refl wr []).drew.alloc (.cells #[(.slice (some ⟨bb, 0, none⟩) (size) (size))] 73)) (by simp)).own
        rw [cutCells_len] at OW
        replace OW := hide OW
        have hbs := hide (show r ≤ (wr.drew.alloc (.cells #[(.slice (some ⟨bb, 0, none⟩) (size) (size))] 73)).heap.size from (by have := hC.head.lt; have := ((Upd.refl wr []).drew.alloc (.cells #[(.slice (some ⟨bb, 0, none⟩) (size) (size))] 73)).size; omega))
        have hil := hide (show i + 1 ≤ 3000000 by have := hif.out; omega)
        clear rb
        replace hC := hide hC
        replace hu := hide hu
        go_wp2_with fail
        refine F_start 14 (fun w' => w'.cell? ⟨r, 1, none⟩ = some v') (by kernel_rfl) ?_
        have hS : wr.drew.cell? ⟨r, 1, none⟩ = some v' := a1
        refine F_take (i := 0) [13, 12] (v := ?_) rfl (by kernel_rfl) (by kernel_rfl) (by kernel_rfl) (by kernel_rfl) (fun _ _ _ h => h) rfl ?_ hS ?_
        rotate_left
        · intro w hSw
          try dsimp only at hSw
          go_simp
          try with_reducible rfl
        try simp only [Act.put, List.setIfInBounds_toArray, List.set_cons_zero, List.set_cons_succ]
        refine F_take (i := 1) [11, 4, 3, 2] (v := ?_) rfl (by kernel_rfl) (by kernel_rfl) (by kernel_rfl) (by kernel_rfl) (fun _ _ _ h => h) rfl ?_ hS ?_
        rotate_left
        · intro w hSw
          try dsimp only at hSw
          go_simp
          try with_reducible rfl
        try simp only [Act.put, List.setIfInBounds_toArray, List.set_cons_zero, List.set_cons_succ]
        refine F_take (i := 2) [11, 4, 3] (v := ?_) rfl (by kernel_rfl) (by kernel_rfl) (by kernel_rfl) (by kernel_rfl) (fun _ _ _ h => h) rfl ?_ hS ?_
        rotate_left
        · intro w hSw
          try dsimp only at hSw
          go_simp
          try with_reducible rfl
        try simp only [Act.put, List.setIfInBounds_toArray, List.set_cons_zero, List.set_cons_succ]
        refine F_take (i := 3) [11, 4] (v := ?_) rfl (by kernel_rfl) (by kernel_rfl) (by kernel_rfl) (by kernel_rfl) (fun _ _ _ h => h) rfl ?_ hS ?_
        rotate_left
        · intro w hSw
          try dsimp only at hSw
          go_simp
          try with_reducible rfl
        try simp only [Act.put, List.setIfInBounds_toArray, List.set_cons_zero, List.set_cons_succ]
        refine F_take (i := 4) [11] (v := ?_) rfl (by kernel_rfl) (by kernel_rfl) (by kernel_rfl) (by kernel_rfl) (fun _ _ _ h => h) rfl ?_ hS ?_
        rotate_left
        · intro w hSw
          try dsimp only at hSw
          go_simp
          try with_reducible rfl
        try simp only [Act.put, List.setIfInBounds_toArray, List.set_cons_zero, List.set_cons_succ]
        refine F_take (i := 5) [11, 10, 9] (v := ?_) rfl (by kernel_rfl) (by kernel_rfl) (by kernel_rfl) (by kernel_rfl) (fun _ _ _ h => h) rfl ?_ hS ?_
        rotate_left
        · intro w hSw
          try dsimp only at hSw
          go_simp
          try with_reducible rfl
        try simp only [Act.put, List.setIfInBounds_toArray, List.set_cons_zero, List.set_cons_succ]
        refine F_take (i := 6) [11, 10, 9] (v := ?_) rfl (by kernel_rfl) (by kernel_rfl) (by kernel_rfl) (by kernel_rfl) (fun _ _ _ h => h) rfl ?_ hS ?_
        rotate_left
        · intro w hSw
          try dsimp only at hSw
          go_simp
          try with_reducible rfl
        try simp only [Act.put, List.setIfInBounds_toArray, List.set_cons_zero, List.set_cons_succ]
        refine F_take (i := 7) [11, 10, 9] (v := ?_) rfl (by kernel_rfl) (by kernel_rfl) (by kernel_rfl) (by kernel_rfl) (fun _ _ _ h => h) rfl ?_ hS ?_
        rotate_left
        · intro w hSw
          try dsimp only at hSw
          go_simp
          try with_reducible rfl
        try simp only [Act.put, List.setIfInBounds_toArray, List.set_cons_zero, List.set_cons_succ]
        refine F_take (i := 8) [11, 10, 9] (v := ?_) rfl (by kernel_rfl) (by kernel_rfl) (by kernel_rfl) (by kernel_rfl) (fun _ _ _ h => h) rfl ?_ hS ?_
        rotate_left
        · intro w hSw
          try dsimp only at hSw
          go_simp
          try with_reducible rfl
        try simp only [Act.put, List.setIfInBounds_toArray, List.set_cons_zero, List.set_cons_succ]
        refine F_take (i := 9) [11, 10] (v := ?_) rfl (by kernel_rfl) (by kernel_rfl) (by kernel_rfl) (by kernel_rfl) (fun _ _ _ h => h) rfl ?_ hS ?_
        rotate_left
        · intro w hSw
          try dsimp only at hSw
          go_simp
          try with_reducible rfl
        try simp only [Act.put, List.setIfInBounds_toArray, List.set_cons_zero, List.set_cons_succ]
        refine F_step (i := 10) rfl (by kernel_rfl) (fun K hK => ?_)
        go_simp
        clear hS
        have hS : (wr.drew.alloc (.cells #[(.slice (some ⟨bb, 0, none⟩) (size) (size))] 73)).cell? ⟨r, 1, none⟩ = some v' := cell_upd a1 ((Upd.refl wr []).drew.alloc (.cells #[(.slice (some ⟨bb, 0, none⟩) (size) (size))] 73)) (by simp)
        refine hK.out _ _ (Or.inr hS) ?_
        clear hK K
        try simp only [Act.put, List.setIfInBounds_toArray, List.set_cons_zero, List.set_cons_succ]
        refine F_step (i := 11) rfl (by kernel_rfl) (fun K hK => ?_)
        refine step_append_own rfl (.tmp 68) (.tmp 74) 62 rfl r 73 i0 (.slice none 0 0) 1 24 Try.underlying62 hi0 hz0 hz1 hz2 rfl (by decide) v' i (flat (cutCells bb size t.size i)) (by simp [Act.eval, hv1]) OW.out ⟨wr.heap.size, 0, none⟩ 1 1 [(.slice (some ⟨bb, 0, none⟩) (size) (size))] (by simp [Act.eval]) rfl (news_at (R := #[(.slice (some ⟨bb, 0, none⟩) (size) (size))]) (Blk.new wr.drew 73 _)) (by intro u hu; simp at hu; subst hu; rfl) (by have := hil.out; unfold maxLen; omega) (by have := hil.out; omega) hbs.out ?_
        intro v5 w6 hown hgr hnil
        obtain ⟨g5, c5, rfl⟩ := own_slice hown
        obtain ⟨k3, fz, fin⟩ := open_after hC.out hX.out ((Upd.refl wr []).drew.alloc (.cells #[(.slice (some ⟨bb, 0, none⟩) (size) (size))] 73)) hown hgr hbb.out
        have cz := cell_upd a1 k3 nm1.out
        clear hS
        have hS := cz
        replace fin := hide fin
        clear hown hgr hnil OW hbs k3
        refine hK.out _ _ (Or.inr hS) ?_
        clear hK K
        try simp only [Act.put, List.setIfInBounds_toArray, List.set_cons_zero, List.set_cons_succ]
        refine F_take (i := 12) [13] (v := ?_) rfl (by kernel_rfl) (by kernel_rfl) (by kernel_rfl) (by kernel_rfl) (fun _ _ _ h => h) rfl ?_ hS ?_
        rotate_left
        · intro w hSw
          try dsimp only at hSw
          go_simp
          try with_reducible rfl
        try simp only [Act.put, List.setIfInBounds_toArray, List.set_cons_zero, List.set_cons_succ]
        refine F_take (i := 13) [] (v := ?_) rfl (by kernel_rfl) (by kernel_rfl) (by kernel_rfl) (by kernel_rfl) (fun _ _ _ h => h) rfl ?_ hS ?_
        rotate_left
        · intro w hSw
          try dsimp only at hSw
          go_simp
          try with_reducible rfl
        try simp only [Act.put, List.setIfInBounds_toArray, List.set_cons_zero, List.set_cons_succ]
        refine F_step (i := 14) rfl (by kernel_rfl) (fun K hK => ?_)
        go_simp
        refine hK.out _ _ (Or.inl rfl) ?_
        clear hK K
        try simp only [Act.put, List.setIfInBounds_toArray, List.set_cons_zero, List.set_cons_succ]
        refine F_done (by kernel_rfl) ?_ _
        go_wp2_with fail
        refine ⟨⟨i + 1, _, ?_, fin.out.1, ?_, ?_⟩, ?_⟩
        · rw [Nat.succ_mul, hf.out]; simp
        · exact .inr (.inl (by have := hif.out; omega))
        · exact hu.out.trans fin.out.2 (fun k hk hl => by
            exfalso
            have h20 := hr.out
            rcases List.mem_cons.1 hk with rfl | hk
            · omega
            · have := hC.out.row.ge k hk
              omega)
        · show t.size + 1 - ((size : Int)).toNat < t.size + 1 - ((0 : Nat) : Int).toNat
          (try have := hq.out)
          omega
    · by_cases h1 : f < t.size
      · have wf : IntKind.i64.wrap ((f : Int) + (size : Int)) = (f : Int) + (size : Int) := IntWalk.i64_in _ (by omega)
        by_cases h9 : t.size < f + size
        · skip
          have h10 : f ≤ t.size := by omega
          have h11 : t.size ≤ cap := hcap
          have h12 : ¬ t.size = f := by omega
          have h13 : (t.size : Int) < (f : Int) + (size : Int) := by omega
          replace hf := hide hf
          have hX := hide (show cutV bb size t.size i = (.slice (some ⟨bb, f, none⟩) (t.size - f) (t.size - f)) by (try have := hq.out); unfold cutV cutHi; rw [hf.out]; congr 1 <;> omega)
          have rb := hC.row.ne hC.head (by decide)
          have hbb := hide (hC.mem.not_row hC.row (by decide))
          have nm1 := hide (show r ∉ blkOf v' from fun h => rb r h (by simp))
          have OW := (hC.row.upd ((Upd.refl wr []).drew.alloc (.cells #[(.slice (some ⟨bb, f, none⟩) (t.size - f) (t.size - f))] 73)) (by simp)).own
          rw [cutCells_len] at OW
          replace OW := hide OW
          have hbs := hide (show r ≤ (wr.drew.alloc (.cells #[(.slice (some ⟨bb, f, none⟩) (t.size - f) (t.size - f))] 73)).heap.size from (by have := hC.head.lt; have := ((Upd.refl wr []).drew.alloc (.cells #[(.slice (some ⟨bb, f, none⟩) (t.size - f) (t.size - f))] 73)).size; omega))
          have hil := hide (show i + 1 ≤ 3000000 by have := hif.out; omega)
          clear rb
          replace hC := hide hC
          replace hu := hide hu
          go_wp2_with fail
          refine F_start 14 (fun w' => w'.cell? ⟨r, 1, none⟩ = some v') (by kernel_rfl) ?_
          have hS : wr.drew.cell? ⟨r, 1, none⟩ = some v' := a1
          refine F_take (i := 0) [13, 12] (v := ?_) rfl (by kernel_rfl) (by kernel_rfl) (by kernel_rfl) (by kernel_rfl) (fun _ _ _ h => h) rfl ?_ hS ?_
          rotate_left
          · intro w hSw
            try dsimp only at hSw
            go_simp
            try with_reducible rfl
          try simp only [Act.put, List.setIfInBounds_toArray, List.set_cons_zero, List.set_cons_succ]
          refine F_take (i := 1) [11, 4, 3, 2] (v := ?_) rfl (by kernel_rfl) (by kernel_rfl) (by kernel_rfl) (by kernel_rfl) (fun _ _ _ h => h) rfl ?_ hS ?_
          rotate_left
          · intro w hSw
            try dsimp only at hSw
            go_simp
            try with_reducible rfl
          try simp only [Act.put, List.setIfInBounds_toArray, List.set_cons_zero, List.set_cons_succ]
          refine F_take (i := 2) [11, 4, 3] (v := ?_) rfl (by kernel_rfl) (by kernel_rfl) (by kernel_rfl) (by kernel_rfl) (fun _ _ _ h => h) rfl ?_ hS ?_
          rotate_left
          · intro w hSw
            try dsimp only at hSw
            go_simp
            try with_reducible rfl
          try simp only [Act.put, List.setIfInBounds_toArray, List.set_cons_zero, List.set_cons_succ]
          refine F_take (i := 3) [11, 4] (v := ?_) rfl (by kernel_rfl) (by kernel_rfl) (by kernel_rfl) (by kernel_rfl) (fun _ _ _ h => h) rfl ?_ hS ?_
          rotate_left
          · intro w hSw
            try dsimp only at hSw
            go_simp
            try with_reducible rfl
          try simp only [Act.put, List.setIfInBounds_toArray, List.set_cons_zero, List.set_cons_succ]
          refine F_take (i := 4) [11] (v := ?_) rfl (by kernel_rfl) (by kernel_rfl) (by kernel_rfl) (by kernel_rfl) (fun _ _ _ h => h) rfl ?_ hS ?_
          rotate_left
          · intro w hSw
            try dsimp only at hSw
            go_simp
            try with_reducible rfl
          try simp only [Act.put, List.setIfInBounds_toArray, List.set_cons_zero, List.set_cons_succ]
          refine F_take (i := 5) [11, 10, 9] (v := ?_) rfl (by kernel_rfl) (by kernel_rfl) (by kernel_rfl) (by kernel_rfl) (fun _ _ _ h => h) rfl ?_ hS ?_
          rotate_left
          · intro w hSw
            try dsimp only at hSw
            go_simp
            try with_reducible rfl
          try simp only [Act.put, List.setIfInBounds_toArray, List.set_cons_zero, List.set_cons_succ]
          refine F_take (i := 6) [11, 10, 9] (v := ?_) rfl (by kernel_rfl) (by kernel_rfl) (by kernel_rfl) (by kernel_rfl) (fun _ _ _ h => h) rfl ?_ hS ?_
          rotate_left
          · intro w hSw
            try dsimp only at hSw
            go_simp
            try with_reducible rfl
          try simp only [Act.put, List.setIfInBounds_toArray, List.set_cons_zero, List.set_cons_succ]
          refine F_take (i := 7) [11, 10, 9] (v := ?_) rfl (by kernel_rfl) (by kernel_rfl) (by kernel_rfl) (by kernel_rfl) (fun _ _ _ h => h) rfl ?_ hS ?_
          rotate_left
          · intro w hSw
            try dsimp only at hSw
            go_simp
            try with_reducible rfl
          try simp only [Act.put, List.setIfInBounds_toArray, List.set_cons_zero, List.set_cons_succ]
          refine F_take (i := 8) [11, 10, 9] (v := ?_) rfl (by kernel_rfl) (by kernel_rfl) (by kernel_rfl) (by kernel_rfl) (fun _ _ _ h => h) rfl ?_ hS ?_
          rotate_left
          · intro w hSw
            try dsimp only at hSw
            go_simp
            try with_reducible rfl
          try simp only [Act.put, List.setIfInBounds_toArray, List.set_cons_zero, List.set_cons_succ]
          refine F_take (i := 9) [11, 10] (v := ?_) rfl (by kernel_rfl) (by kernel_rfl) (by kernel_rfl) (by kernel_rfl) (fun _ _ _ h => h) rfl ?_ hS ?_
          rotate_left
          · intro w hSw
            try dsimp only at hSw
            go_simp
            try with_reducible rfl
          try simp only [Act.put, List.setIfInBounds_toArray, List.set_cons_zero, List.set_cons_succ]
          refine F_step (i := 10) rfl (by kernel_rfl) (fun K hK => ?_)
          go_simp
          clear hS
          have hS : (wr.drew.alloc (.cells #[(.slice (some ⟨bb, f, none⟩) (t.size - f) (t.size - f))] 73)).cell? ⟨r, 1, none⟩ = some v' := cell_upd a1 ((Upd.refl wr []).drew.alloc (.cells #[(.slice (some ⟨bb, f, none⟩) (t.size - f) (t.size - f))] 73)) (by simp)
          refine hK.out _ _ (Or.inr hS) ?_
          clear hK K
          try simp only [Act.put, List.setIfInBounds_toArray, List.set_cons_zero, List.set_cons_succ]
          refine F_step (i := 11) rfl (by kernel_rfl) (fun K hK => ?_)
          refine step_append_own rfl (.tmp 68) (.tmp 74) 62 rfl r 73 i0 (.slice none 0 0) 1 24 Try.underlying62 hi0 hz0 hz1 hz2 rfl (by decide) v' i (flat (cutCells bb size t.size i)) (by simp [Act.eval, hv1]) OW.out ⟨wr.heap.size, 0, none⟩ 1 1 [(.slice (some ⟨bb, f, none⟩) (t.size - f) (t.size - f))] (by simp [Act.eval]) rfl (news_at (R := #[(.slice (some ⟨bb, f, none⟩) (t.size - f) (t.size - f))]) (Blk.new wr.drew 73 _)) (by intro u hu; simp at hu; subst hu; rfl) (by have := hil.out; unfold maxLen; omega) (by have := hil.out; omega) hbs.out ?_
          intro v5 w6 hown hgr hnil
          obtain ⟨g5, c5, rfl⟩ := own_slice hown
          obtain ⟨k3, fz, fin⟩ := open_after hC.out hX.out ((Upd.refl wr []).drew.alloc (.cells #[(.slice (some ⟨bb, f, none⟩) (t.size - f) (t.size - f))] 73)) hown hgr hbb.out
          have cz := cell_upd a1 k3 nm1.out
          clear hS
          have hS := cz
          replace fin := hide fin
          clear hown hgr hnil OW hbs k3
          refine hK.out _ _ (Or.inr hS) ?_
          clear hK K
          try simp only [Act.put, List.setIfInBounds_toArray, List.set_cons_zero, List.set_cons_succ]
          refine F_take (i := 12) [13] (v := ?_) rfl (by kernel_rfl) (by kernel_rfl) (by kernel_rfl) (by kernel_rfl) (fun _ _ _ h => h) rfl ?_ hS ?_
          rotate_left
          · intro w hSw
            try dsimp only at hSw
            go_simp
            try with_reducible rfl
          try simp only [Act.put, List.setIfInBounds_toArray, List.set_cons_zero, List.set_cons_succ]
          refine F_take (i := 13) [] (v := ?_) rfl (by kernel_rfl) (by kernel_rfl) (by kernel_rfl) (by kernel_rfl) (fun _ _ _ h => h) rfl ?_ hS ?_
          rotate_left
          · intro w hSw
            try dsimp only at hSw
            go_simp
            try with_reducible rfl
          try simp only [Act.put, List.setIfInBounds_toArray, List.set_cons_zero, List.set_cons_succ]
          refine F_step (i := 14) rfl (by kernel_rfl) (fun K hK => ?_)
          go_simp
          refine hK.out _ _ (Or.inl rfl) ?_
          clear hK K
          try simp only [Act.put, List.setIfInBounds_toArray, List.set_cons_zero, List.set_cons_succ]
          refine F_done (by kernel_rfl) ?_ _
          go_wp2_with fail
          refine ⟨⟨i + 1, _, ?_, fin.out.1, ?_, ?_⟩, ?_⟩
          · rw [Nat.succ_mul, hf.out]; simp
          · exact .inr (.inr (by rw [Nat.add_sub_cancel, hf.out]; omega))
          · exact hu.out.trans fin.out.2 (fun k hk hl => by
              exfalso
              have h20 := hr.out
              rcases List.mem_cons.1 hk with rfl | hk
              · omega
              · have := hC.out.row.ge k hk
                omega)
          · show t.size + 1 - ((f : Int) + (size : Int)).toNat < t.size + 1 - ((f : Nat) : Int).toNat
            (try have := hq.out)
            omega
        · skip
          clear wf
          obtain ⟨q, hq⟩ : ∃ q, q = f + size := ⟨_, rfl⟩
          have wf : IntKind.i64.wrap ((f : Int) + (size : Int)) = (q : Int) := by rw [IntWalk.i64_in _ (by omega)]; omega
          have h10 : q ≤ t.size := by omega
          have h11 : q ≤ cap := by omega
          have h12 : ¬ q = f := by omega
          have h14 : f ≤ q := by omega
          replace h9 := hide h9
          replace hf := hide hf
          replace hq := hide hq
          have hX := hide (show cutV bb size t.size i = (.slice (some ⟨bb, f, none⟩) (q - f) (q - f)) by (try have := hq.out); unfold cutV cutHi; rw [hf.out]; congr 1 <;> omega)
          have rb := hC.row.ne hC.head (by decide)
          have hbb := hide (hC.mem.not_row hC.row (by decide))
          have nm1 := hide (show r ∉ blkOf v' from fun h => rb r h (by simp))
          have OW := (hC.row.upd ((Upd.refl wr []).drew.alloc (.cells #[(.slice (some ⟨bb, f, none⟩) (q - f) (q - f))] 73)) (by simp)).own
          rw [cutCells_len] at OW
          replace OW := hide OW
          have hbs := hide (show r ≤ (wr.drew.alloc (.cells #[(.slice (some ⟨bb, f, none⟩) (q - f) (q - f))] 73)).heap.size from (by have := hC.head.lt; have := ((Upd.refl wr []).drew.alloc (.cells #[(.slice (some ⟨bb, f, none⟩) (q - f) (q - f))] 73)).size; omega))
          have hil := hide (show i + 1 ≤ 3000000 by have := hif.out; omega)
          clear rb
          replace hC := hide hC
          replace hu := hide hu
          go_wp2_with fail
          refine F_start 14 (fun w' => w'.cell? ⟨r, 1, none⟩ = some v') (by kernel_rfl) ?_
          have hS : wr.drew.cell? ⟨r, 1, none⟩ = some v' := a1
          refine F_take (i := 0) [13, 12] (v := ?_) rfl (by kernel_rfl) (by kernel_rfl) (by kernel_rfl) (by kernel_rfl) (fun _ _ _ h => h) rfl ?_ hS ?_
          rotate_left
          · intro w hSw
            try dsimp only at hSw
            go_simp
            try with_reducible rfl
          try simp only [Act.put, List.setIfInBounds_toArray, List.set_cons_zero, List.set_cons_succ]
          refine F_take (i := 1) [11, 4, 3, 2] (v := ?_) rfl (by kernel_rfl) (by kernel_rfl) (by kernel_rfl) (by kernel_rfl) (fun _ _ _ h => h) rfl ?_ hS ?_
          rotate_left
          · intro w hSw
            try dsimp only at hSw
            go_simp
            try with_reducible rfl
          try simp only [Act.put, List.setIfInBounds_toArray, List.set_cons_zero, List.set_cons_succ]
          refine F_take (i := 2) [11, 4, 3] (v := ?_) rfl (by kernel_rfl) (by kernel_rfl) (by kernel_rfl) (by kernel_rfl) (fun _ _ _ h => h) rfl ?_ hS ?_
          rotate_left
          · intro w hSw
            try dsimp only at hSw
            go_simp
            try with_reducible rfl
          try simp only [Act.put, List.setIfInBounds_toArray, List.set_cons_zero, List.set_cons_succ]
          refine F_take (i := 3) [11, 4] (v := ?_) rfl (by kernel_rfl) (by kernel_rfl) (by kernel_rfl) (by kernel_rfl) (fun _ _ _ h => h) rfl ?_ hS ?_
          rotate_left
          · intro w hSw
            try dsimp only at hSw
            go_simp
            try with_reducible rfl
          try simp only [Act.put, List.setIfInBounds_toArray, List.set_cons_zero, List.set_cons_succ]
          refine F_take (i := 4) [11] (v := ?_) rfl (by kernel_rfl) (by kernel_rfl) (by kernel_rfl) (by kernel_rfl) (fun _ _ _ h => h) rfl ?_ hS ?_
          rotate_left
          · intro w hSw
            try dsimp only at hSw
            go_simp
            try with_reducible rfl
          try simp only [Act.put, List.setIfInBounds_toArray, List.set_cons_zero, List.set_cons_succ]
          refine F_take (i := 5) [11, 10, 9] (v := ?_) rfl (by kernel_rfl) (by kernel_rfl) (by kernel_rfl) (by kernel_rfl) (fun _ _ _ h => h) rfl ?_ hS ?_
          rotate_left
          · intro w hSw
            try dsimp only at hSw
            go_simp
            try with_reducible rfl
          try simp only [Act.put, List.setIfInBounds_toArray, List.set_cons_zero, List.set_cons_succ]
          refine F_take (i := 6) [11, 10, 9] (v := ?_) rfl (by kernel_rfl) (by kernel_rfl) (by kernel_rfl) (by kernel_rfl) (fun _ _ _ h => h) rfl ?_ hS ?_
          rotate_left
          · intro w hSw
            try dsimp only at hSw
            go_simp
            try with_reducible rfl
          try simp only [Act.put, List.setIfInBounds_toArray, List.set_cons_zero, List.set_cons_succ]
          refine F_take (i := 7) [11, 10, 9] (v := ?_) rfl (by kernel_rfl) (by kernel_rfl) (by kernel_rfl) (by kernel_rfl) (fun _ _ _ h => h) rfl ?_ hS ?_
          rotate_left
          · intro w hSw
            try dsimp only at hSw
            go_simp
            try with_reducible rfl
          try simp only [Act.put, List.setIfInBounds_toArray, List.set_cons_zero, List.set_cons_succ]
          refine F_take (i := 8) [11, 10, 9] (v := ?_) rfl (by kernel_rfl) (by kernel_rfl) (by kernel_rfl) (by kernel_rfl) (fun _ _ _ h => h) rfl ?_ hS ?_
          rotate_left
          · intro w hSw
            try dsimp only at hSw
            go_simp
            try with_reducible rfl
          try simp only [Act.put, List.setIfInBounds_toArray, List.set_cons_zero, List.set_cons_succ]
          refine F_take (i := 9) [11, 10] (v := ?_) rfl (by kernel_rfl) (by kernel_rfl) (by kernel_rfl) (by kernel_rfl) (fun _ _ _ h => h) rfl ?_ hS ?_
          rotate_left
          · intro w hSw
            try dsimp only at hSw
            go_simp
            try with_reducible rfl
          try simp only [Act.put, List.setIfInBounds_toArray, List.set_cons_zero, List.set_cons_succ]
          refine F_step (i := 10) rfl (by kernel_rfl) (fun K hK => ?_)
          go_simp
          clear hS
          have hS : (wr.drew.alloc (.cells #[(.slice (some ⟨bb, f, none⟩) (q - f) (q - f))] 73)).cell? ⟨r, 1, none⟩ = some v' := cell_upd a1 ((Upd.refl wr []).drew.alloc (.cells #[(.slice (some ⟨bb, f, none⟩) (q - f) (q - f))] 73)) (by simp)
          refine hK.out _ _ (Or.inr hS) ?_
          clear hK K
          try simp only [Act.put, List.setIfInBounds_toArray, List.set_cons_zero, List.set_cons_succ]
          refine F_step (i := 11) rfl (by kernel_rfl) (fun K hK => ?_)
          refine step_append_own rfl (.tmp 68) (.tmp 74) 62 rfl r 73 i0 (.slice none 0 0) 1 24 Try.underlying62 hi0 hz0 hz1 hz2 rfl (by decide) v' i (flat (cutCells bb size t.size i)) (by simp [Act.eval, hv1]) OW.out ⟨wr.heap.size, 0, none⟩ 1 1 [(.slice (some ⟨bb, f, none⟩) (q - f) (q - f))] (by simp [Act.eval]) rfl (news_at (R := #[(.slice (some ⟨bb, f, none⟩) (q - f) (q - f))]) (Blk.new wr.drew 73 _)) (by intro u hu; simp at hu; subst hu; rfl) (by have := hil.out; unfold maxLen; omega) (by have := hil.out; omega) hbs.out ?_
          intro v5 w6 hown hgr hnil
          obtain ⟨g5, c5, rfl⟩ := own_slice hown
          obtain ⟨k3, fz, fin⟩ := open_after hC.out hX.out ((Upd.refl wr []).drew.alloc (.cells #[(.slice (some ⟨bb, f, none⟩) (q - f) (q - f))] 73)) hown hgr hbb.out
          have cz := cell_upd a1 k3 nm1.out
          clear hS
          have hS := cz
          replace fin := hide fin
          clear hown hgr hnil OW hbs k3
          refine hK.out _ _ (Or.inr hS) ?_
          clear hK K
          try simp only [Act.put, List.setIfInBounds_toArray, List.set_cons_zero, List.set_cons_succ]
          refine F_take (i := 12) [13] (v := ?_) rfl (by kernel_rfl) (by kernel_rfl) (by kernel_rfl) (by kernel_rfl) (fun _ _ _ h => h) rfl ?_ hS ?_
          rotate_left
          · intro w hSw
            try dsimp only at hSw
            go_simp
            try with_reducible rfl
          try simp only [Act.put, List.setIfInBounds_toArray, List.set_cons_zero, List.set_cons_succ]
          refine F_take (i := 13) [] (v := ?_) rfl (by kernel_rfl) (by kernel_rfl) (by kernel_rfl) (by kernel_rfl) (fun _ _ _ h => h) rfl ?_ hS ?_
          rotate_left
          · intro w hSw
            try dsimp only at hSw
            go_simp
            try with_reducible rfl
          try simp only [Act.put, List.setIfInBounds_toArray, List.set_cons_zero, List.set_cons_succ]
          refine F_step (i := 14) rfl (by kernel_rfl) (fun K hK => ?_)
          go_simp
          refine hK.out _ _ (Or.inl rfl) ?_
          clear hK K
          try simp only [Act.put, List.setIfInBounds_toArray, List.set_cons_zero, List.set_cons_succ]
          refine F_done (by kernel_rfl) ?_ _
          go_wp2_with fail
          refine ⟨⟨i + 1, _, ?_, fin.out.1, ?_, ?_⟩, ?_⟩
          · rw [Nat.succ_mul, hf.out]; rw [hq.out]
          · exact .inr (.inr (by rw [Nat.add_sub_cancel, hf.out]; omega))
          · exact hu.out.trans fin.out.2 (fun k hk hl => by
              exfalso
              have h20 := hr.out
              rcases List.mem_cons.1 hk with rfl | hk
              · omega
              · have := hC.out.row.ge k hk
                omega)
          · show t.size + 1 - ((q : Int)).toNat < t.size + 1 - ((f : Nat) : Int).toNat
            (try have := hq.out)
            omega
      · have hi1 := hide (show 1 ≤ i by rcases Nat.eq_zero_or_pos i with rfl | h; (simp at hf; omega); exact h)
        have hi2 := hide (show t.size ≤ i * size by omega)
        replace hf := hide hf
        replace hC := hide hC
        replace hi := hide hi
        go_wp2_with fail
        go_ret2
        have hb1 := hb0.out
        have hr1 := hr.out
        exact ⟨r, bb, _, i, rfl, by omega, by omega, (by rw [hr1]; exact hC.out), ⟨hi1.out, hi2.out, by have := hi.out; have := hi1.out; omega⟩, hu⟩
end Go.Proofs.Ytmmacjjmkaeakaa
