/- The walks of the layer rings: Copy. (Printed by gen03copy.py.) -/
import Derived.Test.YtkopocbcldjjbaaRingI
import Derived.Test.YtkopocbcldjjbaaRegF
namespace Go.Proofs.Ytkopocbcldjjbaa
open Go.RowKit
set_option linter.unusedVariables false
set_option linter.unusedSimpArgs false
attribute [-go_sem] loadVar storeVar
attribute [local go_sem] loadVar_else storeVar_else run_load40 run_store40 frameAt_drew frameAt_drewN roomAt_drew roomAt_drewN
theorem Ring.c_drew {w : World} {r pb cap first cnt : Nat} {fs : Nat → Fr} (h : Ring w r pb cap first cnt fs) : Ring w.drew r pb cap first cnt fs := ⟨h.head, h.row, h.hf, h.hc, h.h64⟩
theorem Ring.upd0 {w w' : World} {r pb cap first cnt : Nat} {fs : Nat → Fr} (h : Ring w r pb cap first cnt fs) (u : Upd w w' []) : Ring w' r pb cap first cnt fs := h.upd u (by simp) (by simp) (Off.nil _)
set_option maxHeartbeats 8000000 in
theorem copy_ok (r pb cap first cnt : Nat) (fs : Nat → Fr) (w : World) (h : Ring w r pb cap first cnt fs) :
    Calls Try.prog 19 #[.pointer (some ⟨r, 0, none⟩)] w fun e w' => ∃ c pc, e = .returned (.pointer (some ⟨c, 0, none⟩)) ∧ w.heap.size ≤ c ∧ w.heap.size ≤ pc ∧ Ring w' c pc cap first cnt fs ∧ Upd w w' [] := by
  have e1 := h.hf
  have e2 := h.h64
  have e3 := h.hc
  have N := hide (none_no r pb cap w h.c0)
  have lpb := hide (show pb < w.heap.size from h.row.lt)
  have lr := hide (show r < w.heap.size from h.head.lt)
  have hmk := run_make_rowN (P := Try.prog) 52 40 Try.underlying52 info40z cap (by omega) (by omega)
  have R1 := hide h.c_drew
  have HR := hide h
  clear h
  go_enter Try.func19, Try.ntmps19
  go_wp2_with fail
  refine N.out.mono ?_
  rintro e w' ⟨rfl, rfl⟩
  clear N
  go_wp2_with fail
  refine F_start 16 (fun w' => w'.cell? ⟨r, 0, none⟩ = some (.slice (some ⟨pb, 0, none⟩) cap cap) ∧ w'.cell? ⟨r, 1, none⟩ = some (.int .i64 first) ∧ w'.cell? ⟨r, 2, none⟩ = some (.int .i64 cnt)) (by kernel_rfl) ?_
  have hS : w.drew.cell? ⟨r, 0, none⟩ = some (.slice (some ⟨pb, 0, none⟩) cap cap) ∧ w.drew.cell? ⟨r, 1, none⟩ = some (.int .i64 first) ∧ w.drew.cell? ⟨r, 2, none⟩ = some (.int .i64 cnt) := ⟨R1.out.c0, R1.out.c1, R1.out.c2⟩
  refine F_take (i := 0) [15, 14, 5, 4, 3, 2, 1] (v := ?_) rfl (by kernel_rfl) (by kernel_rfl) (by kernel_rfl) (by kernel_rfl) (fun _ _ _ h => h) rfl ?_ hS ?_
  rotate_left
  · intro w hSw
    try dsimp only at hSw
    go_simp
    try with_reducible rfl
  try simp only [Act.put, List.setIfInBounds_toArray, List.set_cons_zero, List.set_cons_succ]
  refine F_take (i := 1) [15, 14, 5, 4, 3, 2] (v := ?_) rfl (by kernel_rfl) (by kernel_rfl) (by kernel_rfl) (by kernel_rfl) (fun _ _ _ h => h) rfl ?_ hS ?_
  rotate_left
  · intro w hSw
    try dsimp only at hSw
    go_simp
    try with_reducible rfl
  try simp only [Act.put, List.setIfInBounds_toArray, List.set_cons_zero, List.set_cons_succ]
  refine F_take (i := 2) [15, 14, 5, 4, 3] (v := ?_) rfl (by kernel_rfl) (by kernel_rfl) (by kernel_rfl) (by kernel_rfl) (fun _ _ _ h => h) rfl ?_ hS ?_
  rotate_left
  · intro w hSw
    try dsimp only at hSw
    go_simp
    try with_reducible rfl
  try simp only [Act.put, List.setIfInBounds_toArray, List.set_cons_zero, List.set_cons_succ]
  refine F_take (i := 3) [15, 14, 5, 4] (v := ?_) rfl (by kernel_rfl) (by kernel_rfl) (by kernel_rfl) (by kernel_rfl) (fun _ _ _ h => h) rfl ?_ hS ?_
  rotate_left
  · intro w hSw
    try dsimp only at hSw
    go_simp
    try with_reducible rfl
  try simp only [Act.put, List.setIfInBounds_toArray, List.set_cons_zero, List.set_cons_succ]
  refine F_take (i := 4) [15, 14, 5] (v := ?_) rfl (by kernel_rfl) (by kernel_rfl) (by kernel_rfl) (by kernel_rfl) (fun _ _ _ h => h) rfl ?_ hS ?_
  rotate_left
  · intro w hSw
    try dsimp only at hSw
    go_simp
    try with_reducible rfl
  try simp only [Act.put, List.setIfInBounds_toArray, List.set_cons_zero, List.set_cons_succ]
  refine F_take (i := 6) [15, 14, 9, 8, 7] (v := ?_) rfl (by kernel_rfl) (by kernel_rfl) (by kernel_rfl) (by kernel_rfl) (fun _ _ _ h => h) rfl ?_ hS ?_
  rotate_left
  · intro w hSw
    try dsimp only at hSw
    go_simp
    try with_reducible rfl
  try simp only [Act.put, List.setIfInBounds_toArray, List.set_cons_zero, List.set_cons_succ]
  refine F_take (i := 7) [15, 14, 9, 8] (v := ?_) rfl (by kernel_rfl) (by kernel_rfl) (by kernel_rfl) (by kernel_rfl) (fun _ _ _ h => h) rfl ?_ hS ?_
  rotate_left
  · intro w hSw
    try dsimp only at hSw
    go_simp
    try with_reducible rfl
  try simp only [Act.put, List.setIfInBounds_toArray, List.set_cons_zero, List.set_cons_succ]
  refine F_take (i := 8) [15, 14, 9] (v := ?_) rfl (by kernel_rfl) (by kernel_rfl) (by kernel_rfl) (by kernel_rfl) (fun _ _ _ h => h) rfl ?_ hS ?_
  rotate_left
  · intro w hSw
    try dsimp only at hSw
    go_simp
    try with_reducible rfl
  try simp only [Act.put, List.setIfInBounds_toArray, List.set_cons_zero, List.set_cons_succ]
  refine F_take (i := 9) [15, 14] (v := ?_) rfl (by kernel_rfl) (by kernel_rfl) (by kernel_rfl) (by kernel_rfl) (fun _ _ _ h => h) rfl ?_ hS ?_
  rotate_left
  · intro w hSw
    try dsimp only at hSw
    go_simp
    try with_reducible rfl
  try simp only [Act.put, List.setIfInBounds_toArray, List.set_cons_zero, List.set_cons_succ]
  refine F_take (i := 10) [15, 14, 13, 12, 11] (v := ?_) rfl (by kernel_rfl) (by kernel_rfl) (by kernel_rfl) (by kernel_rfl) (fun _ _ _ h => h) rfl ?_ hS ?_
  rotate_left
  · intro w hSw
    try dsimp only at hSw
    go_simp
    try with_reducible rfl
  try simp only [Act.put, List.setIfInBounds_toArray, List.set_cons_zero, List.set_cons_succ]
  refine F_take (i := 11) [15, 14, 13, 12] (v := ?_) rfl (by kernel_rfl) (by kernel_rfl) (by kernel_rfl) (by kernel_rfl) (fun _ _ _ h => h) rfl ?_ hS ?_
  rotate_left
  · intro w hSw
    try dsimp only at hSw
    go_simp
    try with_reducible rfl
  try simp only [Act.put, List.setIfInBounds_toArray, List.set_cons_zero, List.set_cons_succ]
  refine F_take (i := 12) [15, 14, 13] (v := ?_) rfl (by kernel_rfl) (by kernel_rfl) (by kernel_rfl) (by kernel_rfl) (fun _ _ _ h => h) rfl ?_ hS ?_
  rotate_left
  · intro w hSw
    try dsimp only at hSw
    go_simp
    try with_reducible rfl
  try simp only [Act.put, List.setIfInBounds_toArray, List.set_cons_zero, List.set_cons_succ]
  refine F_take (i := 13) [15, 14] (v := ?_) rfl (by kernel_rfl) (by kernel_rfl) (by kernel_rfl) (by kernel_rfl) (fun _ _ _ h => h) rfl ?_ hS ?_
  rotate_left
  · intro w hSw
    try dsimp only at hSw
    go_simp
    try with_reducible rfl
  try simp only [Act.put, List.setIfInBounds_toArray, List.set_cons_zero, List.set_cons_succ]
  refine F_step (i := 5) rfl (by kernel_rfl) (fun K hK => ?_)
  go_simp
  clear hS
  have R2 := R1.out.upd0 ((Upd.refl _ []).alloc (.cells (madeCells zeroF (cap * 29)) 40))
  have P2 := places_new w.drew cap
  have hS : (w.drew.alloc (.cells (madeCells zeroF (cap * 29)) 40)).cell? ⟨r, 0, none⟩ = some (.slice (some ⟨pb, 0, none⟩) cap cap) ∧ (w.drew.alloc (.cells (madeCells zeroF (cap * 29)) 40)).cell? ⟨r, 1, none⟩ = some (.int .i64 first) ∧ (w.drew.alloc (.cells (madeCells zeroF (cap * 29)) 40)).cell? ⟨r, 2, none⟩ = some (.int .i64 cnt) := ⟨R2.c0, R2.c1, R2.c2⟩
  refine hK.out _ _ (Or.inr hS) ?_
  clear hK K
  try simp only [Act.put, List.setIfInBounds_toArray, List.set_cons_zero, List.set_cons_succ]
  refine F_take (i := 14) [15] (v := ?_) rfl (by kernel_rfl) (by kernel_rfl) (by kernel_rfl) (by kernel_rfl) (fun _ _ _ h => h) rfl ?_ hS ?_
  rotate_left
  · intro w hSw
    try dsimp only at hSw
    go_simp
    try with_reducible rfl
  try simp only [Act.put, List.setIfInBounds_toArray, List.set_cons_zero, List.set_cons_succ]
  refine F_step (i := 15) rfl (by kernel_rfl) (fun K hK => ?_)
  go_simp
  clear hS
  have R3 := R2.upd0 ((Upd.refl _ []).alloc (.cells (headOf w.drew.heap.size cap first cnt) 62))
  have hh := Blk.new (w.drew.alloc (.cells (madeCells zeroF (cap * 29)) 40)) 62 (headOf w.drew.heap.size cap first cnt)
  have C3 := hide (show Ring ((w.drew.alloc (.cells (madeCells zeroF (cap * 29)) 40)).alloc (.cells (headOf w.drew.heap.size cap first cnt) 62)) (w.drew.alloc (.cells (madeCells zeroF (cap * 29)) 40)).heap.size w.drew.heap.size cap first cnt (fun _ => zeroFr) from ⟨hh, P2.upd ((Upd.refl _ []).alloc _) (by simp) (Off.nil _), e1, e3, e2⟩)
  have U3 := hide (show Upd w ((w.drew.alloc (.cells (madeCells zeroF (cap * 29)) 40)).alloc (.cells (headOf w.drew.heap.size cap first cnt) 62)) [] from ((Upd.refl w []).drew.alloc _).alloc _)
  have hS : ((w.drew.alloc (.cells (madeCells zeroF (cap * 29)) 40)).alloc (.cells (headOf w.drew.heap.size cap first cnt) 62)).cell? ⟨r, 0, none⟩ = some (.slice (some ⟨pb, 0, none⟩) cap cap) ∧ ((w.drew.alloc (.cells (madeCells zeroF (cap * 29)) 40)).alloc (.cells (headOf w.drew.heap.size cap first cnt) 62)).cell? ⟨r, 1, none⟩ = some (.int .i64 first) ∧ ((w.drew.alloc (.cells (madeCells zeroF (cap * 29)) 40)).alloc (.cells (headOf w.drew.heap.size cap first cnt) 62)).cell? ⟨r, 2, none⟩ = some (.int .i64 cnt) := ⟨R3.c0, R3.c1, R3.c2⟩
  refine hK.out _ _ (Or.inr hS) ?_
  clear hK K
  try simp only [Act.put, List.setIfInBounds_toArray, List.set_cons_zero, List.set_cons_succ]
  refine F_step (i := 16) rfl (by kernel_rfl) (fun K hK => ?_)
  go_simp
  refine hK.out _ _ (Or.inl rfl) ?_
  clear hK K
  try simp only [Act.put, List.setIfInBounds_toArray, List.set_cons_zero, List.set_cons_succ]
  refine F_done (by kernel_rfl) ?_ _
  have hz1 : (w.drew.alloc (.cells (madeCells zeroF (cap * 29)) 40)).heap.size = w.heap.size + 1 := World.size_alloc _ _
  rw [hz1] at C3
  have C4 := hide (show Ring ((w.alloc (.cells (madeCells zeroF (cap * 29)) 40)).alloc (.cells (headOf w.heap.size cap first cnt) 62)).drew (w.heap.size + 1) w.heap.size cap first cnt (fun _ => zeroFr) from ⟨C3.out.head, C3.out.row, C3.out.hf, C3.out.hc, C3.out.h64⟩)
  have R4 := hide (show Ring ((w.alloc (.cells (madeCells zeroF (cap * 29)) 40)).alloc (.cells (headOf w.heap.size cap first cnt) 62)).drew r pb cap first cnt fs from ⟨R3.head, R3.row, R3.hf, R3.hc, R3.h64⟩)
  have U4 := hide (show Upd w ((w.alloc (.cells (madeCells zeroF (cap * 29)) 40)).alloc (.cells (headOf w.heap.size cap first cnt) 62)).drew [] from ⟨U3.out.os, U3.out.tape, U3.out.output, U3.out.size, U3.out.block⟩)
  clear hS hh C3 U3 R2 P2 R3 R1 HR hmk hz1
  unfold headOf at C4 R4 U4
  generalize ((w.alloc (.cells (madeCells zeroF (cap * 29)) 40)).alloc (.cells #[.slice (some ⟨w.heap.size, 0, none⟩) cap cap, .int .i64 first, .int .i64 cnt] 62)).drew = w4 at *
  have lc := hide (show w.heap.size ≤ w.heap.size + 1 from Nat.le_succ _)
  have lpc := hide (show w.heap.size ≤ w.heap.size from Nat.le_refl _)
  generalize w.heap.size + 1 = c at *
  generalize hpc : w.heap.size = pc at *
  replace hpc := hide hpc
  have a0 := R4.out.c0
  go_wp2_with fail
  go_loopw [29] (fun vi wr => ∃ (i : Nat), i ≤ cap ∧ vi = .int .i64 i ∧ Ring wr c pc cap first cnt (fun j => if j < i then fs j else zeroFr) ∧ Ring wr r pb cap first cnt fs ∧ Upd w wr []) (fun vi _ => cap - (intOf vi).toNat)
  case atStart => exact ⟨0, by omega, rfl, C4.out.congr (fun j _ => by simp), R4.out, U4.out⟩
  case round =>
    clear C4 R4 U4 a0
    obtain ⟨i, hi, rfl, C, R, hu⟩ := hrel
    by_cases hl : (i : Int) < cap
    · have hil : i < cap := by omega
      obtain ⟨F, hF, hI⟩ := R.row.get i hil
      have hi0 : (0 : Int) ≤ (i : Int) := by omega
      obtain ⟨n1, n2, n3⟩ := hI.lay_new
      unfold zeroF at n1 n2 n3
      have C5 := hide (C.upd0 n3)
      have R5 := hide (R.upd0 n3)
      have U5 := hide (hu.trans n3 (by simp))
      have HI := hide (hI.upd n3 (Off.nil _))
      have fz := hI.size
      replace n2 := hide n2
      clear hu n3 C R hI
      go_wp2_with fail
      generalize (wr.alloc (.cells #[.int .i64 0, .int .i64 0, .int .i64 0, .int .i64 0, .int .i64 0, .int .i64 0, .int .i64 0, .int .i64 0, .string ⟨#[]⟩, .string ⟨#[]⟩, .int .i64 0, .int .i64 0, .string ⟨#[]⟩, .int .i64 0, .int .i64 0, .int .i64 0, .int .i64 0, .int .i64 0, .int .i64 0, .int .i64 0, .string ⟨#[]⟩, .string ⟨#[]⟩, .int .i64 0, .int .i64 0, .slice none 0 0, .int .i64 0, .int .i64 0, .int .i64 0, .int .i64 0] 40)).setCells wr.heap.size 0 F.toList = w5 at *
      generalize wr.heap.size = pa at *
      clear n1 hF
      refine F_start 8 (fun w' => w'.cell? ⟨c, 0, none⟩ = some (.slice (some ⟨pc, 0, none⟩) cap cap) ∧ frameAt w' pa 0 = some F) (by kernel_rfl) ?_
      have hS : w5.drew.cell? ⟨c, 0, none⟩ = some (.slice (some ⟨pc, 0, none⟩) cap cap) ∧ frameAt w5.drew pa 0 = some F := ⟨C5.out.c0, n2.out.frame0 fz⟩
      refine F_take (i := 0) [7, 3, 2, 1] (v := ?_) rfl (by kernel_rfl) (by kernel_rfl) (by kernel_rfl) (by kernel_rfl) (fun _ _ _ h => h) rfl ?_ hS ?_
      rotate_left
      · intro w hSw
        try dsimp only at hSw
        go_simp
        try with_reducible rfl
      try simp only [Act.put, List.setIfInBounds_toArray, List.set_cons_zero, List.set_cons_succ]
      refine F_take (i := 1) [7, 3, 2] (v := ?_) rfl (by kernel_rfl) (by kernel_rfl) (by kernel_rfl) (by kernel_rfl) (fun _ _ _ h => h) rfl ?_ hS ?_
      rotate_left
      · intro w hSw
        try dsimp only at hSw
        go_simp
        try with_reducible rfl
      try simp only [Act.put, List.setIfInBounds_toArray, List.set_cons_zero, List.set_cons_succ]
      refine F_take (i := 2) [7, 3] (v := ?_) rfl (by kernel_rfl) (by kernel_rfl) (by kernel_rfl) (by kernel_rfl) (fun _ _ _ h => h) rfl ?_ hS ?_
      rotate_left
      · intro w hSw
        try dsimp only at hSw
        go_simp
        try with_reducible rfl
      try simp only [Act.put, List.setIfInBounds_toArray, List.set_cons_zero, List.set_cons_succ]
      refine F_take (i := 3) [7] (v := ?_) rfl (by kernel_rfl) (by kernel_rfl) (by kernel_rfl) (by kernel_rfl) (fun _ _ _ h => h) rfl ?_ hS ?_
      rotate_left
      · intro w hSw
        try dsimp only at hSw
        go_simp
        try with_reducible rfl
      try simp only [Act.put, List.setIfInBounds_toArray, List.set_cons_zero, List.set_cons_succ]
      refine F_take (i := 4) [7] (v := ?_) rfl (by kernel_rfl) (by kernel_rfl) (by kernel_rfl) (by kernel_rfl) (fun _ _ _ h => h) rfl ?_ hS ?_
      rotate_left
      · intro w hSw
        try dsimp only at hSw
        go_simp
        try with_reducible rfl
      try simp only [Act.put, List.setIfInBounds_toArray, List.set_cons_zero, List.set_cons_succ]
      refine F_take (i := 5) [6] (v := ?_) rfl (by kernel_rfl) (by kernel_rfl) (by kernel_rfl) (by kernel_rfl) (fun _ _ _ h => h) rfl ?_ hS ?_
      rotate_left
      · intro w hSw
        try dsimp only at hSw
        go_simp
        try with_reducible rfl
      try simp only [Act.put, List.setIfInBounds_toArray, List.set_cons_zero, List.set_cons_succ]
      refine F_step (i := 6) rfl (by kernel_rfl) (fun K hK => ?_)
      refine step_call rfl 24 #[.agg F] (by first | rfl | (go_simp; done) | simp [execOp, resolve, invoke, Act.eval, Result.andThen]) ((own_drew HI.out 1).mono ?_)
      rintro e w6 ⟨F', rfl, hF', hu⟩
      refine ⟨_, rfl, ?_⟩
      have C6 := C5.out.upd0 hu
      have R6 := R5.out.upd0 (show Upd w5 w6 [] from hu)
      obtain ⟨m1, m2⟩ := C6.put i hil hF'
      have C8 := hide m2
      have R8 := hide (R6.upd (Upd.setCells (b := pc) (S := [pc]) (by simp) F'.toList (i * 29) (Upd.refl _ _)) (by have := lr.out; have := hpc.out; simp; omega) (by have := lpb.out; have := hpc.out; simp; omega) (by obtain ⟨cs, hb, _⟩ := C6.row; exact Off.one hb (by decide)))
      have U8 := hide (show Upd w (w6.setCells pc (i * 29) F'.toList) [] from Upd.setCells (b := pc) (by have := hpc.out; omega) F'.toList (i * 29) (U5.out.trans (show Upd w5 w6 [] from hu) (by simp)))
      have N2 := hide ((show Upd w5 w6 [] from hu).blk n2.out (by simp))
      have c6 := C6.c0
      clear hS
      have hS : w6.cell? ⟨c, 0, none⟩ = some (.slice (some ⟨pc, 0, none⟩) cap cap) ∧ frameAt w6 pa 0 = some F := ⟨c6, N2.out.frame0 fz⟩
      clear C6 R6 hu m2 hF'
      refine hK.out _ _ (Or.inr hS) ?_
      clear hK K
      try simp only [Act.put, List.setIfInBounds_toArray, List.set_cons_zero, List.set_cons_succ]
      refine F_take (i := 7) [] (v := ?_) rfl (by kernel_rfl) (by kernel_rfl) (by kernel_rfl) (by kernel_rfl) (fun _ _ _ h => h) rfl ?_ hS ?_
      rotate_left
      · intro w hSw
        try dsimp only at hSw
        go_simp
        try with_reducible rfl
      try simp only [Act.put, List.setIfInBounds_toArray, List.set_cons_zero, List.set_cons_succ]
      refine F_step (i := 8) rfl (by kernel_rfl) (fun K hK => ?_)
      go_simp
      refine hK.out _ _ (Or.inl rfl) ?_
      clear hK K
      try simp only [Act.put, List.setIfInBounds_toArray, List.set_cons_zero, List.set_cons_succ]
      refine F_done (by kernel_rfl) ?_ _
      clear hS
      go_wp2_with fail
      case roundEnd =>
        refine ⟨⟨i + 1, by omega, by simp, C8.out.congr (fun j hj => ?_), R8.out, U8.out⟩, ?_⟩
        · unfold Go.Proofs.Ytkopocbcldjjbaa.put
          by_cases h1 : j = i
          · subst h1; simp
          · by_cases h2 : j < i
            · simp [h1, h2]; omega
            · simp [h1, h2]; omega
        · simp only [intOf]; omega
    · have hic : i = cap := by omega
      have C9 := hide (C.congr (fs' := fs) (fun j hj => by rw [if_pos (by omega)]))
      clear C R
      replace hic := hide hic
      replace hu := hide hu
      go_wp2_with fail
      go_ret
      exact ⟨_, rfl, by have := lc.out; have := hpc.out; omega, _, by have := hpc.out; omega, C9.out, hu.out⟩
end Go.Proofs.Ytkopocbcldjjbaa

