/- The walks of the layer reads: same. -/
import Derived.Test.YtdnablmlkkkdhaaSame
namespace Go.Proofs.Ytdnablmlkkkdhaa
open Go.RowKit
set_option linter.unusedVariables false
attribute [-go_sem] loadVar storeVar run_neq_struct Instr.buildSlice
attribute [local go_sem] loadVar_else storeVar_else run_load33 run_load35 run_load42 run_load44 run_load49 run_load72 run_store35 run_store42 run_store44 run_store49 aggAt_drew aggAt_drewN aggRoom_drew aggRoom_drewN run_one74
/-- what the document looks at of a read -/
def Rd.key (x : Rd) : Int × Fd × Res := (x.id, x.d, x.x)
set_option maxRecDepth 100000 in
set_option maxHeartbeats 4000000 in
theorem same_ok (va vb : Value) (P D : List Rd) (b : Nat) (w : World) (RA : RowOf w b 49 34 va (rdCells P)) (RB : RowAt w 72 34 vb (rdCells D)) (hk : P.map Rd.key = D.map Rd.key) (okP : ∀ x ∈ P, x.ok) (okD : ∀ x ∈ D, x.ok) (h16 : P.length ≤ 16) :
    Calls Try.prog 15 #[va, vb] w fun e w' => e = .returned (.bool true) ∧ Upd w w' [] := by
  have hl : D.length = P.length := by have := congrArg List.length hk; simpa using this.symm
  have hki := hide (fun (i : Nat) (h : i < P.length) (h' : i < D.length) => (by
    have := congrArg (fun l => l[i]?) hk
    simp [h, h'] at this
    simp [Rd.key] at this
    exact this : (P[i]).id = (D[i]).id ∧ (P[i]).d = (D[i]).d ∧ (P[i]).x = (D[i]).x))
  obtain ⟨ga, ca, rfl, hga⟩ := RA.form
  obtain ⟨gb, cb, rfl, _, _, _, hgb⟩ := RB.form
  rw [rdCells_len] at hga hgb RA RB
  rw [rdCells_len, rdCells_len, hl]
  rw [hl] at hgb RB
  have HL := hide hl
  have OP := hide okP
  have OD := hide okD
  replace RA := hide RA
  replace RB := hide RB
  replace hga := hide hga
  replace hgb := hide hgb
  clear hk hl okP okD
  go_enter Try.func15, Try.ntmps15
  go_wp2_with fail
  go_loopw [5] (fun vi wr => ∃ i : Nat, i ≤ P.length ∧ vi = .int .i64 i ∧ Upd w wr []) (fun vi _ => P.length - (intOf vi).toNat)
  case atStart => exact ⟨0, by omega, rfl, Upd.refl _ _⟩
  case round =>
    obtain ⟨i, hi, rfl, hu⟩ := hrel
    by_cases hlt : i < P.length
    · obtain ⟨g1, rfl⟩ := hga.out (by omega)
      obtain ⟨g2, off, rfl, _⟩ := hgb.out (by omega)
      have hll := HL.out
      have hlt' : i < D.length := by omega
      obtain ⟨k1, k2, k3⟩ := hki.out i hlt hlt'
      have A := (RA.out.upd hu (by simp)).rd i hlt
      have B := (RB.out.upd hu (OffT.nil _ _)).rd i hlt'
      have o1 : Rd.ok P[i] := OP.out _ (List.getElem_mem hlt)
      have o2 : Rd.ok D[i] := OD.out _ (List.getElem_mem hlt')
      have a0 := aggAt_cell A 0 (by decide)
      have b0 := aggAt_cell B 0 (by decide)
      rw [Rd.at0] at a0 b0
      rw [← k1] at b0
      have a1 : aggAt 29 wr g1 (i * 34 + 1) = some (P[i]).F := aggAt_part A (by decide) o1.size (fun j hj => Rd.atF o1 j hj)
      have b1 : aggAt 29 wr g2 (off + i * 34 + 1) = some (D[i]).F := aggAt_part B (by decide) o2.size (fun j hj => Rd.atF o2 j hj)
      have a2 : aggAt 4 wr g1 (i * 34 + 30) = some (P[i]).x.cells := aggAt_part A (by decide) rfl (fun j _ => Rd.atX o1 j)
      have b2 : aggAt 4 wr g2 (off + i * 34 + 30) = some (D[i]).x.cells := aggAt_part B (by decide) rfl (fun j _ => Rd.atX o2 j)
      rw [← k3] at b2
      have a0 : wr.cell? ⟨g1, i * 34, none⟩ = some (.int .i64 (P[i]).id) := a0
      have b0 : wr.cell? ⟨g2, off + i * 34, none⟩ = some (.int .i64 (P[i]).id) := b0
      have HF := hide (show Fit (P[i]).F (P[i]).d from o1)
      have HG := hide (show Fit (D[i]).F (P[i]).d by rw [k2]; exact o2)
      have hs := fun w => neq35_self (P[i]).x w
      have hii : (i : Int) < P.length := by omega
      have q1 := o1.size
      have q2 := o2.size
      clear A B o1 o2 k1 k2 k3 hll
      generalize (P[i]).id = z at *
      generalize (P[i]).F = F at *
      generalize (D[i]).F = G at *
      generalize (P[i]).d = d at *
      generalize (P[i]).x.cells = X at *
      clear hlt'
      have SS := hide (fun (W : World) (u : Upd wr W []) => (⟨cell_upd a0 u (by simp), cell_upd b0 u (by simp), aggAt_upd (by decide) a1 u (by simp), aggAt_upd (by decide) b1 u (by simp), aggAt_upd (by decide) a2 u (by simp), aggAt_upd (by decide) b2 u (by simp)⟩ :
        W.cell? ⟨g1, i * 34, none⟩ = some (.int .i64 z) ∧ W.cell? ⟨g2, off + i * 34, none⟩ = some (.int .i64 z) ∧ aggAt 29 W g1 (i * 34 + 1) = some F ∧ aggAt 29 W g2 (off + i * 34 + 1) = some G ∧ aggAt 4 W g1 (i * 34 + 30) = some X ∧ aggAt 4 W g2 (off + i * 34 + 30) = some X))
      have uA := hide (show Upd wr ((wr.alloc (.cells F 42)).alloc (.cells G 42)).drew [] from (((Upd.refl wr []).alloc _).alloc _).drew)
      have uB := hide (show Upd wr ((wr.alloc (.cells G 42)).alloc (.cells F 42)).drew [] from (((Upd.refl wr []).alloc _).alloc _).drew)
      have FA := hide (frames_ok wr.heap.size (wr.heap.size + 1) F G d ((wr.alloc (.cells F 42)).alloc (.cells G 42)).drew ((Blk.new wr 42 F).alloc _) (by have := Blk.new (wr.alloc (.cells F 42)) 42 G; rwa [World.size_alloc] at this) HF.out HG.out)
      have FB := hide (frames_ok (wr.heap.size + 1) wr.heap.size F G d ((wr.alloc (.cells G 42)).alloc (.cells F 42)).drew (by have := Blk.new (wr.alloc (.cells G 42)) 42 F; rwa [World.size_alloc] at this) ((Blk.new wr 42 G).alloc _) HF.out HG.out)
      replace hu := hide hu
      clear a0 b0 a1 b1 a2 b2
      go_wp2_with fail
      go_region_held3 (fun W => W.cell? ⟨g1, i * 34, none⟩ = some (.int .i64 z) ∧ W.cell? ⟨g2, off + i * 34, none⟩ = some (.int .i64 z) ∧ aggAt 29 W g1 (i * 34 + 1) = some F ∧ aggAt 29 W g2 (off + i * 34 + 1) = some G ∧ aggAt 4 W g1 (i * 34 + 30) = some X ∧ aggAt 4 W g2 (off + i * 34 + 30) = some X)
        (first
          | exact SS.out _ (Upd.refl wr []).drew
          | exact SS.out _ ((Upd.refl wr []).alloc _).drew
          | exact SS.out _ (((Upd.refl wr []).alloc _).alloc _).drew
          | exact SS.out _ k3.out)
        (first
          | (go_at_call 30; (with_reducible refine FA.out.mono ?_); rintro e w3 ⟨rfl, u3⟩; have k3 := hide (uA.out.trans u3 (by simp)); clear u3)
          | (go_at_call 30; (with_reducible refine FB.out.mono ?_); rintro e w3 ⟨rfl, u3⟩; have k3 := hide (uB.out.trans u3 (by simp)); clear u3))
      all_goals
        go_wp2_with fail
        go_roundw
        case rel => exact ⟨i + 1, by omega, by go_num, hu.out.trans k3.out (by simp)⟩
        case measure => simp [intOf]; omega
    · obtain rfl : i = P.length := by omega
      replace hu := hide hu
      go_wp2_with fail
      go_ret
      exact ⟨rfl, hu.out⟩
end Go.Proofs.Ytdnablmlkkkdhaa
