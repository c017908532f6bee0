/- RingsNone: the walk. -/
import Derived.Test.YtkopocbcldjjbaaGreat
import Derived.Test.YtkopocbcldjjbaaNil
import Derived.Test.YtkopocbcldjjbaaWordsB
import Derived.Test.YtkopocbcldjjbaaRinged
namespace Go.Proofs.Ytkopocbcldjjbaa
open Go.RowKit
set_option linter.unusedVariables false
attribute [-go_sem] loadVar storeVar
attribute [local go_sem] loadVar_else2 storeVar_else2 run_load40 run_store40 run_load50 run_store50 frameAt_drew frameAt_drewN roomAt_drew roomAt_drewN actAt_drew actAt_drewN
theorem foldl_zipIdx : ∀ (vs : List Value) (o : Nat) (cs : Array Value), (vs.zipIdx o).foldl (fun cs x => cs.setIfInBounds x.2 x.1) cs = putAt cs o vs
  | [], _, _ => rfl
  | v :: r, o, cs => by rw [List.zipIdx_cons, List.foldl_cons, foldl_zipIdx r, putAt]
theorem laid_all {Z A : Array Value} {n : Nat} (hA : A.size = n) (hZ : Z.size = n) : Array.foldl (fun cs x => cs.setIfInBounds x.2 x.1) Z A.zipIdx 0 n = A := by
  have e : n = A.zipIdx.size := by simp [hA]
  rw [e, ← Array.foldl_toList, Array.toList_zipIdx, foldl_zipIdx]
  exact putAt_all (by omega)
theorem great_one {F : Array Value} {y : Eyes} {m : Nat} (hm : 0 < m) : great [(F, y)] m = decide y.wide := by
  have : ¬ m < 1 := by omega
  simp [great, this]
set_option maxRecDepth 100000 in
set_option maxHeartbeats 4000000 in
theorem rnone_walk (A F : Array Value) (y : Eyes) (i : Int) (w : World) (hA : A.size = 31) (h30 : A[30]? = some (.int .i64 i)) (hF : ∀ j, j < 29 → A[1 + j]? = F[j]?) (hS : Sees F y) :
    Calls Try.prog 5 #[.agg A] w fun e w' => e = .returned (.bool true) ∧ Upd w w' [] := by
  have B1 := Blk.new w 50 A
  have L1 := B1.act 0 hA (fun j _ => by rw [Nat.zero_add])
  have U2 := hide (((Upd.refl w []).alloc (.cells A 50)).alloc (.cells A 50))
  have B2 := Blk.new (w.alloc (.cells A 50)) 50 A
  have B1' := hide (B1.alloc (.cells A 50))
  rw [World.size_alloc] at B2
  have X : Acts ((w.alloc (.cells A 50)).alloc (.cells A 50)) (w.heap.size + 1) 0 [(F, y)] := by
    intro j hj
    obtain rfl : j = 0 := by simpa using hj
    exact ⟨B2.frame 1 hS.size (fun j hj => hF j hj), hS⟩
  have G := hide (great_walk (some ⟨w.heap.size + 1, 0, none⟩) (w.heap.size + 1) 0 1 [(F, y)] 1 _ (fun _ => rfl) X (by simp))
  rw [great_one (by omega)] at G
  have hA' := hide hA
  have hF' := hide hF
  have hS' := hide hS.size
  have h30' := hide h30
  clear B1 B2 X h30 hF hS
  go_enter Try.func5, Try.ntmps5
  go_wp2_with fail
  rw [laid_all hA'.out rfl]
  refine G.out.mono ?_
  rintro e w1 ⟨rfl, u1⟩
  have B := u1.blk B1'.out (by simp)
  have U := hide (U2.out.trans u1 (by simp))
  clear G U2 B1' u1 L1
  replace B := hide B
  by_cases hw : y.wide
  · go_wp2_with fail
    refine (ringed_any _).mono ?_
    rintro e w2 ⟨rfl, u2⟩
    replace u2 := hide (U.out.trans u2 (by simp))
    go_wp2_with fail
    go_ret
    exact ⟨rfl, u2.out⟩
  · go_wp2_with fail
    go_loopw [3, 4] (fun c v wr => ∃ k : Nat, k ≤ 2 ∧ v = .int .i64 k ∧ NoRing wr c ∧ Blk wr w.heap.size 50 A ∧ Upd w wr []) (fun _ v _ => 2 - (intOf v).toNat)
    case atStart => exact ⟨0, by omega, rfl, .inl rfl, B.out, U.out⟩
    case round =>
      clear B U
      obtain ⟨k, hk, rfl, hc, hB, hu⟩ := hrel
      by_cases hlt : k < 2
      · have hki : (k : Int) < 2 := by omega
        have P := hide (pop_nil _ _ hc)
        replace hu := hide hu
        replace hc := hide hc
        replace hB := hide hB
        go_wp2_with fail
        refine P.out.mono ?_
        rintro e w2 ⟨F1, rfl, hF1, v2⟩
        obtain ⟨q1, q2, q3⟩ := hF1.lay_new
        have u3' := v2.trans q3 (by simp)
        have hc3 := hc.out.upd u3'
        have P3 := hide (front_nil _ _ hc3)
        have U3 := hide (hu.out.trans u3' (by simp))
        have B3 := hide (u3'.blk hB.out (by simp))
        replace hc3 := hide hc3
        unfold zeroF at q1
        clear P hF1 v2 q2 q3 u3' hu hB
        go_wp2_with fail
        refine P3.out.mono ?_
        rintro e w4 ⟨F2, rfl, hF2, v4⟩
        obtain ⟨q4, q5, q6⟩ := hF2.lay_new
        have u4' := v4.trans q6 (by simp)
        have hc4 := hc3.out.upd u4'
        have P4 := hide (at_nil _ i _ hc4)
        have U4 := hide (U3.out.trans u4' (by simp))
        have B4 := u4'.blk B3.out (by simp)
        have k4 : ((w4.alloc (.cells zeroF 40)).setCells w4.heap.size 0 F2.toList).cell? ⟨w.heap.size, 30, none⟩ = some (.int .i64 i) := by rw [B4.cell]; exact h30'.out
        replace B4 := hide B4
        replace hc4 := hide hc4
        unfold zeroF at q4 k4
        clear P3 hF2 v4 q5 q6 u4' U3 B3 q1
        go_wp2_with fail
        refine P4.out.mono ?_
        rintro e w5 ⟨F3, rfl, hF3, v5⟩
        obtain ⟨q7, q8, q9⟩ := hF3.lay_new
        have u5' := v5.trans q9 (by simp)
        have hc5 := hc4.out.upd u5'
        have P5 := hide (clear_none _ _ hc5)
        have U5 := hide (U4.out.trans u5' (by simp))
        have B5 := u5'.blk B4.out (by simp)
        have f5 : frameAt ((w5.alloc (.cells zeroF 40)).setCells w5.heap.size 0 F3.toList) w.heap.size 1 = some F := B5.frame 1 hS'.out (fun j hj => hF'.out j hj)
        have P6 := hide (push_nil _ F _ hc5)
        replace B5 := hide B5
        replace hc5 := hide hc5
        unfold zeroF at q7
        clear P4 hF3 v5 q8 q9 u5' U4 B4 q4 k4
        go_wp2_with fail
        refine P5.out.mono ?_
        rintro e w' ⟨rfl, rfl⟩
        go_wp2_with fail
        refine P6.out.mono ?_
        rintro e w6 ⟨rfl, v6⟩
        have hc6 := hc5.out.upd v6
        have P7 := hide (len_none _ _ hc6)
        have P8 := hide (cap_none _ _ hc6)
        have P9 := hide (copy_none _ _ hc6)
        have U6 := hide (U5.out.trans v6 (by simp))
        have B6 := hide (v6.blk B5.out (by simp))
        clear P5 P6 U5 B5 f5 q7 v6 hc6
        go_wp2_with fail
        refine P7.out.mono ?_
        rintro e w' ⟨rfl, rfl⟩
        go_wp2_with fail
        refine P8.out.mono ?_
        rintro e w' ⟨rfl, rfl⟩
        go_wp2_with fail
        refine P9.out.mono ?_
        rintro e w' ⟨rfl, rfl⟩
        go_wp2_with fail
        go_roundw
        case rel => exact ⟨k + 1, by omega, by go_num, .inr ⟨_, rfl, Blk.new _ _ _⟩, B6.out.alloc _, U6.out.alloc _⟩
        case measure => simp [intOf]; omega
      · obtain rfl : k = 2 := by omega
        replace hu := hide hu
        clear hc hB
        go_wp2_with fail
        refine (ringed_any _).mono ?_
        rintro e w6 ⟨rfl, u6⟩
        replace u6 := hide u6
        go_wp2_with fail
        go_ret
        exact ⟨rfl, hu.out.trans u6.out (by simp)⟩
end Go.Proofs.Ytkopocbcldjjbaa
