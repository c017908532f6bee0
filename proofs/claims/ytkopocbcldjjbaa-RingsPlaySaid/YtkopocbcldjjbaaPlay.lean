/- The walk of RingsPlay (f4): too much, and a bad capacity; the first stores of a round. -/
import Derived.Test.YtkopocbcldjjbaaPlayWords
import Derived.Test.YtkopocbcldjjbaaGreatB
import Derived.Test.YtkopocbcldjjbaaCopy
import Derived.Deep.CutRange
import Derived.Deep.CutBlock
namespace Go.Proofs.Ytkopocbcldjjbaa
open Go.RowKit
set_option linter.unusedVariables false
set_option linter.unusedSimpArgs false
attribute [-go_sem] loadVar storeVar
attribute [local go_sem] loadVar_else2 storeVar_else2 run_load40 run_store40 run_load50 run_store50 frameAt_drew frameAt_drewN roomAt_drew roomAt_drewN actAt_drew actAt_drewN actRoom_drew
theorem great_acts (a0 : Option Addr) (b off cp : Nat) (al : List Ra) (w : World) (ha : 0 < al.length → a0 = some ⟨b, off, none⟩) (hx : RActs w b off al) (hm : al.length ≤ 9223372036854775807) :
    Calls Try.prog 12 #[.slice a0 al.length cp, .int .i64 (200 : Nat)] w fun e w' => e = .returned (.bool (great (al.map fun a => (a.F, a.e)) 200)) ∧ Upd w w' [] := by
  have := great_walk2 a0 b off cp (al.map fun a => (a.F, a.e)) 200 w (fun h => ha (by simpa using h)) hx.acts (by simpa using hm)
  rwa [List.length_map] at this
set_option maxRecDepth 100000 in
theorem play_long (n : Int) (a0 : Option Addr) (b off cp : Nat) (al : List Ra) (w : World) (ha : 0 < al.length → a0 = some ⟨b, off, none⟩) (hx : RActs w b off al) (hm : al.length ≤ 9223372036854775807) (hg : great (al.map fun a => (a.F, a.e)) 200 = true) :
    Calls Try.prog 4 #[.int .i64 n, .slice a0 al.length cp] w fun e w' => e = .returned (.bool true) ∧ Upd w w' [] := by
  have G := great_acts a0 b off cp al w ha hx hm
  rw [hg] at G
  replace G := hide G
  clear hx ha hg
  go_enter Try.func4, Try.ntmps4
  go_wp2_with fail
  refine G.out.mono ?_
  rintro e w2 ⟨rfl, k1⟩
  replace k1 := hide k1
  go_wp2_with fail
  refine (ringed_any w2).mono ?_
  rintro e w3 ⟨rfl, k2⟩
  have k3 := hide (k1.out.trans k2 (by simp))
  clear k2
  go_wp2_with fail
  go_ret
  exact ⟨rfl, k3.out⟩
set_option maxRecDepth 100000 in
theorem play_bad (n : Int) (hn : n < 1 ∨ 64 < n) (a0 : Option Addr) (b off cp : Nat) (al : List Ra) (w : World) (ha : 0 < al.length → a0 = some ⟨b, off, none⟩) (hx : RActs w b off al) (hm : al.length ≤ 9223372036854775807) (hg : great (al.map fun a => (a.F, a.e)) 200 = false) :
    Calls Try.prog 4 #[.int .i64 n, .slice a0 al.length cp] w fun e w' => e = .returned (.bool true) ∧ Upd w w' [] := by
  have G := great_acts a0 b off cp al w ha hx hm
  rw [hg] at G
  replace G := hide G
  clear hx ha hg
  go_enter Try.func4, Try.ntmps4
  go_wp2_with fail
  refine G.out.mono ?_
  rintro e w2 ⟨rfl, k1⟩
  have T := hide (new_bad n w2 hn)
  have T2 := hide (dnew_bad n w2 hn)
  replace k1 := hide k1
  replace hn := hide hn
  go_wp2_with fail
  refine T.out.mono ?_
  rintro e w3 ⟨rfl, rfl⟩
  clear T
  go_wp2_with fail
  refine T2.out.mono ?_
  rintro e w3 ⟨rfl, rfl⟩
  clear T2
  go_wp2_with fail
  refine (ringed_any _).mono ?_
  rintro e w4 ⟨rfl, k2⟩
  have k3 := hide (k1.out.trans k2 (by simp))
  clear k2
  go_wp2_with fail
  go_ret
  exact ⟨rfl, k3.out⟩
theorem two_zero (w : World) : roomAt ((w.alloc (.cells zeroF 40)).alloc (.cells zeroF 40)) w.heap.size 0 zeroF = true ∧
    roomAt (((w.alloc (.cells zeroF 40)).alloc (.cells zeroF 40)).setCells w.heap.size 0 zeroF.toList) (w.heap.size + 1) 0 zeroF = true ∧
    Blk ((((w.alloc (.cells zeroF 40)).alloc (.cells zeroF 40)).setCells w.heap.size 0 zeroF.toList).setCells (w.heap.size + 1) 0 zeroF.toList) w.heap.size 40 zeroF ∧
    Blk ((((w.alloc (.cells zeroF 40)).alloc (.cells zeroF 40)).setCells w.heap.size 0 zeroF.toList).setCells (w.heap.size + 1) 0 zeroF.toList) (w.heap.size + 1) 40 zeroF ∧
    Upd w ((((w.alloc (.cells zeroF 40)).alloc (.cells zeroF 40)).setCells w.heap.size 0 zeroF.toList).setCells (w.heap.size + 1) 0 zeroF.toList) [] := by
  have b0 : Blk ((w.alloc (.cells zeroF 40)).alloc (.cells zeroF 40)) w.heap.size 40 zeroF := (Blk.new w 40 zeroF).alloc _
  have b1 : Blk ((w.alloc (.cells zeroF 40)).alloc (.cells zeroF 40)) (w.heap.size + 1) 40 zeroF := by
    have := Blk.new (w.alloc (.cells zeroF 40)) 40 zeroF
    rwa [World.size_alloc] at this
  obtain ⟨p1, _, p3, _⟩ := (zero_isF ((w.alloc (.cells zeroF 40)).alloc (.cells zeroF 40)) 0).lay b0 rfl
  have b1' : Blk (((w.alloc (.cells zeroF 40)).alloc (.cells zeroF 40)).setCells w.heap.size 0 zeroF.toList) (w.heap.size + 1) 40 zeroF := Blk.farCells (by omega) _ _ b1
  obtain ⟨q1, _, q3, _⟩ := (zero_isF (((w.alloc (.cells zeroF 40)).alloc (.cells zeroF 40)).setCells w.heap.size 0 zeroF.toList) 0).lay b1' rfl
  exact ⟨p1, q1, Blk.farCells (by omega) _ _ p3, q3, Upd.setCells (b := w.heap.size + 1) (by simp) _ _ (Upd.setCells (b := w.heap.size) (by simp) _ _ (((Upd.refl w []).alloc _).alloc _))⟩
theorem wpList_zeroG {ops : Array Oper} {rest : List Oper} {o : Oper} {a : Act} {w : World} {Q : Exit → Act → World → Prop} (hg : o.guard = none) (ho : o.op = .build 40 #[])
    (h : ∀ F, IsF w 0 F zeroFr → wpList Try.prog ops Q rest (a.put o.dst (.agg F)) w) : wpList Try.prog ops Q (o :: rest) a w :=
  wpList_zero hg ho (h zeroF (zero_isF _ _))
theorem two_lay (w : World) {F G : Array Value} (hF : IsF w 0 F zeroFr) (hG : IsF w 0 G zeroFr) : roomAt ((w.alloc (.cells zeroF 40)).alloc (.cells zeroF 40)) w.heap.size 0 F = true ∧
    roomAt (((w.alloc (.cells zeroF 40)).alloc (.cells zeroF 40)).setCells w.heap.size 0 F.toList) (w.heap.size + 1) 0 G = true ∧
    Blk ((((w.alloc (.cells zeroF 40)).alloc (.cells zeroF 40)).setCells w.heap.size 0 F.toList).setCells (w.heap.size + 1) 0 G.toList) w.heap.size 40 F ∧
    Blk ((((w.alloc (.cells zeroF 40)).alloc (.cells zeroF 40)).setCells w.heap.size 0 F.toList).setCells (w.heap.size + 1) 0 G.toList) (w.heap.size + 1) 40 G ∧
    Upd w ((((w.alloc (.cells zeroF 40)).alloc (.cells zeroF 40)).setCells w.heap.size 0 F.toList).setCells (w.heap.size + 1) 0 G.toList) [] := by
  have b0 : Blk ((w.alloc (.cells zeroF 40)).alloc (.cells zeroF 40)) w.heap.size 40 zeroF := (Blk.new w 40 zeroF).alloc _
  have b1 : Blk ((w.alloc (.cells zeroF 40)).alloc (.cells zeroF 40)) (w.heap.size + 1) 40 zeroF := by
    have := Blk.new (w.alloc (.cells zeroF 40)) 40 zeroF
    rwa [World.size_alloc] at this
  have u0 : Upd w ((w.alloc (.cells zeroF 40)).alloc (.cells zeroF 40)) [] := ((Upd.refl w []).alloc _).alloc _
  have u1 : Upd w (((w.alloc (.cells zeroF 40)).alloc (.cells zeroF 40)).setCells w.heap.size 0 F.toList) [] := Upd.setCells (b := w.heap.size) (by simp) _ _ u0
  obtain ⟨p1, _, p3, _⟩ := (hF.upd u0 (Off.nil _)).lay b0 rfl
  have b1' : Blk (((w.alloc (.cells zeroF 40)).alloc (.cells zeroF 40)).setCells w.heap.size 0 F.toList) (w.heap.size + 1) 40 zeroF := Blk.farCells (by omega) _ _ b1
  obtain ⟨q1, _, q3, _⟩ := (hG.upd u1 (Off.nil _)).lay b1' rfl
  exact ⟨p1, q1, Blk.farCells (by omega) _ _ p3, q3, Upd.setCells (b := w.heap.size + 1) (by simp) _ _ u1⟩

end Go.Proofs.Ytkopocbcldjjbaa
