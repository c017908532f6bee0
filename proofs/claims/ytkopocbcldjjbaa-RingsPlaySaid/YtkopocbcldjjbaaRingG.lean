/- The walks of the layer rings, 7: Pop. -/
import Derived.Test.YtkopocbcldjjbaaRingF
namespace Go.Proofs.Ytkopocbcldjjbaa
open Go.RowKit
set_option linter.unusedVariables false
attribute [-go_sem] loadVar storeVar
attribute [local go_sem] loadVar_else storeVar_else run_load40 run_store40 frameAt_drew frameAt_drewN roomAt_drew roomAt_drewN
theorem Places.clear {w : World} {pb cap : Nat} {fs : Nat → Fr} (h : Places w pb cap fs) (p n : Nat) (hp : p + n ≤ cap) :
    Places (w.setCells pb (p * 29) (zRow n).toList) pb cap (fun i => if p ≤ i ∧ i < p + n then zeroFr else fs i) := by
  obtain ⟨cs, hb, hs, hf⟩ := h
  have h29 : (zRow n).toList.length = n * 29 := by simpa using zRow_size n
  have hu : Upd w (w.setCells pb (p * 29) (zRow n).toList) [pb] := Upd.setCells (by simp) _ _ (Upd.refl _ _)
  have ho : Off w [pb] := Off.one hb (by decide)
  refine ⟨_, hb.setCells _ (p * 29), by rw [putAt_size, hs], fun i hi => ?_⟩
  by_cases hip : p ≤ i ∧ i < p + n
  · refine ⟨zeroF, rfl, fun j hj => ?_, ?_⟩
    · rw [putAt_get, if_pos (by omega), Array.getElem?_toList, show i * 29 + j - p * 29 = (i - p) * 29 + j by omega]
      exact zRow_get n (i - p) j (by omega) hj
    · simp only [hip, and_self, ↓reduceIte]
      exact zero_isF _ _
  · obtain ⟨F1, h1, h2, h3⟩ := hf i hi
    refine ⟨F1, h1, fun j hj => ?_, ?_⟩
    · rw [putAt_get, if_neg (by omega), h2 j hj]
    · simp only [hip, ↓reduceIte]
      exact h3.upd hu ho
theorem Ring.clear {w : World} {r pb cap first cnt : Nat} {fs : Nat → Fr} (h : Ring w r pb cap first cnt fs) (p n : Nat) (hp : p + n ≤ cap) :
    Ring (w.setCells pb (p * 29) (zRow n).toList) r pb cap first cnt (fun i => if p ≤ i ∧ i < p + n then zeroFr else fs i) :=
  ⟨h.head.farCells h.ne _ _, h.row.clear p n hp, h.hf, h.hc, h.h64⟩
theorem Ring.congr {w : World} {r pb cap first cnt : Nat} {fs fs' : Nat → Fr} (h : Ring w r pb cap first cnt fs) (e : ∀ i, i < cap → fs i = fs' i) : Ring w r pb cap first cnt fs' := by
  obtain ⟨h1, ⟨cs, hb, hs, hf⟩, h3, h4, h5⟩ := h
  refine ⟨h1, ⟨cs, hb, hs, fun i hi => ?_⟩, h3, h4, h5⟩
  rw [← e i hi]; exact hf i hi
theorem pop_ok (r pb cap first cnt : Nat) (fs : Nat → Fr) (w : World) (h : Ring w r pb cap first cnt fs) (hc : 0 < cnt) :
    Calls Try.prog 10 #[.pointer (some ⟨r, 0, none⟩)] w fun e w' => ∃ F, e = .returned (.tuple #[.agg F, .bool true]) ∧ IsF w' w.heap.size F (fs first) ∧
      Ring w' r pb cap ((first + 1) % cap) (cnt - 1) (put fs first zeroFr) ∧ Upd w w' [r, pb] := by
  have R0 := h.upd ((Upd.refl w []).alloc (.cells zeroF 40)) (by simp) (by simp) (Off.nil _)
  have U0 := hide ((Upd.refl w []).alloc (.cells zeroF 40))
  have B0 := hide (Blk.new w 40 zeroF)
  have HA := hide (front_ok r pb cap first cnt fs _ R0 hc)
  have e1 := h.hf
  have e2 := h.h64
  have e3 := h.hc
  have hrp : r < w.heap.size ∧ pb < w.heap.size := ⟨h.head.lt, h.row.lt⟩
  clear h
  replace R0 := hide R0
  go_enter Try.func10, Try.ntmps10
  go_wp2_with fail
  refine HA.out.mono ?_
  rintro e w1 ⟨F', rfl, hF', hu⟩
  obtain ⟨l1, l2, l3, l4⟩ := hF'.lay (hu.blk B0.out (by simp)) rfl
  have R2 := (R0.out.upd hu (by simp) (by simp) (Off.nil _)).upd (Upd.setCells (b := w.heap.size) (S := [w.heap.size]) (by simp) F'.toList 0 (Upd.refl _ _)) (by simp; omega) (by simp; omega) (Off.one (hu.blk B0.out (by simp)) (by decide))
  have U2 := hide (Upd.setCells (b := w.heap.size) (by simp) F'.toList 0 (U0.out.trans hu (by simp)))
  have HI := hide l4
  have HB := hide l3
  clear l3 l4 hF' hu l2
  have g0 := R2.c0
  have g1 := R2.c1
  have hcl : ∀ ty c, (Builtin.clear_ #[52] ty #[.slice (some ⟨pb, first * 29, none⟩) 1 c]).run Try.prog (w1.setCells w.heap.size 0 F'.toList).drew = .ok (.tuple #[]) ((w1.setCells w.heap.size 0 F'.toList).drew.setCells pb (first * 29) (zRow 1).toList) := by
    obtain ⟨cs, hb, hs, _⟩ := R2.row
    exact fun ty c => run_clear52 _ pb (first * 29) 1 c ty cs (by omega) hb (by omega)
  have RH := hide R2
  clear R2
  go_wp2_with fail
  go_region
  have R3 : Ring ((w1.setCells w.heap.size 0 F'.toList).drew.setCells pb (first * 29) (zRow 1).toList) r pb cap first cnt _ := Ring.clear (w := (w1.setCells w.heap.size 0 F'.toList).drew) ⟨RH.out.head, RH.out.row, RH.out.hf, RH.out.hc, RH.out.h64⟩ first 1 (by omega)
  have U3 : Upd w ((w1.setCells w.heap.size 0 F'.toList).drew.setCells pb (first * 29) (zRow 1).toList) [r, pb] := Upd.setCells (b := pb) (by simp) _ _ (U2.out.drew.mono (by simp))
  have B3 : Blk ((w1.setCells w.heap.size 0 F'.toList).drew.setCells pb (first * 29) (zRow 1).toList) w.heap.size 40 F' := Blk.farCells (by omega) _ _ HB.out.drew
  have I3 : IsF ((w1.setCells w.heap.size 0 F'.toList).drew.setCells pb (first * 29) (zRow 1).toList) w.heap.size F' (fs first) := by
    obtain ⟨cs, hb, _⟩ := RH.out.row
    exact IsF.upd (w := (w1.setCells w.heap.size 0 F'.toList).drew) (HI.out.mono (by simp)) (Upd.setCells (b := pb) (S := [pb]) (by simp) _ _ (Upd.refl _ _)) (Off.one (t := 40) (cs := cs) hb (by decide))
  clear hcl g0 g1 RH HI HB U2 l1
  generalize (w1.setCells w.heap.size 0 F'.toList).drew.setCells pb (first * 29) (zRow 1).toList = W at *
  have P3 := hide (place_ok r pb cap first cnt _ 1 W R3 (by omega))
  have hp1 : (first + 1) % cap < cap := Nat.mod_lt _ (by omega)
  generalize hpe : (first + 1) % cap = p1 at *
  replace hpe := hide hpe
  replace R3 := hide R3
  replace U3 := hide U3
  replace B3 := hide B3
  replace I3 := hide I3
  go_wp2_with fail
  refine P3.out.mono ?_
  rintro e w' ⟨rfl, m, rfl⟩
  have R4 := R3.out.drewN m
  have k1 := R4.c1
  have f1 := R4.head.frozen 1
  have k2 : ((W.drewN m).setCell ⟨r, 1, none⟩ (.int .i64 p1)).cell? ⟨r, 2, none⟩ = some (.int .i64 cnt) := by rw [(R4.head.set_ 1 _).cell]; simp [headOf]
  have f2 := (R4.head.set_ 1 (.int .i64 p1)).frozen 2
  have hb5 := ((R4.head.set_ 1 (.int .i64 p1)).set_ 2 (.int .i64 ((cnt : Int) - 1))).congr (cs' := headOf pb cap p1 (cnt - 1)) (by simp [headOf]; omega)
  have u5 : Upd (W.drewN m) (((W.drewN m).setCell ⟨r, 1, none⟩ (.int .i64 p1)).setCell ⟨r, 2, none⟩ (.int .i64 ((cnt : Int) - 1))) [r] := ((Upd.refl _ _).setCell (by simp) _).setCell (by simp) _
  have R5 := R4.turn u5 hb5 hp1 (by omega)
  have B5 := u5.blk (B3.out.drewN m) (by simp; omega)
  have I5 := (I3.out.drewN m).upd u5 (Off.one R4.head (by decide))
  obtain ⟨q1, q2, q3, q4⟩ := I5.lay B5 I5.size
  have q0 := B5.frame0 I5.size
  have R6 := hide (R5.upd (Upd.setCells (b := w.heap.size) (S := [w.heap.size]) (by simp) F'.toList 0 (Upd.refl _ _)) (by simp; omega) (by simp; omega) (Off.one B5 (by decide)))
  have U6 := hide (Upd.setCells (b := w.heap.size) (by simp) F'.toList 0 ((U3.out.drewN m).trans u5 (by simp)))
  replace q4 := hide q4
  clear R4 hb5 u5 R5 B5 I5 q3
  replace q2 := hide q2
  go_wp2_with fail
  refine bodyPost_ret (results_frame2 rfl rfl q2.out) rfl ?_
  have hpe' := hpe.out
  subst hpe'
  exact ⟨_, rfl, q4.out, R6.out.congr (fun i _ => by unfold Go.Proofs.Ytkopocbcldjjbaa.put; split <;> split <;> first | rfl | omega), U6.out⟩
end Go.Proofs.Ytkopocbcldjjbaa
