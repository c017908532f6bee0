/- The walks of the layer rings, 4: Push. -/
import Derived.Test.YtkopocbcldjjbaaRingC
namespace Go.Proofs.Ytkopocbcldjjbaa
open Go.RowKit
set_option linter.unusedVariables false
attribute [-go_sem] loadVar storeVar
attribute [local go_sem] loadVar_else storeVar_else run_load40 run_store40 frameAt_drew frameAt_drewN roomAt_drew roomAt_drewN
/-- frames, of which that at p is x -/
def put (fs : Nat → Fr) (p : Nat) (x : Fr) : Nat → Fr := fun i => if i = p then x else fs i
theorem Places.put {w : World} {pb cap b : Nat} {fs : Nat → Fr} {F : Array Value} {x : Fr} (h : Places w pb cap fs) (p : Nat) (hp : p < cap) (hF : IsF w b F x) :
    roomAt w pb (p * 29) F = true ∧ Places (w.setCells pb (p * 29) F.toList) pb cap (put fs p x) := by
  obtain ⟨cs, hb, hs, hf⟩ := h
  have h29 : F.toList.length = 29 := by simpa using hF.size
  have hu : Upd w (w.setCells pb (p * 29) F.toList) [pb] := Upd.setCells (by simp) F.toList _ (Upd.refl _ _)
  have ho : Off w [pb] := Off.one hb (by decide)
  refine ⟨hb.room _ (by omega) hF.size hF.one, _, hb.setCells F.toList (p * 29), by rw [putAt_size, hs], fun i hi => ?_⟩
  by_cases hip : i = p
  · subst hip
    refine ⟨F, hF.size, fun j hj => ?_, ?_⟩
    · rw [putAt_get, if_pos (by omega), Array.getElem?_toList]
      congr 1; omega
    · simp only [Go.Proofs.Ytkopocbcldjjbaa.put, ↓reduceIte]
      exact (hF.mono (Nat.zero_le _)).upd hu ho
  · obtain ⟨F1, h1, h2, h3⟩ := hf i hi
    refine ⟨F1, h1, fun j hj => ?_, ?_⟩
    · rw [putAt_get, if_neg (by omega), h2 j hj]
    · simp only [Go.Proofs.Ytkopocbcldjjbaa.put, hip, ↓reduceIte]
      exact h3.upd hu ho
theorem Ring.ne {w : World} {r pb cap first cnt : Nat} {fs : Nat → Fr} (h : Ring w r pb cap first cnt fs) : r ≠ pb := by
  obtain ⟨cs, hb, _⟩ := h.row
  exact h.head.ne_ hb (by decide)
theorem Ring.put {w : World} {r pb cap first cnt b : Nat} {fs : Nat → Fr} {F : Array Value} {x : Fr} (h : Ring w r pb cap first cnt fs) (p : Nat) (hp : p < cap) (hF : IsF w b F x) :
    roomAt w pb (p * 29) F = true ∧ Ring (w.setCells pb (p * 29) F.toList) r pb cap first cnt (put fs p x) := by
  obtain ⟨h1, h2⟩ := h.row.put p hp hF
  exact ⟨h1, h.head.farCells h.ne F.toList _, h2, h.hf, h.hc, h.h64⟩
/-- the head of a ring is laid anew -/
theorem Ring.turn {w w' : World} {r pb cap first cnt : Nat} {fs : Nat → Fr} (h : Ring w r pb cap first cnt fs) (u : Upd w w' [r]) {first' cnt' : Nat} (hb : Blk w' r 62 (headOf pb cap first' cnt')) (h1 : first' < cap) (h2 : cnt' ≤ cap) :
    Ring w' r pb cap first' cnt' fs :=
  ⟨hb, h.row.upd u (by simp [h.ne.symm]) (Off.one h.head (by decide)), h1, h2, h.h64⟩
theorem place_drew {r pb cap first cnt : Nat} {fs : Nat → Fr} {w : World} (h : Ring w r pb cap first cnt fs) (i : Nat) (hi : i ≤ 64) (n : Nat) :
    Calls Try.prog 25 #[.pointer (some ⟨r, 0, none⟩), .int .i64 i] (w.drewN n) fun e w' => e = .returned (.int .i64 ((first + i) % cap : Nat)) ∧ ∃ m, w' = w.drewN m := by
  refine (place_ok r pb cap first cnt fs i (w.drewN n) ⟨h.head, h.row, h.hf, h.hc, h.h64⟩ hi).mono ?_
  rintro e w' ⟨rfl, m, rfl⟩
  exact ⟨rfl, n + m, by simp⟩
theorem Ring.drewN {w : World} {r pb cap first cnt : Nat} {fs : Nat → Fr} (h : Ring w r pb cap first cnt fs) (n : Nat) : Ring (w.drewN n) r pb cap first cnt fs := ⟨h.head, h.row, h.hf, h.hc, h.h64⟩
theorem IsF.drewN {w : World} {b : Nat} {F : Array Value} {x : Fr} (h : IsF w b F x) (n : Nat) : IsF (w.drewN n) b F x := h
/-- what is there behind the store of a frame -/
theorem Ring.pushed {w : World} {r pb cap first cnt b : Nat} {fs : Nat → Fr} {F : Array Value} {x : Fr} (h : Ring w r pb cap first cnt fs) (hlt : cnt < cap) (p : Nat) (hp : p < cap) (hF : IsF w b F x) :
    roomAt w pb (p * 29) F = true ∧ (w.setCells pb (p * 29) F.toList).cell? ⟨r, 2, none⟩ = some (.int .i64 cnt) ∧ (w.setCells pb (p * 29) F.toList).frozen? ⟨r, 2, none⟩ = false ∧
    Hid (Ring ((w.setCells pb (p * 29) F.toList).setCell ⟨r, 2, none⟩ (.int .i64 ((cnt : Int) + 1))) r pb cap first (cnt + 1) (Go.Proofs.Ytkopocbcldjjbaa.put fs p x) ∧ Upd w ((w.setCells pb (p * 29) F.toList).setCell ⟨r, 2, none⟩ (.int .i64 ((cnt : Int) + 1))) [r, pb]) := by
  obtain ⟨q1, q2⟩ := h.put p hp hF
  refine ⟨q1, q2.c2, q2.head.frozen 2, ?_, ?_⟩
  · refine q2.turn ((Upd.refl _ _).setCell (by simp) _) ((q2.head.set_ 2 _).congr ?_) h.hf (by omega)
    simp [headOf]
  · exact (Upd.setCells (b := pb) (by simp) F.toList _ (Upd.refl _ _)).setCell (by simp) _
set_option maxHeartbeats 4000000 in
theorem push_ok (r pb cap first cnt : Nat) (fs : Nat → Fr) (x : Fr) (v : Value) (w : World) (h : Ring w r pb cap first cnt fs) (hlt : cnt < cap) (hg : Good x) (hv : Src w v x.2) (hv1 : v.oneCell' = true) :
    Calls Try.prog 9 #[.pointer (some ⟨r, 0, none⟩), .agg (cut x v)] w fun e w' => e = .returned (.bool true) ∧ Ring w' r pb cap first (cnt + 1) (put fs ((first + cnt) % cap) x) ∧ Upd w w' [r, pb] := by
  have hs : (cut x v).size = 29 := by rw [cut_size, hg.size]
  have R0 := h.upd ((Upd.refl w []).alloc (.cells (cut x v) 40)) (by simp) (by simp) (Off.nil _)
  have e1 := h.hf
  have e2 := h.h64
  have e3 : ¬ cnt = cap := by omega
  have e4 : ((cnt : Int) == (cap : Int)) = false := by simp; omega
  have B0 := Blk.new w 40 (cut x v)
  have L0 := B0.frame0 hs
  replace B0 := hide B0
  have U0 := hide ((Upd.refl w []).alloc (.cells (cut x v) 40))
  clear h
  have h0 := R0.c0
  have h2 := R0.c2
  have HN := hide fun (n : Nat) => none_no r pb cap ((w.alloc (.cells (cut x v) 40)).drewN n) h0
  have hp : (first + cnt) % cap < cap := Nat.mod_lt _ (by omega)
  have HP := hide fun (n : Nat) => place_drew R0 cnt (by omega) n
  have HO := hide fun (n : Nat) => own_ok ((w.alloc (.cells (cut x v) 40)).drewN n) x v hg (hv.upd (U0.out.drewN n)) hv1
  clear hv hg
  replace R0 := hide R0
  generalize hpe : (first + cnt) % cap = p at *
  replace hpe := hide hpe
  go_enter Try.func9, Try.ntmps9
  go_wp2_with fail
  go_quiet ((first | (go_at_call 23; exact quiet_left (HN.out _))))
  go_wp2_with fail
  go_region_with ((first
    | (go_at_call 25; refine (HP.out _).mono ?_; rintro e w' ⟨rfl, m, rfl⟩)
    | (go_at_call 25; refine (HP1.out _).mono ?_; rintro e w' ⟨rfl, m, rfl⟩)
    | (go_at_call 25; refine (HP1.out 0).mono ?_; rintro e w' ⟨rfl, m, rfl⟩)
    | (go_at_call 24; refine (HO.out _).mono ?_; rintro e w1 ⟨F', rfl, hF', hu⟩; replace hu : Upd (w.alloc (.cells (cut x v) 40)) w1 [] := ⟨hu.os, hu.tape, hu.output, hu.size, hu.block⟩; have R1 := R0.out.upd hu (by simp) (by simp) (Off.nil _); have HP1 := hide fun (n : Nat) => hpe.out ▸ place_drew R1 cnt (by omega) n; have h01 := R1.c0; have h21 := R1.c2; obtain ⟨k1, k2, k3, k4⟩ := R1.pushed hlt p hp hF'; have kk := fun (n : Nat) => (R1.drewN n).pushed hlt p hp (hF'.drewN n); have kk2 := fun n => (kk n).2.1; have kk3 := fun n => (kk n).2.2.1; replace kk := hide fun n => (kk n).2.2.2; replace hu := hide (U0.out.trans hu (by simp)); clear R1 hF')))
  all_goals (go_wp2_with fail; go_ret; first | exact ⟨rfl, k4.out.1, (hu.out.mono (S' := [r, pb]) (by simp)).trans k4.out.2 (fun i h _ => h)⟩ | exact ⟨rfl, (kk.out _).out.1, ((hu.out.drewN _).mono (S' := [r, pb]) (by simp)).trans (kk.out _).out.2 (fun i h _ => h)⟩)
end Go.Proofs.Ytkopocbcldjjbaa
