/- Rings, Push once more: what it lays has members of its own, in no block that was there. -/
import Derived.Test.YtkopocbcldjjbaaDocB
namespace Go.Proofs.Ytkopocbcldjjbaa
open Go.RowKit
set_option linter.unusedVariables false
set_option linter.unusedSimpArgs false
attribute [-go_sem] loadVar storeVar
attribute [local go_sem] loadVar_else storeVar_else run_load40 run_store40 frameAt_drew frameAt_drewN roomAt_drew roomAt_drewN
theorem Own.blk {w : World} {b : Nat} {v : Value} {ms : List Value} (h : Own w b v ms) : ∀ g ∈ blkOf v, b ≤ g ∧ g < w.heap.size := by
  obtain ⟨n, hl, ⟨rfl, _⟩ | ⟨g, cap, cur, rfl, hg, hb, _⟩⟩ := h
  · intro k hk; simp [blkOf, Value.ownBlock] at hk
  · intro k hk
    simp [blkOf, Value.ownBlock] at hk
    subst hk
    exact ⟨hg, Blk.lt (t := 57) hb⟩
theorem Own.updB {w w' : World} {b : Nat} {v : Value} {ms : List Value} {S : List Nat} (h : Own w b v ms) (u : Upd w w' S) (ho : ∀ g ∈ blkOf v, g ∉ S) : Own w' b v ms := by
  obtain ⟨n, hl, h | ⟨g, cap, cur, rfl, hg, hb, r⟩⟩ := h
  · exact ⟨n, hl, .inl h⟩
  · exact ⟨n, hl, .inr ⟨g, cap, cur, rfl, hg, u.blk (t := 57) hb (ho g (by simp [blkOf, Value.ownBlock])), r⟩⟩
/-- no frame of the row at pb has its members in a block of S -/
def Av (w : World) (pb cap : Nat) (S : List Nat) : Prop := ∀ i, i < cap → ∀ v, w.cell? ⟨pb, i * 29 + 24, none⟩ = some v → ∀ g ∈ blkOf v, g ∉ S
theorem cell_same {w w' : World} {S : List Nat} (u : Upd w w' S) {b o : Nat} (hb : b < w.heap.size) (hS : b ∉ S) : w'.cell? ⟨b, o, none⟩ = w.cell? ⟨b, o, none⟩ := by
  have := u.block b hb hS
  simp only [World.cell?, this]
theorem Av.upd {w w' : World} {pb cap : Nat} {S T : List Nat} (h : Av w pb cap S) (hp : pb < w.heap.size) (u : Upd w w' T) (hT : pb ∉ T) : Av w' pb cap S := fun i hi v hv => h i hi v (by rw [← cell_same u hp hT]; exact hv)
theorem Ring.av {w : World} {r pb cap first cnt : Nat} {fs : Nat → Fr} (h : Ring w r pb cap first cnt fs) {S : List Nat} (hS : ∀ g ∈ S, w.heap.size ≤ g) : Av w pb cap S := fun i hi v hv g hg hm => by
  obtain ⟨cs, hb, hs, hf⟩ := h.row
  obtain ⟨F, h1, h2, good, v', rfl, own⟩ := hf i hi
  rw [hb.cell, h2 24 (by omega), cut_at good.size] at hv
  injection hv with hv
  subst hv
  have := own.blk g hg
  have := hS g hm
  omega
theorem Ring.updA {w w' : World} {r pb cap first cnt : Nat} {fs : Nat → Fr} {S : List Nat} (h : Ring w r pb cap first cnt fs) (ha : Av w pb cap S) (u : Upd w w' S) (hr : r ∉ S) (hp : pb ∉ S) : Ring w' r pb cap first cnt fs := by
  refine ⟨u.blk h.head hr, ?_, h.hf, h.hc, h.h64⟩
  obtain ⟨cs, hb, hs, hf⟩ := h.row
  refine ⟨cs, u.blk hb hp, hs, fun i hi => ?_⟩
  obtain ⟨F, h1, h2, good, v', rfl, own⟩ := hf i hi
  refine ⟨_, h1, h2, good, v', rfl, own.updB u (ha i hi v' ?_)⟩
  rw [hb.cell, h2 24 (by omega), cut_at good.size]
theorem Ring.pushedA {w : World} {r pb cap first cnt b : Nat} {fs : Nat → Fr} {F : Array Value} {x : Fr} (h : Ring w r pb cap first cnt fs) (hlt : cnt < cap) (p : Nat) (hp : p < cap) (hF : IsF w b F x) :
    ∀ S, (∀ g ∈ S, g < b) → Av w pb cap S → Av ((w.setCells pb (p * 29) F.toList).setCell ⟨r, 2, none⟩ (.int .i64 ((cnt : Int) + 1))) pb cap S := fun S hS ha i hi v hv g hg hm => by
  obtain ⟨cs, hb, hs, hf⟩ := h.row
  have hb2 := (hb.setCells F.toList (p * 29)).far (p := ⟨r, 2, none⟩) h.ne.symm (.int .i64 ((cnt : Int) + 1))
  have h29 : F.toList.length = 29 := by simpa using hF.size
  rw [hb2.cell, putAt_get, h29] at hv
  by_cases hip : i = p
  · subst hip
    rw [if_pos (by omega), show i * 29 + 24 - i * 29 = 24 by omega, Array.getElem?_toList] at hv
    obtain ⟨good, v', rfl, own⟩ := hF
    rw [cut_at good.size] at hv
    injection hv with hv
    subst hv
    have := own.blk g hg
    have := hS g hm
    omega
  · rw [if_neg (by omega)] at hv
    exact ha i hi v (by rw [hb.cell]; exact hv) g hg hm
set_option maxHeartbeats 4000000 in
theorem push_av (r pb cap first cnt : Nat) (fs : Nat → Fr) (x : Fr) (v : Value) (w : World) (h : Ring w r pb cap first cnt fs) (hlt : cnt < cap) (hg : Good x) (hv : Src w v x.2) (hv1 : v.oneCell' = true) :
    Calls Try.prog 9 #[.pointer (some ⟨r, 0, none⟩), .agg (cut x v)] w fun e w' => e = .returned (.bool true) ∧ Ring w' r pb cap first (cnt + 1) (put fs ((first + cnt) % cap) x) ∧ Upd w w' [r, pb] ∧ ∀ S, (∀ g ∈ S, g < w.heap.size) → Av w pb cap S → Av w' pb cap S := by
  have hs : (cut x v).size = 29 := by rw [cut_size, hg.size]
  have R0 := h.upd ((Upd.refl w []).alloc (.cells (cut x v) 40)) (by simp) (by simp) (Off.nil _)
  have e1 := h.hf
  have e2 := h.h64
  have e3 : ¬ cnt = cap := by omega
  have e4 : ((cnt : Int) == (cap : Int)) = false := by simp; omega
  have B0 := Blk.new w 40 (cut x v)
  have L0 := B0.frame0 hs
  replace B0 := hide B0
  have U0 := hide ((Upd.refl w []).alloc (.cells (cut x v) 40))
  have plt := h.row.lt
  clear h
  have h0 := R0.c0
  have h2 := R0.c2
  have HN := hide fun (n : Nat) => none_no r pb cap ((w.alloc (.cells (cut x v) 40)).drewN n) h0
  have hp : (first + cnt) % cap < cap := Nat.mod_lt _ (by omega)
  have HP := hide fun (n : Nat) => place_drew R0 cnt (by omega) n
  have HO := hide fun (n : Nat) => own_ok ((w.alloc (.cells (cut x v) 40)).drewN n) x v hg (hv.upd (U0.out.drewN n)) hv1
  clear hv hg
  replace R0 := hide R0
  generalize hpe : (first + cnt) % cap = p at *
  replace hpe := hide hpe
  go_enter Try.func9, Try.ntmps9
  go_wp2_with fail
  go_quiet ((first | (go_at_call 23; exact quiet_left (HN.out _))))
  go_wp2_with fail
  go_region_with ((first
    | (go_at_call 25; refine (HP.out _).mono ?_; rintro e w' ⟨rfl, m, rfl⟩)
    | (go_at_call 25; refine (HP1.out _).mono ?_; rintro e w' ⟨rfl, m, rfl⟩)
    | (go_at_call 25; refine (HP1.out 0).mono ?_; rintro e w' ⟨rfl, m, rfl⟩)
    | (go_at_call 24; refine (HO.out _).mono ?_; rintro e w1 ⟨F', rfl, hF', hu⟩; replace hu : Upd (w.alloc (.cells (cut x v) 40)) w1 [] := ⟨hu.os, hu.tape, hu.output, hu.size, hu.block⟩; have R1 := R0.out.upd hu (by simp) (by simp) (Off.nil _); have HP1 := hide fun (n : Nat) => hpe.out ▸ place_drew R1 cnt (by omega) n; have h01 := R1.c0; have h21 := R1.c2; obtain ⟨k1, k2, k3, k4⟩ := R1.pushed hlt p hp hF'; have kk := fun (n : Nat) => (R1.drewN n).pushed hlt p hp (hF'.drewN n); have kk2 := fun n => (kk n).2.1; have kk3 := fun n => (kk n).2.2.1; replace kk := hide fun n => (kk n).2.2.2; have kA := hide (R1.pushedA hlt p hp hF'); have kB := hide fun (n : Nat) => (R1.drewN n).pushedA hlt p hp (hF'.drewN n); replace hu := hide (U0.out.trans hu (by simp)); clear R1 hF')))
  all_goals (go_wp2_with fail; go_ret; first | exact ⟨rfl, k4.out.1, (hu.out.mono (S' := [r, pb]) (by simp)).trans k4.out.2 (fun i h _ => h), fun S hS ha => kA.out S (fun g hg => by have := hS g hg; simp; omega) (ha.upd plt hu.out (by simp))⟩ | exact ⟨rfl, (kk.out _).out.1, ((hu.out.drewN _).mono (S' := [r, pb]) (by simp)).trans (kk.out _).out.2 (fun i h _ => h), fun S hS ha => (kB.out _) S (fun g hg => by have := hS g hg; simp; omega) (ha.upd plt (hu.out.drewN _) (by simp))⟩)
end Go.Proofs.Ytkopocbcldjjbaa
