/- The walks of the layer rings, 8: a Pop that finds none; frames of a Seq. -/
import Derived.Test.YtkopocbcldjjbaaRingG
namespace Go.Proofs.Ytkopocbcldjjbaa
open Go.RowKit
set_option linter.unusedVariables false
attribute [-go_sem] loadVar storeVar
attribute [local go_sem] loadVar_else storeVar_else run_load40 run_store40 frameAt_drew frameAt_drewN roomAt_drew roomAt_drewN
theorem pop_no (r pb cap first : Nat) (fs : Nat → Fr) (w : World) (h : Ring w r pb cap first 0 fs) :
    Calls Try.prog 10 #[.pointer (some ⟨r, 0, none⟩)] w fun e w' => e = .returned (.tuple #[.agg zeroF, .bool false]) ∧ Upd w w' [] := by
  have R0 := h.upd ((Upd.refl w []).alloc (.cells zeroF 40)) (by simp) (by simp) (Off.nil _)
  have U0 := hide ((Upd.refl w []).alloc (.cells zeroF 40))
  have B0 := hide (Blk.new w 40 zeroF)
  have HA := hide (front_no r pb cap first fs _ R0)
  clear h R0
  go_enter Try.func10, Try.ntmps10
  go_wp2_with fail
  refine HA.out.mono ?_
  rintro e w1 ⟨rfl, hu⟩
  obtain ⟨l1, l2, l3, l4⟩ := (zero_isF w1 0).lay (hu.blk B0.out (by simp)) rfl
  obtain ⟨k1, k2, k3, k4⟩ := l4.lay l3 rfl
  replace hu := hide (Upd.setCells (b := w.heap.size) (by simp) zeroF.toList 0 (Upd.setCells (b := w.heap.size) (by simp) zeroF.toList 0 (U0.out.trans hu (by simp))))
  clear l2 l3 l4 k3 k4
  replace k2 := hide k2
  go_wp2_with (refine wpList_zero rfl rfl ?_)
  refine bodyPost_ret (results_frame2 rfl rfl k2.out) rfl ?_
  exact ⟨rfl, hu.out⟩
def seqFr (n : Int) : Fr := (seqF n, [])
theorem seq_good (n : Int) : Good (seqFr n) := by
  refine ⟨by simp [seqFr, seqF, zeroF], ?_, by simp [seqFr], by simp [seqFr]⟩
  intro u hu
  simp only [seqFr, seqF, zeroF, List.setIfInBounds_toArray, List.mem_toArray] at hu
  simp at hu
  repeat (first | (subst hu; rfl) | (rcases hu with h | hu; · subst h; rfl))
theorem seq_cut (n : Int) : cut (seqFr n) (.slice none 0 0) = seqF n := by rfl
theorem nil_src (w : World) : Src w (.slice none 0 0) [] := ⟨none, 0, 0, rfl, rfl, .inl ⟨rfl, rfl⟩⟩
theorem push_seq (r pb cap first cnt : Nat) (fs : Nat → Fr) (n : Int) (w : World) (h : Ring w r pb cap first cnt fs) (hlt : cnt < cap) :
    Calls Try.prog 9 #[.pointer (some ⟨r, 0, none⟩), .agg (seqF n)] w fun e w' => e = .returned (.bool true) ∧ Ring w' r pb cap first (cnt + 1) (put fs ((first + cnt) % cap) (seqFr n)) ∧ Upd w w' [r, pb] := by
  have := push_ok r pb cap first cnt fs (seqFr n) (.slice none 0 0) w h hlt (seq_good n) (nil_src w) rfl
  rwa [seq_cut] at this
theorem IsF.seq {w : World} {b : Nat} {F : Array Value} {n : Int} (h : IsF w b F (seqFr n)) : F[3]? = some (.int .i64 n) := by
  obtain ⟨hg, v, rfl, h⟩ := h
  rw [cut_else v 3 (by decide)]; rfl
/-- a frame of the run is laid into a new block -/
theorem IsF.lay_new {w : World} {b : Nat} {F : Array Value} {x : Fr} (h : IsF w b F x) :
    roomAt (w.alloc (.cells zeroF 40)) w.heap.size 0 F = true ∧ Blk ((w.alloc (.cells zeroF 40)).setCells w.heap.size 0 F.toList) w.heap.size 40 F ∧ Upd w ((w.alloc (.cells zeroF 40)).setCells w.heap.size 0 F.toList) [] := by
  obtain ⟨h1, h2, h3, h4⟩ := (h.upd ((Upd.refl w []).alloc (.cells zeroF 40)) (Off.nil _)).lay (Blk.new w 40 zeroF) rfl
  exact ⟨h1, h3, Upd.setCells (b := w.heap.size) (by simp) _ _ ((Upd.refl w []).alloc _)⟩
end Go.Proofs.Ytkopocbcldjjbaa
