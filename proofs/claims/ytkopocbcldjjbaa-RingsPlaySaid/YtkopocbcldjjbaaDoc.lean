/- The document's ring: words, New, At. -/
import Derived.Test.YtkopocbcldjjbaaRowAt
import Derived.BigQuiet
namespace Go.Proofs.Ytkopocbcldjjbaa
open Go.RowKit
set_option linter.unusedVariables false
set_option linter.unusedSimpArgs false
attribute [-go_sem] loadVar storeVar
attribute [local go_sem] loadVar_else storeVar_else run_load40 run_store40 frameAt_drew frameAt_drewN roomAt_drew roomAt_drewN
/-- at q lies the document's ring: v its list, of the frames xs -/
structure DRing (w : World) (q : Nat) (v : Value) (cap : Nat) (xs : List Fr) : Prop where
  head : Blk w q 54 #[.int .i64 cap, v]
  row : ∃ Fs, RowAt w 40 29 v Fs ∧ Fs.length = xs.length ∧ ∀ i (h : i < Fs.length) (h2 : i < xs.length), IsF w 0 Fs[i] xs[i]
section
variable {w w' : World} {q cap : Nat} {v : Value} {xs : List Fr}
theorem DRing.upd {S : List Nat} (h : DRing w q v cap xs) (u : Upd w w' S) (hq : q ∉ S) (h1 : OffT w 40 S) (h2 : Off w S) : DRing w' q v cap xs := by
  obtain ⟨hh, Fs, r, hl, hf⟩ := h
  exact ⟨u.blk hh hq, Fs, r.upd u h1, hl, fun i h h2' => (hf i h h2').upd u h2⟩
theorem DRing.upd0 (h : DRing w q v cap xs) (u : Upd w w' []) : DRing w' q v cap xs := h.upd u (by simp) (OffT.nil _ _) (Off.nil _)
theorem DRing.a0 (h : DRing w q v cap xs) : w.cell? ⟨q, 0, none⟩ = some (.int .i64 cap) := by rw [h.head.cell]; rfl
theorem DRing.a1 (h : DRing w q v cap xs) : w.cell? ⟨q, 1, none⟩ = some v := by rw [h.head.cell]; rfl
theorem RowAt.frame {g off k c : Nat} {Fs : List (Array Value)} (h : RowAt w 40 29 (.slice (some ⟨g, off, none⟩) k c) Fs) (i : Nat) (hi : i < Fs.length) : frameAt w g (off + i * 29) = some Fs[i] := by
  obtain ⟨ga, cap', hv, _, _, _, hl⟩ := h.lies
  obtain ⟨g', off', cur, hg, hb, hcs⟩ := hl (by omega)
  injection hv with h1 _ _
  rw [hg] at h1
  injection h1 with h1
  injection h1 with h1 h2 _
  subst h1
  subst h2
  exact hb.frame _ (h.sizes _ (List.getElem_mem hi)) (fun j hj => hcs i hi j hj)
theorem DRing.form (h : DRing w q v cap xs) : ∃ ga c, v = .slice ga xs.length c ∧ xs.length ≤ c ∧ c ≤ maxLen ∧ (ga = none → c = 0) ∧ (0 < xs.length → ∃ g off, ga = some ⟨g, off, none⟩ ∧ ∀ i (h : i < xs.length), ∃ F, frameAt w g (off + i * 29) = some F ∧ IsF w 0 F xs[i]) := by
  obtain ⟨hh, Fs, r, hl, hf⟩ := h
  obtain ⟨ga, c, rfl, h1, h2, h3, h4⟩ := r.form
  rw [hl] at h1 h4 ⊢
  refine ⟨ga, c, rfl, h1, h2, h3, fun hp => ?_⟩
  obtain ⟨g, off, rfl, _⟩ := h4 hp
  exact ⟨g, off, rfl, fun i hi => ⟨_, r.frame i (by omega), hf i (by omega) hi⟩⟩
end
theorem dnew_ok (n : Nat) (w : World) (h1 : 1 ≤ n) (h2 : n ≤ 64) :
    Calls Try.prog 13 #[.int .i64 (n : Int)] w fun e w' => e = .returned (.tuple #[.pointer (some ⟨w.heap.size, 0, none⟩), .int .i64 0]) ∧ DRing w' w.heap.size (.slice none 0 0) n [] ∧ Upd w w' [] := by
  have B := hide (Blk.new w 54 #[.int .i64 (n : Int), .slice none 0 0])
  have U := hide ((Upd.refl w []).alloc (.cells #[.int .i64 (n : Int), .slice none 0 0] 54))
  have d1 : decide ((n : Int) < 1) = false := decide_eq_false (by omega)
  have d2 : decide (64 < (n : Int)) = false := decide_eq_false (by omega)
  go_enter Try.func13, Try.ntmps13
  go_wp2_with fail
  go_ret2
  exact ⟨rfl, ⟨B.out, [], RowAt.nil _ _ _, rfl, fun i h => absurd h (by simp)⟩, U.out⟩
theorem dnew_bad (n : Int) (w : World) (h : n < 1 ∨ 64 < n) :
    Calls Try.prog 13 #[.int .i64 n] w fun e w' => e = .returned (.tuple #[.pointer none, .int .i64 2]) ∧ w' = w := by
  by_cases h1 : n < 1
  · clear h
    go_enter Try.func13, Try.ntmps13
    go_wp2_with fail
    go_ret2
    exact ⟨rfl, rfl⟩
  · have h2 : 64 < n := by omega
    clear h
    go_enter Try.func13, Try.ntmps13
    go_wp2_with fail
    go_ret2
    exact ⟨rfl, rfl⟩
set_option maxHeartbeats 2000000 in
theorem dat_ok (q cap i : Nat) (v : Value) (xs : List Fr) (w : World) (h : DRing w q v cap xs) (hi : i < xs.length) :
    Calls Try.prog 16 #[.pointer (some ⟨q, 0, none⟩), .int .i64 i] w fun e w' => ∃ F, e = .returned (.tuple #[.agg F, .bool true]) ∧ IsF w' 0 F xs[i] ∧ Upd w w' [] := by
  have k1 := (Upd.refl w []).alloc (.cells zeroF 40)
  have D1 := h.upd0 k1
  obtain ⟨ga, c, rfl, hc, hm, hn, hp⟩ := D1.form
  obtain ⟨g, off, rfl, hfr⟩ := hp (by omega)
  obtain ⟨F, hF, hI⟩ := hfr i hi
  have a1 := D1.a1
  have fz := hI.size
  obtain ⟨m1, m2, m3, m4⟩ := hI.lay (Blk.new w 40 zeroF) rfl
  have U2 := hide (Upd.setCells (b := w.heap.size) (by simp) F.toList 0 k1)
  have d1 : decide ((i : Int) < 0) = false := decide_eq_false (by omega)
  have d2 : decide ((xs.length : Int) ≤ (i : Int)) = false := decide_eq_false (by omega)
  have hi0 : (0 : Int) ≤ (i : Int) := by omega
  have hi1 : (i : Int) < (xs.length : Int) := by omega
  replace m4 := hide m4
  replace m2 := hide m2
  generalize xs[i] = x at *
  clear hfr hp hn hI h D1 k1 m3
  unfold zeroF at *
  go_enter Try.func16, Try.ntmps16
  go_wp2_with fail
  refine bodyPost_ret (results_frame2 rfl rfl m2.out) rfl ?_
  exact ⟨_, rfl, m4.out, U2.out⟩
end Go.Proofs.Ytkopocbcldjjbaa
