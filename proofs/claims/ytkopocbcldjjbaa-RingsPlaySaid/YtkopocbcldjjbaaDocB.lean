/- The document's ring: At where there is none, Pop. -/
import Derived.Test.YtkopocbcldjjbaaDoc
import Derived.Deep.CutRange
namespace Go.Proofs.Ytkopocbcldjjbaa
open Go.RowKit
set_option linter.unusedVariables false
set_option linter.unusedSimpArgs false
attribute [-go_sem] loadVar storeVar
attribute [local go_sem] loadVar_else storeVar_else run_load40 run_store40 frameAt_drew frameAt_drewN roomAt_drew roomAt_drewN
set_option maxRecDepth 100000 in
set_option maxHeartbeats 400000 in
theorem dat_no (q cap : Nat) (i : Int) (v : Value) (xs : List Fr) (w : World) (h : DRing w q v cap xs) (hi : i < 0 ∨ (xs.length : Int) ≤ i) :
    Calls Try.prog 16 #[.pointer (some ⟨q, 0, none⟩), .int .i64 i] w fun e w' => e = .returned (.tuple #[.agg zeroF, .bool false]) ∧ Upd w w' [] := by
  have D1 := h.upd0 ((Upd.refl w []).alloc (.cells zeroF 40))
  obtain ⟨l1, l2, l3, l4⟩ := (zero_isF (w.alloc (.cells zeroF 40)) 0).lay (Blk.new w 40 zeroF) rfl
  have U0 := hide (Upd.setCells (b := w.heap.size) (by simp) zeroF.toList 0 ((Upd.refl w []).alloc (.cells zeroF 40)))
  obtain ⟨ga, c, rfl, _⟩ := D1.form
  have a1 := D1.a1
  have r1 : roomAt (w.alloc (.cells #[.int .i64 0, .int .i64 0, .int .i64 0, .int .i64 0, .int .i64 0, .int .i64 0, .int .i64 0, .int .i64 0, .string ⟨#[]⟩, .string ⟨#[]⟩, .int .i64 0, .int .i64 0, .string ⟨#[]⟩, .int .i64 0, .int .i64 0, .int .i64 0, .int .i64 0, .int .i64 0, .int .i64 0, .int .i64 0, .string ⟨#[]⟩, .string ⟨#[]⟩, .int .i64 0, .int .i64 0, .slice none 0 0, .int .i64 0, .int .i64 0, .int .i64 0, .int .i64 0] 40)) w.heap.size 0 zeroF = true := l1
  unfold zeroF at a1
  clear h D1 l3 l4 l1
  have HL := hide l2
  clear l2
  by_cases hn : i < 0
  · clear hi
    go_enter Try.func16, Try.ntmps16
    go_wp2_with (refine wpList_zero rfl rfl ?_)
    refine bodyPost_ret (results_frame2 rfl rfl HL.out) rfl ?_
    exact ⟨rfl, U0.out⟩
  · have hc : (xs.length : Int) ≤ i := by omega
    clear hi
    go_enter Try.func16, Try.ntmps16
    go_wp2_with (refine wpList_zero rfl rfl ?_)
    refine bodyPost_ret (results_frame2 rfl rfl HL.out) rfl ?_
    exact ⟨rfl, U0.out⟩
theorem size52 (W : World) : (sizeOf (Try.prog.elem 52)).run Try.prog W = .ok 29 W := by
  obtain ⟨i, h1, _, h2, _⟩ := info_parts info40z
  have e : Try.prog.elem 52 = 40 := by kernel_rfl
  rw [e]
  simp [sizeOf, typeInfo, h1, h2]
theorem dat_none (q cap : Nat) (i : Int) (v : Value) (xs : List Fr) (w : World) (h : DRing w q v cap xs) (hi : i < 0 ∨ (xs.length : Int) ≤ i) :
    Calls Try.prog 16 #[.pointer (some ⟨q, 0, none⟩), .int .i64 i] w fun e w' => ∃ F, e = .returned (.tuple #[.agg F, .bool false]) ∧ IsF w' 0 F zeroFr ∧ Upd w w' [] :=
  (dat_no q cap i v xs w h hi).mono fun e w' ⟨he, u⟩ => ⟨zeroF, he, zero_isF _ _, u⟩
set_option maxRecDepth 100000 in
set_option maxHeartbeats 1000000 in
theorem dpop_no (q cap : Nat) (v : Value) (w : World) (h : DRing w q v cap []) :
    Calls Try.prog 14 #[.pointer (some ⟨q, 0, none⟩)] w fun e w' => ∃ F, e = .returned (.tuple #[.agg F, .bool false]) ∧ IsF w' 0 F zeroFr ∧ Upd w w' [] := by
  have B2 := Blk.new w 40 zeroF
  have U1 := (Upd.refl w []).alloc (.cells zeroF 40)
  have T := hide (dat_none q cap 0 v [] _ (h.upd0 U1) (.inr (by simp)))
  unfold zeroF at B2 U1 T
  replace B2 := hide B2
  replace U1 := hide U1
  clear h
  go_enter Try.func14, Try.ntmps14
  go_wp2_with fail
  refine T.out.mono ?_
  rintro e w2 ⟨F, rfl, hI, kk⟩
  generalize w.alloc (.cells #[.int .i64 0, .int .i64 0, .int .i64 0, .int .i64 0, .int .i64 0, .int .i64 0, .int .i64 0, .int .i64 0, .string ⟨#[]⟩, .string ⟨#[]⟩, .int .i64 0, .int .i64 0, .string ⟨#[]⟩, .int .i64 0, .int .i64 0, .int .i64 0, .int .i64 0, .int .i64 0, .int .i64 0, .int .i64 0, .string ⟨#[]⟩, .string ⟨#[]⟩, .int .i64 0, .int .i64 0, .slice none 0 0, .int .i64 0, .int .i64 0, .int .i64 0, .int .i64 0] 40) = w1 at *
  have B2' := kk.blk B2.out (by simp)
  have U2 := U1.out.trans kk (by simp)
  obtain ⟨n1, n2, n3⟩ := hI.lay_new
  unfold zeroF at n1 n2 n3
  have U3 := U2.trans n3 (by simp)
  have B3 := n3.blk B2' (by simp)
  have hI3 := hI.upd n3 (Off.nil _)
  have f4 := n2.frame0 hI.size
  obtain ⟨m1, m2, m3, m4⟩ := hI3.lay B3 rfl
  have U4 := hide (Upd.setCells (b := w.heap.size) (by simp) F.toList 0 U3)
  replace m2 := hide m2
  replace m4 := hide m4
  clear T kk B2 U1 B2' U2 n2 n3 U3 B3 m3 hI hI3
  go_wp2_with fail
  refine bodyPost_ret (results_frame2 rfl rfl m2.out) rfl ?_
  exact ⟨_, rfl, m4.out, U4.out⟩
theorem RowAt.updB {w w' : World} {t : TypeId} {n : Nat} {v : Value} {Fs : List (Array Value)} {S : List Nat} (h : RowAt w t n v Fs) (u : Upd w w' S) (hS : 0 < Fs.length → ∀ g ∈ blkOf v, g ∉ S) : RowAt w' t n v Fs := by
  obtain ⟨h1, h2, ga, cap, hv, hc, hm, hn, hl⟩ := h
  refine ⟨h1, h2, ga, cap, hv, hc, hm, hn, fun hp => ?_⟩
  obtain ⟨g, off, cur, hg, hb, hcs⟩ := hl hp
  exact ⟨g, off, cur, hg, u.blk hb (hS hp g (by rw [hv, hg]; simp [blkOf, Value.ownBlock])), hcs⟩
theorem DRing.updB {w w' : World} {q cap : Nat} {v : Value} {xs : List Fr} {S : List Nat} (h : DRing w q v cap xs) (u : Upd w w' S) (hq : q ∉ S) (h1 : 0 < xs.length → ∀ g ∈ blkOf v, g ∉ S) (h2 : Off w S) : DRing w' q v cap xs := by
  obtain ⟨hh, Fs, r, hl, hf⟩ := h
  exact ⟨u.blk hh hq, Fs, r.updB u (fun h => h1 (by omega)), hl, fun i h h2' => (hf i h h2').upd u h2⟩
theorem DRing.lt {w : World} {q cap : Nat} {v : Value} {xs : List Fr} (h : DRing w q v cap xs) (hp : 0 < xs.length) : ∀ g ∈ blkOf v, g < w.heap.size := by
  obtain ⟨hh, Fs, r, hl, hf⟩ := h
  obtain ⟨ga, c, rfl, _, _, _, h4⟩ := r.form
  obtain ⟨g, off, rfl, hg⟩ := h4 (by omega)
  intro b hb
  simp [blkOf, Value.ownBlock] at hb
  omega
theorem DRing.pop {w : World} {q cap n c : Nat} {ga : Option Addr} {x : Fr} {xs : List Fr} (h : DRing w q (.slice ga n c) cap (x :: xs)) :
    DRing (w.setCell ⟨q, 1, none⟩ (.slice (if c = 1 then ga else ga.map (·.add (1 * 29))) (n - 1) (c - 1))) q (.slice (if c = 1 then ga else ga.map (·.add (1 * 29))) (n - 1) (c - 1)) cap xs := by
  obtain ⟨hh, Fs, r, hl, hf⟩ := h
  have hn : n = Fs.length := by
    obtain ⟨ga', c', hv, _⟩ := r.lies
    injection hv
  subst hn
  simp only [List.length_cons] at hl
  have r2 := r.drop_ (k := 1) (by omega)
  have u : Upd w (w.setCell ⟨q, 1, none⟩ (.slice (if c = 1 then ga else ga.map (·.add (1 * 29))) (Fs.length - 1) (c - 1))) [q] := (Upd.refl _ _).setCell (p := ⟨q, 1, none⟩) (by simp) _
  refine ⟨hh.set_ 1 _, Fs.drop 1, r2.upd u (OffT.one hh (by decide)), by rw [List.length_drop]; omega, fun i h1 h2 => ?_⟩
  have h1' : i < Fs.length - 1 := by rw [List.length_drop] at h1; exact h1
  have := (hf (i + 1) (by omega) (by simp; omega)).upd u (Off.one hh (by decide))
  simpa [Nat.add_comm] using this
set_option maxRecDepth 100000 in
set_option maxHeartbeats 2000000 in
theorem dpop_ok (q cap : Nat) (v : Value) (x : Fr) (xs : List Fr) (w : World) (h : DRing w q v cap (x :: xs)) :
    Calls Try.prog 14 #[.pointer (some ⟨q, 0, none⟩)] w fun e w' => ∃ F v', e = .returned (.tuple #[.agg F, .bool true]) ∧ IsF w' 0 F x ∧ DRing w' q v' cap xs ∧ Upd w w' [q] ∧ ∀ g ∈ blkOf v', g ∈ blkOf v := by
  have B2 := Blk.new w 40 zeroF
  have U1 := (Upd.refl w []).alloc (.cells zeroF 40)
  have T := hide (dat_ok q cap 0 v (x :: xs) _ (h.upd0 U1) (by simp))
  have lq := h.head.lt
  have lg := hide (h.lt (by simp))
  have D1 := hide (h.upd0 U1)
  unfold zeroF at B2 U1 T D1
  replace B2 := hide B2
  replace U1 := hide U1
  clear h
  go_enter Try.func14, Try.ntmps14
  go_wp2_with fail
  refine T.out.mono ?_
  rintro e w2 ⟨F, rfl, hI, kk⟩
  generalize w.alloc (.cells #[.int .i64 0, .int .i64 0, .int .i64 0, .int .i64 0, .int .i64 0, .int .i64 0, .int .i64 0, .int .i64 0, .string ⟨#[]⟩, .string ⟨#[]⟩, .int .i64 0, .int .i64 0, .string ⟨#[]⟩, .int .i64 0, .int .i64 0, .int .i64 0, .int .i64 0, .int .i64 0, .int .i64 0, .int .i64 0, .string ⟨#[]⟩, .string ⟨#[]⟩, .int .i64 0, .int .i64 0, .slice none 0 0, .int .i64 0, .int .i64 0, .int .i64 0, .int .i64 0] 40) = w1 at *
  have hI : IsF w2 0 F x := hI
  have B2' := kk.blk B2.out (by simp)
  have U2 := U1.out.trans kk (by simp)
  obtain ⟨n1, n2, n3⟩ := hI.lay_new
  unfold zeroF at n1 n2 n3
  have U3 := hide (U2.trans n3 (by simp))
  have B3 := hide (n3.blk B2' (by simp))
  have hI3 := hide (hI.upd n3 (Off.nil _))
  have D3 := (D1.out.upd0 kk).upd0 n3
  have fz := hI.size
  have U2s := hide (show w.heap.size + 1 ≤ w2.heap.size from by have := kk.size; have := B2.out.lt; omega)
  replace n2 := hide n2
  clear T kk B2 U1 B2' U2 D1 hI n3
  have l2 : w.heap.size < w2.heap.size := by have h1 := B3.out.lt; have := n2.out.lt; have := U2s.out; omega
  go_upto_region 2 with fail
  generalize (w2.alloc (.cells #[.int .i64 0, .int .i64 0, .int .i64 0, .int .i64 0, .int .i64 0, .int .i64 0, .int .i64 0, .int .i64 0, .string ⟨#[]⟩, .string ⟨#[]⟩, .int .i64 0, .int .i64 0, .string ⟨#[]⟩, .int .i64 0, .int .i64 0, .int .i64 0, .int .i64 0, .int .i64 0, .int .i64 0, .int .i64 0, .string ⟨#[]⟩, .string ⟨#[]⟩, .int .i64 0, .int .i64 0, .slice none 0 0, .int .i64 0, .int .i64 0, .int .i64 0, .int .i64 0] 40)).setCells w2.heap.size 0 F.toList = w3 at *
  have ne4 : w2.heap.size ≠ q := by omega
  have ne2 : w.heap.size ≠ q := by omega
  have ne24 : w.heap.size ≠ w2.heap.size := by omega
  have p2w : w.heap.size ≤ w.heap.size := Nat.le_refl _
  generalize w2.heap.size = p4 at *
  generalize hp2 : w.heap.size = p2 at *
  replace hp2 := hide hp2
  obtain ⟨ga, c, rfl, hc, hm, hn, hp⟩ := D3.form
  obtain ⟨g, off, rfl, _⟩ := hp (by simp)
  have a1 : w3.cell? ⟨q, 1, none⟩ = some (.slice (some ⟨g, off, none⟩) (xs.length + 1) c) := D3.a1
  have f1 := D3.head.frozen 1
  have hs : ∀ W' : World, (Instr.slice 52 (.slice (some ⟨g, off, none⟩) (xs.length + 1) c) (some (.int .i64 1)) none none).run Try.prog W' = .ok (.slice (if c = 1 then some ⟨g, off, none⟩ else (some (⟨g, off, none⟩ : Addr)).map (·.add (1 * 29))) xs.length (c - 1)) W' := fun W' => by
    rw [run_slice_l W' 52 _ _ _ Try.underlying52 .i64 (1 : Int) (by omega) (by simp; omega), size52]
    rfl
  have D4 := hide (show DRing (w3.setCell ⟨q, 1, none⟩ (.slice (if c = 1 then some (⟨g, off, none⟩ : Addr) else (some (⟨g, off, none⟩ : Addr)).map (·.add (1 * 29))) xs.length (c - 1))) q (.slice (if c = 1 then some (⟨g, off, none⟩ : Addr) else (some (⟨g, off, none⟩ : Addr)).map (·.add (1 * 29))) xs.length (c - 1)) cap xs from DRing.pop D3)
  have gne : g ≠ p2 := by have := lg.out g (by simp [blkOf, Value.ownBlock]); have := hp2.out; omega
  have hsub : Hid (∀ b ∈ blkOf (.slice (if c = 1 then some (⟨g, off, none⟩ : Addr) else (some (⟨g, off, none⟩ : Addr)).map (·.add (1 * 29))) xs.length (c - 1)), b ∈ blkOf (.slice (some ⟨g, off, none⟩) (x :: xs).length c)) := hide (by
    intro b hb
    by_cases h1 : c = 1
    · simp [h1, blkOf, Value.ownBlock] at hb ⊢; omega
    · simp [h1, blkOf, Value.ownBlock, Addr.add_mid] at hb ⊢; omega)
  have hblk : ∀ b ∈ blkOf (.slice (if c = 1 then some (⟨g, off, none⟩ : Addr) else (some (⟨g, off, none⟩ : Addr)).map (·.add (1 * 29))) xs.length (c - 1)), b ∉ [p2] := by
    intro b hb
    by_cases h1 : c = 1
    · simp [h1, blkOf, Value.ownBlock] at hb; simp; omega
    · simp [h1, blkOf, Value.ownBlock, Addr.add_mid] at hb; simp; omega
  generalize (if c = 1 then some (⟨g, off, none⟩ : Addr) else (some (⟨g, off, none⟩ : Addr)).map (·.add (1 * 29))) = AO at *
  have u4 : Upd w3 (w3.setCell ⟨q, 1, none⟩ (.slice AO xs.length (c - 1))) [q] := (Upd.refl _ _).setCell (p := ⟨q, 1, none⟩) (by simp) _
  have N4 := u4.blk n2.out (by simpa using ne4)
  have B4 := u4.blk B3.out (by simpa using ne2)
  have hI4 := hI3.out.upd u4 (Off.one D3.head (by decide))
  have U4 := hide ((U3.out.mono (S' := [q]) (by simp)).trans u4 (fun i hi _ => hi))
  have f4 := N4.frame0 fz
  obtain ⟨m1, m2, m3, m4⟩ := hI4.lay B4 rfl
  have u5 : Upd (w3.setCell ⟨q, 1, none⟩ (.slice AO xs.length (c - 1))) ((w3.setCell ⟨q, 1, none⟩ (.slice AO xs.length (c - 1))).setCells p2 0 F.toList) [p2] := Upd.setCells (b := p2) (by simp) F.toList 0 (Upd.refl _ _)
  have D5 := hide (D4.out.updB u5 (by simpa using ne2.symm) (fun _ => hblk) (Off.one B4 (by decide)))
  have U5 := hide (U4.out.trans u5 (fun i hi hl => by simp at hi; have := hp2.out; omega))
  replace m2 := hide m2
  replace m4 := hide m4
  clear D3 D4 u4 N4 B4 hI4 U4 m3 u5 hI3 B3 U3 n2 hp
  go_wp2_with fail
  refine bodyPost_ret (results_frame2 rfl rfl m2.out) rfl ?_
  exact ⟨_, _, rfl, m4.out, D5.out, U5.out, hsub.out⟩
end Go.Proofs.Ytkopocbcldjjbaa
