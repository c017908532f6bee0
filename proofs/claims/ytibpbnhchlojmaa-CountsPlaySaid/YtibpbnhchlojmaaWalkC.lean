/- The walks of the document's counters. -/
import Derived.Test.YtibpbnhchlojmaaWalkB
namespace Go.Proofs.Ytibpbnhchlojmaa
open Go.RowKit
set_option linter.unusedVariables false

theorem rnew_bad (n : Int) (w : World) (h : n < 1 ∨ 64 < n) :
    Calls Try.prog 10 #[.int .i64 n] w fun e w' => e = .returned (.tuple #[.slice none 0 0, .int .i64 2]) ∧ w = w' := by
  by_cases h1 : n < 1
  · clear h
    go_enter Try.func10, Try.ntmps10
    go_wp2
    go_ret2
    exact ⟨rfl, rfl⟩
  · have h2 : 64 < n := by omega
    clear h
    go_enter Try.func10, Try.ntmps10
    go_wp2
    go_ret2
    exact ⟨rfl, rfl⟩
theorem rnew_ok (n : Nat) (w : World) (h1 : 1 ≤ n) (h2 : n ≤ 64) :
    Calls Try.prog 10 #[.int .i64 (n : Int)] w fun e w' => ∃ k, e = .returned (.tuple #[.slice (some ⟨k, 0, none⟩) n n, .int .i64 0]) ∧ w.heap.size ≤ k ∧ Sl w' (.slice (some ⟨k, 0, none⟩) n n) 2 1 n ((List.replicate n 0).map (Value.int .i64)) ∧ Upd w w' [] := by
  have hmk := run_make_row1 (P := Try.prog) 34 2 (v := .int .i64 0) rfl Try.underlying34 info2 n (by omega) (by omega)
  go_enter Try.func10, Try.ntmps10
  go_wp2
  go_ret2
  refine ⟨w.heap.size, rfl, by omega, ?_, (Upd.refl w []).alloc _⟩
  have := (Blk.new w 2 (Array.replicate n (.int .i64 0))).sl (size := 1) (n := n) (by simp) (by unfold maxLen; omega)
  simpa using this
theorem radd_neg (g cap n : Nat) (i y : Int) (w : World) (hy : y < 0) :
    Calls Try.prog 12 #[.slice (some ⟨g, 0, none⟩) n cap, .int .i64 i, .int .i64 y] w fun e w' => e = .returned (.tuple #[.slice (some ⟨g, 0, none⟩) n cap, .int .i64 0, .int .i64 2]) ∧ w = w' := by
  go_enter Try.func12, Try.ntmps12
  go_wp2
  go_ret3
  exact ⟨rfl, rfl⟩
theorem radd_low (g cap n : Nat) (i y : Int) (w : World) (hy : 0 ≤ y) (hi : i < 0) :
    Calls Try.prog 12 #[.slice (some ⟨g, 0, none⟩) n cap, .int .i64 i, .int .i64 y] w fun e w' => e = .returned (.tuple #[.slice (some ⟨g, 0, none⟩) n cap, .int .i64 0, .int .i64 4]) ∧ w = w' := by
  go_enter Try.func12, Try.ntmps12
  go_wp2
  go_ret3
  exact ⟨rfl, rfl⟩
theorem radd_high (g cap n : Nat) (i y : Int) (w : World) (hy : 0 ≤ y) (h0 : 0 ≤ i) (hi : (n : Int) ≤ i) :
    Calls Try.prog 12 #[.slice (some ⟨g, 0, none⟩) n cap, .int .i64 i, .int .i64 y] w fun e w' => e = .returned (.tuple #[.slice (some ⟨g, 0, none⟩) n cap, .int .i64 0, .int .i64 4]) ∧ w = w' := by
  go_enter Try.func12, Try.ntmps12
  go_wp2
  go_ret3
  exact ⟨rfl, rfl⟩
theorem radd_ok (g cap i : Nat) (l : List Int) (y v : Int) (w : World) (c : Sl w (.slice (some ⟨g, 0, none⟩) l.length cap) 2 1 l.length (l.map (Value.int .i64))) (hi : i < l.length) (hlen : l.length ≤ 64) (hy : 0 ≤ y) (hy2 : y ≤ 9223372036854775807)
    (hl0 : 0 ≤ l[i]?.getD 0) (hl1 : l[i]?.getD 0 ≤ 4611686018427387904) (hv : v = l[i]?.getD 0 + min y (4611686018427387904 - l[i]?.getD 0)) :
    Calls Try.prog 12 #[.slice (some ⟨g, 0, none⟩) l.length cap, .int .i64 (i : Int), .int .i64 y] w fun e w' => ∃ g' cap', e = .returned (.tuple #[.slice (some ⟨g', 0, none⟩) l.length cap', .int .i64 v, .int .i64 0]) ∧
      w.heap.size ≤ g' ∧ Sl w' (.slice (some ⟨g', 0, none⟩) l.length cap') 2 1 l.length ((l.set i v).map (Value.int .i64)) ∧ Upd w w' [] := by
  obtain ⟨i0, hi0, hz0, hz1, hz2⟩ := info_parts info2
  have hsrc : ∀ j u, (l.map (Value.int .i64))[j]? = some u → w.cell? ((⟨g, 0, none⟩ : Addr).add j) = some u := by
    intro j u hu
    have := c.cells j u hu
    unfold Addr.add
    split
    · rename_i h; subst h; exact this
    · simpa using this
  have hx0 : (l.map (Value.int .i64))[i]? = some (.int .i64 (l[i]?.getD 0)) := by simp [hi]
  have hone : ∀ u ∈ l.map (Value.int .i64), u.oneCell' = true := by intro u hu; obtain ⟨a, _, rfl⟩ := List.mem_map.1 hu; rfl
  have HS := hide hsrc
  have HX := hide hx0
  have HO := hide hone
  clear hsrc hx0 hone c
  generalize l[i]?.getD 0 = x at *
  go_enter Try.func12, Try.ntmps12
  go_wp2_with (at_builtin; refine wpList_append_own _ rfl (.const (.slice none 0 0)) (.tmp 23) 34 rfl w.heap.size 2 i0 (.int .i64 0) 1 8 Try.underlying34 hi0 hz0 hz1 hz2 rfl (by decide) (.slice none 0 0) 0 [] rfl ⟨by simp, .inl ⟨rfl, rfl⟩⟩ ⟨g, 0, none⟩ l.length cap (l.map (Value.int .i64)) rfl (by simp) HS.out HO.out (by unfold maxLen; omega) (by omega) (Nat.le_refl _) ?_; intro v1 w1 hown hgr hnil)
  rw [Nat.zero_add, List.nil_append] at hown
  obtain ⟨g1, cap1, rfl, hg1, hs1⟩ := Sl.of_own hown (by omega)
  have hc1 := hs1.cells i (.int .i64 x) HX.out
  have hf1 := hs1.frozen i
  have H1 := hide (hs1.set_ i (.int .i64 v))
  have H2 := hide (Upd.of_grown (S := []) hgr (by simp [Value.ownBlock]))
  clear hown hgr hnil hs1 HS HX HO
  have HV := hide hv
  clear hv
  by_cases hm : 4611686018427387904 - x < y
  · obtain rfl : v = 4611686018427387904 := by have := HV.out; omega
    clear HV
    go_wp2
    go_simp
    go_wp2
    go_quiet (fail)
    go_wp2
    go_ret3
    exact ⟨_, _, rfl, hg1, (by have := H1.out; rw [List.map_set]; exact this), (H2.out.setCell (fun h => by simp only [] at h; omega) _).drewN _⟩
  · obtain rfl : v = x + y := by have := HV.out; omega
    clear HV
    go_wp2
    go_quiet (fail)
    go_wp2
    go_ret3
    exact ⟨_, _, rfl, hg1, (by have := H1.out; rw [List.map_set]; exact this), (H2.out.setCell (fun h => by simp only [] at h; omega) _).drewN _⟩
end Go.Proofs.Ytibpbnhchlojmaa
