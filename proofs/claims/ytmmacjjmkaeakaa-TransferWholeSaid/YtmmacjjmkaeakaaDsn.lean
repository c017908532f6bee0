/- The walks of the layer transfer: the document's sender: Total, Open. -/
import Derived.Test.YtmmacjjmkaeakaaOpenL
import Derived.BigQuiet
namespace Go.Proofs.Ytmmacjjmkaeakaa
open Go.RowKit
set_option linter.unusedVariables false
set_option linter.unusedSimpArgs false
/-- the document's sender, at q -/
abbrev dsnC (id size win hv sent : Int) (t : ByteArray) : Array Value := #[.int .i64 id, .int .i64 size, .int .i64 win, .int .i64 hv, .int .i64 sent, .string t]
theorem cut_ex (n size : Nat) (h : 0 < size) : ∃ k, Cut n size k := by
  by_cases h0 : n = 0
  · subst h0; exact ⟨1, by omega, by omega, .inl rfl⟩
  · have e := Nat.div_add_mod n size
    have l := Nat.mod_lt n h
    rw [Nat.mul_comm] at e
    generalize n / size = d at *
    generalize n % size = r at *
    by_cases hm : r = 0
    · have hd : 1 ≤ d := by
        rcases Nat.eq_zero_or_pos d with hz | hz
        · rw [hz, Nat.zero_mul] at e; omega
        · exact hz
      refine ⟨d, hd, by omega, .inr ?_⟩
      have : (d - 1) * size + size = d * size := by rw [← Nat.succ_mul]; congr 1; omega
      omega
    · refine ⟨d + 1, by omega, ?_, .inr ?_⟩
      · rw [Nat.succ_mul]; omega
      · simp; omega
/-- how many pieces there are, as the document counts them -/
theorem cut_count {n size k : Nat} (h : 0 < size) (hc : Cut n size k) : (n / size * size < n ∧ k = n / size + 1) ∨ (¬ n / size * size < n ∧ n / size = 0 ∧ k = 1) ∨ (¬ n / size * size < n ∧ n / size ≠ 0 ∧ k = n / size) := by
  obtain ⟨h1, h2, h3⟩ := hc
  have e := Nat.div_add_mod n size
  have l := Nat.mod_lt n h
  rw [Nat.mul_comm] at e
  have mono : ∀ a b : Nat, a * size < b * size → a < b := fun a b hab => Nat.lt_of_mul_lt_mul_right hab
  generalize n / size = d at *
  generalize n % size = r at *
  by_cases hm : d * size < n
  · refine .inl ⟨hm, ?_⟩
    have k1 : d < k := mono _ _ (by omega)
    rcases h3 with h3 | h3
    · subst h3
      omega
    · have : (d + 1) * size = d * size + size := by rw [Nat.succ_mul]
      have k2 : k - 1 < d + 1 := mono _ _ (by omega)
      omega
  · have hn : d * size = n := by omega
    by_cases hd : d = 0
    · refine .inr (.inl ⟨hm, hd, ?_⟩)
      rw [hd, Nat.zero_mul] at hn
      rcases h3 with h3 | h3
      · exact h3
      · omega
    · refine .inr (.inr ⟨hm, hd, ?_⟩)
      have k1 : ¬ k < d := fun hlt => by
        have := Nat.mul_lt_mul_of_pos_right hlt h
        omega
      rcases h3 with h3 | h3
      · omega
      · have k2 : k - 1 < d := mono _ _ (by omega)
        omega
set_option maxHeartbeats 4000000 in
theorem rtotal_ok {q : Nat} {id win hv sent : Int} {size k : Nat} {t : ByteArray} (w : World) (H : Blk w q 57 (dsnC id size win hv sent t)) (h0 : 0 < size) (hc : Cut t.size size k) (hs : size ≤ 1000000) (ht : t.size ≤ 1000000000) :
    Calls Try.prog 23 #[.pointer (some ⟨q, 0, none⟩)] w fun e w' => e = .returned (.int .i64 k) ∧ ∃ n, w' = w.drewN n := by
  have a1 : w.cell? ⟨q, 1, none⟩ = some (.int .i64 size) := by rw [H.cell]; rfl
  have a5 : w.cell? ⟨q, 5, none⟩ = some (.string t) := by rw [H.cell]; rfl
  have hd := Nat.div_mul_le_self t.size size
  have hdl : t.size / size ≤ t.size := Nat.div_le_self _ _
  have dv : (t.size : Int).tdiv (size : Int) = ((t.size / size : Nat) : Int) := by rw [Int.tdiv_eq_ediv_of_nonneg (by omega)]; rfl
  have cc := cut_count h0 hc
  generalize t.size / size = d at *
  generalize hm : d * size = m at *
  have w1 : IntKind.i64.wrap (d : Int) = (d : Int) := IntWalk.i64_in _ (by omega)
  have em : (d : Int) * (size : Int) = (m : Int) := by rw [← hm, Int.natCast_mul]
  have w2 : IntKind.i64.wrap ((d : Int) * (size : Int)) = (m : Int) := by rw [em, IntWalk.i64_in _ (by omega)]
  have w3 : IntKind.i64.wrap ((d : Int) + 1) = (d : Int) + 1 := IntWalk.i64_in _ (by omega)
  have sz : ((size : Int) == 0) = false := beq_false_of_ne (by omega)
  clear H hc
  replace em := hide em
  replace hm := hide hm
  rcases cc with ⟨c1, hk⟩ | ⟨c1, c2, hk⟩ | ⟨c1, c2, hk⟩
  · have d1 : decide ((m : Int) < (t.size : Int)) = true := by simp; omega
    replace hk := hide hk
    go_enter Try.func23, Try.ntmps23
    go_wp2_with fail
    go_quiet (fail)
    go_wp2_with fail
    go_quiet (fail)
    go_wp2_with fail
    go_ret
    exact ⟨by rw [hk.out]; rfl, _, rfl⟩
  · have d1 : decide ((m : Int) < (t.size : Int)) = false := by simp; omega
    have d2 : ((d : Int) == 0) = true := by rw [c2]; rfl
    replace hk := hide (show (k : Int) = (d : Int) + 1 by omega)
    replace c2 := hide c2
    go_enter Try.func23, Try.ntmps23
    go_wp2_with fail
    go_quiet (fail)
    go_wp2_with fail
    go_quiet (fail)
    go_wp2_with fail
    go_ret
    exact ⟨by rw [hk.out]; rfl, _, rfl⟩
  · have d1 : decide ((m : Int) < (t.size : Int)) = false := by simp; omega
    have d2 : ((d : Int) == 0) = false := beq_false_of_ne (by omega)
    replace c2 := hide c2
    replace hk := hide hk
    go_enter Try.func23, Try.ntmps23
    go_wp2_with fail
    go_quiet (fail)
    go_wp2_with fail
    go_quiet (fail)
    go_wp2_with fail
    go_ret
    exact ⟨by rw [hk.out]; rfl, _, World.drewN_drewN _ _ _⟩
theorem ropen_bad (id size win : Int) (t : ByteArray) (w : World) (h : openBad id size win = true) :
    Calls Try.prog 18 #[.int .i64 id, .string t, .int .i64 size, .int .i64 win] w fun e w' => e = .returned (.tuple #[.pointer none, .int .i64 2]) ∧ w' = w := by
  simp only [openBad, Bool.or_eq_true, decide_eq_true_eq] at h
  go_enter Try.func18, Try.ntmps18
  go_wp2_with fail
  all_goals first
    | (go_ret2; exact ⟨rfl, rfl⟩)
    | omega
theorem cut_few {n size k : Nat} (hc : Cut n size k) (h : n ≤ size * 4096) : k ≤ 4096 := by
  obtain ⟨h1, h2, h3⟩ := hc
  rcases h3 with h3 | h3
  · omega
  · have : (k - 1) * size < 4096 * size := by rw [Nat.mul_comm 4096]; omega
    have := Nat.lt_of_mul_lt_mul_right this
    omega
theorem cut_many {n size k : Nat} (hc : Cut n size k) (h : size * 4096 < n) : 4096 < k := by
  obtain ⟨h1, h2, h3⟩ := hc
  have : 4096 * size < k * size := by rw [Nat.mul_comm 4096]; omega
  exact Nat.lt_of_mul_lt_mul_right this
theorem ropen_ok (id win : Int) (size k : Nat) (t : ByteArray) (w : World) (h : openBad id size win = false) (hc : Cut t.size size k) (ht : t.size ≤ 1000000000) :
    Calls Try.prog 18 #[.int .i64 id, .string t, .int .i64 size, .int .i64 win] w fun e w' => e = .returned (if k ≤ 4096 then .tuple #[.pointer (some ⟨w.heap.size, 0, none⟩), .int .i64 0] else .tuple #[.pointer none, .int .i64 3]) ∧ Blk w' w.heap.size 57 (dsnC id size win 0 0 t) ∧ Upd w w' [] := by
  simp only [openBad, Bool.or_eq_false_iff, decide_eq_false_iff_not] at h
  obtain ⟨⟨⟨⟨⟨h3, h4⟩, h5⟩, h6⟩, h7⟩, h8⟩ := h
  have B := Blk.new w 57 (dsnC id size win 0 0 t)
  have U := hide ((Upd.refl w []).alloc (.cells (dsnC id size win 0 0 t) 57))
  have T := hide (rtotal_ok _ B (by omega) hc (by omega) ht)
  replace B := hide B
  clear hc
  by_cases hk : k ≤ 4096
  · have d1 : decide (4096 < (k : Int)) = false := by simp; omega
    rw [if_pos hk]
    clear hk
    go_enter Try.func18, Try.ntmps18
    go_wp2_with fail
    refine T.out.mono ?_
    rintro e w' ⟨rfl, n, rfl⟩
    have B2 := hide (B.out.drewN n)
    have U2 := hide (U.out.drewN n)
    clear T B U
    go_wp2_with fail
    go_ret2
    exact ⟨rfl, B2.out, U2.out⟩
  · have d1 : decide (4096 < (k : Int)) = true := by simp; omega
    rw [if_neg hk]
    clear hk
    go_enter Try.func18, Try.ntmps18
    go_wp2_with fail
    refine T.out.mono ?_
    rintro e w' ⟨rfl, n, rfl⟩
    have B2 := hide (B.out.drewN n)
    have U2 := hide (U.out.drewN n)
    clear T B U
    go_wp2_with fail
    go_ret2
    exact ⟨rfl, B2.out, U2.out⟩
end Go.Proofs.Ytmmacjjmkaeakaa
