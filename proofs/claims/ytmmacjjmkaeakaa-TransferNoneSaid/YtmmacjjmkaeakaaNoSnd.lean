/- The walks of the layer transfer: a sender that Open did not make: nil, or all zero. -/
import Derived.Test.YtmmacjjmkaeakaaNextN
namespace Go.Proofs.Ytmmacjjmkaeakaa
open Go.RowKit
set_option linter.unusedVariables false
/-- a sender that Open did not make -/
def NoSnd (w : World) (v : Value) : Prop := v = .pointer none ∨ ∃ r, v = .pointer (some ⟨r, 0, none⟩) ∧ Blk w r 64 #[.int .i64 0, .slice none 0 0, .int .i64 0, .int .i64 0, .int .i64 0]
theorem NoSnd.upd {w w' : World} {v : Value} (h : NoSnd w v) (u : Upd w w' []) : NoSnd w' v := by
  rcases h with h | ⟨r, h, hb⟩
  · exact .inl h
  · exact .inr ⟨r, h, u.blk hb (by simp)⟩
theorem made_no (v : Value) (w : World) (h : NoSnd w v) : Calls Try.prog 26 #[v] w fun e w' => e = .returned (.bool false) ∧ w' = w := by
  rcases h with rfl | ⟨r, rfl, hb⟩
  · exact made_none w
  · have a1 : w.cell? ⟨r, 1, none⟩ = some (.slice none 0 0) := by rw [hb.cell]; rfl
    clear hb
    go_enter Try.func26, Try.ntmps26
    go_wp2_with fail
    go_ret
    exact ⟨rfl, rfl⟩
theorem have_no (v : Value) (w : World) (h : NoSnd w v) : Calls Try.prog 22 #[v] w fun e w' => e = .returned (.int .i64 0) ∧ w' = w := by
  have M := hide (made_no v w h)
  go_enter Try.func22, Try.ntmps22
  go_wp2_with fail
  refine M.out.mono ?_
  rintro e w' ⟨rfl, rfl⟩
  go_wp2_with fail
  go_ret
  exact ⟨rfl, rfl⟩
theorem back_no (v : Value) (w : World) (h : NoSnd w v) : Calls Try.prog 20 #[v] w fun e w' => e = .returned (.tuple #[]) ∧ w' = w := by
  have M := hide (made_no v w h)
  go_enter Try.func20, Try.ntmps20
  go_wp2_with fail
  refine M.out.mono ?_
  rintro e w' ⟨rfl, rfl⟩
  go_wp2_with fail
  refine bodyPost_end (results_none rfl _ _ _) rfl ?_
  exact ⟨rfl, rfl⟩
theorem ack_no (v : Value) (i n : Int) (w : World) (h : NoSnd w v) : Calls Try.prog 16 #[v, .int .i64 i, .int .i64 n] w fun e w' => e = .returned (.int .i64 1) ∧ w' = w := by
  have M := hide (made_no v w h)
  go_enter Try.func16, Try.ntmps16
  go_wp2_with fail
  refine M.out.mono ?_
  rintro e w' ⟨rfl, rfl⟩
  go_wp2_with fail
  go_ret
  exact ⟨rfl, rfl⟩
theorem done_no (v : Value) (w : World) (h : NoSnd w v) : Calls Try.prog 17 #[v] w fun e w' => e = .returned (.bool false) ∧ ∃ n, w' = w.drewN n := by
  have M := hide (fun n => made_no v (w.drewN n) (h.upd ((Upd.refl w []).drewN n)))
  go_enter Try.func17, Try.ntmps17
  go_wp2_with fail
  go_quiet ((go_at_call 26; exact Calls.quiet_of_same (M.out _)))
  go_wp2_with fail
  go_ret
  exact ⟨rfl, _, rfl⟩
theorem next_no2 (v : Value) (w : World) (h : NoSnd w v) : Calls Try.prog 15 #[v] w fun e w' => e = .returned (.tuple #[.agg #[.int .i64 0, .int .i64 0, .int .i64 0, .string ⟨#[]⟩], .bool false]) ∧ Upd w w' [] := by
  have B := hide (Blk.new w 31 #[.int .i64 0, .int .i64 0, .int .i64 0, .string ⟨#[]⟩])
  have U := hide ((Upd.refl w []).alloc (.cells #[.int .i64 0, .int .i64 0, .int .i64 0, .string ⟨#[]⟩] 31))
  have h1 := hide (h.upd U.out)
  clear h
  go_enter Try.func15, Try.ntmps15
  go_wp2_with fail
  generalize w.alloc (.cells #[.int .i64 0, .int .i64 0, .int .i64 0, .string ⟨#[]⟩] 31) = w1 at *
  have M := hide (fun n => made_no v (w1.drewN n) (h1.out.upd ((Upd.refl w1 []).drewN n)))
  go_quiet ((go_at_call 26; exact Calls.quiet_of_same (M.out _)))
  have B2 := B.out.drewN nq
  have U2 := hide (U.out.drewN nq)
  clear M B U h1
  generalize w1.drewN nq = w2 at *
  generalize hpb : w.heap.size = pb at *
  replace hpb := hide hpb
  have c0 : w2.cell? ⟨pb, 0, none⟩ = some (.int .i64 0) := by rw [B2.cell]; rfl
  have c1 : w2.cell? ⟨pb, 1, none⟩ = some (.int .i64 0) := by rw [B2.cell]; rfl
  have c2 : w2.cell? ⟨pb, 2, none⟩ = some (.int .i64 0) := by rw [B2.cell]; rfl
  have c3 : w2.cell? ⟨pb, 3, none⟩ = some (.string ⟨#[]⟩) := by rw [B2.cell]; rfl
  have g0 := B2.frozen 0
  have g1 := B2.frozen 1
  have g2 := B2.frozen 2
  have g3 := B2.frozen 3
  replace B2 := hide B2
  go_wp2_with fail
  refine bodyPost_ret (results_pc (Blk.put4 B2.out) rfl rfl) rfl ?_
  exact ⟨rfl, upd_put4 _ _ _ _ U2.out (by have := hpb.out; omega)⟩
end Go.Proofs.Ytmmacjjmkaeakaa
