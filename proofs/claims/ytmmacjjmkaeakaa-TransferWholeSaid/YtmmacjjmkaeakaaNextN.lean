/- The walks of the layer transfer: Next, where there is none. -/
import Derived.Test.YtmmacjjmkaeakaaSnds
namespace Go.Proofs.Ytmmacjjmkaeakaa
open Go.RowKit
set_option linter.unusedVariables false
variable {w : World} {base r : Nat} {v : Value} {bb : Nat} {t : ByteArray} {size k : Nat} {id win hv sent : Int}
/-- the result that lies in a cell of type 31, and the one behind it -/
theorem results_pc {tmps : Array Value} {w : World} {pb : Nat} {F : Array Value} (hB : Blk w pb 31 F) (hF : F.size = 4) (hp : tmps.getD 2 undef = .pointer (some ⟨pb, 0, none⟩)) :
    (results Try.f15 tmps).run Try.prog w = .ok (.tuple #[.agg F, tmps.getD 3 undef]) w := by
  have hp' : tmps[2]?.getD undef = .pointer (some ⟨pb, 0, none⟩) := by simpa using hp
  have hL : (loadVar 31 ⟨pb, 0, none⟩).run Try.prog w = .ok (.agg F) w := by
    rw [run_load_agg (n := 4) Try.underlying31 rfl (by kernel_rfl), hB.agg0 hF]
  rw [results_cell_tmp (fn := Try.f15) (p := 2) (u := 3) (ty := 31) rfl]
  simp [hp', asAddr, hL, Result.andThen]
theorem Blk.put4 {w : World} {pb : Nat} {a b c d a' b' c' d' : Value} (hB : Blk w pb 31 #[a, b, c, d]) :
    Blk ((((w.setCell ⟨pb, 0, none⟩ a').setCell ⟨pb, 1, none⟩ b').setCell ⟨pb, 2, none⟩ c').setCell ⟨pb, 3, none⟩ d') pb 31 #[a', b', c', d'] :=
  (((hB.set_ 0 a').set_ 1 b').set_ 2 c').set_ 3 d'
theorem upd_put4 {w w0 : World} {pb : Nat} {S : List Nat} (a' b' c' d' : Value) (u : Upd w0 w S) (h : w0.heap.size ≤ pb) :
    Upd w0 ((((w.setCell ⟨pb, 0, none⟩ a').setCell ⟨pb, 1, none⟩ b').setCell ⟨pb, 2, none⟩ c').setCell ⟨pb, 3, none⟩ d') S := by
  have k : Upd w ((((w.setCell ⟨pb, 0, none⟩ a').setCell ⟨pb, 1, none⟩ b').setCell ⟨pb, 2, none⟩ c').setCell ⟨pb, 3, none⟩ d') [pb] :=
    ((((Upd.refl w [pb]).setCell (p := ⟨pb, 0, none⟩) (by simp) _).setCell (p := ⟨pb, 1, none⟩) (by simp) _).setCell (p := ⟨pb, 2, none⟩) (by simp) _).setCell (p := ⟨pb, 3, none⟩) (by simp) _
  exact u.trans k (fun i hi hl => by simp at hi; omega)
theorem next_none (w : World) : Calls Try.prog 15 #[.pointer none] w fun e w' => e = .returned (.tuple #[.agg #[.int .i64 0, .int .i64 0, .int .i64 0, .string ⟨#[]⟩], .bool false]) ∧ Upd w w' [] := by
  have B := hide (Blk.new w 31 #[.int .i64 0, .int .i64 0, .int .i64 0, .string ⟨#[]⟩])
  have U := hide ((Upd.refl w []).alloc (.cells #[.int .i64 0, .int .i64 0, .int .i64 0, .string ⟨#[]⟩] 31))
  go_enter Try.func15, Try.ntmps15
  go_wp2_with fail
  generalize w.alloc (.cells #[.int .i64 0, .int .i64 0, .int .i64 0, .string ⟨#[]⟩] 31) = w1 at *
  have M := hide (fun n => made_none (w1.drewN n))
  go_quiet ((go_at_call 26; exact Calls.quiet_of_same (M.out _)))
  have B2 := B.out.drewN nq
  have U2 := hide (U.out.drewN nq)
  clear M B U
  generalize w1.drewN nq = w2 at *
  generalize hpb : w.heap.size = pb at *
  replace hpb := hide hpb
  have c0 : w2.cell? ⟨pb, 0, none⟩ = some (.int .i64 0) := by rw [B2.cell]; rfl
  have c1 : w2.cell? ⟨pb, 1, none⟩ = some (.int .i64 0) := by rw [B2.cell]; rfl
  have c2 : w2.cell? ⟨pb, 2, none⟩ = some (.int .i64 0) := by rw [B2.cell]; rfl
  have c3 : w2.cell? ⟨pb, 3, none⟩ = some (.string ⟨#[]⟩) := by rw [B2.cell]; rfl
  have g0 := B2.frozen 0
  have g1 := B2.frozen 1
  have g2 := B2.frozen 2
  have g3 := B2.frozen 3
  replace B2 := hide B2
  go_wp2_with fail
  refine bodyPost_ret (results_pc (Blk.put4 B2.out) rfl rfl) rfl ?_
  exact ⟨rfl, upd_put4 _ _ _ _ U2.out (by have := hpb.out; omega)⟩
set_option maxHeartbeats 2000000 in
theorem next_no (H : Snd w base r v bb t size k id win hv sent) (hk : 0 < k) (h0 : 0 ≤ hv) (h1 : hv ≤ 100000) (h2 : 0 ≤ sent) (h3 : sent ≤ 100000) (h4 : (k : Int) ≤ sent ∨ win ≤ sent - hv) :
    Calls Try.prog 15 #[.pointer (some ⟨r, 0, none⟩)] w fun e w' => e = .returned (.tuple #[.agg #[.int .i64 0, .int .i64 0, .int .i64 0, .string ⟨#[]⟩], .bool false]) ∧ Upd w w' [] := by
  have B := hide (Blk.new w 31 #[.int .i64 0, .int .i64 0, .int .i64 0, .string ⟨#[]⟩])
  have U := hide ((Upd.refl w []).alloc (.cells #[.int .i64 0, .int .i64 0, .int .i64 0, .string ⟨#[]⟩] 31))
  have H1 := H.upd0 U.out
  have a1 := H1.a1
  have a2 := H1.a2
  have a3 := H1.a3
  have a4 := H1.a4
  have M := hide (fun n => made_ok (H1.upd0 ((Upd.refl _ []).drewN n)) hk)
  obtain ⟨ga, c, hv1, _⟩ := H.form
  subst hv1
  clear H H1
  by_cases h5 : (k : Int) ≤ sent
  · replace h4 := hide h4
    go_enter Try.func15, Try.ntmps15
    go_wp2_with fail
    generalize w.alloc (.cells #[.int .i64 0, .int .i64 0, .int .i64 0, .string ⟨#[]⟩] 31) = w1 at *
    go_quiet ((go_at_call 26; exact Calls.quiet_of_same (M.out _)))
    have B2 := B.out.drewN nq
    have U2 := hide (U.out.drewN nq)
    clear M B U a1 a2 a3 a4
    generalize w1.drewN nq = w2 at *
    generalize hpb : w.heap.size = pb at *
    replace hpb := hide hpb
    have c0 : w2.cell? ⟨pb, 0, none⟩ = some (.int .i64 0) := by rw [B2.cell]; rfl
    have c1 : w2.cell? ⟨pb, 1, none⟩ = some (.int .i64 0) := by rw [B2.cell]; rfl
    have c2 : w2.cell? ⟨pb, 2, none⟩ = some (.int .i64 0) := by rw [B2.cell]; rfl
    have c3 : w2.cell? ⟨pb, 3, none⟩ = some (.string ⟨#[]⟩) := by rw [B2.cell]; rfl
    have g0 := B2.frozen 0
    have g1 := B2.frozen 1
    have g2 := B2.frozen 2
    have g3 := B2.frozen 3
    replace B2 := hide B2
    go_wp2_with fail
    refine bodyPost_ret (results_pc (Blk.put4 B2.out) rfl rfl) rfl ?_
    exact ⟨rfl, upd_put4 _ _ _ _ U2.out (by have := hpb.out; omega)⟩
  · have h6 : win ≤ sent - hv := by omega
    have wr : IntKind.i64.wrap (sent - hv) = sent - hv := IntWalk.i64_in _ (by omega)
    clear h4
    go_enter Try.func15, Try.ntmps15
    go_wp2_with fail
    generalize w.alloc (.cells #[.int .i64 0, .int .i64 0, .int .i64 0, .string ⟨#[]⟩] 31) = w1 at *
    go_quiet ((go_at_call 26; exact Calls.quiet_of_same (M.out _)))
    have B2 := B.out.drewN nq
    have U2 := hide (U.out.drewN nq)
    clear M B U a1 a2 a3 a4
    generalize w1.drewN nq = w2 at *
    generalize hpb : w.heap.size = pb at *
    replace hpb := hide hpb
    have c0 : w2.cell? ⟨pb, 0, none⟩ = some (.int .i64 0) := by rw [B2.cell]; rfl
    have c1 : w2.cell? ⟨pb, 1, none⟩ = some (.int .i64 0) := by rw [B2.cell]; rfl
    have c2 : w2.cell? ⟨pb, 2, none⟩ = some (.int .i64 0) := by rw [B2.cell]; rfl
    have c3 : w2.cell? ⟨pb, 3, none⟩ = some (.string ⟨#[]⟩) := by rw [B2.cell]; rfl
    have g0 := B2.frozen 0
    have g1 := B2.frozen 1
    have g2 := B2.frozen 2
    have g3 := B2.frozen 3
    replace B2 := hide B2
    go_wp2_with fail
    refine bodyPost_ret (results_pc (Blk.put4 B2.out) rfl rfl) rfl ?_
    exact ⟨rfl, upd_put4 _ _ _ _ U2.out (by have := hpb.out; omega)⟩
end Go.Proofs.Ytmmacjjmkaeakaa
