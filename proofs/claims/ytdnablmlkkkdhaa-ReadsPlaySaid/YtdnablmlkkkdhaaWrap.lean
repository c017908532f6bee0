/- The walks of the layer reads: Flush, Sure, Expire; those of reads that are none. -/
import Derived.Test.YtdnablmlkkkdhaaTake
namespace Go.Proofs.Ytdnablmlkkkdhaa
open Go.RowKit
set_option linter.unusedVariables false
attribute [-go_sem] loadVar storeVar Instr.build Instr.buildSlice
attribute [local go_sem] loadVar_else storeVar_else run_load33 run_load35 run_load42 run_load44 run_load49 run_load72 run_store35 run_store42 run_store44 run_store49 aggAt_drew aggAt_drewN aggRoom_drew aggRoom_drewN run_build49 run_one30
variable {base r : Nat} {v : Value} {cap last : Nat} {L : List Rd}
/-- what the taking out of all but those of p leaves -/
def Taken (w : World) (base r cap last : Nat) (L : List Rd) (p : Rd → Bool) (e : Ending) (w' : World) : Prop :=
  ∃ vg vk, e = .returned vg ∧ RowOf w' w.heap.size 49 34 vg (rdCells (L.filter (fun x => !p x))) ∧ Rds w' base r vk cap last (L.filter p) ∧ (∀ g ∈ blkOf vk, g ∉ blkOf vg) ∧ Upd w w' [r]
theorem flush_ok (w : World) (H : Rds w base r v cap last L) (hb : base ≤ w.heap.size) : Calls Try.prog 9 #[.pointer (some ⟨r, 0, none⟩)] w (Taken w base r cap last L flushP) := by
  have T := hide (take25 w H hb)
  clear H
  go_enter Try.func9, Try.ntmps9
  go_wp2_with fail
  refine T.out.mono ?_
  rintro e w' ⟨vg, vk, rfl, h1, h2, h3, h4⟩
  have P : Hid (Taken w base r cap last L flushP (.returned vg) w') := hide ⟨vg, vk, rfl, h1, h2, h3, h4⟩
  clear h1 h2 h3 h4 T
  go_wp2_with fail
  go_ret
  exact P.out
theorem sure_ok (n : Int) (w : World) (H : Rds w base r v cap last L) (hb : base ≤ w.heap.size) : Calls Try.prog 10 #[.pointer (some ⟨r, 0, none⟩), .int .i64 n] w (Taken w base r cap last L (sureP n)) := by
  have hmf : ∀ (fn : Fn) (first cap : Array Value) (w : World), (Instr.makeFunc fn first cap).run Try.prog w = .ok (.func fn first cap) w := fun _ _ _ _ => rfl
  have U := hide ((Upd.refl w []).alloc (.cells #[.int .i64 n] 3))
  have T := hide (take26 w.heap.size n (w.alloc (.cells #[.int .i64 n] 3)) (H.upd0 U.out) (by simp; omega) (by rw [(Blk.new w 3 _).cell]; rfl))
  have rl := H.head.lt
  clear H
  go_enter Try.func10, Try.ntmps10
  go_wp2_with fail
  refine T.out.mono ?_
  rintro e w' ⟨vg, vk, rfl, h1, h2, h3, h4⟩
  have P : Hid (Taken w base r cap last L (sureP n) (.returned vg) w') := hide ⟨vg, vk, rfl, h1.mono (by simp), h2, h3, (U.out.mono (S' := [r]) (by simp)).trans h4 (fun i h _ => h)⟩
  clear h1 h2 h3 h4 T
  go_wp2_with fail
  go_ret
  exact P.out
theorem expire_ok (n : Int) (w : World) (H : Rds w base r v cap last L) (hb : base ≤ w.heap.size) : Calls Try.prog 11 #[.pointer (some ⟨r, 0, none⟩), .int .i64 n] w (Taken w base r cap last L (expireP n)) := by
  have hmf : ∀ (fn : Fn) (first cap : Array Value) (w : World), (Instr.makeFunc fn first cap).run Try.prog w = .ok (.func fn first cap) w := fun _ _ _ _ => rfl
  have U := hide ((Upd.refl w []).alloc (.cells #[.int .i64 n] 3))
  have T := hide (take27 w.heap.size n (w.alloc (.cells #[.int .i64 n] 3)) (H.upd0 U.out) (by simp; omega) (by rw [(Blk.new w 3 _).cell]; rfl))
  have rl := H.head.lt
  clear H
  go_enter Try.func11, Try.ntmps11
  go_wp2_with fail
  refine T.out.mono ?_
  rintro e w' ⟨vg, vk, rfl, h1, h2, h3, h4⟩
  have P : Hid (Taken w base r cap last L (expireP n) (.returned vg) w') := hide ⟨vg, vk, rfl, h1.mono (by simp), h2, h3, (U.out.mono (S' := [r]) (by simp)).trans h4 (fun i h _ => h)⟩
  clear h1 h2 h3 h4 T
  go_wp2_with fail
  go_ret
  exact P.out
theorem take_no (v fv : Value) (w : World) (h : NoRds w v) : Calls Try.prog 24 #[v, fv] w fun e w' => e = .returned (.slice none 0 0) ∧ w = w' := by
  have N := hide (none_yes v w h)
  clear h
  go_enter Try.func24, Try.ntmps24
  go_wp2_with fail
  refine N.out.mono ?_
  rintro e w' ⟨rfl, rfl⟩
  clear N
  go_wp2_with fail
  go_ret
  exact ⟨rfl, rfl⟩
theorem flush_no (v : Value) (w : World) (h : NoRds w v) : Calls Try.prog 9 #[v] w fun e w' => e = .returned (.slice none 0 0) ∧ Upd w w' [] := by
  have T := hide (take_no v (.func (.func 25) #[] #[]) w h)
  clear h
  go_enter Try.func9, Try.ntmps9
  go_wp2_with fail
  refine T.out.mono ?_
  rintro e w' ⟨rfl, rfl⟩
  clear T
  go_wp2_with fail
  go_ret
  exact ⟨rfl, Upd.refl _ _⟩
theorem sure_no (v : Value) (n : Int) (w : World) (h : NoRds w v) : Calls Try.prog 10 #[v, .int .i64 n] w fun e w' => e = .returned (.slice none 0 0) ∧ Upd w w' [] := by
  have hmf : ∀ (fn : Fn) (first cap : Array Value) (w : World), (Instr.makeFunc fn first cap).run Try.prog w = .ok (.func fn first cap) w := fun _ _ _ _ => rfl
  have U := hide ((Upd.refl w []).alloc (.cells #[.int .i64 n] 3))
  have T := hide (take_no v (.func (.func 26) #[] #[.pointer (some ⟨w.heap.size, 0, none⟩)]) _ (h.upd U.out))
  clear h
  go_enter Try.func10, Try.ntmps10
  go_wp2_with fail
  refine T.out.mono ?_
  rintro e w' ⟨rfl, rfl⟩
  clear T
  go_wp2_with fail
  go_ret
  exact ⟨rfl, U.out⟩
theorem expire_no (v : Value) (n : Int) (w : World) (h : NoRds w v) : Calls Try.prog 11 #[v, .int .i64 n] w fun e w' => e = .returned (.slice none 0 0) ∧ Upd w w' [] := by
  have hmf : ∀ (fn : Fn) (first cap : Array Value) (w : World), (Instr.makeFunc fn first cap).run Try.prog w = .ok (.func fn first cap) w := fun _ _ _ _ => rfl
  have U := hide ((Upd.refl w []).alloc (.cells #[.int .i64 n] 3))
  have T := hide (take_no v (.func (.func 27) #[] #[.pointer (some ⟨w.heap.size, 0, none⟩)]) _ (h.upd U.out))
  clear h
  go_enter Try.func11, Try.ntmps11
  go_wp2_with fail
  refine T.out.mono ?_
  rintro e w' ⟨rfl, rfl⟩
  clear T
  go_wp2_with fail
  go_ret
  exact ⟨rfl, U.out⟩
theorem copy_no (v : Value) (w : World) (h : NoRds w v) : Calls Try.prog 19 #[v] w fun e w' => e = .returned (.pointer none) ∧ w = w' := by
  have N := hide (none_yes v w h)
  clear h
  go_enter Try.func19, Try.ntmps19
  go_wp2_with fail
  refine N.out.mono ?_
  rintro e w' ⟨rfl, rfl⟩
  clear N
  go_wp2_with fail
  go_ret
  exact ⟨rfl, rfl⟩
end Go.Proofs.Ytdnablmlkkkdhaa
