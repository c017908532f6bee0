/- The walk of 'same': counters are these. -/
import Derived.Test.YtibpbnhchlojmaaWalkC
namespace Go.Proofs.Ytibpbnhchlojmaa
open Go.RowKit
set_option linter.unusedVariables false

/-- the first k numbers struck out -/
def struck (l : List Int) (k : Nat) : List Int := List.replicate k (-1) ++ l.drop k
theorem struck_set (l : List Int) (k : Nat) (hk : k < l.length) : (struck l k).set k (-1) = struck l (k + 1) := by
  apply List.ext_getElem
  · simp [struck]; omega
  · intro i h1 h2
    rw [List.getElem_set]
    by_cases hi : k = i
    · subst hi
      simp only [↓reduceIte, struck]
      rw [List.getElem_append_left (by simp)]
      simp
    · rw [if_neg hi]
      simp only [struck, List.getElem_append, List.length_replicate, List.getElem_replicate, List.getElem_drop]
      split <;> split <;> first | rfl | omega | (congr 1; omega)
theorem struck_at {w : World} {B : Nat} {l : List Int} {k : Nat} (h : Blk w B 2 ((struck l k).map (Value.int .i64)).toArray) (hk : k < l.length) : w.cell? ⟨B, k, none⟩ = some (.int .i64 (l[k]?.getD 0)) := by
  rw [h.cell]
  simp [struck, List.getElem?_append, hk]
theorem struck_next {w : World} {B : Nat} {l : List Int} {k : Nat} (h : Blk w B 2 ((struck l k).map (Value.int .i64)).toArray) (hk : k < l.length) :
    Blk (w.setCell ⟨B, k, none⟩ (.int .i64 (-1))) B 2 ((struck l (k + 1)).map (Value.int .i64)).toArray :=
  (h.set_ k _).congr (by rw [← struck_set l k hk]; simp)

set_option maxHeartbeats 400000 in
theorem same_ok (g h r cap : Nat) (l : List Int) (w : World) (c : Cnt w g h l) (d : Sl w (.slice (some ⟨r, 0, none⟩) l.length cap) 2 1 l.length (l.map (Value.int .i64))) (h1 : 1 ≤ l.length) (hlen : l.length ≤ 64) :
    Calls Try.prog 13 #[.pointer (some ⟨g, 0, none⟩), .slice (some ⟨r, 0, none⟩) l.length cap] w fun e w' => e = .returned (.bool true) ∧ Upd w w' [] := by
  have C := hide c
  have D := hide d
  clear c d
  go_enter Try.func13, Try.ntmps13
  go_wp2_with fail
  refine (list_ok g h l _ C.out h1 hlen).mono ?_
  rintro e w1 ⟨M, rfl, hM, hB, hU⟩
  go_wp2_with fail
  go_loopw [6] (fun v wr => ∃ k : Nat, k ≤ l.length ∧ v = .int .i64 k ∧ Blk wr M 2 ((struck l k).map (Value.int .i64)).toArray ∧ Upd w wr []) (fun v _ => l.length - (intOf v).toNat)
  case atStart => exact ⟨0, by omega, rfl, hB, hU⟩
  case round =>
    clear hB hU
    obtain ⟨k, hk, rfl, hB, hU⟩ := hrel
    have cr := C.out.upd hU (by simp) (by simp)
    have dr := D.out.upd hU (by simp)
    by_cases hlt : k < l.length
    · have hx := struck_at hB hlt
      have hy := dr.cells k (.int .i64 (l[k]?.getD 0)) (by simp [hlt])
      have hf := hB.frozen k
      have hg := fun n => get_ok g h k l (wr.drewN n) cr hlt hlen
      have HG := hide hg
      have HN := hide (struck_next hB hlt)
      have HU := hide hU
      have hki : (k : Int) < (l.length : Int) := by omega
      clear hg hB hU cr dr
      generalize l[k]?.getD 0 = x at *
      go_wp2_with fail
      go_quiet ((go_at_call 9; exact quiet_left (HG.out _)))
      go_wp2_with fail
      go_roundw
      case rel => exact ⟨k + 1, by omega, by go_num, HN.out, (HU.out.setCell (fun h => by simp only [] at h; omega) _).drewN _⟩
      case measure => simp [intOf]; omega
    · obtain rfl : k = l.length := by omega
      have hz : wr.cell? ⟨g, 0, none⟩ = some (.slice (some ⟨h, 0, none⟩) l.length l.length) := by rw [cr.1.cell]; rfl
      have HU := hide hU
      clear hU hB cr dr
      go_wp2_with fail
      refine (get_low g h _ _ _ hz (by omega)).mono ?_
      rintro e w' ⟨rfl, rfl⟩
      go_wp2_with fail
      refine (get_high g h _ _ _ hz (by omega) (by omega)).mono ?_
      rintro e w' ⟨rfl, rfl⟩
      go_wp2_with fail
      go_ret
      exact ⟨rfl, HU.out⟩
end Go.Proofs.Ytibpbnhchlojmaa
