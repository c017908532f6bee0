/- Two rows of reads of the run's own, of which now the one grows, now the other. -/
import Derived.Test.YtdnablmlkkkdhaaWalkC
import Derived.Deep.AppendLies
namespace Go.Proofs.Ytdnablmlkkkdhaa
open Go.RowKit
set_option linter.unusedVariables false
structure Two (w : World) (base : Nat) (t : TypeId) (vk vg : Value) (K G : List Rd) : Prop where
  rk : RowOf w base t 34 vk (rdCells K)
  rg : RowOf w base t 34 vg (rdCells G)
  ap : ∀ g ∈ blkOf vk, g ∉ blkOf vg
section
variable {w w' W : World} {base : Nat} {t : TypeId} {vk vg : Value} {K G : List Rd} {S : List Nat}
theorem Two.nil (w : World) (base : Nat) (t : TypeId) : Two w base t (.slice none 0 0) (.slice none 0 0) [] [] := ⟨RowOf.nil _ _ _ _, RowOf.nil _ _ _ _, by simp [blkOf, Value.ownBlock]⟩
theorem Two.swap (h : Two w base t vk vg K G) : Two w base t vg vk G K := ⟨h.rg, h.rk, fun g h1 h2 => h.ap g h2 h1⟩
theorem Two.upd0 (h : Two w base t vk vg K G) (u : Upd w w' []) : Two w' base t vk vg K G := ⟨h.rk.upd u (by simp), h.rg.upd u (by simp), h.ap⟩
theorem Two.push {g cap : Nat} {x : Rd} (h : Two W base t vk vg K G) (hx : x.ok) (hown : w'.ownsRow base t 34 (.slice (some ⟨g, 0, none⟩) (K.length + 1) cap) (K.length + 1) (flat (rdCells K) ++ x.cells.toList))
    (hgr : W.grownBy w' vk.ownBlock) (hat : vk.ownBlock = some g ∨ g = W.heap.size) : Two w' base t (.slice (some ⟨g, 0, none⟩) (K.length + 1) cap) vg (K ++ [x]) G ∧ Upd W w' (blkOf vk) := by
  have k : Upd W w' (blkOf vk) := Upd.of_grown hgr (by intro k hk _; simp [blkOf, hk])
  have hr := rd_push h.rk.sizes h.rk.ones hx hown
  refine ⟨⟨hr, h.rg.upd k (fun g h1 h2 => h.ap g h2 h1), fun g' hg' hm => ?_⟩, k⟩
  simp [blkOf, Value.ownBlock] at hg'
  subst hg'
  rcases hat with hat | hat
  · exact h.ap g' (by simp [blkOf, hat]) hm
  · have := h.rg.lt_ g' hm
    omega
end
/-- the reads that stay are laid in the place of those that waited -/
theorem take_end {w w' : World} {base r : Nat} {v vk vg : Value} {cap last : Nat} {L : List Rd} {p q : Rd → Bool} (H : Rds w' base r v cap last L) (hT : Two w' w.heap.size 49 vk vg (L.filter p) (L.filter q)) (hb : base ≤ w.heap.size) (u : Upd w w' []) :
    RowOf (w'.setCell ⟨r, 2, none⟩ vk) w.heap.size 49 34 vg (rdCells (L.filter q)) ∧ Rds (w'.setCell ⟨r, 2, none⟩ vk) base r vk cap last (L.filter p) ∧ (∀ g ∈ blkOf vk, g ∉ blkOf vg) ∧ Upd w (w'.setCell ⟨r, 2, none⟩ vk) [r] := by
  have k : Upd w' (w'.setCell ⟨r, 2, none⟩ vk) [r] := (Upd.refl _ _).setCell (p := ⟨r, 2, none⟩) (by simp) _
  refine ⟨hT.rg.upd k (hT.rg.ne H.head (by decide)), ⟨H.ge, (H.head.set_ 2 vk).congr (by simp), (hT.rk.mono hb).upd k (hT.rk.ne H.head (by decide)), fun x hx => H.ok x (List.mem_filter.1 hx).1, H.c0, H.c1, ?_⟩, hT.ap, (u.mono (S' := [r]) (by simp)).trans k (fun i h _ => h)⟩
  have := List.length_filter_le p L
  have := H.few
  omega
theorem filter_take_yes (p : Rd → Bool) (L : List Rd) (i : Nat) (h : i < L.length) (hp : p L[i] = true) : (L.take (i + 1)).filter p = (L.take i).filter p ++ [L[i]] := by
  rw [List.take_succ_eq_append_getElem h, List.filter_append]; simp [hp]
theorem filter_take_no (p : Rd → Bool) (L : List Rd) (i : Nat) (h : i < L.length) (hp : p L[i] = false) : (L.take (i + 1)).filter p = (L.take i).filter p := by
  rw [List.take_succ_eq_append_getElem h, List.filter_append]; simp [hp]
theorem filter_take_le (p : Rd → Bool) (L : List Rd) (i : Nat) : ((L.take i).filter p).length ≤ L.length := by
  have := List.length_filter_le p (L.take i)
  have := List.length_take_le i L
  have : (L.take i).length ≤ L.length := by rw [List.length_take]; omega
  omega
end Go.Proofs.Ytdnablmlkkkdhaa
