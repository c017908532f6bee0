/- RingsPlay: plain facts: what push, pop and clear leave alike; the acts. -/
import Derived.Test.YtkopocbcldjjbaaAlikeW
namespace Go.Proofs.Ytkopocbcldjjbaa
open Go.RowKit
set_option linter.unusedVariables false
set_option linter.unusedSimpArgs false
theorem mod2 {a cap : Nat} (h : a < 2 * cap) : a % cap = if a < cap then a else a - cap := by
  split
  · next h1 => exact Nat.mod_eq_of_lt h1
  · next h1 =>
    rw [Nat.mod_eq_sub_mod (by omega)]
    exact Nat.mod_eq_of_lt (by omega)
theorem Like.nil (cap first : Nat) (fs : Nat → Fr) : Like [] cap first 0 fs := ⟨rfl, fun i h => absurd h (by simp), fun x h => by simp at h⟩
theorem Like.push {xs : List Fr} {cap first cnt : Nat} {fs : Nat → Fr} {x : Fr} (L : Like xs cap first cnt fs) (hf : first < cap) (hc : cnt < cap) (hx : Fine x) : Like (xs ++ [x]) cap first (cnt + 1) (put fs ((first + cnt) % cap) x) := by
  have hl := L.len
  refine ⟨by simp [hl], fun i h => ?_, fun y hy => ?_⟩
  · by_cases h1 : i < xs.length
    · rw [List.getElem_append_left h1, L.each i h1]
      unfold Go.Proofs.Ytkopocbcldjjbaa.put
      rw [if_neg]
      rw [mod2 (by omega), mod2 (by omega)]
      split <;> split <;> omega
    · have e : i = xs.length := by simp at h; omega
      subst e
      have e2 : (xs ++ [x])[xs.length]'h = x := by rw [List.getElem_append_right (by omega)]; simp
      rw [e2, hl]
      simp [Go.Proofs.Ytkopocbcldjjbaa.put]
  · rcases List.mem_append.1 hy with hy | hy
    · exact L.fine y hy
    · simp at hy; subst hy; exact hx
theorem Like.pop {xs : List Fr} {cap first cnt : Nat} {fs : Nat → Fr} {x : Fr} (L : Like (x :: xs) cap first cnt fs) (hf : first < cap) (hc : cnt ≤ cap) : x = fs first ∧ 0 < cnt ∧ Like xs cap ((first + 1) % cap) (cnt - 1) (put fs first zeroFr) := by
  have hl := L.len
  simp only [List.length_cons] at hl
  have h0 := L.each 0 (by simp)
  rw [Nat.add_zero, Nat.mod_eq_of_lt hf] at h0
  refine ⟨h0, by omega, by omega, fun i h => ?_, fun y hy => L.fine y (List.mem_cons_of_mem _ hy)⟩
  have h1 := L.each (i + 1) (by simp; omega)
  rw [List.getElem_cons_succ] at h1
  rw [h1]
  have e : ((first + 1) % cap + i) % cap = (first + (i + 1)) % cap := by
    rw [Nat.mod_add_mod]; congr 1; omega
  rw [e]
  unfold Go.Proofs.Ytkopocbcldjjbaa.put
  rw [if_neg]
  rw [mod2 (by omega)]
  split <;> omega
end Go.Proofs.Ytkopocbcldjjbaa
