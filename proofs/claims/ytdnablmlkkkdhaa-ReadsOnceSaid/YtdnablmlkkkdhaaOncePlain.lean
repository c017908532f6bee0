/- ReadsOnce: the law, in plain Lean. -/
import Derived.Test.YtdnablmlkkkdhaaGreat
namespace Go.Proofs.Ytdnablmlkkkdhaa
set_option linter.unusedVariables false
/-- a read that may be told: its number is within, so are the call's and the result's, and it was not told -/
def Fine (f : Nat → Bool) (puts : Nat) (x : Rd) : Prop := 1 ≤ x.id ∧ x.id ≤ puts ∧ x.d.seq = x.id ∧ x.x.at_ = x.id ∧ f x.id.toNat = false
structure Once (f : Nat → Bool) (puts out : Nat) (L : List Rd) : Prop where
  rise : L.Pairwise (fun a b => a.id < b.id)
  good : ∀ x ∈ L, Fine f puts x
  num : puts = out + L.length
  free : ∀ n, puts < n → f n = false
structure Tells (f : Nat → Bool) (puts out : Nat) (L G : List Rd) : Prop where
  riseG : G.Pairwise (fun a b => a.id < b.id)
  goodG : ∀ x ∈ G, Fine f puts x
  riseL : L.Pairwise (fun a b => a.id < b.id)
  goodL : ∀ x ∈ L, Fine f puts x
  apart : ∀ x ∈ L, ∀ y ∈ G, x.id ≠ y.id
  num : puts = out + G.length + L.length
  free : ∀ n, puts < n → f n = false
/-- told, behind the telling of G -/
def fset (f : Nat → Bool) (G : List Rd) (e : Nat) : Bool := f e || G.any (fun y => decide (y.id = (e : Int)))
theorem Once.zero : Once (fun _ => false) 0 0 [] := ⟨List.Pairwise.nil, fun x h => (by cases h), rfl, fun _ _ => rfl⟩
theorem filter_num (p : Rd → Bool) : ∀ (L : List Rd), (L.filter p).length + (L.filter (fun x => !p x)).length = L.length
  | [] => rfl
  | x :: L => by
    have := filter_num p L
    cases h : p x <;> simp [h] <;> omega
theorem rise_ne : ∀ {L : List Rd}, L.Pairwise (fun a b => a.id < b.id) → ∀ x ∈ L, ∀ y ∈ L, x.id = y.id → x = y
  | [], _, x, hx, _, _, _ => by cases hx
  | a :: L, h, x, hx, y, hy, e => by
    rw [List.pairwise_cons] at h
    rcases List.mem_cons.1 hx with h1 | h1 <;> rcases List.mem_cons.1 hy with h2 | h2
    · rw [h1, h2]
    · have := h.1 y h2; rw [h1] at e; omega
    · have := h.1 x h1; rw [h2] at e; omega
    · exact rise_ne h.2 x h1 y h2 e
section
variable {f : Nat → Bool} {puts out : Nat} {L G : List Rd}
theorem Once.take (h : Once f puts out L) (p : Rd → Bool) : Tells f puts out (L.filter p) (L.filter (fun x => !p x)) := by
  refine ⟨h.rise.filter _, fun x hx => h.good x (List.mem_filter.1 hx).1, h.rise.filter _, fun x hx => h.good x (List.mem_filter.1 hx).1, fun x hx y hy e => ?_, ?_, h.free⟩
  · obtain ⟨h1, h2⟩ := List.mem_filter.1 hx
    obtain ⟨h3, h4⟩ := List.mem_filter.1 hy
    have := rise_ne h.rise x h1 y h3 e
    subst this
    rw [h2] at h4
    cases h4
  · have := filter_num p L
    have := h.num
    omega
theorem Once.same (h : Once f puts out L) : Tells f puts out L [] := ⟨List.Pairwise.nil, fun x hx => (by cases hx), h.rise, h.good, fun x _ y hy => (by cases hy), h.num, h.free⟩
theorem Once.put (h : Once f puts out L) {x : Rd} (h1 : x.id = ((puts + 1 : Nat) : Int)) (h2 : x.d.seq = ((puts + 1 : Nat) : Int)) (h3 : x.x.at_ = ((puts + 1 : Nat) : Int)) : Tells f (puts + 1) out (L ++ [x]) [] := by
  refine ⟨List.Pairwise.nil, fun x hx => (by cases hx), ?_, fun y hy => ?_, fun x _ y hy => (by cases hy), by simp [h.num]; omega, fun n hn => h.free n (by omega)⟩
  · rw [List.pairwise_append]
    refine ⟨h.rise, by simp, fun a ha b hb => ?_⟩
    rw [List.mem_singleton.1 hb, h1]
    have := (h.good a ha).2.1
    omega
  · rcases List.mem_append.1 hy with hy | hy
    · obtain ⟨a, b, c, d, e⟩ := h.good y hy
      exact ⟨a, by omega, c, d, e⟩
    · rw [List.mem_singleton.1 hy]
      refine ⟨by omega, by omega, by omega, by omega, ?_⟩
      rw [h1]
      exact h.free _ (by omega)
theorem fset_out {x : Rd} (h : 1 ≤ x.id) (h1 : f x.id.toNat = false) (h2 : ∀ y ∈ G, x.id ≠ y.id) : fset f G x.id.toNat = false := by
  unfold fset
  rw [h1, Bool.false_or, List.any_eq_false]
  intro y hy
  have := h2 y hy
  simp
  omega
theorem Tells.next (h : Tells f puts out L G) : Once (fset f G) puts (out + G.length) L := by
  refine ⟨h.riseL, fun x hx => ?_, h.num, fun n hn => ?_⟩
  · obtain ⟨a, b, c, d, e⟩ := h.goodL x hx
    exact ⟨a, b, c, d, fset_out a e (h.apart x hx)⟩
  · unfold fset
    rw [h.free n hn, Bool.false_or, List.any_eq_false]
    intro y hy
    have := (h.goodG y hy).2.1
    simp
    omega
theorem Tells.at_ (h : Tells f puts out L G) (k : Nat) (hk : k < G.length) : Fine (fset f (G.take k)) puts G[k] := by
  obtain ⟨a, b, c, d, e⟩ := h.goodG _ (List.getElem_mem hk)
  refine ⟨a, b, c, d, fset_out a e fun y hy => ?_⟩
  rw [List.mem_take_iff_getElem] at hy
  obtain ⟨i, hi, rfl⟩ := hy
  have := List.pairwise_iff_getElem.1 h.riseG i k (by omega) hk (by omega)
  omega
theorem Tells.up (h : Tells f puts out L G) (k : Nat) (hk : k + 1 < G.length) : (G[k]'(by omega)).id < G[k + 1].id := List.pairwise_iff_getElem.1 h.riseG k (k + 1) (by omega) hk (by omega)
end
theorem fset_take (f : Nat → Bool) (G : List Rd) (k : Nat) (hk : k < G.length) (e : Nat) : fset f (G.take (k + 1)) e = (if (G[k]).id = (e : Int) then true else fset f (G.take k) e) := by
  unfold fset
  rw [List.take_succ_eq_append_getElem hk, List.any_append]
  by_cases h : (G[k]).id = (e : Int)
  · simp [h]
  · simp [h]
/-- what was told, as it lies -/
def toldA (n : Nat) (f : Nat → Bool) : Array Value := ((List.range n).map fun e => Value.bool (f e)).toArray
theorem toldA_size (n : Nat) (f : Nat → Bool) : (toldA n f).size = n := by simp [toldA]
theorem toldA_get (n : Nat) (f : Nat → Bool) (e : Nat) (h : e < n) : (toldA n f)[e]? = some (.bool (f e)) := by simp [toldA, h]
theorem toldA_set (n : Nat) (f f' : Nat → Bool) (e : Nat) (h : e < n) (h1 : f' e = true) (h2 : ∀ x, x ≠ e → f' x = f x) : (toldA n f).setIfInBounds e (.bool true) = toldA n f' := by
  apply Array.ext_getElem?
  intro i
  rw [Array.getElem?_setIfInBounds]
  by_cases hi : i < n
  · rw [toldA_get n f' i hi]
    split
    · next e1 => subst e1; rw [if_pos (by rw [toldA_size]; exact h), h1]
    · next e1 => rw [toldA_get n f i hi, h2 i (fun e => e1 e.symm)]
  · rw [Array.getElem?_eq_none (by rw [toldA_size]; omega), Array.getElem?_eq_none (by rw [toldA_size]; omega)]
    split
    · next e1 => subst e1; omega
    · rfl
theorem toldA_zero (n : Nat) : Array.replicate n (Value.bool false) = toldA n (fun _ => false) := by
  apply Array.ext_getElem?
  intro i
  by_cases hi : i < n
  · rw [toldA_get n _ i hi]; simp [hi]
  · rw [Array.getElem?_eq_none (by simp; omega), Array.getElem?_eq_none (by rw [toldA_size]; omega)]
end Go.Proofs.Ytdnablmlkkkdhaa
