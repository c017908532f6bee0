/- How structs and slices of structs among the arguments are read: cell by cell. No program in sight. -/
import Derived.Test.YtkopocbcldjjbaaBase
import Derived.ProofKit
import Derived.OpenShut
import Derived.ChangeOld
import Derived.Deep.Slices
namespace Go.Proofs.Ytkopocbcldjjbaa
open Go.ChangeShapes Go.WideShapes Go.ChangeAt Go.RowKit Go.Deep
open Go.ChangeMaps (open_string shut_string)
set_option linter.unusedVariables false
section
variable {H : Type} {enc : TypeId × Value → H} {P : Program} {w : World} {base : Nat} {spare : Nat → Bool} {held : Bool}
/-- a struct's field, as it is read -/
theorem fld {t : TypeId} {fs : Array Field} {fuel : Nat} {cs : List Value} {x : DataW H × List MemPlace} (he : P.underlying t = some (.struct fs)) (h : DataW.trod enc P w base spare held fuel t cs = some x)
    (i o n : Nat) (ft : TypeId) (hf : (fs[i]?).map (fun f => (f.offset, f.type)) = some (o, ft)) (hn : P.cellsOf ft = n) :
    ∃ m y, DataW.trod enc P w base spare held m ft ((cs.drop o).take n) = some y := by
  obtain ⟨ys, m, _, _, _, hyl, hg⟩ := DataW.trod_struct he h
  obtain ⟨f, hf1, hf2⟩ := Option.map_eq_some_iff.1 hf
  simp only [Prod.mk.injEq] at hf2
  have hi : i < fs.size := (Array.getElem?_eq_some_iff.1 hf1).1
  have := hg i f hf1
  rw [hf2.1, hf2.2, hn, List.getElem?_eq_getElem (by omega)] at this
  exact ⟨m, _, this⟩
theorem len_of_trod {t : TypeId} {fs : Array Field} {fuel : Nat} {cs : List Value} {x : DataW H × List MemPlace} (he : P.underlying t = some (.struct fs)) (h : DataW.trod enc P w base spare held fuel t cs = some x) :
    cs.length = P.cellsOf t := by
  obtain ⟨_, _, _, _, hl, _⟩ := DataW.trod_struct he h
  exact hl
theorem at_of_take {cs : List Value} {o n j : Nat} {v : Value} (h : ((cs.drop o).take n)[j]? = some v) : cs[o + j]? = some v := by
  rw [List.getElem?_take] at h
  split at h
  · rwa [List.getElem?_drop] at h
  · cases h
theorem fld_int {t : TypeId} {fs : Array Field} {fuel : Nat} {cs : List Value} {x : DataW H × List MemPlace} (he : P.underlying t = some (.struct fs)) (h : DataW.trod enc P w base spare held fuel t cs = some x)
    (i o : Nat) (ft : TypeId) (k : IntKind) (hf : (fs[i]?).map (fun f => (f.offset, f.type)) = some (o, ft)) (hn : P.cellsOf ft = 1) (hk : P.underlying ft = some (.int k)) :
    ∃ n, cs[o]? = some (.int k n) ∧ (Lit.int k n).wf = true := by
  obtain ⟨m, y, hy⟩ := fld he h i o 1 ft hf hn
  obtain ⟨n, hc, _, hw⟩ := DataW.trod_int hk hy
  exact ⟨n, at_of_take (j := 0) (by rw [hc]; rfl), hw⟩
theorem fld_bool {t : TypeId} {fs : Array Field} {fuel : Nat} {cs : List Value} {x : DataW H × List MemPlace} (he : P.underlying t = some (.struct fs)) (h : DataW.trod enc P w base spare held fuel t cs = some x)
    (i o : Nat) (ft : TypeId) (hf : (fs[i]?).map (fun f => (f.offset, f.type)) = some (o, ft)) (hn : P.cellsOf ft = 1) (hk : P.underlying ft = some .bool) :
    ∃ b, cs[o]? = some (.bool b) := by
  obtain ⟨m, y, hy⟩ := fld he h i o 1 ft hf hn
  obtain ⟨b, hc, _⟩ := DataW.trod_bool hk hy
  exact ⟨b, at_of_take (j := 0) (by rw [hc]; rfl)⟩
theorem fld_string {t : TypeId} {fs : Array Field} {fuel : Nat} {cs : List Value} {x : DataW H × List MemPlace} (he : P.underlying t = some (.struct fs)) (h : DataW.trod enc P w base spare held fuel t cs = some x)
    (i o : Nat) (ft : TypeId) (hf : (fs[i]?).map (fun f => (f.offset, f.type)) = some (o, ft)) (hn : P.cellsOf ft = 1) (hk : P.underlying ft = some .string) :
    ∃ s, cs[o]? = some (.string s) := by
  obtain ⟨m, y, hy⟩ := fld he h i o 1 ft hf hn
  obtain ⟨s, hc, _⟩ := DataW.trod_string hk hy
  exact ⟨s, at_of_take (j := 0) (by rw [hc]; rfl)⟩
theorem fld_in {t : TypeId} {fs : Array Field} {fuel : Nat} {cs : List Value} {x : DataW H × List MemPlace} (he : P.underlying t = some (.struct fs)) (h : DataW.trod enc P w base spare held fuel t cs = some x)
    (i o n : Nat) (ft : TypeId) (hf : (fs[i]?).map (fun f => (f.offset, f.type)) = some (o, ft)) (hn : P.cellsOf ft = n) :
    ∃ m y ds, DataW.trod enc P w base spare held m ft ds = some y ∧ ∀ (j : Nat) (v : Value), ds[j]? = some v → cs[o + j]? = some v := by
  obtain ⟨m, y, hy⟩ := fld he h i o n ft hf hn
  exact ⟨m, y, _, hy, fun j v hv => at_of_take hv⟩
/-- an array by value -/
theorem okWide_arr {t e : TypeId} {n : Nat} {r : Reach} {b0 : Nat} {v : Value} (ht : P.underlying t = some (.array n e)) (h : Value.okWide P w r b0 t v) : ∃ cs, v = .agg cs ∧ cs.size = P.cellsOf t := by
  simp only [Value.okWide, ht] at h
  obtain ⟨cs, h1, h2, _⟩ := h
  exact ⟨cs, h1, h2⟩
theorem elt_int {t e : TypeId} {n : Nat} {fuel : Nat} {cs : List Value} {x : DataW H × List MemPlace} (he : P.underlying t = some (.array n e)) (h : DataW.trod enc P w base spare held fuel t cs = some x)
    (k : IntKind) (hC : P.cellsOf e = 1) (hk : P.underlying e = some (.int k)) (i : Nat) (hi : i < n) : ∃ z, cs[i]? = some (.int k z) ∧ (Lit.int k z).wf = true := by
  obtain ⟨ys, m, _, _, _, hyl, hg⟩ := DataW.trod_array he h
  have := hg i hi
  rw [hC, List.getElem?_eq_getElem (by omega)] at this
  obtain ⟨z, hc, _, hw⟩ := DataW.trod_int hk this
  refine ⟨z, ?_, hw⟩
  have := at_of_take (cs := cs) (o := i * 1) (n := 1) (j := 0) (v := .int k z) (by rw [hc]; rfl)
  simpa using this
theorem arr_len {t e : TypeId} {n : Nat} {fuel : Nat} {cs : List Value} {x : DataW H × List MemPlace} (he : P.underlying t = some (.array n e)) (h : DataW.trod enc P w base spare held fuel t cs = some x) : cs.length = P.cellsOf t := by
  obtain ⟨_, _, _, _, hl, _⟩ := DataW.trod_array he h
  exact hl
/-- a list of two, known place by place -/
theorem two_of {cs : Array Value} {a b : Value} (hl : cs.toList.length = 2) (h0 : cs.toList[0]? = some a) (h1 : cs.toList[1]? = some b) : cs = #[a, b] := by
  apply Array.ext'
  apply List.ext_getElem?
  intro i
  match i with
  | 0 => exact h0
  | 1 => exact h1
  | i + 2 => rw [List.getElem?_eq_none (by omega)]; rfl
/-- a slice among the arguments: nil, or rows of cells that read as the element's type -/
theorem open_rows {t e : TypeId} {fuel : Nat} {a : Option Addr} {len cap C : Nat} {x : DataW H × List MemPlace} (ht : P.underlying t = some (.slice e)) (hC : P.cellsOf e = C) (hC0 : 0 < C)
    (h : DataW.trod enc P w base spare held fuel t [.slice a len cap] = some x) :
    (len ≤ cap ∧ cap ≤ maxLen) ∧ ∃ (b off : Nat) (row : Nat → List Value), (0 < len → a = some ⟨b, off, none⟩) ∧
      ∀ i, i < len → (row i).length = C ∧ (∀ j, j < C → w.cell? ⟨b, off + (i * C + j), none⟩ = (row i)[j]?) ∧ ∃ m y, DataW.trod enc P w base spare held m e (row i) = some y := by
  subst hC
  rcases open_slice ht h with ⟨hcs, _⟩ | ⟨ad, len', cap', m, n, D, Pl, hcs, hb, hl, hm, hmm, hx, hi⟩
  · simp only [List.cons.injEq, Value.slice.injEq, and_true] at hcs
    obtain ⟨rfl, rfl, rfl⟩ := hcs
    exact ⟨⟨Nat.le_refl _, by unfold maxLen; omega⟩, 0, 0, fun _ => [], fun h => absurd h (by omega), fun i h => absurd h (by omega)⟩
  · simp only [List.cons.injEq, Value.slice.injEq, and_true] at hcs
    obtain ⟨rfl, rfl, rfl⟩ := hcs
    have hml : len ≤ m := by rw [hmm]; split <;> omega
    have key : ∀ i (h : i < m), (Classical.choose (hi i h)).length = P.cellsOf e ∧ (∀ j, j < P.cellsOf e → w.cell? (ad.add (i * P.cellsOf e + j)) = (Classical.choose (hi i h))[j]?) ∧ DataW.trod enc P w base spare held n e (Classical.choose (hi i h)) = some (D i, Pl i) := by
      intro i him
      obtain ⟨hc, hr⟩ := Classical.choose_spec (hi i him)
      obtain ⟨_, hcl, hat⟩ := World.cells?_some hc
      refine ⟨hcl, fun j hj => ?_, hr⟩
      have e := hat j hj
      rw [Go.Deep.add_add] at e
      exact e
    refine ⟨⟨hl, hm⟩, ad.block, ad.off, fun i => if h : i < m then Classical.choose (hi i h) else [], fun h0 => ?_, fun i hil => ?_⟩
    · obtain ⟨k1, k2, _⟩ := key 0 (by omega)
      have k3 := k2 0 hC0
      rw [List.getElem?_eq_getElem (by omega)] at k3
      have k4 := World.cell?_spot k3
      simp only [Nat.zero_mul, Nat.add_zero, Addr.add, ↓reduceIte] at k4
      rw [← k4]
    · have him : i < m := by omega
      simp only [him, ↓reduceDIte]
      obtain ⟨k1, k2, k3⟩ := key i him
      have sp : ad.spot = none := by
        obtain ⟨q1, q2, _⟩ := key 0 (by omega)
        have q3 := q2 0 hC0
        rw [List.getElem?_eq_getElem (by omega)] at q3
        have q4 := World.cell?_spot q3
        simpa only [Nat.zero_mul, Nat.add_zero, Addr.add, ↓reduceIte] using q4
      refine ⟨k1, fun j hj => ?_, n, _, k3⟩
      rw [← k2 j hj]
      unfold Addr.add
      split
      · rename_i h0; rw [h0, Nat.add_zero, ← sp]
      · rfl
end
end Go.Proofs.Ytkopocbcldjjbaa
