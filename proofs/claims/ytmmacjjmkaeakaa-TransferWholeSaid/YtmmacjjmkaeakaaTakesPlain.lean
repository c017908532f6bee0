/- TransferTakes: the plain facts on what a receiver has, and the pieces as they are read. -/
import Derived.Test.YtmmacjjmkaeakaaRef
import Derived.Test.YtmmacjjmkaeakaaRefT
namespace Go.Proofs.Ytmmacjjmkaeakaa
open Go.RowKit
set_option linter.unusedVariables false
set_option linter.unusedSimpArgs false
/-- what a receiver may have -/
structure Okr (id total : Int) (ps : List ByteArray) : Prop where
  form : (id = 0 ∧ total = 0 ∧ ps = []) ∨ (1 ≤ id ∧ 1 ≤ total ∧ total ≤ 4096 ∧ (ps.length : Int) ≤ total)
  small : ∀ s ∈ ps, s.size ≤ 512
theorem Okr.zero : Okr 0 0 [] := ⟨.inl ⟨rfl, rfl, rfl⟩, fun s h => by simp at h⟩
theorem Okr.few {id total : Int} {ps : List ByteArray} (h : Okr id total ps) : ps.length ≤ 4096 := by
  rcases h.form with ⟨_, _, rfl⟩ | ⟨_, _, _, _⟩
  · simp
  · omega
theorem fits_facts {id total : Int} {p : Pc} (h : fitsB id total p = true) : id ≤ p.id ∧ 1 ≤ p.id ∧ 1 ≤ p.total ∧ p.total ≤ 4096 ∧ 0 ≤ p.at_ ∧ p.at_ < p.total ∧ p.data.size ≤ 512 ∧ (p.id = id → p.total = total) := by
  simp [fitsB] at h
  refine ⟨by omega, by omega, by omega, by omega, by omega, by omega, by omega, fun e => ?_⟩
  rcases h.2 with h | h
  · exact absurd e h
  · exact h
theorem Okr.take {id total : Int} {ps : List ByteArray} (h : Okr id total ps) (p : Pc) : Okr (takeId id total p) (takeTotal id total p) (takePs id total ps p) := by
  cases hf : fitsB id total p with
  | false => simpa [takeId, takeTotal, takePs, takeOld, hf] using h
  | true =>
    obtain ⟨f1, f2, f3, f4, f5, f6, f7, f8⟩ := fits_facts hf
    by_cases hid : id < p.id
    · rw [show takeId id total p = p.id by simp [takeId, hf, hid], show takeTotal id total p = p.total by simp [takeTotal, hf, hid]]
      by_cases ha : p.at_ = 0
      · rw [show takePs id total ps p = [p.data] by simp [takePs, takeOld, hf, hid, ha]]
        exact ⟨.inr ⟨by omega, by omega, by omega, by simp; omega⟩, fun s hs => by simp at hs; subst hs; exact f7⟩
      · rw [show takePs id total ps p = [] by simp [takePs, takeOld, hf, hid, ha]]
        exact ⟨.inr ⟨by omega, by omega, by omega, by simp; omega⟩, fun s hs => by simp at hs⟩
    · rw [show takeId id total p = id by simp [takeId, hid], show takeTotal id total p = total by simp [takeTotal, hid]]
      have e : p.id = id := by omega
      have et := f8 e
      by_cases ha : p.at_ = (ps.length : Int)
      · rw [show takePs id total ps p = ps ++ [p.data] by simp [takePs, takeOld, hf, hid, ha]]
        refine ⟨.inr ⟨by omega, by omega, by omega, by simp; omega⟩, fun s hs => ?_⟩
        rcases List.mem_append.1 hs with hs | hs
        · exact h.small s hs
        · simp at hs; subst hs; exact f7
      · rw [show takePs id total ps p = ps by simp [takePs, takeOld, hf, hid, ha]]
        exact h
theorem Okr.text {id total : Int} {ps : List ByteArray} (h : Okr id total ps) : rtextB total ps = textB id total ps := by
  rcases h.form with ⟨rfl, rfl, rfl⟩ | ⟨h1, h2, h3, h4⟩
  · rfl
  · have a : decide (total = 0) = false := by simp; omega
    have b : decide (id = 0) = false := by simp; omega
    simp only [rtextB, textB, a, b, Bool.false_or]
    congr 1
    by_cases hl : (ps.length : Int) < total
    · simp [hl]; omega
    · simp [hl]; omega
theorem Okr.texts {id total : Int} {ps : List ByteArray} (h : Okr id total ps) : rtextS total ps = textS id total ps := by
  simp only [rtextS, textS, h.text]
theorem sum_small : ∀ ps : List ByteArray, (∀ s ∈ ps, s.size ≤ 512) → (ps.map (·.size)).sum ≤ 512 * ps.length
  | [], _ => by simp
  | a :: l, h => by
    have := sum_small l (fun s hs => h s (List.mem_cons_of_mem _ hs))
    have := h a List.mem_cons_self
    simp only [List.map_cons, List.sum_cons, List.length_cons]
    omega
theorem Okr.size {id total : Int} {ps : List ByteArray} (h : Okr id total ps) : (joinT ps).size ≤ 100000000 := by
  rw [joinT_size]
  have := sum_small ps h.small
  have := h.few
  omega
theorem Okr.join {id total : Int} {ps : List ByteArray} (h : Okr id total ps) : (Lib.join (ps.map (·.data.toList)) ((⟨#[]⟩ : ByteArray).data.toList)).length ≤ 140737488355328 := by
  have := h.size
  have e : (joinT ps).size = (Lib.join (ps.map (·.data.toList)) ((⟨#[]⟩ : ByteArray).data.toList)).length := by
    show (joinT ps).data.size = _
    rw [← Array.length_toList]
    rfl
  omega
/-- at b, off lie the pieces, in a row -/
def Pcs (w : World) (b off : Nat) (xs : List Pc) : Prop := ∀ i (h : i < xs.length), ∀ j, j < 4 → w.cell? ⟨b, off + i * 4 + j, none⟩ = xs[i].cells[j]?
theorem cell_upd2 {w w' : World} {a : Addr} (v : Option Value) (hv : v ≠ none) (h : w.cell? a = v) (u : Upd w w' []) : w'.cell? a = v := by
  cases v with
  | none => exact absurd rfl hv
  | some v => exact cell_upd h u (by simp)
theorem Pcs.upd {w w' : World} {b off : Nat} {xs : List Pc} (h : Pcs w b off xs) (u : Upd w w' []) : Pcs w' b off xs := fun i hi j hj => by
  refine cell_upd2 _ ?_ (h i hi j hj) u
  match j, hj with
  | 0, _ => simp
  | 1, _ => simp
  | 2, _ => simp
  | 3, _ => simp
theorem Pcs.at0 {w : World} {b off : Nat} {xs : List Pc} (h : Pcs w b off xs) (i : Nat) (hi : i < xs.length) : w.cell? ⟨b, off + i * 4, none⟩ = some (.int .i64 xs[i].id) := h i hi 0 (by decide)
theorem Pcs.at1 {w : World} {b off : Nat} {xs : List Pc} (h : Pcs w b off xs) (i : Nat) (hi : i < xs.length) : w.cell? ⟨b, off + i * 4 + 1, none⟩ = some (.int .i64 xs[i].at_) := h i hi 1 (by decide)
theorem Pcs.at2 {w : World} {b off : Nat} {xs : List Pc} (h : Pcs w b off xs) (i : Nat) (hi : i < xs.length) : w.cell? ⟨b, off + i * 4 + 2, none⟩ = some (.int .i64 xs[i].total) := h i hi 2 (by decide)
theorem Pcs.at3 {w : World} {b off : Nat} {xs : List Pc} (h : Pcs w b off xs) (i : Nat) (hi : i < xs.length) : w.cell? ⟨b, off + i * 4 + 3, none⟩ = some (.string xs[i].data) := h i hi 3 (by decide)
end Go.Proofs.Ytmmacjjmkaeakaa
