/- Acts of the layer reads. -/
import Derived.Test.YtdnablmlkkkdhaaWaited
namespace Go.Proofs.Ytdnablmlkkkdhaa
open Go.RowKit
set_option linter.unusedVariables false
/-- F is the cells of a frame of which d is looked at; it has m members -/
structure FitM (F : Array Value) (d : Fd) (m : Nat) : Prop where
  size : F.size = 29
  one : ∀ u ∈ F, u.oneCell' = true
  c0 : F[0]? = some (.int .i64 d.kind)
  c1 : F[1]? = some (.int .i64 d.epoch)
  c2 : F[2]? = some (.int .i64 d.client)
  c3 : F[3]? = some (.int .i64 d.seq)
  c4 : F[4]? = some (.int .i64 d.try_)
  c5 : F[5]? = some (.int .i64 d.cls)
  c6 : F[6]? = some (.int .i64 d.dl)
  op : ∀ j, j < 4 → F[7 + j]? = d.op.cells[j]?
  mem : ∃ a c, F[24]? = some (.slice a m c)
theorem FitM.fit {F : Array Value} {d : Fd} (h : FitM F d 0) : Fit F d := ⟨h.size, h.one, h.c0, h.c1, h.c2, h.c3, h.c4, h.c5, h.c6, h.op, h.mem⟩
structure Ac where
  k : Int
  F : Array Value
  d : Fd
  m : Nat
  x : Res
  n : Int
def Ac.cells (a : Ac) : Array Value := ((#[.int .u8 a.k] ++ a.F) ++ a.x.cells) ++ #[.int .i64 a.n]
structure Ac.ok (a : Ac) : Prop where
  k0 : 0 ≤ a.k
  k1 : a.k ≤ 255
  fit : FitM a.F a.d a.m
theorem Ac.size {a : Ac} (h : a.ok) : a.cells.size = 35 := by simp [Ac.cells, h.fit.size]
theorem Ac.at0 (a : Ac) : a.cells[0]? = some (.int .u8 a.k) := by
  unfold Ac.cells
  rw [Array.getElem?_append_left (by simp; omega), Array.getElem?_append_left (by simp; omega), Array.getElem?_append_left (by simp)]; rfl
theorem Ac.atF {a : Ac} (h : a.ok) (j : Nat) (hj : j < 29) : a.cells[1 + j]? = a.F[j]? := by
  have h29 := h.fit.size
  unfold Ac.cells
  rw [Array.getElem?_append_left (by simp [h29]; omega), Array.getElem?_append_left (by simp [h29]; omega), Array.getElem?_append_right (by simp)]
  simp
theorem Ac.atX {a : Ac} (h : a.ok) (j : Nat) (hj : j < 4) : a.cells[30 + j]? = a.x.cells[j]? := by
  have h29 := h.fit.size
  unfold Ac.cells
  rw [Array.getElem?_append_left (by simp [h29]; omega), Array.getElem?_append_right (by simp [h29])]
  congr 1
  simp [h29]
theorem Ac.atN {a : Ac} (h : a.ok) : a.cells[34]? = some (.int .i64 a.n) := by
  have h29 := h.fit.size
  unfold Ac.cells
  rw [Array.getElem?_append_right (by simp [h29])]
  simp [h29]
theorem Ac.one {a : Ac} (h : a.ok) : a.cells.all (·.oneCell') = true := by
  rw [Array.all_eq_true_iff_forall_mem]
  intro u hu
  unfold Ac.cells at hu
  rw [Array.mem_append, Array.mem_append, Array.mem_append] at hu
  rcases hu with ((hu | hu) | hu) | hu
  · simp at hu; subst hu; rfl
  · exact h.fit.one u hu
  · simp only [Res.cells, List.mem_toArray] at hu
    simp at hu
    rcases hu with rfl | rfl | rfl | rfl <;> rfl
  · simp at hu; subst hu; rfl
/-- the acts, as they lie -/
def Acts (w : World) (b off : Nat) (xs : List Ac) : Prop := (∀ a ∈ xs, a.ok) ∧ ∀ i (h : i < xs.length), aggAt 35 w b (off + i * 35) = some xs[i].cells
theorem Acts.upd {w w' : World} {b off : Nat} {xs : List Ac} (h : Acts w b off xs) (u : Upd w w' []) : Acts w' b off xs := ⟨h.1, fun i hi => aggAt_upd (by decide) (h.2 i hi) u (by simp)⟩
def Ac.wide (a : Ac) : Prop := 200 < a.d.op.key.size ∨ 200 < a.d.op.val.size ∨ 200 < a.x.val.size ∨ 0 < a.m
instance (a : Ac) : Decidable a.wide := by unfold Ac.wide; infer_instance
def great (xs : List Ac) (most : Nat) : Bool := xs.any (fun x => decide x.wide) || decide (most < xs.length)
theorem great_few {xs : List Ac} {most : Nat} (h : great xs most = false) : xs.length ≤ most := by
  unfold great at h
  simp at h
  exact h.2
theorem great_fit {xs : List Ac} {most : Nat} (h : great xs most = false) (ok : ∀ a ∈ xs, a.ok) : ∀ a ∈ xs, Fit a.F a.d := fun a ha => by
  unfold great at h
  rw [Bool.or_eq_false_iff, List.any_eq_false] at h
  have hw : ¬ a.wide := by simpa using h.1 a ha
  have h0 : a.m = 0 := Nat.eq_zero_of_not_pos (fun h => hw (.inr (.inr (.inr h))))
  exact FitM.fit (h0 ▸ (ok a ha).fit)
theorem great_one (a : Ac) {m : Nat} (hm : 0 < m) : great [a] m = decide a.wide := by
  have : ¬ m < 1 := by omega
  simp [great, this]
/-- what lies in a block that holds an act -/
structure ActAt (W : World) (b o : Nat) (a : Ac) : Prop where
  f0 : W.cell? ⟨b, o, none⟩ = some (.int .u8 a.k)
  fF : aggAt 29 W b (o + 1) = some a.F
  fX : aggAt 4 W b (o + 30) = some a.x.cells
  fN : W.cell? ⟨b, o + 34, none⟩ = some (.int .i64 a.n)
  key : W.cell? ⟨b, o + 9, none⟩ = some (.string a.d.op.key)
  val : W.cell? ⟨b, o + 10, none⟩ = some (.string a.d.op.val)
  xval : W.cell? ⟨b, o + 31, none⟩ = some (.string a.x.val)
  mem : ∃ ad c, W.cell? ⟨b, o + 25, none⟩ = some (.slice ad a.m c)
  dl : W.cell? ⟨b, o + 7, none⟩ = some (.int .i64 a.d.dl)
theorem act_at {W : World} {b o : Nat} {a : Ac} (h : a.ok) (q : aggAt 35 W b o = some a.cells) : ActAt W b o a := by
  have at_ : ∀ j v, j < 29 → a.F[j]? = some v → W.cell? ⟨b, o + (1 + j), none⟩ = some v := fun j v hj hv => by
    rw [aggAt_cell q (1 + j) (by omega), Ac.atF h j hj, hv]
  refine ⟨?_, aggAt_part q (by decide) h.fit.size (fun j hj => Ac.atF h j hj), aggAt_part q (by decide) rfl (fun j hj => Ac.atX h j hj), ?_, ?_, ?_, ?_, ?_, ?_⟩
  · have := aggAt_cell q 0 (by decide); rw [Ac.at0] at this; exact this
  · rw [aggAt_cell q 34 (by decide), Ac.atN h]
  · exact at_ 8 _ (by decide) ((h.fit.op 1 (by decide)).trans rfl)
  · exact at_ 9 _ (by decide) ((h.fit.op 2 (by decide)).trans rfl)
  · rw [aggAt_cell q 31 (by decide)]; exact (Ac.atX h 1 (by decide)).trans rfl
  · obtain ⟨ad, c, hm⟩ := h.fit.mem
    exact ⟨ad, c, at_ 24 _ (by decide) hm⟩
  · exact at_ 6 _ (by decide) h.fit.c6
end Go.Proofs.Ytdnablmlkkkdhaa
