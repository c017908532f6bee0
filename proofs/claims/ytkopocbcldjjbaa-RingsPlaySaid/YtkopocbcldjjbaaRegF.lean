/- A region that draws its order, whose last operation (number m) stores into a cell that the region reads: a condition S on the world that need not be shown behind that operation. After the kit's own 'wpAnyH' (Derived.OrdersHeld). No program in sight. -/
import Derived.Deep.RegionHeld3
import Derived.StillTail
import Derived.WalkKit
namespace Go.Proofs.Ytkopocbcldjjbaa
open Go.RowKit
set_option linter.unusedVariables false
section
variable {P : Program} {ops : Array Oper} {Q : Exit → Act → World → Prop} {md : Region.Mode} {m : Nat} {S : World → Prop}
/-- whatever order is picked, and S holds behind every operation but number m -/
def wpAnyF (P : Program) (md : Region.Mode) (ops : Array Oper) (Q : Exit → Act → World → Prop) (m : Nat) (S : World → Prop) : Nat → Array Bool → Act → World → Prop
  | 0, listed, a, w => Region.ready md ops listed = [] ∧ Q .normal a w
  | fuel + 1, listed, a, w =>
    (Region.ready md ops listed = [] → Q .normal a w) ∧
    ∀ i ∈ Region.ready md ops listed, wpOp P ops Q i (fun a' w' => (i = m ∨ S w') ∧ wpAnyF P md ops Q m S fuel (listed.setIfInBounds i true) a' w') a w
theorem wpAny_of_F : ∀ (fuel : Nat) (listed : Array Bool) (a : Act) (w : World), wpAnyF P md ops Q m S fuel listed a w → wpAny P md ops Q fuel listed a w
  | 0, _, _, _, h => h
  | fuel + 1, _, _, _, h => ⟨h.1, fun i hi => wpOp_mono (fun a' w' h' => wpAny_of_F fuel _ a' w' h'.2) (h.2 i hi)⟩
/-- x waits for the first of the path, that for the second, and so on, the last for i -/
def pathB (md : Region.Mode) (ops : Array Oper) (i : Nat) : Nat → List Nat → Bool
  | x, [] => Region.waitsFor md ops x i
  | x, y :: r => Region.waitsFor md ops x y && pathB md ops i y r
theorem waits_not {listed : Array Bool} {x y : Nat} (h : Region.waitsFor md ops x y = true) (hy : listed.getD y false = false) : x ∉ Region.ready md ops listed := by
  intro hx
  obtain ⟨oj, hoj, e, he, hb, hon⟩ := Region.waitsFor_spec h
  obtain ⟨_, oj', hoj', hall⟩ := mem_ready.1 hx
  rw [hoj] at hoj'
  cases hoj'
  have := hall e he hb
  rw [hon, hy] at this
  cases this
theorem path_not {listed : Array Bool} {i : Nat} (hi : listed.getD i false = false) : ∀ (path : List Nat) (x : Nat), pathB md ops i x path = true → (∀ y ∈ path, listed.getD y false = false) → x ∉ Region.ready md ops listed ∧ ∀ y ∈ path, y ∉ Region.ready md ops listed
  | [], x, h, _ => ⟨waits_not h hi, fun y hy => by cases hy⟩
  | y :: r, x, h, hu => by
    simp only [pathB, Bool.and_eq_true] at h
    have ih := path_not hi r y h.2 (fun z hz => hu z (List.mem_cons_of_mem _ hz))
    refine ⟨waits_not h.1 (hu y List.mem_cons_self), fun z hz => ?_⟩
    rcases List.mem_cons.1 hz with rfl | hz
    · exact ih.1
    · exact ih.2 z hz
theorem wpAnyF_first {i : Nat} {oi : Oper} {v : Value} (path : List Nat) (hi : ops[i]? = some oi) (hsel : ∀ (j : Nat) (o : Oper) cs b, ops[j]? = some o → o.op ≠ .select cs b)
    (hm : pathB md ops i m path = true) (hQ : ∀ c a w, Q (.panic c) (a.put oi.dst v) w → Q (.panic c) a w) :
    ∀ (fuel : Nat) (listed : Array Bool) (a : Act) (w : World), (∀ y ∈ path, listed.getD y false = false) →
      (∀ j oj, ops[j]? = some oj → j ≠ i → listed.getD j true = false → (∀ e ∈ oj.after, Region.binds md e = true → e.on ≠ i) → oi.apart ops oj = true) →
      i ∈ Region.ready md ops listed → YieldsIf P ops S oi v a → S w →
      wpAnyF P md ops Q m S fuel (listed.setIfInBounds i true) (a.put oi.dst v) w → wpAnyF P md ops Q m S (fuel + 1) listed a w := by
  intro fuel
  induction fuel with
  | zero =>
    intro listed a w _ _ hr hy hS H
    refine ⟨fun h => (by rw [h] at hr; cases hr), fun j hj => ?_⟩
    by_cases hji : j = i
    · subst hji; exact hy.wpOp hi hS ⟨.inr hS, H⟩
    · have := ready_mono hj hji
      rw [H.1] at this
      cases this
  | succ fuel ih =>
    intro listed a w hu hfree hr hy hS H
    refine ⟨fun h => (by rw [h] at hr; cases hr), fun j hj => ?_⟩
    by_cases hji : j = i
    · subst hji; exact hy.wpOp hi hS ⟨.inr hS, H⟩
    · have h1 := H.2 j (ready_mono hj hji)
      obtain ⟨hjun, oj, hoj, hall⟩ := mem_ready.1 hj
      have hi0 : listed.getD i false = false := by
        have h0 := (mem_ready.1 hr).1
        rcases Nat.lt_or_ge i listed.size with h' | h'
        · simp [h'] at h0 ⊢; exact h0
        · simp [Array.getElem?_eq_none h'] at h0
      have hnot : ∀ e ∈ oj.after, Region.binds md e = true → e.on ≠ i := fun e he hb heq => by
        have h1 := hall e he hb
        rw [heq, hi0] at h1
        cases h1
      obtain ⟨pm, pp⟩ := path_not hi0 path m hm hu
      have hjm : j ≠ m := fun h => pm (h ▸ hj)
      have h2 := wpOp_putIf hoj (hfree j oj hoj hji hjun hnot) (fun cs b => hsel i oi cs b hi) (fun cs b => hsel j oj cs b hoj) hQ hy h1
      have hu' : ∀ y ∈ path, (listed.setIfInBounds j true).getD y false = false := fun y hy' => by
        have hjy : j ≠ y := fun h => pp y hy' (h ▸ hj)
        rw [getD_set_ne false hjy]; exact hu y hy'
      have hfree' : ∀ k ok, ops[k]? = some ok → k ≠ i → (listed.setIfInBounds j true).getD k true = false →
          (∀ e ∈ ok.after, Region.binds md e = true → e.on ≠ i) → oi.apart ops ok = true := fun k ok hk hki hun hno => by
        refine hfree k ok hk hki ?_ hno
        by_cases hjk : j = k
        · subst hjk; exact hjun
        · rw [getD_set_ne true hjk] at hun; exact hun
      refine wpOp_mono (fun a' w' h3 => ?_) h2
      have hSw := h3.2.1.resolve_left hjm
      refine ⟨.inr hSw, ih (listed.setIfInBounds j true) a' w' hu' hfree' (ready_mono hr (Ne.symm hji)) h3.1 hSw ?_⟩
      rw [Array.setIfInBounds_comm _ _ hji]
      exact h3.2.2
/-- number i is taken first; the path leads from m down to it -/
theorem F_take {i : Nat} (path : List Nat) {oi : Oper} {v : Value} {fuel : Nat} {listed : Array Bool} {a : Act} {w : World} (hi : ops.toList[i]? = some oi)
    (hs : Region.noSelect ops = true) (hf : Region.free md ops listed i = true) (hr : (Region.ready md ops listed).contains i = true) (hm : (pathB md ops i m path && path.all fun y => !listed.getD y false) = true)
    (hQ : ∀ c a w, Q (.panic c) (a.put oi.dst v) w → Q (.panic c) a w) (hw : oi.guard = none) (hy : ∀ w, S w → (execOp a.eval oi).run P w = .ok (.value v) w) (hS : S w)
    (h : wpAnyF P md ops Q m S fuel (listed.setIfInBounds i true) (a.put oi.dst v) w) : wpAnyF P md ops Q m S (fuel + 1) listed a w := by
  have hi' : ops[i]? = some oi := by rw [← Array.getElem?_toList]; exact hi
  rw [Bool.and_eq_true, List.all_eq_true] at hm
  exact wpAnyF_first path hi' (Region.noSelect_spec hs) hm.1 hQ fuel listed a w (fun y hy => by simpa using hm.2 y hy) (Region.free_spec hi' hf) (by simpa using hr) (Or.inl ⟨by simp [Region.wanted, hw], hy⟩) hS h
/-- number i alone may come up: it is carried out -/
theorem F_step {i : Nat} {o : Oper} {fuel : Nat} {listed : Array Bool} {a : Act} {w : World} (hi : ops.toList[i]? = some o) (hr : Region.ready md ops listed = [i])
    (h : ∀ K' : Act → World → Prop, Shut (∀ a w, (i = m ∨ S w) → wpAnyF P md ops Q m S fuel (listed.setIfInBounds i true) a w → K' a w) → if Region.wanted o (yielded ops a.tmps) = true then Oper.wp P o a w K' Q else K' (a.put o.dst undef) w) :
    wpAnyF P md ops Q m S (fuel + 1) listed a w := by
  have hi' : ops[i]? = some o := by rw [← Array.getElem?_toList]; exact hi
  refine ⟨fun h0 => (by rw [hr] at h0; cases h0), fun j hj => ?_⟩
  rw [hr, List.mem_singleton] at hj
  subst hj
  exact wpOp_step hi' (fun K' hK => h K' (fun a w hS hW => hK a w ⟨hS, hW⟩))
/-- one of two may come up -/
theorem F_two {i j : Nat} {o o' : Oper} {fuel : Nat} {listed : Array Bool} {a : Act} {w : World} (hi : ops.toList[i]? = some o) (hj : ops.toList[j]? = some o') (hr : Region.ready md ops listed = [i, j])
    (h : ∀ K' : Act → World → Prop, Shut (∀ a w, (i = m ∨ S w) → wpAnyF P md ops Q m S fuel (listed.setIfInBounds i true) a w → K' a w) → if Region.wanted o (yielded ops a.tmps) = true then Oper.wp P o a w K' Q else K' (a.put o.dst undef) w)
    (h' : ∀ K' : Act → World → Prop, Shut (∀ a w, (j = m ∨ S w) → wpAnyF P md ops Q m S fuel (listed.setIfInBounds j true) a w → K' a w) → if Region.wanted o' (yielded ops a.tmps) = true then Oper.wp P o' a w K' Q else K' (a.put o'.dst undef) w) :
    wpAnyF P md ops Q m S (fuel + 1) listed a w := by
  have hi' : ops[i]? = some o := by rw [← Array.getElem?_toList]; exact hi
  have hj' : ops[j]? = some o' := by rw [← Array.getElem?_toList]; exact hj
  refine ⟨fun h0 => (by rw [hr] at h0; cases h0), fun k hk => ?_⟩
  rw [hr] at hk
  simp only [List.mem_cons, List.not_mem_nil, or_false] at hk
  rcases hk with rfl | rfl
  · exact wpOp_step hi' (fun K' hK => h K' (fun a w hS hW => hK a w ⟨hS, hW⟩))
  · exact wpOp_step hj' (fun K' hK => h' K' (fun a w hS hW => hK a w ⟨hS, hW⟩))
theorem F_done {listed : Array Bool} {a : Act} {w : World} (hr : Region.ready md ops listed = []) (h : Q .normal a w) : ∀ fuel, wpAnyF P md ops Q m S fuel listed a w
  | 0 => ⟨hr, h⟩
  | _ + 1 => ⟨fun _ => h, by rw [hr]; simp⟩
/-- the beginning -/
theorem F_start (m : Nat) (S : World → Prop) {id : Nat} {a : Act} {w : World} (hm : P.follows .mixedOrders = true)
    (h : wpAnyF P .any ops Q m S ops.size (Array.replicate ops.size false) a w.drew) : (Code.region id ops true).wp P Q a w :=
  wp_region_any hm (wpAny_of_F _ _ _ _ h)
/-- a call of a Go function by its contract, as one step of a region that draws its order -/
theorem step_call {o : Oper} {a : Act} {w : World} {K : Act → World → Prop} {E : Prop}
    (hg : o.guard = none) (f : FuncId) (vs : Array Value) (hrun : (execOp a.eval o).run P w = .ok (.enter f vs) w)
    (h : Calls P f vs w fun e w' => ∃ v, e = .returned v ∧ K (a.put o.dst v) w') : if Region.wanted o (yielded ops a.tmps) = true then Oper.wp P o a w K Q else E := by
  have hw : Region.wanted o (yielded ops a.tmps) = true := by simp [Region.wanted, hg]
  rw [if_pos hw]
  unfold Oper.wp
  rw [hrun, Oper.upon_enter]
  refine h.mono fun e w' hh => ?_
  obtain ⟨v, rfl, hk⟩ := hh
  exact hk
/-- an operation that yields, and what it leaves, as one step -/
theorem step_value {o : Oper} {a : Act} {w w' : World} {K : Act → World → Prop} {E : Prop}
    (hg : o.guard = none) (v : Value) (hrun : (execOp a.eval o).run P w = .ok (.value v) w')
    (h : K (a.put o.dst v) w') : if Region.wanted o (yielded ops a.tmps) = true then Oper.wp P o a w K Q else E := by
  have hw : Region.wanted o (yielded ops a.tmps) = true := by simp [Region.wanted, hg]
  rw [if_pos hw]
  unfold Oper.wp
  rw [hrun]
  exact h
end
end Go.Proofs.Ytkopocbcldjjbaa
