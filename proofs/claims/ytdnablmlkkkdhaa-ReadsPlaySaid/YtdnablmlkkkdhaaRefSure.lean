/- The walks of the document's reads: Sure. -/
import Derived.Test.YtdnablmlkkkdhaaRefPut
namespace Go.Proofs.Ytdnablmlkkkdhaa
open Go.RowKit
set_option linter.unusedVariables false
attribute [-go_sem] loadVar storeVar sliced
attribute [local go_sem] loadVar_else storeVar_else run_load33 run_load35 run_load42 run_load44 run_load49 run_load72 run_store35 run_store42 run_store44 run_store49 aggAt_drew aggAt_drewN aggRoom_drew aggRoom_drewN
def slA (a : Option Addr) (l m s : Nat) : Option Addr := if m = l then a else a.map (·.add (l * s))
theorem sliced_eq (a : Option Addr) (l h m s : Nat) : sliced a l h m s = .slice (slA a l m s) (h - l) (m - l) := rfl
attribute [local go_sem] sliced_eq
variable {q : Nat} {v : Value} {cap n : Nat} {L : List Rd}
/-- what the document's Sure leaves -/
def RSure (w : World) (q cap n : Nat) (L : List Rd) (id : Int) (e : Ending) (w' : World) : Prop :=
  ∃ (k : Nat) (v1 v2 : Value), k ≤ L.length ∧ (∀ j (h : j < L.length), j < k → (L[j]).id ≤ id) ∧ (∀ h : k < L.length, id < (L[k]).id) ∧ e = .returned v1 ∧ RowAt w' 72 34 v1 (rdCells (L.take k)) ∧ Doc w' q v2 cap n (L.drop k) ∧ Upd w w' [q]
theorem rsure_end {w : World} (H : Doc w q v cap n L) {ga : Option Addr} {c k : Nat} (hv : v = .slice ga L.length c) (hk : k ≤ L.length) (id : Int) (h1 : ∀ j (h : j < L.length), j < k → (L[j]).id ≤ id) (h2 : ∀ h : k < L.length, id < (L[k]).id) :
    RSure w q cap n L id (.returned (.slice (slA ga 0 c 34) k c)) (w.setCell ⟨q, 1, none⟩ (.slice (slA ga k c 34) (L.length - k) (c - k))) := by
  subst hv
  have hr := H.row
  have hlen := rdCells_len L
  have u : Upd w (w.setCell ⟨q, 1, none⟩ (.slice (slA ga k c 34) (L.length - k) (c - k))) [q] := (Upd.refl _ _).setCell (p := ⟨q, 1, none⟩) (by simp) _
  have ho : OffT w 72 [q] := OffT.one H.head (by decide)
  rw [← hlen] at hr
  have r1 := (hr.take_ (k := k) (by omega)).upd u ho
  have r2 := (hr.drop_ (k := k) (by omega)).upd u ho
  refine ⟨k, _, _, hk, h1, h2, rfl, ?_, ⟨(H.head.set_ 1 _), ?_, fun x hx => H.ok x (List.mem_of_mem_drop hx)⟩, u⟩
  · have e1 : rdCells (L.take k) = (rdCells L).take k := by simp [rdCells, List.map_take]
    rw [e1]
    have e2 : slA ga 0 c 34 = (if c = 0 then ga else ga.map (·.add 0)) := by simp [slA]
    rw [e2]
    exact r1
  · have e1 : rdCells (L.drop k) = (rdCells L).drop k := by simp [rdCells, List.map_drop]
    rw [e1]
    have e2 : slA ga k c 34 = (if c = k then ga else ga.map (·.add (k * 34))) := rfl
    rw [e2]
    rw [hlen, e2] at r2
    exact r2
set_option maxHeartbeats 4000000 in
theorem rsure_ok (id : Int) (w : World) (H : Doc w q v cap n L) (h16 : L.length ≤ 16) : Calls Try.prog 16 #[.pointer (some ⟨q, 0, none⟩), .int .i64 id] w (RSure w q cap n L id) := by
  have hrow := hide H.row
  obtain ⟨ga, c, hv, hlc, hcm, hgn, hga⟩ := H.form
  have a1 := H.a1
  have f1 := H.head.frozen 1
  have hE := hide (fun (k : Nat) (hk : k ≤ L.length) (h1 : ∀ j (h : j < L.length), j < k → (L[j]).id ≤ id) (h2 : ∀ h : k < L.length, id < (L[k]).id) => rsure_end H hv hk id h1 h2)
  rw [hv] at a1 hrow
  clear H hv hgn
  unfold maxLen at hcm
  replace hga := hide hga
  go_enter Try.func16, Try.ntmps16
  go_wp2_with fail
  go_loopw [5] (fun vk wr => ∃ k : Nat, k ≤ L.length ∧ vk = .int .i64 k ∧ (∀ j (h : j < L.length), j < k → (L[j]).id ≤ id) ∧ wr = w) (fun vk _ => L.length - (intOf vk).toNat)
  case atStart => exact ⟨0, by omega, rfl, fun j _ h => absurd h (by omega), rfl⟩
  case round =>
    obtain ⟨k, hk, rfl, hid, rfl⟩ := hrel
    by_cases hlt : k < L.length
    · obtain ⟨g, off, rfl, _⟩ := hga.out (by omega)
      have A := hrow.out.rd k hlt
      have A0 := aggAt_cell A 0 (by decide)
      rw [Rd.at0] at A0
      have A0 : wr.cell? ⟨g, off + k * 34, none⟩ = some (.int .i64 (L[k]).id) := A0
      have hki : (k : Int) < L.length := by omega
      by_cases hle : (L[k]).id ≤ id
      · have hid2 := hide (show ∀ j (h : j < L.length), j < k + 1 → (L[j]).id ≤ id from fun j h hj => by
          by_cases e : j = k
          · subst e; exact hle
          · exact hid j h (by omega))
        clear hid A
        generalize (L[k]).id = z at *
        go_wp2_with fail
        go_roundw
        case rel => exact ⟨k + 1, by omega, by go_num, hid2.out, trivial⟩
        case measure => simp [intOf]; omega
      · have hF := hide (hE.out k hk hid (fun _ => by omega))
        clear hid A hE
        generalize (L[k]).id = z at *
        go_wp2_with fail
        go_ret
        exact hF.out
    · obtain rfl : k = L.length := by omega
      have hF := hide (hE.out L.length hk hid (fun h => by omega))
      clear hid hE
      go_wp2_with fail
      go_ret
      have hF' := hF.out
      rw [Nat.sub_self] at hF'
      exact hF'
end Go.Proofs.Ytdnablmlkkkdhaa
