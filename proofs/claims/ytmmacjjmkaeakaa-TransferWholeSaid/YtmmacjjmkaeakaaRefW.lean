/- The walks of the layer transfer: the document's receiver takes a piece. (Printed by gen28ref.py.) -/
import Derived.Test.YtmmacjjmkaeakaaTake
import Derived.BigQuiet
namespace Go.Proofs.Ytmmacjjmkaeakaa
open Go.RowKit
set_option linter.unusedVariables false
set_option linter.unusedSimpArgs false
variable {base q : Nat} {v : Value} {id total : Int} {ps : List ByteArray}
/-- append onto nil of a slice that lies wherever (nil too), as one step -/
theorem step_append_src {P : Program} {ops : Array Oper} {o : Oper} {a : Act} {w : World} {K : Act → World → Prop} {Q : Exit → Act → World → Prop} {E : Prop}
    (hg : o.guard = none) (x : Operand) (t : TypeId) (hop : o.op = Op.call { callee := Callee.builtin Builtin.append, args := #[.const (.slice none 0 0), x], argTypes := #[t, t] })
    (base : Nat) (e : TypeId) (i : TypeInfo) (z : Value) (size bytes : Nat) (ht : P.underlying t = some (.slice e)) (hi : P.info? e = some i) (hz : i.zero = some z)
    (hsize : i.size = size) (hby : i.bytes = bytes) (hzs : z.cells.size = size) (hsz : 0 < size)
    (ga : Option Addr) (m c : Nat) (news : List Value) (hx : a.eval x = .slice ga m c) (hl : news.length = m * size) (hn : ga = none → m = 0 ∧ c = 0) (hnews : ∀ ad, ga = some ad → ∀ j u, news[j]? = some u → w.cell? (ad.add j) = some u) (h1 : ∀ u ∈ news, u.oneCell' = true)
    (h63 : m ≤ maxLen) (hbytes : m * bytes ≤ 140737488355328) (hbase : base ≤ w.heap.size)
    (h : ∀ v' w', w'.ownsRow base e size v' m news → Upd w w' [] → K (a.put o.dst v') w') :
    if Region.wanted o (yielded ops a.tmps) = true then Oper.wp P o a w K Q else E := by
  cases ga with
  | none =>
    obtain ⟨rfl, rfl⟩ := hn rfl
    have hnil : news = [] := List.eq_nil_of_length_eq_zero (by simpa using hl)
    subst hnil
    have hw : Region.wanted o (yielded ops a.tmps) = true := by simp [Region.wanted, hg]
    rw [if_pos hw]
    have hrun := run_append_owned_none (P := P) (w := w) base t o.type e i size ht hi (.slice none 0 0) 0 [] (World.ownsRow_nil w base e size)
    have h2 := h _ w (World.ownsRow_nil w base e size) (Upd.refl _ _)
    have hs : a.eval (.const (.slice none 0 0)) = .slice none 0 0 := rfl
    unfold Oper.wp
    simp [execOp, hop, resolve, invoke, builtin, hs, hx, hrun, Result.andThen]
    exact h2
  | some ad =>
    refine step_append_own hg (.const (.slice none 0 0)) x t hop base e i z size bytes ht hi hz hsize hby hzs hsz (.slice none 0 0) 0 [] rfl (World.ownsRow_nil _ _ _ _) ad m c news hx hl (hnews ad rfl) h1 (by omega) (by rw [Nat.zero_add]; exact hbytes) hbase ?_
    intro v' w' hown hgr hnil
    rw [Nat.zero_add, List.nil_append] at hown
    exact h v' w' hown (Upd.of_grown hgr (by simp [Value.ownBlock]))
theorem Upd.own {W w1 w2 : World} {v1 : Value} {base k : Nat} {e : TypeId} {n : Nat} {xs : List Value} (u : Upd W w1 []) (hb : W.heap.size ≤ base) (hown : w1.ownsRow base e n v1 k xs) (hgr : w1.grownBy w2 v1.ownBlock) : Upd W w2 [] := by
  refine u.trans (Upd.of_grown (S := blkOf v1) hgr (by intro k hk _; simp [blkOf, hk])) fun i hi hl => ?_
  exfalso
  obtain ⟨_, ⟨rfl, _⟩ | ⟨g, cap, cur, rfl, hg, _⟩⟩ := hown
  · simp [blkOf, Value.ownBlock] at hi
  · simp [blkOf, Value.ownBlock] at hi; omega
theorem str_size (l : List ByteArray) : ∀ G ∈ strCells l, G.size = 1 := by intro G hG; simp [strCells] at hG; obtain ⟨a, _, rfl⟩ := hG; rfl
theorem str_one (l : List ByteArray) : ∀ G ∈ strCells l, ∀ u ∈ G, u.oneCell' = true := by intro G hG u hu; simp [strCells] at hG; obtain ⟨a, _, rfl⟩ := hG; simp at hu; subst hu; rfl
theorem str_one2 (l : List ByteArray) : ∀ u ∈ flat (strCells l), u.oneCell' = true := fun u hu => by
  obtain ⟨F, hF, hu⟩ := flat_mem hu
  exact str_one l F hF u hu
theorem RowOf.src2 {w : World} {base : Nat} {e : TypeId} {n k : Nat} {ga : Option Addr} {cap : Nat} {Fs : List (Array Value)} {ad : Addr} (h : RowOf w base e n (.slice ga k cap) Fs) (hg : ga = some ad) : ∀ j u, (flat Fs)[j]? = some u → w.cell? (ad.add j) = some u := by
  subst hg
  rcases h.slice with ⟨h1, _⟩ | ⟨g, cap', hv, _⟩
  · cases h1
  · injection hv with h1 _ _
    injection h1 with h1
    subst h1
    exact h.src
/-- the document's receiver: at q lie the Id, the total, and the list of the pieces -/
structure Rfv (w : World) (base q : Nat) (v : Value) (id total : Int) (ps : List ByteArray) : Prop where
  ge : base ≤ q
  head : Blk w q 29 #[.int .i64 id, .int .i64 total, v]
  row : RowOf w base 9 1 v (strCells ps)
section
variable {w w' : World} {S : List Nat}
theorem Rfv.upd (H : Rfv w base q v id total ps) (u : Upd w w' S) (h1 : q ∉ S) (h2 : ∀ g ∈ blkOf v, g ∉ S) : Rfv w' base q v id total ps := ⟨H.ge, u.blk H.head h1, H.row.upd u h2⟩
theorem Rfv.upd0 (H : Rfv w base q v id total ps) (u : Upd w w' []) : Rfv w' base q v id total ps := H.upd u (by simp) (by simp)
theorem Rfv.a0 (H : Rfv w base q v id total ps) : w.cell? ⟨q, 0, none⟩ = some (.int .i64 id) := by rw [H.head.cell]; rfl
theorem Rfv.a1 (H : Rfv w base q v id total ps) : w.cell? ⟨q, 1, none⟩ = some (.int .i64 total) := by rw [H.head.cell]; rfl
theorem Rfv.a2 (H : Rfv w base q v id total ps) : w.cell? ⟨q, 2, none⟩ = some v := by rw [H.head.cell]; rfl
theorem Rfv.form (H : Rfv w base q v id total ps) : ∃ ga c, v = .slice ga ps.length c ∧ (ga = none → ps.length = 0 ∧ c = 0) ∧ (0 < ps.length → ∃ g, ga = some ⟨g, 0, none⟩) := by
  rcases H.row.slice with ⟨rfl, h⟩ | ⟨g, cap, rfl, _⟩
  · have : ps.length = 0 := by rw [← strCells_len, h]; rfl
    exact ⟨none, 0, by rw [this], fun _ => ⟨this, rfl⟩, fun h => by omega⟩
  · exact ⟨some ⟨g, 0, none⟩, cap, by rw [strCells_len], fun h => (by cases h), fun _ => ⟨g, rfl⟩⟩
theorem Rfv.past (H : Rfv w base q v id total ps) : ∀ x, x < base → x ∉ [q] := fun x hx h => by
  have := H.ge
  simp at h
  omega
end
/-- what is there behind the append of a piece -/
theorem rtake_after {W1 w3 : World} {s : ByteArray} {v2 : Value} {b : Nat} (H : Rfv W1 base q v id total ps) (hb : base ≤ b) (k2 : Upd W1 w3 [])
    (hown : w3.ownsRow b 9 1 v2 (ps.length + 1) (flat (strCells ps) ++ [.string s])) :
    w3.frozen? ⟨q, 2, none⟩ = false ∧ (Rfv (w3.setCell ⟨q, 2, none⟩ v2) base q v2 id total (ps ++ [s]) ∧ Upd W1 (w3.setCell ⟨q, 2, none⟩ v2) [q]) := by
  have hd3 := k2.blk H.head (by simp)
  have R3 := str_push (str_size _) (str_one _) hown
  exact ⟨hd3.frozen 2, ⟨H.ge, (hd3.set_ 2 v2).congr (by simp), (R3.upd ((Upd.refl _ [q]).setCell (p := ⟨q, 2, none⟩) (by simp) _) (R3.ne hd3 (by decide))).mono hb⟩, (k2.mono (S' := [q]) (by simp)).setCell (by simp) _⟩
theorem keepD {W : World} {pb : Nat} {v : Value} {s : ByteArray} (h : W.cell? ⟨q, 2, none⟩ = some v ∧ W.cell? ⟨pb, 3, none⟩ = some (.string s)) :
    ∀ w', Upd W w' [] → w'.cell? ⟨q, 2, none⟩ = some v ∧ w'.cell? ⟨pb, 3, none⟩ = some (.string s) := fun w' u =>
  ⟨cell_upd h.1 u (by simp), cell_upd h.2 u (by simp)⟩
end Go.Proofs.Ytmmacjjmkaeakaa
