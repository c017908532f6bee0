/- Words of the layer transfer: pieces, and what a receiver has. -/
import Derived.Test.YtmmacjjmkaeakaaDev
namespace Go.Proofs.Ytmmacjjmkaeakaa
open Go.RowKit
set_option linter.unusedVariables false
structure Pc where
  id : Int
  at_ : Int
  total : Int
  data : ByteArray
abbrev Pc.cells (p : Pc) : Array Value := #[.int .i64 p.id, .int .i64 p.at_, .int .i64 p.total, .string p.data]
def strCells (l : List ByteArray) : List (Array Value) := l.map fun s => #[.string s]
theorem strCells_len (l : List ByteArray) : (strCells l).length = l.length := by simp [strCells]
theorem info9 : (Try.prog.info? 9).map (fun i => (i.zero, i.size, i.bytes)) = some (some (.string ⟨#[]⟩), 1, 16) := by kernel_rfl
theorem RowOf.form {w : World} {base : Nat} {e : TypeId} {n : Nat} {v : Value} {Fs : List (Array Value)} (h : RowOf w base e n v Fs) : ∃ ga cap, v = .slice ga Fs.length cap ∧ (0 < Fs.length → ∃ g, ga = some ⟨g, 0, none⟩) := by
  rcases h.slice with ⟨rfl, rfl⟩ | ⟨g, cap, rfl, _⟩
  · exact ⟨none, 0, rfl, fun h => absurd h (by simp)⟩
  · exact ⟨_, cap, rfl, fun _ => ⟨g, rfl⟩⟩
theorem RowOf.ne {w : World} {b : Nat} {e t : TypeId} {n r : Nat} {v : Value} {Fs : List (Array Value)} {cs : Array Value} (h : RowOf w b e n v Fs) (hb : Blk w r t cs) (hne : t ≠ e) : ∀ g ∈ blkOf v, g ∉ [r] := by
  intro g hg hm
  rw [List.mem_singleton] at hm
  subst hm
  rcases h.slice with ⟨rfl, _⟩ | ⟨g', c, rfl, _, _, cur, hc, _⟩
  · simp [blkOf, Value.ownBlock] at hg
  · simp [blkOf, Value.ownBlock] at hg
    subst hg
    exact hb.ne_ hc hne rfl
theorem RowOf.lt_ {w : World} {b : Nat} {e : TypeId} {n : Nat} {v : Value} {Fs : List (Array Value)} (h : RowOf w b e n v Fs) : ∀ g ∈ blkOf v, g < w.heap.size := by
  intro x hx
  rcases h.slice with ⟨rfl, _⟩ | ⟨g, cap, rfl, hg, _, cur, hb, _⟩
  · simp [blkOf, Value.ownBlock] at hx
  · simp [blkOf, Value.ownBlock] at hx; subst hx; exact hb.lt
theorem RowOf.ge {w : World} {b : Nat} {e : TypeId} {n : Nat} {v : Value} {Fs : List (Array Value)} (h : RowOf w b e n v Fs) : ∀ g ∈ blkOf v, b ≤ g := by
  intro x hx
  rcases h.slice with ⟨rfl, _⟩ | ⟨g, cap, rfl, hg, _⟩
  · simp [blkOf, Value.ownBlock] at hx
  · simp [blkOf, Value.ownBlock] at hx; omega
theorem own_slice {w : World} {base : Nat} {e : TypeId} {k n : Nat} {v : Value} {xs : List Value} (h : w.ownsRow base e k v n xs) : ∃ a c, v = .slice a n c := by
  obtain ⟨_, ⟨rfl, rfl, _⟩ | ⟨g, cap, cur, rfl, _⟩⟩ := h
  · exact ⟨_, _, rfl⟩
  · exact ⟨_, _, rfl⟩
theorem news_at {W : World} {k : Nat} {t : TypeId} {R : Array Value} (B : Blk W k t R) : ∀ j u, R.toList[j]? = some u → W.cell? ((⟨k, 0, none⟩ : Addr).add j) = some u := fun j u hu => by
  rw [Addr.add_mid, Nat.zero_add, B.cell, ← Array.getElem?_toList]; exact hu
/-- a receiver: of which transfer, of how many, and the pieces that are there (v their slice) -/
structure Rcv (w : World) (base r : Nat) (v : Value) (id total : Int) (ps : List ByteArray) : Prop where
  ge : base ≤ r
  head : Blk w r 66 #[.bool true, .int .i64 id, .int .i64 total, v]
  row : RowOf w base 9 1 v (strCells ps)
section
variable {w w' : World} {base r : Nat} {v : Value} {id total : Int} {ps : List ByteArray} {S : List Nat}
theorem Rcv.upd (H : Rcv w base r v id total ps) (u : Upd w w' S) (h1 : r ∉ S) (h2 : ∀ g ∈ blkOf v, g ∉ S) : Rcv w' base r v id total ps := ⟨H.ge, u.blk H.head h1, H.row.upd u h2⟩
theorem Rcv.upd0 (H : Rcv w base r v id total ps) (u : Upd w w' []) : Rcv w' base r v id total ps := H.upd u (by simp) (by simp)
theorem Rcv.a0 (H : Rcv w base r v id total ps) : w.cell? ⟨r, 0, none⟩ = some (.bool true) := by rw [H.head.cell]; rfl
theorem Rcv.a1 (H : Rcv w base r v id total ps) : w.cell? ⟨r, 1, none⟩ = some (.int .i64 id) := by rw [H.head.cell]; rfl
theorem Rcv.a2 (H : Rcv w base r v id total ps) : w.cell? ⟨r, 2, none⟩ = some (.int .i64 total) := by rw [H.head.cell]; rfl
theorem Rcv.a3 (H : Rcv w base r v id total ps) : w.cell? ⟨r, 3, none⟩ = some v := by rw [H.head.cell]; rfl
theorem Rcv.form (H : Rcv w base r v id total ps) : ∃ ga c, v = .slice ga ps.length c ∧ (0 < ps.length → ∃ g, ga = some ⟨g, 0, none⟩) := by
  have := H.row.form
  rwa [strCells_len] at this
end
end Go.Proofs.Ytmmacjjmkaeakaa
