/- A sender and a receiver beside each other; the pieces of a text, joined, are the text. -/
import Derived.Test.YtmmacjjmkaeakaaRefT
import Derived.Test.YtmmacjjmkaeakaaTakesPlain
import Derived.Test.YtmmacjjmkaeakaaGone
namespace Go.Proofs.Ytmmacjjmkaeakaa
open Go.RowKit
set_option linter.unusedVariables false
set_option linter.unusedSimpArgs false
theorem RowOf.blk {w : World} {b : Nat} {e : TypeId} {n : Nat} {v : Value} {Fs : List (Array Value)} (h : RowOf w b e n v Fs) : ∀ g ∈ blkOf v, ∃ cur, Blk w g e cur := by
  intro x hx
  rcases h.slice with ⟨rfl, _⟩ | ⟨g, cap, rfl, hg, _, cur, hb, _⟩
  · simp [blkOf, Value.ownBlock] at hx
  · simp [blkOf, Value.ownBlock] at hx; subst hx; exact ⟨cur, hb⟩
section
variable {w w' : World} {bs rs bb base r k size : Nat} {sv v : Value} {t : ByteArray} {sid win hv sent id total : Int} {ps : List ByteArray}
theorem Snd.upd_take (H : Snd w bs rs sv bb t size k sid win hv sent) (R : Rcv w base r v id total ps) (u : Upd w w' (r :: blkOf v)) : Snd w' bs rs sv bb t size k sid win hv sent := by
  refine H.upd u ?_ ?_ ?_
  · intro h
    rcases List.mem_cons.1 h with h | h
    · exact H.head.ne_ R.head (by decide) h
    · obtain ⟨c, hc⟩ := R.row.blk _ h
      exact H.head.ne_ hc (by decide) rfl
  · intro g hg h
    obtain ⟨c, hc⟩ := H.row.blk g hg
    rcases List.mem_cons.1 h with h | h
    · exact hc.ne_ R.head (by decide) h
    · obtain ⟨c2, hc2⟩ := R.row.blk _ h
      exact hc.ne_ hc2 (by decide) rfl
  · intro h
    rcases List.mem_cons.1 h with h | h
    · exact H.mem.ne R.head (by decide) h
    · obtain ⟨c2, hc2⟩ := R.row.blk _ h
      exact H.mem.ne hc2 (by decide) rfl
theorem Rcv.upd_snd (R : Rcv w base r v id total ps) (H : Snd w bs rs sv bb t size k sid win hv sent) (u : Upd w w' [rs]) : Rcv w' base r v id total ps :=
  R.upd u (by simpa using R.head.ne_ H.head (by decide)) (R.row.ne H.head (by decide))
theorem Blk.upd_take {g : Nat} {ty : TypeId} {cs : Array Value} (B : Blk w g ty cs) (R : Rcv w base r v id total ps) (h1 : ty ≠ 66) (h2 : ty ≠ 9) (u : Upd w w' (r :: blkOf v)) : Blk w' g ty cs := by
  refine u.blk B ?_
  intro h
  rcases List.mem_cons.1 h with h | h
  · exact B.ne_ R.head h1 h
  · obtain ⟨c, hc⟩ := R.row.blk _ h
    exact B.ne_ hc h2 rfl
theorem Blk.upd_snd {g : Nat} {ty : TypeId} {cs : Array Value} (B : Blk w g ty cs) (H : Snd w bs rs sv bb t size k sid win hv sent) (h1 : ty ≠ 64) (u : Upd w w' [rs]) : Blk w' g ty cs :=
  u.blk B (by simpa using B.ne_ H.head h1)
end
/-- the first m pieces -/
def pcs (t : ByteArray) (size m : Nat) : List ByteArray := (List.range m).map (cutB t size)
theorem pcs_len (t : ByteArray) (size m : Nat) : (pcs t size m).length = m := by simp [pcs]
theorem pcs_succ (t : ByteArray) (size m : Nat) : pcs t size (m + 1) = pcs t size m ++ [cutB t size m] := by simp [pcs, List.range_succ]
theorem cut_size (t : ByteArray) (size i : Nat) : (cutB t size i).size ≤ size := by
  show (List.toArray _).size ≤ size
  simp only [List.size_toArray, List.length_take, List.length_drop]
  unfold cutHi
  omega
theorem join_pcs (t : ByteArray) (size : Nat) : ∀ m, (joinT (pcs t size m)).data.toList = t.data.toList.take (m * size)
  | 0 => by simp [pcs, joinT_nil]
  | m + 1 => by
    have ih := join_pcs t size m
    rw [pcs_succ, joinT_push]
    show (joinT (pcs t size m) ++ cutB t size m).data.toList = _
    rw [ByteArray.data_append, Array.toList_append, ih, Nat.succ_mul, List.take_add]
    congr 1
    show (t.data.toList.drop (m * size)).take (cutHi size t.size m - m * size) = _
    have hl : t.data.toList.length = t.size := Array.length_toList
    by_cases h : cutHi size t.size m - m * size = size
    · rw [h]
    · have h2 : (t.data.toList.drop (m * size)).length ≤ cutHi size t.size m - m * size := by
        rw [List.length_drop, hl]
        unfold cutHi at h ⊢
        omega
      have h3 : (t.data.toList.drop (m * size)).length ≤ size := by
        rw [List.length_drop, hl]
        unfold cutHi at h
        omega
      rw [List.take_of_length_le h2, List.take_of_length_le h3]
theorem join_all {t : ByteArray} {size k : Nat} (hc : Cut t.size size k) : joinT (pcs t size k) = t := by
  apply bytes_ext
  rw [join_pcs, List.take_of_length_le]
  have hl : t.data.toList.length = t.size := Array.length_toList
  rw [hl]
  exact hc.2.1
theorem pcs_small (t : ByteArray) (size m : Nat) (h : size ≤ 512) : ∀ s ∈ pcs t size m, s.size ≤ 512 := fun s hs => by
  obtain ⟨i, _, rfl⟩ := List.mem_map.1 hs
  exact Nat.le_trans (cut_size t size i) h
/-- what a receiver has of the transfer sid, when m pieces of it are there -/
def Has (sid : Int) (t : ByteArray) (size k m : Nat) (id total : Int) (ps : List ByteArray) : Prop := (m = 0 ∧ id < sid) ∨ (0 < m ∧ id = sid ∧ total = (k : Int) ∧ ps = pcs t size m)
/-- the next piece is taken -/
theorem Has.next {sid : Int} {t : ByteArray} {size k m : Nat} {id total : Int} {ps : List ByteArray} (h : Has sid t size k m id total ps) (h1 : 1 ≤ sid) (hs : size ≤ 512) (hk : k ≤ 4096) (hm : m < k) :
    takeId id total ⟨sid, m, k, cutB t size m⟩ = sid ∧ (takePs id total ps ⟨sid, m, k, cutB t size m⟩).length = m + 1 ∧ Has sid t size k (m + 1) (takeId id total ⟨sid, m, k, cutB t size m⟩) (takeTotal id total ⟨sid, m, k, cutB t size m⟩) (takePs id total ps ⟨sid, m, k, cutB t size m⟩) := by
  have hd := cut_size t size m
  rcases h with ⟨rfl, hid⟩ | ⟨h0, rfl, rfl, rfl⟩
  · show takeId id total ⟨sid, (0 : Int), k, cutB t size 0⟩ = sid ∧ (takePs id total ps ⟨sid, (0 : Int), k, cutB t size 0⟩).length = 1 ∧ Has sid t size k 1 (takeId id total ⟨sid, (0 : Int), k, cutB t size 0⟩) (takeTotal id total ⟨sid, (0 : Int), k, cutB t size 0⟩) (takePs id total ps ⟨sid, (0 : Int), k, cutB t size 0⟩)
    have hf : fitsB id total ⟨sid, (0 : Int), k, cutB t size 0⟩ = true := by
      simp [fitsB]
      refine ⟨?_, Or.inl (by omega)⟩
      omega
    rw [show takeId id total ⟨sid, (0 : Int), k, cutB t size 0⟩ = sid by simp [takeId, hf, hid], show takeTotal id total ⟨sid, (0 : Int), k, cutB t size 0⟩ = k by simp [takeTotal, hf, hid],
      show takePs id total ps ⟨sid, (0 : Int), k, cutB t size 0⟩ = [cutB t size 0] by simp [takePs, takeOld, hf, hid]]
    exact ⟨rfl, rfl, .inr ⟨by omega, rfl, rfl, rfl⟩⟩
  · have hf : fitsB id k ⟨id, (m : Nat), k, cutB t size m⟩ = true := by
      simp [fitsB]
      omega
    rw [show takeId id k ⟨id, (m : Nat), k, cutB t size m⟩ = id by simp [takeId], show takeTotal id k ⟨id, (m : Nat), k, cutB t size m⟩ = k by simp [takeTotal],
      show takePs id k (pcs t size m) ⟨id, (m : Nat), k, cutB t size m⟩ = pcs t size (m + 1) by simp [takePs, takeOld, hf, pcs_len, pcs_succ]]
    exact ⟨rfl, pcs_len _ _ _, .inr ⟨by omega, rfl, rfl, rfl⟩⟩
/-- all is there: the text -/
theorem Has.all {sid : Int} {t : ByteArray} {size k : Nat} {id total : Int} {ps : List ByteArray} (h : Has sid t size k k id total ps) (h1 : 1 ≤ sid) (hc : Cut t.size size k) : textB id total ps = true ∧ textS id total ps = t := by
  have := hc.1
  rcases h with ⟨h0, _⟩ | ⟨_, rfl, rfl, rfl⟩
  · omega
  · have hb : textB id k (pcs t size k) = true := by
      simp [textB, pcs_len]
      omega
    exact ⟨hb, by rw [textS, if_pos hb, join_all hc]⟩
end Go.Proofs.Ytmmacjjmkaeakaa
