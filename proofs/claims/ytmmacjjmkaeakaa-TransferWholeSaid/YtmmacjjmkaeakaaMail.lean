/- TransferWhole: the pieces on their way, what was told back, and what a receiver has. -/
import Derived.Test.YtmmacjjmkaeakaaPair
import Derived.Test.YtmmacjjmkaeakaaDsn
namespace Go.Proofs.Ytmmacjjmkaeakaa
open Go.RowKit
set_option linter.unusedVariables false
set_option linter.unusedSimpArgs false
/-- each of these blocks is of one of these types -/
def Of (w : World) (Ts : List TypeId) (S : List Nat) : Prop := ∀ g ∈ S, ∃ ty ∈ Ts, ∃ cur, Blk w g ty cur
theorem Of.one {w : World} {g : Nat} {ty : TypeId} {cs : Array Value} (B : Blk w g ty cs) : Of w [ty] [g] := fun x hx => by
  simp at hx; subst hx; exact ⟨ty, by simp, cs, B⟩
theorem Of.row {w : World} {b : Nat} {e : TypeId} {n : Nat} {v : Value} {Fs : List (Array Value)} (h : RowOf w b e n v Fs) : Of w [e] (blkOf v) := fun x hx => by
  obtain ⟨c, hc⟩ := h.blk x hx; exact ⟨e, by simp, c, hc⟩
theorem Of.cons {w : World} {g : Nat} {ty : TypeId} {cs : Array Value} {Ts : List TypeId} {S : List Nat} (B : Blk w g ty cs) (h : Of w Ts S) : Of w (ty :: Ts) (g :: S) := fun x hx => by
  rcases List.mem_cons.1 hx with rfl | hx
  · exact ⟨ty, by simp, cs, B⟩
  · obtain ⟨a, b, c⟩ := h x hx; exact ⟨a, List.mem_cons_of_mem _ b, c⟩
section
variable {w w' : World} {Ts : List TypeId} {S : List Nat} {bs rs bb base r k size : Nat} {sv v : Value} {t : ByteArray} {sid win hv sent id total : Int} {ps : List ByteArray}
theorem Of.not (o : Of w Ts S) {g : Nat} {ty : TypeId} {cs : Array Value} (B : Blk w g ty cs) (h : ty ∉ Ts) : g ∉ S := fun hm => by
  obtain ⟨a, b, c, hc⟩ := o g hm
  by_cases e : ty = a
  · subst e; exact h b
  · exact B.ne_ hc e rfl
theorem Blk.updT {g : Nat} {ty : TypeId} {cs : Array Value} (B : Blk w g ty cs) (o : Of w Ts S) (u : Upd w w' S) (h : ty ∉ Ts) : Blk w' g ty cs := u.blk B (o.not B h)
theorem RowOf.updT {b : Nat} {e : TypeId} {n : Nat} {Fs : List (Array Value)} (R : RowOf w b e n v Fs) (o : Of w Ts S) (u : Upd w w' S) (h : e ∉ Ts) : RowOf w' b e n v Fs :=
  R.upd u fun g hg => by obtain ⟨c, hc⟩ := R.blk g hg; exact o.not hc h
theorem Snd.updT (H : Snd w bs rs sv bb t size k sid win hv sent) (o : Of w Ts S) (u : Upd w w' S) (h1 : 64 ∉ Ts) (h2 : 73 ∉ Ts) (h3 : 5 ∉ Ts) : Snd w' bs rs sv bb t size k sid win hv sent := by
  refine H.upd u (o.not H.head h1) (fun g hg => by obtain ⟨c, hc⟩ := H.row.blk g hg; exact o.not hc h2) fun hm => ?_
  obtain ⟨a, b, c, hc⟩ := o _ hm
  by_cases e : a = 5
  · subst e; exact h3 b
  · exact H.mem.ne hc e rfl
theorem Rcv.updT (R : Rcv w base r v id total ps) (o : Of w Ts S) (u : Upd w w' S) (h1 : 66 ∉ Ts) (h2 : 9 ∉ Ts) : Rcv w' base r v id total ps :=
  R.upd u (o.not R.head h1) fun g hg => by obtain ⟨c, hc⟩ := R.row.blk g hg; exact o.not hc h2
theorem Rcv.of (R : Rcv w base r v id total ps) : Of w [66, 9] (r :: blkOf v) := Of.cons R.head (Of.row R.row)
theorem Snd.of (H : Snd w bs rs sv bb t size k sid win hv sent) : Of w [64] [rs] := Of.one H.head
end
/-- piece a of the text -/
abbrev pcN (t : ByteArray) (size k a : Nat) : Pc := ⟨7, a, k, cutB t size a⟩
def mailC (t : ByteArray) (size k : Nat) (l : List Nat) : List (Array Value) := l.map fun a => (pcN t size k a).cells
def tellC (l : List Nat) : List (Array Value) := l.map fun (a : Nat) => #[.int .i64 (a : Int)]
theorem mail_len (t : ByteArray) (size k : Nat) (l : List Nat) : (mailC t size k l).length = l.length := by simp [mailC]
theorem tell_len (l : List Nat) : (tellC l).length = l.length := by simp [tellC]
theorem mail_size (t : ByteArray) (size k : Nat) (l : List Nat) : ∀ G ∈ mailC t size k l, G.size = 4 := by intro G hG; simp [mailC] at hG; obtain ⟨a, _, rfl⟩ := hG; rfl
theorem tell_size (l : List Nat) : ∀ G ∈ tellC l, G.size = 1 := by intro G hG; simp [tellC] at hG; obtain ⟨a, _, rfl⟩ := hG; rfl
theorem pc_one (p : Pc) : ∀ u ∈ p.cells, u.oneCell' = true := by
  intro u hu
  simp [Pc.cells] at hu
  rcases hu with rfl | rfl | rfl | rfl <;> rfl
theorem mail_one (t : ByteArray) (size k : Nat) (l : List Nat) : ∀ G ∈ mailC t size k l, ∀ u ∈ G, u.oneCell' = true := by intro G hG u hu; simp only [mailC, List.mem_map] at hG; obtain ⟨a, _, rfl⟩ := hG; exact pc_one _ u hu
theorem tell_one (l : List Nat) : ∀ G ∈ tellC l, ∀ u ∈ G, u.oneCell' = true := by intro G hG u hu; simp [tellC] at hG; obtain ⟨a, _, rfl⟩ := hG; simp at hu; subst hu; rfl
theorem mail_push {w : World} {b : Nat} {v : Value} {t : ByteArray} {size k : Nat} {l : List Nat} {a : Nat} (h : w.ownsRow b 31 4 v (l.length + 1) (flat (mailC t size k l) ++ (pcN t size k a).cells.toList)) : RowOf w b 31 4 v (mailC t size k (l ++ [a])) := by
  have := RowOf.push (F := (pcN t size k a).cells) (mail_size t size k l) (mail_one t size k l) rfl (pc_one _) (by rw [mail_len]; exact h)
  simpa [mailC] using this
theorem tell_push {w : World} {b : Nat} {v : Value} {l : List Nat} {a : Nat} (h : w.ownsRow b 3 1 v (l.length + 1) (flat (tellC l) ++ [.int .i64 (a : Int)])) : RowOf w b 3 1 v (tellC (l ++ [a])) := by
  have := RowOf.push (F := #[.int .i64 (a : Int)]) (tell_size l) (tell_one l) rfl (by intro u hu; simp at hu; subst hu; rfl) (by rw [tell_len]; exact h)
  simpa [tellC] using this
theorem info31 : (Try.prog.info? 31).map (fun i => (i.zero, i.size, i.bytes)) = some (some (.agg #[.int .i64 0, .int .i64 0, .int .i64 0, .string ⟨#[]⟩]), 4, 40) := by kernel_rfl
theorem info3 : (Try.prog.info? 3).map (fun i => (i.zero, i.size, i.bytes)) = some (some (.int .i64 0), 1, 8) := by kernel_rfl
theorem mail_form {w : World} {b : Nat} {v : Value} {t : ByteArray} {size k : Nat} {l : List Nat} (h : RowOf w b 31 4 v (mailC t size k l)) : ∃ ga c, v = .slice ga l.length c ∧ l.length ≤ c ∧ (ga = none → l.length = 0 ∧ c = 0) ∧ (0 < l.length → ∃ g, ga = some ⟨g, 0, none⟩) := by
  rcases h.slice with ⟨rfl, hz⟩ | ⟨g, cap, rfl, _, hc, _⟩
  · have : l.length = 0 := by rw [← mail_len t size k, hz]; rfl
    exact ⟨none, 0, by rw [this], by omega, fun _ => ⟨this, rfl⟩, fun h => by omega⟩
  · rw [mail_len] at hc
    exact ⟨some ⟨g, 0, none⟩, cap, by rw [mail_len], hc, fun h => (by cases h), fun _ => ⟨g, rfl⟩⟩
theorem tell_form {w : World} {b : Nat} {v : Value} {l : List Nat} (h : RowOf w b 3 1 v (tellC l)) : ∃ ga c, v = .slice ga l.length c ∧ (0 < l.length → ∃ g, ga = some ⟨g, 0, none⟩) := by
  rcases h.slice with ⟨rfl, hz⟩ | ⟨g, cap, rfl, _⟩
  · have : l.length = 0 := by rw [← tell_len, hz]; rfl
    exact ⟨none, 0, by rw [this], fun h => by omega⟩
  · exact ⟨some ⟨g, 0, none⟩, cap, by rw [tell_len], fun _ => ⟨g, rfl⟩⟩
/-- what a receiver has, when m pieces are there -/
def Got (t : ByteArray) (size k m : Nat) (id total : Int) (ps : List ByteArray) : Prop := (id = 0 ∧ total = 0 ∧ m = 0 ∧ ps = []) ∨ (id = 7 ∧ total = (k : Int) ∧ ps = pcs t size m)
theorem Got.len {t : ByteArray} {size k m : Nat} {id total : Int} {ps : List ByteArray} (h : Got t size k m id total ps) : ps.length = m := by
  rcases h with ⟨_, _, rfl, rfl⟩ | ⟨_, _, rfl⟩
  · rfl
  · exact pcs_len _ _ _
theorem Got.take {t : ByteArray} {size k m a : Nat} {id total : Int} {ps : List ByteArray} (h : Got t size k m id total ps) (hs : size ≤ 512) (hk : k ≤ 4096) (ha : a < k) :
    ∃ m' : Nat, takeId id total (pcN t size k a) = 7 ∧ (takePs id total ps (pcN t size k a)).length = m' ∧ Got t size k m' (takeId id total (pcN t size k a)) (takeTotal id total (pcN t size k a)) (takePs id total ps (pcN t size k a)) ∧ m ≤ m' ∧ m' ≤ m + 1 ∧ (m' = m + 1 → a = m) := by
  have hd := cut_size t size a
  rcases h with ⟨rfl, rfl, rfl, rfl⟩ | ⟨rfl, rfl, rfl⟩
  · have hf : fitsB 0 0 (pcN t size k a) = true := by simp [fitsB]; omega
    have e1 : takeId 0 0 (pcN t size k a) = 7 := by simp [takeId, hf]
    have e2 : takeTotal 0 0 (pcN t size k a) = k := by simp [takeTotal, hf]
    by_cases h0 : a = 0
    · subst h0
      have e3 : takePs 0 0 [] (pcN t size k 0) = [cutB t size 0] := by simp [takePs, takeOld, hf]
      rw [e1, e2, e3]
      exact ⟨1, rfl, rfl, .inr ⟨rfl, rfl, rfl⟩, by omega, by omega, fun _ => rfl⟩
    · have e3 : takePs 0 0 [] (pcN t size k a) = [] := by simp [takePs, takeOld, h0]
      rw [e1, e2, e3]
      exact ⟨0, rfl, rfl, .inr ⟨rfl, rfl, rfl⟩, by omega, by omega, fun h => by omega⟩
  · have hf : fitsB 7 k (pcN t size k a) = true := by simp [fitsB]; omega
    have e1 : takeId 7 k (pcN t size k a) = 7 := by simp [takeId]
    have e2 : takeTotal 7 k (pcN t size k a) = k := by simp [takeTotal]
    by_cases h0 : a = m
    · subst h0
      have e3 : takePs 7 k (pcs t size a) (pcN t size k a) = pcs t size (a + 1) := by simp [takePs, takeOld, hf, pcs_len, pcs_succ]
      rw [e1, e2, e3]
      exact ⟨a + 1, rfl, pcs_len _ _ _, .inr ⟨rfl, rfl, rfl⟩, by omega, by omega, fun _ => rfl⟩
    · have e3 : takePs 7 k (pcs t size m) (pcN t size k a) = pcs t size m := by simp [takePs, takeOld, pcs_len]; omega
      rw [e1, e2, e3]
      exact ⟨m, rfl, pcs_len _ _ _, .inr ⟨rfl, rfl, rfl⟩, by omega, by omega, fun h => by omega⟩
theorem Got.text {t : ByteArray} {size k m : Nat} {id total : Int} {ps : List ByteArray} (h : Got t size k m id total ps) (hc : Cut t.size size k) (hm : m ≤ k) : (textB id total ps = true ∧ textS id total ps = t ∧ m = k) ∨ (textB id total ps = false ∧ textS id total ps = ⟨#[]⟩ ∧ m < k) := by
  have := hc.1
  rcases h with ⟨rfl, rfl, rfl, rfl⟩ | ⟨rfl, rfl, rfl⟩
  · exact .inr ⟨rfl, rfl, by omega⟩
  · by_cases hk : m = k
    · subst hk
      have hb : textB 7 m (pcs t size m) = true := by simp [textB, pcs_len]
      exact .inl ⟨hb, by rw [textS, if_pos hb, join_all hc], rfl⟩
    · have hb : textB 7 k (pcs t size m) = false := by simp [textB, pcs_len]; omega
      exact .inr ⟨hb, by rw [textS, hb]; rfl, by omega⟩
theorem Got.ok {t : ByteArray} {size k m : Nat} {id total : Int} {ps : List ByteArray} (h : Got t size k m id total ps) (hs : size ≤ 512) (hk : k ≤ 4096) (hm : m ≤ k) (h0 : 1 ≤ k) : Okr id total ps := by
  rcases h with ⟨rfl, rfl, rfl, rfl⟩ | ⟨rfl, rfl, rfl⟩
  · exact Okr.zero
  · exact ⟨.inr ⟨by omega, by omega, by omega, by rw [pcs_len]; omega⟩, pcs_small t size m hs⟩
/-- the acts: two bytes each -/
def Twos (w : World) (b off : Nat) (xs : List (Nat × Nat)) : Prop := (∀ x ∈ xs, x.1 ≤ 255 ∧ x.2 ≤ 255) ∧ ∀ i (h : i < xs.length), w.cell? ⟨b, off + i * 2, none⟩ = some (.int .u8 (xs[i].1 : Int)) ∧ w.cell? ⟨b, off + i * 2 + 1, none⟩ = some (.int .u8 (xs[i].2 : Int))
theorem Twos.upd {w w' : World} {b off : Nat} {xs : List (Nat × Nat)} (h : Twos w b off xs) (u : Upd w w' []) : Twos w' b off xs :=
  ⟨h.1, fun i hi => ⟨cell_upd (h.2 i hi).1 u (by simp), cell_upd (h.2 i hi).2 u (by simp)⟩⟩
end Go.Proofs.Ytmmacjjmkaeakaa
