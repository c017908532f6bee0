/- The document's ring: Push. (Printed by gen03push.py.) -/
import Derived.Test.YtkopocbcldjjbaaPushA
import Derived.Test.YtkopocbcldjjbaaRegF
import Derived.Great.BuildSlice
namespace Go.Proofs.Ytkopocbcldjjbaa
open Go.RowKit
set_option linter.unusedVariables false
set_option linter.unusedSimpArgs false
attribute [-go_sem] loadVar storeVar Instr.buildSlice
attribute [local go_sem] loadVar_else storeVar_else run_load40 run_store40 frameAt_drew frameAt_drewN roomAt_drew roomAt_drewN
/-- append onto nil of a slice that lies wherever (nil too), as one step -/
theorem step_append_src {P : Program} {ops : Array Oper} {o : Oper} {a : Act} {w : World} {K : Act → World → Prop} {Q : Exit → Act → World → Prop} {E : Prop}
    (hg : o.guard = none) (x : Operand) (t : TypeId) (hop : o.op = Op.call { callee := Callee.builtin Builtin.append, args := #[.const (.slice none 0 0), x], argTypes := #[t, t] })
    (base : Nat) (e : TypeId) (i : TypeInfo) (z : Value) (size bytes : Nat) (ht : P.underlying t = some (.slice e)) (hi : P.info? e = some i) (hz : i.zero = some z)
    (hsize : i.size = size) (hby : i.bytes = bytes) (hzs : z.cells.size = size) (hsz : 0 < size)
    (ga : Option Addr) (m c : Nat) (news : List Value) (hx : a.eval x = .slice ga m c) (hl : news.length = m * size) (hn : ga = none → m = 0 ∧ c = 0) (hnews : ∀ ad, ga = some ad → ∀ j u, news[j]? = some u → w.cell? (ad.add j) = some u) (h1 : ∀ u ∈ news, u.oneCell' = true)
    (h63 : m ≤ maxLen) (hbytes : m * bytes ≤ 140737488355328) (hbase : base ≤ w.heap.size)
    (h : ∀ v' w', w'.ownsRow base e size v' m news → Upd w w' [] → K (a.put o.dst v') w') :
    if Region.wanted o (yielded ops a.tmps) = true then Oper.wp P o a w K Q else E := by
  cases ga with
  | none =>
    obtain ⟨rfl, rfl⟩ := hn rfl
    have hnil : news = [] := List.eq_nil_of_length_eq_zero (by simpa using hl)
    subst hnil
    have hw : Region.wanted o (yielded ops a.tmps) = true := by simp [Region.wanted, hg]
    rw [if_pos hw]
    have hrun := run_append_owned_none (P := P) (w := w) base t o.type e i size ht hi (.slice none 0 0) 0 [] (World.ownsRow_nil w base e size)
    have h2 := h _ w (World.ownsRow_nil w base e size) (Upd.refl _ _)
    have hs : a.eval (.const (.slice none 0 0)) = .slice none 0 0 := rfl
    unfold Oper.wp
    simp [execOp, hop, resolve, invoke, builtin, hs, hx, hrun, Result.andThen]
    exact h2
  | some ad =>
    refine step_append_own hg (.const (.slice none 0 0)) x t hop base e i z size bytes ht hi hz hsize hby hzs hsz (.slice none 0 0) 0 [] rfl (World.ownsRow_nil _ _ _ _) ad m c news hx hl (hnews ad rfl) h1 (by omega) (by rw [Nat.zero_add]; exact hbytes) hbase ?_
    intro v' w' hown hgr hnil
    rw [Nat.zero_add, List.nil_append] at hown
    exact h v' w' hown (Upd.of_grown hgr (by simp [Value.ownBlock]))
theorem wpList_append_src {P : Program} {ops : Array Oper} {rest : List Oper} {o : Oper} {a : Act} {w : World} {Q : Exit → Act → World → Prop}
    (hg : o.guard = none) (x : Operand) (t : TypeId) (hop : o.op = Op.call { callee := Callee.builtin Builtin.append, args := #[.const (.slice none 0 0), x], argTypes := #[t, t] })
    (base : Nat) (e : TypeId) (i : TypeInfo) (z : Value) (size bytes : Nat) (ht : P.underlying t = some (.slice e)) (hi : P.info? e = some i) (hz : i.zero = some z)
    (hsize : i.size = size) (hby : i.bytes = bytes) (hzs : z.cells.size = size) (hsz : 0 < size)
    (ga : Option Addr) (m c : Nat) (news : List Value) (hx : a.eval x = .slice ga m c) (hl : news.length = m * size) (hn : ga = none → m = 0 ∧ c = 0) (hnews : ∀ ad, ga = some ad → ∀ j u, news[j]? = some u → w.cell? (ad.add j) = some u) (h1 : ∀ u ∈ news, u.oneCell' = true)
    (h63 : m ≤ maxLen) (hbytes : m * bytes ≤ 140737488355328) (hbase : base ≤ w.heap.size)
    (h : ∀ v' w', w'.ownsRow base e size v' m news → Upd w w' [] → wpList P ops Q rest (a.put o.dst v') w') : wpList P ops Q (o :: rest) a w := by
  refine wpList_plain hg fun K hK => ?_
  have := step_append_src (ops := #[]) (Q := Q) (E := True) hg x t hop base e i z size bytes ht hi hz hsize hby hzs hsz ga m c news hx hl hn hnews h1 h63 hbytes hbase (K := K) (fun v' w' h2 h3 => hK _ _ (h v' w' h2 h3))
  rwa [if_pos (by simp [Region.wanted, hg])] at this
noncomputable def oneSlow (t : TypeId) (v : Value) (w : World) : Result Value := (Instr.buildSlice t 1 #[(0, v)]).run Try.prog w
theorem foldl_off : ∀ (vs : List Value) (o k : Nat) (cs : Array Value), (vs.zipIdx k).foldl (fun cs x => cs.setIfInBounds (o + x.2) x.1) cs = putAt cs (o + k) vs
  | [], _, _, _ => rfl
  | v :: r, o, k, cs => by rw [List.zipIdx_cons, List.foldl_cons, foldl_off r, putAt, Nat.add_assoc]
theorem fill_cons {pl : Nat → Option (Nat × Nat)} {cells : Array Value} {i o s : Nat} {v : Value} {r : List (Nat × Value)} (hp : pl i = some (o, s)) (hv : v.cells.size = s) (hs : o + s ≤ cells.size) :
    Instr.fill pl cells ((i, v) :: r) = Instr.fill pl (putAt cells o v.cells.toList) r := by
  rw [Instr.fill, hp]
  dsimp only
  rw [if_neg (by simp [hv]; omega)]
  congr 1
  rw [← Array.foldl_toList, Array.toList_zipIdx]
  exact foldl_off _ _ _ _
theorem run_one {t e : TypeId} {n : Nat} {ie : TypeInfo} {z : Array Value} (hu : Try.prog.underlying t = some (.slice e)) (hi : Try.prog.info? e = some ie) (hz : ie.zero = some (.agg z)) (hn : ie.size = n) (h0 : 0 < n) (h1 : n ≤ 1000) (hzs : z.size = n)
    (R : Array Value) (w : World) : (Instr.buildSlice t 1 #[(0, .agg R)]).run Try.prog w = (match R.size == n with | true => .ok (.slice (some ⟨w.heap.size, 0, none⟩) 1 1) (w.alloc (.cells R e)) | false => oneSlow t (.agg R) w) := by
  split
  · next h =>
    have h : R.size = n := by simpa using h
    refine run_buildSlice w t e 1 _ R ie (.agg z) hu hi hz (by rw [hn]; omega) (by rw [hn]; omega) ?_
    show Instr.fill _ _ [(0, .agg R)] = some R
    have hs : (((Array.range (1 * ie.size)).map ((Value.agg z).cells[· % (Value.agg z).cells.size]!)) : Array Value).size = n := by simp [hn]
    rw [fill_cons (o := 0) (s := n) (v := .agg R) (by simp [hn]) h (by rw [hs]; omega), Instr.fill]
    congr 1
    exact putAt_all (by rw [hs]; exact h)
  · rfl
theorem info_parts3 {P : Program} {e : TypeId} {z : Value} {s b : Nat} (h : (P.info? e).map (fun i => (i.zero, i.size, i.bytes)) = some (some z, s, b)) : ∃ i, P.info? e = some i ∧ i.zero = some z ∧ i.size = s := by
  obtain ⟨i, h1, h2, h3, _⟩ := info_parts h
  exact ⟨i, h1, h2, h3⟩
theorem run_one52 (R : Array Value) (w : World) : (Instr.buildSlice 52 1 #[(0, .agg R)]).run Try.prog w = (match R.size == 29 with | true => .ok (.slice (some ⟨w.heap.size, 0, none⟩) 1 1) (w.alloc (.cells R 40)) | false => oneSlow 52 (.agg R) w) := by
  obtain ⟨i, h1, h2, h3⟩ := info_parts3 info40z
  exact run_one Try.underlying52 h1 h2 h3 (by decide) (by decide) rfl R w
attribute [local go_sem] run_one52
theorem own_slice {w : World} {base : Nat} {e : TypeId} {k n : Nat} {v : Value} {xs : List Value} (h : w.ownsRow base e k v n xs) : ∃ a c, v = .slice a n c := by
  obtain ⟨_, ⟨rfl, rfl, _⟩ | ⟨g, cap, cur, rfl, _⟩⟩ := h
  · exact ⟨_, _, rfl⟩
  · exact ⟨_, _, rfl⟩
theorem news_at {W : World} {k : Nat} {t : TypeId} {R : Array Value} (B : Blk W k t R) : ∀ j u, R.toList[j]? = some u → W.cell? ((⟨k, 0, none⟩ : Addr).add j) = some u := fun j u hu => by
  rw [Addr.add_mid, Nat.zero_add, B.cell, ← Array.getElem?_toList]; exact hu
theorem keepQ {W : World} {q p3 : Nat} {v : Value} {F1 : Array Value} (h1 : W.cell? ⟨q, 1, none⟩ = some v) (h2 : Blk W p3 40 F1) (hz : F1.size = 29) :
    ∀ w', Upd W w' [] → w'.cell? ⟨q, 1, none⟩ = some v ∧ frameAt w' p3 0 = some F1 := fun w' u => by
  refine ⟨?_, (u.blk h2 (by simp)).frame0 hz⟩
  exact cell_upd h1 u (by simp)
theorem dpush_after {W1 w3 : World} {q cap b : Nat} {v v2 : Value} {xs : List Fr} {x : Fr} {F1 : Array Value} {Fs : List (Array Value)} (hd : Blk W1 q 54 #[.int .i64 cap, v]) (r : RowAt W1 40 29 v Fs) (hl : Fs.length = xs.length)
    (each : ∀ i (h : i < Fs.length) (h2 : i < xs.length), IsF W1 0 Fs[i] xs[i]) (h1 : IsF W1 0 F1 x) (k3 : Upd W1 w3 []) (hown : w3.ownsRow b 40 29 v2 (xs.length + 1) (flat Fs ++ F1.toList)) :
    w3.frozen? ⟨q, 1, none⟩ = false ∧ (DRing (w3.setCell ⟨q, 1, none⟩ v2) q v2 cap (xs ++ [x]) ∧ Upd W1 (w3.setCell ⟨q, 1, none⟩ v2) [q]) := by
  have hd3 := k3.blk hd (by simp)
  have one : ∀ u ∈ F1, u.oneCell' = true := Array.all_eq_true_iff_forall_mem.1 h1.one
  have R3 := RowOf.push (F := F1) r.sizes r.ones h1.size one (by rw [hl]; exact hown)
  have u : Upd w3 (w3.setCell ⟨q, 1, none⟩ v2) [q] := (Upd.refl _ _).setCell (p := ⟨q, 1, none⟩) (by simp) _
  refine ⟨hd3.frozen 1, ⟨hd3.set_ 1 v2, Fs ++ [F1], (R3.at_ (by decide)).upd u (OffT.one hd3 (by decide)), by simp [hl], fun i hi hi2 => ?_⟩, (k3.mono (S' := [q]) (by simp)).trans u (fun i h _ => h)⟩
  by_cases h : i < Fs.length
  · rw [List.getElem_append_left h, List.getElem_append_left (by omega)]
    exact ((each i h (by omega)).upd k3 (Off.nil _)).upd u (Off.one hd3 (by decide))
  · have e : i = Fs.length := by simp at hi; omega
    subst e
    have e2 : (xs ++ [x])[Fs.length]'hi2 = x := by
      rw [List.getElem_append_right (by omega)]; simp [hl]
    rw [e2, List.getElem_append_right (by omega)]
    simp only [Nat.sub_self, List.getElem_cons_zero]
    exact (h1.upd k3 (Off.nil _)).upd u (Off.one hd3 (by decide))
/-- no frame of the document's ring has its members in a block of S -/
def AvD (w : World) (q : Nat) (S : List Nat) : Prop := ∀ gg off n c, w.cell? ⟨q, 1, none⟩ = some (.slice (some ⟨gg, off, none⟩) n c) → ∀ i, i < n → ∀ v, w.cell? ⟨gg, off + i * 29 + 24, none⟩ = some v → ∀ g ∈ blkOf v, g ∉ S
theorem AvD.upd {w w' : World} {q cap : Nat} {v : Value} {xs : List Fr} {S T : List Nat} (h : AvD w q S) (d : DRing w q v cap xs) (u : Upd w w' T) (hq : q ∉ T) (hv : 0 < xs.length → ∀ g ∈ blkOf v, g ∉ T) : AvD w' q S := fun gg off n c hc i hi v' hv' => by
  rw [cell_same u d.head.lt hq, d.a1] at hc
  injection hc with hc
  subst hc
  have hn : n = xs.length := by
    obtain ⟨ga, c', e, _⟩ := d.form
    injection e
  subst hn
  have hp : 0 < xs.length := by omega
  rw [cell_same u (d.lt hp gg (by simp [blkOf, Value.ownBlock])) (hv hp gg (by simp [blkOf, Value.ownBlock]))] at hv'
  exact h gg off _ c d.a1 i hi v' hv'
theorem DRing.at24 {w : World} {q cap n c gg off : Nat} {xs : List Fr} (d : DRing w q (.slice (some ⟨gg, off, none⟩) n c) cap xs) (i : Nat) (hi : i < n) : ∃ v ms, w.cell? ⟨gg, off + i * 29 + 24, none⟩ = some v ∧ Own w 0 v ms := by
  obtain ⟨hh, Fs, r, hl, hf⟩ := d
  obtain ⟨ga, cp, e, _, _, _, hg⟩ := r.lies
  injection e with e1 e2 e3
  subst e1
  subst e2
  obtain ⟨g', off', cur, e, hb, hcs⟩ := hg (by omega)
  injection e with e
  injection e with e1 e2 _
  subst e1
  subst e2
  obtain ⟨good, v', e, own⟩ := hf i hi (by omega)
  refine ⟨v', _, ?_, own⟩
  rw [hb.cell, hcs i hi 24 (by decide), e, cut_at good.size]
theorem DRing.av {w : World} {q cap : Nat} {v : Value} {xs : List Fr} (d : DRing w q v cap xs) {S : List Nat} (hS : ∀ g ∈ S, w.heap.size ≤ g) : AvD w q S := fun gg off n c hc i hi v' hv' g hg hm => by
  rw [d.a1] at hc
  injection hc with hc
  subst hc
  obtain ⟨v2, ms, h2, own⟩ := d.at24 i hi
  rw [h2] at hv'
  injection hv' with hv'
  subst hv'
  have := own.blk g hg
  have := hS g hm
  omega
theorem DRing.updA {w w' : World} {q cap : Nat} {v : Value} {xs : List Fr} {S : List Nat} (d : DRing w q v cap xs) (ha : AvD w q S) (u : Upd w w' S) (hq : q ∉ S) (hv : 0 < xs.length → ∀ g ∈ blkOf v, g ∉ S) : DRing w' q v cap xs := by
  have d' := d
  obtain ⟨hh, Fs, r, hl, hf⟩ := d
  refine ⟨u.blk hh hq, Fs, r.updB u (fun h => hv (by omega)), hl, fun i h h2 => ?_⟩
  obtain ⟨ga, cp, rfl, _, _, _, hg⟩ := r.lies
  obtain ⟨g', off', cur, rfl, hb, hcs⟩ := hg (by omega)
  obtain ⟨good, v', e, own⟩ := hf i h h2
  refine ⟨good, v', e, own.updB u (ha _ _ _ _ d'.a1 i h v' ?_)⟩
  rw [hb.cell, hcs i h 24 (by decide), e, cut_at good.size]
theorem dpush_av {W1 w3 : World} {q cap b b1 : Nat} {v v2 : Value} {xs : List Fr} {x : Fr} {F1 : Array Value} {Fs : List (Array Value)} (hd : Blk W1 q 54 #[.int .i64 cap, v]) (r : RowAt W1 40 29 v Fs) (hl : Fs.length = xs.length)
    (h1 : IsF W1 b1 F1 x) (k3 : Upd W1 w3 []) (hown : w3.ownsRow b 40 29 v2 (xs.length + 1) (flat Fs ++ F1.toList)) :
    ∀ S, (∀ g ∈ S, g < b1) → AvD W1 q S → AvD (w3.setCell ⟨q, 1, none⟩ v2) q S := fun S hS ha gg off n c hc i hi v' hv' => by
  have hd3 := k3.blk hd (by simp)
  have one : ∀ u ∈ F1, u.oneCell' = true := Array.all_eq_true_iff_forall_mem.1 h1.one
  have R3 := RowOf.push (F := F1) r.sizes r.ones h1.size one (by rw [hl]; exact hown)
  have u : Upd w3 (w3.setCell ⟨q, 1, none⟩ v2) [q] := (Upd.refl _ _).setCell (p := ⟨q, 1, none⟩) (by simp) _
  have R4 := (R3.at_ (by decide)).upd u (OffT.one hd3 (by decide))
  rw [(hd3.set_ 1 v2).cell] at hc
  have hc : v2 = .slice (some ⟨gg, off, none⟩) n c := by simpa using hc
  subst hc
  obtain ⟨ga, cp, e, _, _, _, hg⟩ := R4.lies
  injection e with e1 e2 e3
  subst e1
  rw [e2] at hi
  obtain ⟨g', off', cur, e, hb, hcs⟩ := hg (by omega)
  injection e with e
  injection e with e1 e2 _
  subst e1
  subst e2
  rw [hb.cell, hcs i hi 24 (by decide)] at hv'
  by_cases h : i < Fs.length
  · rw [List.getElem_append_left h] at hv'
    obtain ⟨ga, cp, rfl, _, _, _, hg⟩ := r.lies
    obtain ⟨g'', off'', cur', rfl, hb', hcs'⟩ := hg (by omega)
    refine ha g'' off'' _ _ (by rw [hd.cell]; rfl) i h v' ?_
    rw [hb'.cell, hcs' i h 24 (by decide), hv']
  · rw [List.getElem_append_right (by omega)] at hv'
    have e0 : i - Fs.length = 0 := by simp at hi; omega
    simp only [e0, List.getElem_cons_zero] at hv'
    obtain ⟨good, v3, rfl, own⟩ := h1
    rw [cut_at good.size] at hv'
    injection hv' with hv'
    subst hv'
    intro g hg hm
    have := own.blk g hg
    have := hS g hm
    omega
set_option maxRecDepth 100000 in
set_option maxHeartbeats 8000000 in
theorem dpush_ok (q cap : Nat) (vv v : Value) (xs : List Fr) (x : Fr) (w : World) (h : DRing w q vv cap xs) (hlt : xs.length < cap) (h64 : cap ≤ 64) (hg : Good x) (hv : Src w v x.2) (hv0 : ∀ n c, v = .slice none n c → c = 0) :
    Calls Try.prog 20 #[.pointer (some ⟨q, 0, none⟩), .agg (cut x v)] w fun e w' => ∃ v', e = .returned (.bool true) ∧ DRing w' q v' cap (xs ++ [x]) ∧ Upd w w' [q] ∧ (∀ g ∈ blkOf v', w.heap.size ≤ g) ∧ ∀ S, (∀ g ∈ S, g < w.heap.size) → AvD w q S → AvD w' q S := by
  have DW := hide h
  obtain ⟨i40, h40⟩ := info_parts info40z
  obtain ⟨i57, h57⟩ := info_parts info57
  replace h40 := hide h40
  replace h57 := hide h57
  have U1 := (Upd.refl w []).alloc (.cells (cut x v) 40)
  have D1 := h.upd0 U1
  have B1 := Blk.new w 40 (cut x v)
  have hv2 := hv.upd U1
  obtain ⟨ga, c, rfl, hc, hm, hn, hp⟩ := D1.form
  have a0 := D1.a0
  have a1 := D1.a1
  have b1 : ((xs.length : Int) == (cap : Int)) = false := beq_false_of_ne (by omega)
  have m24 : (w.alloc (.cells (cut x v) 40)).cell? ⟨w.heap.size, 24, none⟩ = some v := by rw [B1.cell]; exact cut_at hg.size v
  have lq := h.head.lt
  have lg := hide (fun hp => h.lt (xs := xs) hp)
  have HG := hide hg
  replace U1 := hide U1
  replace D1 := hide D1
  replace B1 := hide B1
  obtain ⟨am, nm, cm, rfl, hlm, hcs⟩ := hv2
  have nfew : nm ≤ 10 := by have := hg.few; omega
  have hnm : Hid (am = none → nm = 0 ∧ cm = 0) := hide (fun e => by
    subst e
    rcases hcs with ⟨_, h0⟩ | ⟨ad, h0, _⟩
    · exact ⟨h0, hv0 _ _ rfl⟩
    · cases h0)
  have hcell : Hid (∀ ad, am = some ad → ∀ j u, x.2[j]? = some u → (w.alloc (.cells (cut x (.slice am nm cm)) 40)).cell? (ad.add j) = some u) := hide (fun ad e => by
    rcases hcs with ⟨h0, _⟩ | ⟨ad', h0, hh⟩
    · rw [h0] at e; cases e
    · rw [h0] at e; injection e with e; subst e; exact hh)
  replace hlm := hide hlm
  clear hcs hv h hv0 hg hp
  replace hn := hide hn
  go_enter Try.func20, Try.ntmps20
  go_wp2_with fail
  go_quiet (fail)
  have U2 := hide (U1.out.drewN nq)
  have D2 := hide (D1.out.upd0 ((Upd.refl _ []).drewN nq))
  have B2 := hide (B1.out.drewN nq)
  have hcell2 : Hid (∀ ad, am = some ad → ∀ j u, x.2[j]? = some u → ((w.alloc (.cells (cut x (.slice am nm cm)) 40)).drewN nq).cell? (ad.add j) = some u) := hide hcell.out
  have m24' : ((w.alloc (.cells (cut x (.slice am nm cm)) 40)).drewN nq).cell? ⟨w.heap.size, 24, none⟩ = some (.slice am nm cm) := m24
  clear U1 D1 B1 hcell a0 a1 m24
  generalize (w.alloc (.cells (cut x (.slice am nm cm)) 40)).drewN nq = w2 at *
  generalize hp3 : w.heap.size = p3 at *
  replace hp3 := hide hp3
  go_wp2_with (at_builtin; refine wpList_append_src rfl (.tmp 17) 36 rfl w2.heap.size 57 i57 (.agg #[.int .i64 0, .int .i64 0]) 2 16 Try.underlying36 h57.out.1 h57.out.2.1 h57.out.2.2.1 h57.out.2.2.2 rfl (by decide) am nm cm x.2 rfl hlm.out hnm.out hcell2.out HG.out.mem (by unfold maxLen; omega) (by omega) (Nat.le_refl _) ?_; intro v1 w3 hown1 ua; obtain ⟨gm, cm1, rfl⟩ := own_slice hown1; have hB3 := ua.blk B2.out (by simp); have k24 : w3.cell? ⟨p3, 24, none⟩ = some (.slice am nm cm) := (by rw [hB3.cell]; exact cut_at HG.out.size _); have f24 := hB3.frozen 24; replace hB3 := hide hB3; replace ua := hide ua; replace hown1 := hide hown1)
  have u4 : Upd w3 (w3.setCell ⟨p3, 24, none⟩ (.slice gm nm cm1)) [p3] := (Upd.refl _ _).setCell (p := ⟨p3, 24, none⟩) (by simp) _
  have B4 := (hB3.out.set_ 24 (.slice gm nm cm1)).congr (cut_cut _ _)
  have O4 : Own (w3.setCell ⟨p3, 24, none⟩ (.slice gm nm cm1)) p3 (.slice gm nm cm1) x.2 := (Own.mono ⟨nm, hown1.out⟩ (by have := U2.out.size; have := hp3.out; omega)).upd u4 (Off.one hB3.out (by decide))
  have D4 := (D2.out.upd0 ua.out).updB u4 (by have := hp3.out; simp; omega) (fun hp g hg => by have := lg.out hp g hg; have := hp3.out; simp; omega) (Off.one hB3.out (by decide))
  have UZ := (U2.out.trans ua.out (by simp)).trans u4 (fun i hi hl => by simp at hi; have := hp3.out; omega)
  have UA := hide (show Upd w _ [q] from UZ.mono (by simp))
  have AV := hide (fun (S : List Nat) (h : AvD w q S) => h.upd DW.out UZ (by simp) (by simp))
  clear UZ
  have lW := hide (show w.heap.size ≤ (w3.setCell ⟨p3, 24, none⟩ (.slice gm nm cm1)).heap.size from UA.out.size)
  have I1 := hide (show IsF (w3.setCell ⟨p3, 24, none⟩ (.slice gm nm cm1)) p3 (cut x (.slice gm nm cm1)) x from ⟨HG.out, _, rfl, O4⟩)
  clear u4 O4 hB3 k24 f24 ua hown1 U2 D2 B2 hcell2 m24' hnm hlm
  generalize w3.setCell ⟨p3, 24, none⟩ (.slice gm nm cm1) = W1 at *
  generalize cut x (.slice gm nm cm1) = F1 at *
  have fz := I1.out.size
  have ON := hide (show ∀ u ∈ F1.toList, u.oneCell' = true from fun u hu => Array.all_eq_true_iff_forall_mem.1 I1.out.one u (by simpa using hu))
  have e3 := D4.a1
  obtain ⟨hd, Fs, r, hl, each⟩ := D4
  have DD := hide hd
  have ROW := hide r
  have LEN := hide hl
  have EACH := hide each
  have SS := hide (keepQ e3 B4 fz)
  have hlF := hide (show (flat Fs).length = xs.length * 29 by rw [flat_length _ r.sizes, hl])
  have FONE := hide r.flat_one
  have hgn := hide (fun e => (⟨by have := hn.out e; omega, hn.out e⟩ : xs.length = 0 ∧ c = 0))
  have SRC := hide (fun (W : World) (u : Upd W1 W []) (ad : Addr) (e : ga = some ad) => (r.upd u (OffT.nil _ _)).src (by rw [e]))
  clear hd r hl each e3 B4
  refine F_start 11 (fun w' => w'.cell? ⟨q, 1, none⟩ = some (.slice ga xs.length c) ∧ frameAt w' p3 0 = some F1) (by kernel_rfl) ?_
  have hS := SS.out W1.drew (Upd.refl _ _).drew
  refine F_take (i := 0) [10, 9] (v := ?_) rfl (by kernel_rfl) (by kernel_rfl) (by kernel_rfl) (by kernel_rfl) (fun _ _ _ h => h) rfl ?_ hS ?_
  rotate_left
  · intro w hSw
    try dsimp only at hSw
    go_simp
    try with_reducible rfl
  try simp only [Act.put, List.setIfInBounds_toArray, List.set_cons_zero, List.set_cons_succ]
  refine F_take (i := 1) [8, 5, 4, 3, 2] (v := ?_) rfl (by kernel_rfl) (by kernel_rfl) (by kernel_rfl) (by kernel_rfl) (fun _ _ _ h => h) rfl ?_ hS ?_
  rotate_left
  · intro w hSw
    try dsimp only at hSw
    go_simp
    try with_reducible rfl
  try simp only [Act.put, List.setIfInBounds_toArray, List.set_cons_zero, List.set_cons_succ]
  refine F_take (i := 2) [8, 5, 4, 3] (v := ?_) rfl (by kernel_rfl) (by kernel_rfl) (by kernel_rfl) (by kernel_rfl) (fun _ _ _ h => h) rfl ?_ hS ?_
  rotate_left
  · intro w hSw
    try dsimp only at hSw
    go_simp
    try with_reducible rfl
  try simp only [Act.put, List.setIfInBounds_toArray, List.set_cons_zero, List.set_cons_succ]
  refine F_take (i := 3) [8, 5, 4] (v := ?_) rfl (by kernel_rfl) (by kernel_rfl) (by kernel_rfl) (by kernel_rfl) (fun _ _ _ h => h) rfl ?_ hS ?_
  rotate_left
  · intro w hSw
    try dsimp only at hSw
    go_simp
    try with_reducible rfl
  try simp only [Act.put, List.setIfInBounds_toArray, List.set_cons_zero, List.set_cons_succ]
  refine F_take (i := 4) [8, 5] (v := ?_) rfl (by kernel_rfl) (by kernel_rfl) (by kernel_rfl) (by kernel_rfl) (fun _ _ _ h => h) rfl ?_ hS ?_
  rotate_left
  · intro w hSw
    try dsimp only at hSw
    go_simp
    try with_reducible rfl
  try simp only [Act.put, List.setIfInBounds_toArray, List.set_cons_zero, List.set_cons_succ]
  refine F_take (i := 6) [8, 7] (v := ?_) rfl (by kernel_rfl) (by kernel_rfl) (by kernel_rfl) (by kernel_rfl) (fun _ _ _ h => h) rfl ?_ hS ?_
  rotate_left
  · intro w hSw
    try dsimp only at hSw
    go_simp
    try with_reducible rfl
  try simp only [Act.put, List.setIfInBounds_toArray, List.set_cons_zero, List.set_cons_succ]
  refine F_two (i := 5) (j := 7) rfl rfl (by kernel_rfl) (fun K hK => ?_) (fun K hK => ?_)
  · refine step_append_src rfl (.tmp 25) 52 rfl W1.heap.size 40 i40 (.agg zeroF) 29 288 Try.underlying52 h40.out.1 h40.out.2.1 h40.out.2.2.1 h40.out.2.2.2 rfl (by decide) ga xs.length c (flat Fs) (by simp [Act.eval]) hlF.out hgn.out (SRC.out _ (Upd.refl _ _).drew) FONE.out (by unfold maxLen; omega) (by omega) (Nat.le_refl _) ?_
    intro v1 w2 hown1 ua
    have ua : Upd W1 w2 [] := ⟨ua.os, ua.tape, ua.output, ua.size, ua.block⟩
    clear hS
    have hS := SS.out w2 ua
    have OW := hide (show (w2.alloc (.cells F1 40)).ownsRow W1.heap.size 40 29 v1 xs.length (flat Fs) from by
      have k := (RowOf.mk ROW.out.sizes ROW.out.ones (by rw [LEN.out]; exact hown1) : RowOf w2 W1.heap.size 40 29 v1 Fs).upd ((Upd.refl w2 []).alloc (.cells F1 40)) (by simp)
      have k := k.own
      rwa [LEN.out] at k)
    replace ua := hide ua
    have hb2 := hide (show W1.heap.size ≤ (w2.alloc (.cells F1 40)).heap.size from (by have := ua.out.size; simp; omega))
    clear hown1
    refine hK.out _ _ (Or.inr hS) ?_
    clear hK K
    try simp only [Act.put, List.setIfInBounds_toArray, List.set_cons_zero, List.set_cons_succ]
    refine F_step (i := 7) rfl (by kernel_rfl) (fun K hK => ?_)
    go_simp
    clear hS
    have hS := SS.out _ (ua.out.alloc (.cells F1 40))
    refine hK.out _ _ (Or.inr hS) ?_
    clear hK K
    try simp only [Act.put, List.setIfInBounds_toArray, List.set_cons_zero, List.set_cons_succ]
    refine F_step (i := 8) rfl (by kernel_rfl) (fun K hK => ?_)
    refine step_append_own rfl (.tmp 26) (.tmp 28) 52 rfl W1.heap.size 40 i40 (.agg zeroF) 29 288 Try.underlying52 h40.out.1 h40.out.2.1 h40.out.2.2.1 h40.out.2.2.2 rfl (by decide) v1 xs.length (flat Fs) (by simp [Act.eval]) OW.out ⟨w2.heap.size, 0, none⟩ 1 1 F1.toList (by simp [Act.eval]) (by simp [fz]) (news_at (Blk.new w2 40 _)) ON.out (by unfold maxLen; omega) (by omega) hb2.out ?_
    intro v2 w3 hown hgr hnil
    have fresh := hide (show ∀ g ∈ blkOf v2, w.heap.size ≤ g from fun g hg => Nat.le_trans lW.out (hown.lt g (by simpa [blkOf] using hg)).1)
    obtain ⟨g3, c3, rfl⟩ := own_slice hown
    have k3 : Upd W1 w3 [] := Upd.own (ua.out.alloc _) (Nat.le_refl _) OW.out hgr
    obtain ⟨fzq, fin⟩ := dpush_after DD.out ROW.out LEN.out EACH.out (I1.out.mono (Nat.zero_le _)) k3 hown
    have av := hide (dpush_av DD.out ROW.out LEN.out I1.out k3 hown)
    clear hS
    have hS := SS.out _ k3
    replace fin := hide (show DRing _ _ _ _ _ ∧ Upd w _ [q] from ⟨fin.1, UA.out.trans fin.2 (fun i h _ => h)⟩)
    replace k3 := hide k3
    clear hown hgr hnil OW hb2
    refine hK.out _ _ (Or.inr hS) ?_
    clear hK K
    try simp only [Act.put, List.setIfInBounds_toArray, List.set_cons_zero, List.set_cons_succ]
    refine F_take (i := 9) [10] (v := ?_) rfl (by kernel_rfl) (by kernel_rfl) (by kernel_rfl) (by kernel_rfl) (fun _ _ _ h => h) rfl ?_ hS ?_
    rotate_left
    · intro w hSw
      try dsimp only at hSw
      go_simp
      try with_reducible rfl
    try simp only [Act.put, List.setIfInBounds_toArray, List.set_cons_zero, List.set_cons_succ]
    refine F_take (i := 10) [] (v := ?_) rfl (by kernel_rfl) (by kernel_rfl) (by kernel_rfl) (by kernel_rfl) (fun _ _ _ h => h) rfl ?_ hS ?_
    rotate_left
    · intro w hSw
      try dsimp only at hSw
      go_simp
      try with_reducible rfl
    try simp only [Act.put, List.setIfInBounds_toArray, List.set_cons_zero, List.set_cons_succ]
    refine F_step (i := 11) rfl (by kernel_rfl) (fun K hK => ?_)
    have cz := hS.1
    go_simp
    refine hK.out _ _ (Or.inl rfl) ?_
    clear hK K
    try simp only [Act.put, List.setIfInBounds_toArray, List.set_cons_zero, List.set_cons_succ]
    refine F_done (by kernel_rfl) ?_ _
    clear hS cz fzq
    go_wp2_with fail
    go_ret
    exact ⟨_, rfl, fin.out.1, fin.out.2, fresh.out, fun S hS ha => av.out S (fun g hg => by have := hS g hg; have := hp3.out; omega) (AV.out S ha)⟩
  · go_simp
    have ub : Upd W1 ((W1.alloc (.cells F1 40)).drew) [] := ((Upd.refl W1 []).alloc _).drew
    clear hS
    have hS := SS.out _ ub
    have Bn := Blk.new W1 40 F1
    have hzb : W1.heap.size ≤ (W1.alloc (.cells F1 40)).drew.heap.size := by have := ub.size; omega
    refine hK.out _ _ (Or.inr hS) ?_
    clear hK K
    try simp only [Act.put, List.setIfInBounds_toArray, List.set_cons_zero, List.set_cons_succ]
    have Bn : Blk ((W1.alloc (.cells F1 40)).drew) W1.heap.size 40 F1 := Bn
    generalize (W1.alloc (.cells F1 40)).drew = w5 at *
    refine F_step (i := 5) rfl (by kernel_rfl) (fun K hK => ?_)
    refine step_append_src rfl (.tmp 25) 52 rfl W1.heap.size 40 i40 (.agg zeroF) 29 288 Try.underlying52 h40.out.1 h40.out.2.1 h40.out.2.2.1 h40.out.2.2.2 rfl (by decide) ga xs.length c (flat Fs) (by simp [Act.eval]) hlF.out hgn.out (SRC.out _ ub) FONE.out (by unfold maxLen; omega) (by omega) hzb ?_
    intro v1 w2 hown1 ua
    have uc := hide (ub.trans ua (by simp))
    clear hS
    have hS := SS.out w2 uc.out
    have B2 := ua.blk Bn (by simp)
    have OW := hide hown1
    have hb2 := hide (show W1.heap.size ≤ w2.heap.size from (by have := uc.out.size; omega))
    clear hown1 ua
    refine hK.out _ _ (Or.inr hS) ?_
    clear hK K
    try simp only [Act.put, List.setIfInBounds_toArray, List.set_cons_zero, List.set_cons_succ]
    refine F_step (i := 8) rfl (by kernel_rfl) (fun K hK => ?_)
    refine step_append_own rfl (.tmp 26) (.tmp 28) 52 rfl W1.heap.size 40 i40 (.agg zeroF) 29 288 Try.underlying52 h40.out.1 h40.out.2.1 h40.out.2.2.1 h40.out.2.2.2 rfl (by decide) v1 xs.length (flat Fs) (by simp [Act.eval]) OW.out ⟨W1.heap.size, 0, none⟩ 1 1 F1.toList (by simp [Act.eval]) (by simp [fz]) (news_at (B2)) ON.out (by unfold maxLen; omega) (by omega) hb2.out ?_
    intro v2 w3 hown hgr hnil
    have fresh := hide (show ∀ g ∈ blkOf v2, w.heap.size ≤ g from fun g hg => Nat.le_trans lW.out (hown.lt g (by simpa [blkOf] using hg)).1)
    obtain ⟨g3, c3, rfl⟩ := own_slice hown
    have k3 : Upd W1 w3 [] := Upd.own (uc.out) (Nat.le_refl _) OW.out hgr
    obtain ⟨fzq, fin⟩ := dpush_after DD.out ROW.out LEN.out EACH.out (I1.out.mono (Nat.zero_le _)) k3 hown
    have av := hide (dpush_av DD.out ROW.out LEN.out I1.out k3 hown)
    clear hS
    have hS := SS.out _ k3
    replace fin := hide (show DRing _ _ _ _ _ ∧ Upd w _ [q] from ⟨fin.1, UA.out.trans fin.2 (fun i h _ => h)⟩)
    replace k3 := hide k3
    clear hown hgr hnil OW hb2
    refine hK.out _ _ (Or.inr hS) ?_
    clear hK K
    try simp only [Act.put, List.setIfInBounds_toArray, List.set_cons_zero, List.set_cons_succ]
    refine F_take (i := 9) [10] (v := ?_) rfl (by kernel_rfl) (by kernel_rfl) (by kernel_rfl) (by kernel_rfl) (fun _ _ _ h => h) rfl ?_ hS ?_
    rotate_left
    · intro w hSw
      try dsimp only at hSw
      go_simp
      try with_reducible rfl
    try simp only [Act.put, List.setIfInBounds_toArray, List.set_cons_zero, List.set_cons_succ]
    refine F_take (i := 10) [] (v := ?_) rfl (by kernel_rfl) (by kernel_rfl) (by kernel_rfl) (by kernel_rfl) (fun _ _ _ h => h) rfl ?_ hS ?_
    rotate_left
    · intro w hSw
      try dsimp only at hSw
      go_simp
      try with_reducible rfl
    try simp only [Act.put, List.setIfInBounds_toArray, List.set_cons_zero, List.set_cons_succ]
    refine F_step (i := 11) rfl (by kernel_rfl) (fun K hK => ?_)
    have cz := hS.1
    go_simp
    refine hK.out _ _ (Or.inl rfl) ?_
    clear hK K
    try simp only [Act.put, List.setIfInBounds_toArray, List.set_cons_zero, List.set_cons_succ]
    refine F_done (by kernel_rfl) ?_ _
    clear hS cz fzq
    go_wp2_with fail
    go_ret
    exact ⟨_, rfl, fin.out.1, fin.out.2, fresh.out, fun S hS ha => av.out S (fun g hg => by have := hS g hg; have := hp3.out; omega) (AV.out S ha)⟩
end Go.Proofs.Ytkopocbcldjjbaa

