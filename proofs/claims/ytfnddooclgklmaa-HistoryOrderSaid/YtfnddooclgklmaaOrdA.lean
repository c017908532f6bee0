/- HistoryOrder: the walk through the acts. -/
import Derived.Test.YtfnddooclgklmaaOrdPlain
import Derived.StillTailTactics
import Derived.Deep.CutRange
namespace Go.Proofs.Ytfnddooclgklmaa
open Go.RowKit
set_option linter.unusedVariables false
attribute [-go_sem] loadVar storeVar run_neq_struct
attribute [local go_sem] loadVar_else storeVar_else run_load29 run_load33 run_load35 run_load48 run_load49 run_load61 run_store29 run_store33 run_store35 run_store48 run_store49 aggAt_drew aggAt_drewN aggRoom_drew aggRoom_drewN
theorem RowOf.form2 {w : World} {base : Nat} {e : TypeId} {n : Nat} {v : Value} {Fs : List (Array Value)} (h : RowOf w base e n v Fs) : ∃ ga cap, v = .slice ga Fs.length cap ∧ (0 < Fs.length → ∃ g, ga = some ⟨g, 0, none⟩) := by
  rcases h.slice with ⟨rfl, rfl⟩ | ⟨g, cap, rfl, _⟩
  · exact ⟨none, 0, rfl, fun h => absurd h (by simp)⟩
  · exact ⟨_, cap, rfl, fun _ => ⟨g, rfl⟩⟩
theorem RowOf.rec2 {w : World} {b g cap : Nat} {rs : List Rec} (R : RowOf w b 49 14 (.slice (some ⟨g, 0, none⟩) rs.length cap) (recCells rs)) (i : Nat) (hi : i < rs.length) : aggAt 14 w g (i * 14) = some rs[i].cells := by
  rw [← recCells_len] at R
  have h2 := R.agg i (by simpa [recCells] using hi)
  simpa [recCells] using h2
/-- how often each event was seen -/
def seenA (ev : Nat) (f : Nat → Nat) : Array Value := ((List.range ev).map fun e => Value.int .i64 (f e)).toArray
theorem seenA_size (ev : Nat) (f : Nat → Nat) : (seenA ev f).size = ev := by simp [seenA]
theorem seenA_get (ev : Nat) (f : Nat → Nat) (e : Nat) (h : e < ev) : (seenA ev f)[e]? = some (.int .i64 (f e)) := by simp [seenA, h]
theorem seenA_set (ev : Nat) (f f' : Nat → Nat) (e : Nat) (v : Nat) (h : e < ev) (h1 : f' e = v) (h2 : ∀ x, x ≠ e → f' x = f x) : (seenA ev f).setIfInBounds e (.int .i64 v) = seenA ev f' := by
  apply Array.ext_getElem?
  intro i
  rw [Array.getElem?_setIfInBounds]
  by_cases hi : i < ev
  · rw [seenA_get ev f' i hi]
    split
    · next e1 => subst e1; rw [if_pos (by rw [seenA_size]; exact h), h1]
    · next e1 => rw [seenA_get ev f i hi, h2 i (fun e => e1 e.symm)]
  · rw [Array.getElem?_eq_none (by rw [seenA_size]; omega), Array.getElem?_eq_none (by rw [seenA_size]; omega)]
    split
    · next e1 => subst e1; omega
    · rfl
theorem seenA_zero (ev : Nat) : madeCells #[.int .i64 0] ev = seenA ev (fun _ => 0) := by
  rw [madeCells_one]
  apply Array.ext_getElem?
  intro i
  by_cases hi : i < ev
  · rw [seenA_get ev _ i hi]; simp [hi]
  · rw [Array.getElem?_eq_none (by simp; omega), Array.getElem?_eq_none (by rw [seenA_size]; omega)]
theorem cnt_take (e : Nat) (l : List Rec) (i : Nat) (h : i < l.length) : cnt e (l.take (i + 1)) = cnt e (l.take i) + tells l[i] e := by
  rw [List.take_succ_eq_append_getElem h, cnt_append]
  simp [cnt]
theorem cnt_take_le (e : Nat) (l : List Rec) (i : Nat) : cnt e (l.take i) ≤ cnt e l := by
  have h := List.take_append_drop i l
  have := cnt_append e (l.take i) (l.drop i)
  rw [h] at this
  omega
theorem lie_facts (a : Ac) {W : World} {b o : Nat} (q : aggAt 13 W b o = some a.cells) : W.cell? ⟨b, o, none⟩ = some (.bool a.fin) ∧ W.cell? ⟨b, o + 1, none⟩ = some (.int .i64 a.cl) ∧ W.cell? ⟨b, o + 2, none⟩ = some (.int .i64 a.seq) ∧ aggAt 4 W b (o + 3) = some a.op.cells ∧ aggAt 6 W b (o + 7) = some a.out.cells :=
  ⟨aggAt_cell q 0 (by decide), aggAt_cell q 1 (by decide), aggAt_cell q 2 (by decide),
    aggAt_part q (by decide) rfl (fun j hj => by match j, hj with | 0, _ => rfl | 1, _ => rfl | 2, _ => rfl | 3, _ => rfl),
    aggAt_part q (by decide) rfl (fun j hj => by match j, hj with | 0, _ => rfl | 1, _ => rfl | 2, _ => rfl | 3, _ => rfl | 4, _ => rfl | 5, _ => rfl)⟩
theorem callN_le (rs : List Rec) (c s : Int) (o : Op4) (ev : Nat) : callN rs c s o ev ≤ ev + 1 := by unfold callN; split <;> omega
theorem endN_le (rs : List Rec) (c s : Int) (o : Out6) (ev : Nat) : endN rs c s o ev ≤ ev + 1 := by unfold endN; split <;> omega
set_option maxRecDepth 100000 in
set_option maxHeartbeats 8000000 in
theorem ord_walk (a0 : Option Addr) (b off cap : Nat) (xs : List Ac) (w : World) (ha : 0 < xs.length → a0 = some ⟨b, off, none⟩) (hx : Acts w b off xs) (hg : great xs 80 = false) (hlen : xs.length ≤ 80) :
    Calls Try.prog 5 #[.slice a0 xs.length cap] w fun e w' => e = .returned (.bool true) ∧ Upd w w' [] := by
  have G := hide (great_walk a0 b off cap xs 80 w ha hx (by omega))
  rw [hg] at G
  have N := hide (new_ok w)
  have X := hide hx
  have HA := hide ha
  clear hx ha hg
  go_enter Try.func5, Try.ntmps5
  go_wp2_with fail
  refine G.out.mono ?_
  rintro e w' ⟨rfl, rfl⟩
  clear G
  go_wp2_with fail
  refine N.out.mono ?_
  rintro e w1 ⟨rfl, H1, u1⟩
  replace H1 := hide H1
  replace u1 := hide u1
  clear N
  go_wp2_with fail
  go_loopw [4] (fun vi wr => ∃ (k : Nat) (rs : List Rec) (ev : Nat) (v : Value), k ≤ xs.length ∧ vi = .int .i64 k ∧ Hist wr w.heap.size w.heap.size v rs ev ∧ Ord rs ev ∧ ev ≤ k ∧ Upd w wr []) (fun vi _ => xs.length - (intOf vi).toNat)
  case atStart => exact ⟨0, [], 0, _, by omega, rfl, H1.out, Ord.zero, by omega, u1.out⟩
  case round =>
    clear H1 u1
    obtain ⟨k, rs, ev, v, hk, rfl, hH, hI, hev, hu⟩ := hrel
    by_cases hlt : k < xs.length
    · obtain rfl := HA.out (by omega)
      have q1 := X.out.upd hu k hlt
      obtain ⟨a, ha⟩ : ∃ a, a = xs[k] := ⟨_, rfl⟩
      rw [← ha] at q1
      clear ha
      have rl := hI.inv.few
      obtain ⟨f0, f1, f2, f3, f4⟩ := lie_facts a q1
      have hsz := hu.size
      have H2 := hide (hH.upd0 ((Upd.refl _ []).drew))
      have U2 := hide hu.drew
      have I1 := hI.call a.cl a.seq a.op
      have I2 := hI.ends a.cl a.seq a.out
      have n1 := callN_le rs a.cl a.seq a.op ev
      have n2 := endN_le rs a.cl a.seq a.out ev
      replace I1 := hide I1
      replace I2 := hide I2
      have C1 := hide (call_all a.cl a.seq a.op _ H2.out (show w.heap.size ≤ wr.heap.size from hsz) (by omega) (by omega))
      have C2 := hide (end_all a.cl a.seq a.out _ H2.out (by omega))
      clear hH hI hu q1
      cases hf : a.fin with
      | true =>
        rw [hf] at f0
        replace hf := hide hf
        go_wp2_with fail
        go_still_tail 16, (by kernel_rfl)
        change wpList _ _ _ _ _ wr.drew
        clear f0 f1 f2 f3 f4
        replace hsz : w.heap.size ≤ wr.drew.heap.size := hsz
        generalize wr.drew = w2 at *
        go_wp2_with fail
        refine C2.out.mono ?_
        rintro e w3 ⟨v3, rfl, H3, k3⟩
        have U3 := hide (H2.out.step U2.out (Nat.le_refl _) k3)
        replace H3 := hide H3
        clear C1 C2 H2 U2 k3
        go_wp2_with fail
        go_roundw
        case rel => exact ⟨k + 1, _, _, v3, by omega, by go_num, H3.out, I2.out, by omega, U3.out⟩
        case measure => simp [intOf]; omega
      | false =>
        rw [hf] at f0
        replace hf := hide hf
        go_wp2_with fail
        go_still_tail 16, (by kernel_rfl)
        change wpList _ _ _ _ _ wr.drew
        clear f0 f1 f2 f3 f4
        replace hsz : w.heap.size ≤ wr.drew.heap.size := hsz
        generalize wr.drew = w2 at *
        go_wp2_with fail
        refine C1.out.mono ?_
        rintro e w3 ⟨v3, rfl, H3, k3⟩
        have U3 := hide (H2.out.step U2.out (Nat.le_refl _) k3)
        replace H3 := hide H3
        clear C1 C2 H2 U2 k3
        go_wp2_with fail
        go_roundw
        case rel => exact ⟨k + 1, _, _, v3, by omega, by go_num, H3.out, I1.out, by omega, U3.out⟩
        case measure => simp [intOf]; omega
    · obtain rfl : k = xs.length := by omega
      have C := hide (records_ok _ hH (by have := hI.inv.few; omega))
      replace hH := hide hH
      replace hI := hide hI
      replace hu := hide hu
      go_wp2_with fail
      refine C.out.mono ?_
      rintro e w3 ⟨v3, rfl, R3, u3⟩
      have E3 := hide (events_ok _ (hH.out.upd0 u3))
      have U3 := hide (hu.out.trans u3 (by simp))
      obtain ⟨ga, c3, rfl, hga⟩ := R3.form2
      have hr3 : ∀ g, ga = some ⟨g, 0, none⟩ → g < w3.heap.size := fun g hg => by
        rcases R3.slice with ⟨h1, _⟩ | ⟨g', cap', h1, _, _, cur, hb, _⟩
        · rw [hg] at h1; cases h1
        · rw [hg] at h1
          injection h1 with h1 _ _
          injection h1 with h1
          injection h1 with h1 _ _
          subst h1
          exact hb.lt
      rw [recCells_len] at hga R3
      rw [recCells_len]
      replace R3 := hide (R3.mono (b' := 0) (Nat.zero_le _))
      replace hga := hide hga
      replace hr3 := hide hr3
      clear C u3 hu hH
      have hmk := run_make_rowN (P := Try.prog) 55 3 Try.underlying55 (size := 1) (bytes := 8) (z := .int .i64 0) (by kernel_rfl) ev (by omega) (by omega) w3
      go_wp2_with fail
      refine E3.out.mono ?_
      rintro e w' ⟨rfl, rfl⟩
      go_wp2_with fail
      have B6 : Blk (w3.alloc (.cells (madeCells #[.int .i64 0] ev) 3)) w3.heap.size 3 (seenA ev (fun e => cnt e (rs.take 0))) := (Blk.new w3 3 _).congr (by rw [seenA_zero]; rfl)
      have U6 := hide (U3.out.alloc (.cells (madeCells #[.int .i64 0] ev) 3))
      have R6 := hide (R3.out.upd ((Upd.refl w3 []).alloc (.cells (madeCells #[.int .i64 0] ev) 3)) (by simp))
      replace B6 := hide B6
      have hsb := U3.out.size
      have hev80 : ev ≤ 80 := by omega
      have hfew := hI.out.inv.few
      clear hmk E3 R3 U3
      generalize w3.alloc (.cells (madeCells #[.int .i64 0] ev) 3) = w6 at *
      generalize w3.heap.size = sb at *
      go_loopw [7] (fun vi wx => ∃ (i : Nat), i ≤ rs.length ∧ vi = .int .i64 i ∧ Blk wx sb 3 (seenA ev (fun e => cnt e (rs.take i))) ∧ Upd w6 wx [sb]) (fun vi _ => rs.length - (intOf vi).toNat)
      case atStart => exact ⟨0, by omega, rfl, B6.out, Upd.refl _ _⟩
      case round =>
        clear B6
        obtain ⟨i, hi, rfl, hB, hux⟩ := hrel
        by_cases hil : i < rs.length
        · obtain ⟨g, rfl⟩ := hga.out (by omega)
          have hgs := hr3.out g rfl
          have hii : (i : Int) < rs.length := by omega
          have Rx := R6.out.upd hux (by simp [blkOf, Value.ownBlock]; omega)
          have A1 := Rx.rec2 i hil
          have b0 := Blk.new wr 49 zeroRec
          have r0 : aggRoom 14 (wr.alloc (.cells #[.int .i64 0, .int .i64 0, .int .i64 0, .string ⟨#[]⟩, .string ⟨#[]⟩, .int .i64 0, .int .i64 0, .int .i64 0, .int .i64 0, .int .i64 0, .int .i64 0, .string ⟨#[]⟩, .int .i64 0, .int .i64 0] 49)) wr.heap.size 0 rs[i].cells = true := b0.aggRoom 0 (by decide) rfl (rec_all rs[i])
          have b1 := b0.laid (cs' := rs[i].cells) rfl
          have d1 := Upd.setCells (b := wr.heap.size) (S := []) (by simp) rs[i].cells.toList 0 ((Upd.refl wr []).alloc (.cells zeroRec 49))
          have hsl := hB.lt
          have hBy := hide (d1.blk hB (by simp))
          have Ry := hide (Rx.upd d1 (by simp))
          have Uy := hide (hux.trans d1 (by simp))
          have k0 : rs[i].cells[0]? = some (.int .i64 rs[i].cl) := rfl
          have k1 : rs[i].cells[1]? = some (.int .i64 rs[i].seq) := rfl
          have k6 : rs[i].cells[6]? = some (.int .i64 rs[i].frm) := rfl
          have k7 : rs[i].cells[7]? = some (.int .i64 rs[i].to) := rfl
          have k8 : rs[i].cells[8]? = some (.int .i64 rs[i].out.kind) := rfl
          generalize rs[i].cells = K at *
          replace b1 := hide b1
          clear b0 hB hux Rx
          go_wp2_with fail
          unfold zeroRec at b1 hBy Ry Uy
          clear r0 A1
          generalize hxb : wr.heap.size = xb at *
          generalize (wr.alloc (.cells #[.int .i64 0, .int .i64 0, .int .i64 0, .string ⟨#[]⟩, .string ⟨#[]⟩, .int .i64 0, .int .i64 0, .int .i64 0, .int .i64 0, .int .i64 0, .int .i64 0, .string ⟨#[]⟩, .int .i64 0, .int .i64 0] 49)).setCells xb 0 K.toList = wy at *
          have m0 : wy.cell? ⟨xb, 0, none⟩ = some (.int .i64 rs[i].cl) := by rw [b1.out.cell]; exact k0
          have m1 : wy.cell? ⟨xb, 1, none⟩ = some (.int .i64 rs[i].seq) := by rw [b1.out.cell]; exact k1
          have m6 : wy.cell? ⟨xb, 6, none⟩ = some (.int .i64 rs[i].frm) := by rw [b1.out.cell]; exact k6
          have m7 : wy.cell? ⟨xb, 7, none⟩ = some (.int .i64 rs[i].to) := by rw [b1.out.cell]; exact k7
          have m8 : wy.cell? ⟨xb, 8, none⟩ = some (.int .i64 rs[i].out.kind) := by rw [b1.out.cell]; exact k8
          have mem := List.getElem_mem hil
          have o1 := hI.out.frm _ mem
          have o2 := hI.out.to_ _ mem
          have o3 := hI.out.kind _ mem
          go_cut [7, 128] from 65 to 186 (fun s7 s wx => s7 = .int .i64 i ∧ s = .bool false ∧ ∃ n, wx = wy.drewN n)
          case first =>
            as_aux_lemma =>
            have hup : ∀ m, i = m + 1 → ∃ f, wy.cell? ⟨g, m * 14 + 6, none⟩ = some (.int .i64 f) ∧ f < rs[i].frm := fun m hm => by
              subst hm
              exact ⟨_, aggAt_cell (Ry.out.rec2 m (by omega)) 6 (by decide), hI.out.up m hil⟩
            replace hup := hide hup
            clear mem m0 m1 hBy Ry Uy b1 k0 k1 k6 k7 k8
            generalize rs[i].frm = F at *
            generalize rs[i].to = T at *
            generalize rs[i].out.kind = Kd at *
            obtain ⟨o4, o5, o6⟩ := o1
            have e1 : ¬ F < 0 := by omega
            have e2 : ¬ (ev : Int) ≤ F := by omega
            have e3 : ¬ (ev : Int) ≤ T := by omega
            by_cases hT : T < 0
            · obtain rfl : Kd = 0 := o3.1 hT
              have e4 : ¬ 0 ≤ T := by omega
              clear o2 o3
              obtain rfl | ⟨m, rfl⟩ : i = 0 ∨ ∃ m, i = m + 1 := by
                cases i with
                | zero => exact .inl rfl
                | succ m => exact .inr ⟨m, rfl⟩
              · clear hup
                go_quiet (fail)
                go_wp2_with fail
                try go_simp
                go_meet
                exact ⟨by simp, rfl, _, rfl⟩
              · obtain ⟨f, c1, c2⟩ := hup.out m rfl
                have c3' : ¬ F ≤ f := by omega
                have hm1 : (m : Int) < rs.length := by omega
                have hm2 : (m : Int) ≤ 9223372036854775806 := by omega
                go_quiet (fail)
                go_wp2_with fail
                try go_simp
                go_meet
                exact ⟨by simp, rfl, _, rfl⟩
            · have hK : (Kd == 0) = false := by
                have : ¬ Kd = 0 := fun h => hT (o3.2 h)
                simpa using this
              have e4 : ¬ T < F := by have := o2 (by omega); omega
              have e5 : 0 ≤ T := by omega
              clear o2 o3
              obtain rfl | ⟨m, rfl⟩ : i = 0 ∨ ∃ m, i = m + 1 := by
                cases i with
                | zero => exact .inl rfl
                | succ m => exact .inr ⟨m, rfl⟩
              · clear hup
                go_quiet (fail)
                go_wp2_with fail
                try go_simp
                go_meet
                exact ⟨by simp, rfl, _, rfl⟩
              · obtain ⟨f, c1, c2⟩ := hup.out m rfl
                have c3' : ¬ F ≤ f := by omega
                have hm1 : (m : Int) < rs.length := by omega
                have hm2 : (m : Int) ≤ 9223372036854775806 := by omega
                go_quiet (fail)
                go_wp2_with fail
                try go_simp
                go_meet
                exact ⟨by simp, rfl, _, rfl⟩
          case rest =>
            obtain ⟨rfl, rfl, n, rfl⟩ := hcut
            replace b1 := hide (b1.out.drewN n)
            replace hBy := hide (hBy.out.drewN n)
            replace Ry := hide (Ry.out.upd ((Upd.refl wy []).drewN n) (by simp))
            replace Uy := hide (Uy.out.drewN n)
            clear m0 m1 m6 m7 m8
            generalize wy.drewN n = wv at *
            have m6 : wv.cell? ⟨xb, 6, none⟩ = some (.int .i64 rs[i].frm) := by rw [b1.out.cell]; exact k6
            obtain ⟨f, hf⟩ : ∃ f : Nat, rs[i].frm = f := ⟨rs[i].frm.toNat, by omega⟩
            have hfe : f < ev := by omega
            have hfei : (f : Int) < ev := by omega
            have c1 := hI.out.all f hfe
            have c2 := cnt_take_le f rs i
            rw [hf] at m6
            have s1 : wv.cell? ⟨sb, f, none⟩ = some (.int .i64 (cnt f (rs.take i))) := by rw [hBy.out.cell]; exact seenA_get ev _ f hfe
            have s2 := hBy.out.frozen f
            have B7 := hide ((hBy.out.set_ f (.int .i64 ((cnt f (rs.take i) + 1 : Nat) : Int))).congr (seenA_set ev _ (fun x => if x = f then cnt f (rs.take i) + 1 else cnt x (rs.take i)) f _ hfe (by simp) (fun x hx => by simp [hx])))
            have cb : (cnt f (rs.take i) : Int) ≤ 1 := by omega
            have u7 : Upd wv (wv.setCell ⟨sb, f, none⟩ (.int .i64 ((cnt f (rs.take i) + 1 : Nat) : Int))) [sb] := (Upd.refl _ _).setCell (p := ⟨sb, f, none⟩) (by simp) _
            have R7 := hide (Ry.out.upd u7 (by simp [blkOf, Value.ownBlock]; omega))
            have U7 := hide (Uy.out.trans u7 (fun i h _ => h))
            have b7 := hide (u7.blk b1.out (by simp; omega))
            push_cast at B7 R7 U7 b7
            replace u7 := hide u7
            clear c2 hBy Ry Uy b1 u7
            generalize hcn : cnt f (rs.take i) = cn at *
            replace hcn := hide hcn
            have cb0 : (0 : Int) ≤ cn := by omega
            have m7 : (wv.setCell ⟨sb, f, none⟩ (.int .i64 ((cn : Int) + 1))).cell? ⟨xb, 7, none⟩ = some (.int .i64 rs[i].to) := by rw [b7.out.cell]; exact k7
            have tl : ∀ x : Nat, tells rs[i] x = (if x = f then 1 else 0) + (if rs[i].to = x then 1 else 0) := fun x => by
              unfold tells
              rw [hf]
              by_cases hx : x = f
              · subst hx; simp
              · have : ¬ (f : Int) = x := by omega
                simp [hx, this]
            replace tl := hide tl
            go_upto_if 138 with fail
            clear m6 s1 s2 o3
            generalize wv.setCell ⟨sb, f, none⟩ (.int .i64 ((cn : Int) + 1)) = w7 at *
            go_cut [] from 65 to 186 (fun wx => Blk wx sb 3 (seenA ev (fun x => cnt x (rs.take (i + 1)))) ∧ Blk wx xb 49 K ∧ RowOf wx 0 49 14 (.slice (some ⟨g, 0, none⟩) rs.length c3) (recCells rs) ∧ Upd w6 wx [sb])
            case first =>
              as_aux_lemma =>
              by_cases hT : 0 ≤ rs[i].to
              · obtain ⟨t, ht⟩ : ∃ t : Nat, rs[i].to = t := ⟨rs[i].to.toNat, by omega⟩
                have o2' := o2 hT
                have hte : t < ev := by omega
                have htei : (t : Int) < ev := by omega
                have htf : t ≠ f := by omega
                rw [ht] at m7
                have d1' := hI.out.all t hte
                have d2 := cnt_take_le t rs i
                have s1 : w7.cell? ⟨sb, t, none⟩ = some (.int .i64 (cnt t (rs.take i))) := by rw [B7.out.cell, seenA_get ev _ t hte]; simp [htf]
                have s2 := B7.out.frozen t
                have B8 := hide ((B7.out.set_ t (.int .i64 ((cnt t (rs.take i) + 1 : Nat) : Int))).congr (seenA_set ev _ (fun x => cnt x (rs.take (i + 1))) t _ hte (by rw [cnt_take t rs i hil, tl.out t, ht]; simp [htf]) (fun x hx => by
                  have hne : ¬ ((t : Nat) : Int) = x := by omega
                  rw [cnt_take x rs i hil, tl.out x, ht, if_neg hne]
                  by_cases hxf : x = f
                  · subst hxf; rw [hcn.out]; simp
                  · simp [hxf])))
                have u8 : Upd w7 (w7.setCell ⟨sb, t, none⟩ (.int .i64 ((cnt t (rs.take i) + 1 : Nat) : Int))) [sb] := (Upd.refl _ _).setCell (p := ⟨sb, t, none⟩) (by simp) _
                have R8 := hide (R7.out.upd u8 (by simp [blkOf, Value.ownBlock]; omega))
                have U8 := hide (U7.out.trans u8 (fun i h _ => h))
                have b8 := hide (u8.blk b7.out (by simp; omega))
                have cb2 : (cnt t (rs.take i) : Int) ≤ 1 := by omega
                have cb3 : (0 : Int) ≤ (cnt t (rs.take i) : Nat) := by omega
                have ht0 : (0 : Int) ≤ t := by omega
                push_cast at B8 R8 U8 b8
                rw [ht]
                clear u8 B7 R7 U7 b7 tl d1' d2 hT o2'
                generalize cnt t (rs.take i) = cm at *
                go_wp2_with fail
                try go_simp
                go_meet
                exact ⟨B8.out, b8.out, R8.out, U8.out⟩
              · have B8 := hide (B7.out.congr (show seenA ev _ = seenA ev (fun x => cnt x (rs.take (i + 1))) by
                  congr 1
                  funext x
                  have hne : ¬ rs[i].to = x := by omega
                  rw [cnt_take x rs i hil, tl.out x, if_neg hne]
                  by_cases hxf : x = f
                  · subst hxf; rw [hcn.out]; simp
                  · simp [hxf]))
                clear tl
                go_wp2_with fail
                try go_simp
                go_meet
                exact ⟨B8.out, b7.out, R7.out, U7.out⟩
            case rest =>
              obtain ⟨B8, b8, R8, U8⟩ := hcut
              have k0' : wc.cell? ⟨xb, 0, none⟩ = some (.int .i64 rs[i].cl) := by rw [b8.cell]; exact k0
              have k1' : wc.cell? ⟨xb, 1, none⟩ = some (.int .i64 rs[i].seq) := by rw [b8.cell]; exact k1
              have k6' : wc.cell? ⟨xb, 6, none⟩ = some (.int .i64 rs[i].frm) := by rw [b8.cell]; exact k6
              have hone := hI.out.one i
              replace hone := hide hone
              replace B8 := hide B8
              replace R8 := hide R8
              replace U8 := hide U8
              clear B7 R7 U7 b7 tl m7 b8 k0 k1 k6 k7 k8 o1 o2 hcn hf
              go_wp2_with fail
              go_loopw [9] (fun vk wz => ∃ (k : Nat), k ≤ i ∧ vk = .int .i64 k ∧ ∃ n, wz = wc.drewN n) (fun vk _ => i - (intOf vk).toNat)
              case atStart => exact ⟨0, by omega, rfl, 0, rfl⟩
              case round =>
                obtain ⟨k, hk, rfl, n, rfl⟩ := hrel
                by_cases hki : k < i
                · have hkii : (k : Int) < i := by omega
                  have hkl : (k : Int) < rs.length := by omega
                  have A := R8.out.rec2 k (by omega)
                  have j0 : wc.cell? ⟨g, k * 14, none⟩ = some (.int .i64 rs[k].cl) := aggAt_cell A 0 (by decide)
                  have j1 : wc.cell? ⟨g, k * 14 + 1, none⟩ = some (.int .i64 rs[k].seq) := aggAt_cell A 1 (by decide)
                  have j7 : wc.cell? ⟨g, k * 14 + 7, none⟩ = some (.int .i64 rs[k].to) := aggAt_cell A 7 (by decide)
                  clear A
                  by_cases hcl : rs[k].cl = rs[i].cl
                  · obtain ⟨p1, p2, p3⟩ := hone.out k hil hki hcl
                    have q1 : ¬ rs[k].to < 0 := by omega
                    have q2 : ¬ rs[i].frm < rs[k].to := by omega
                    have q3 : ¬ rs[i].seq ≤ rs[k].seq := by omega
                    rw [hcl] at j0
                    clear p1 p2 p3 hcl
                    generalize rs[k].to = T at *
                    generalize rs[k].seq = Sq at *
                    go_wp2_with fail
                    go_quiet (fail)
                    go_wp2_with fail
                    go_roundw
                    case rel => exact ⟨k + 1, by omega, by go_num, _, rfl⟩
                    case measure => simp [intOf]; omega
                  · have q1 : (rs[k].cl == rs[i].cl) = false := by simpa using hcl
                    clear hcl
                    generalize rs[k].cl = C at *
                    go_wp2_with fail
                    go_quiet (fail)
                    go_wp2_with fail
                    go_roundw
                    case rel => exact ⟨k + 1, by omega, by go_num, _, rfl⟩
                    case measure => simp [intOf]; omega
                · obtain rfl : k = i := by omega
                  replace B8 := hide (B8.out.drewN n)
                  replace U8 := hide (U8.out.drewN n)
                  clear k0' k1' k6'
                  go_wp2_with fail
                  go_roundw
                  case rel => exact ⟨k + 1, by omega, by go_num, B8.out, U8.out⟩
                  case measure => simp [intOf]; omega
        · obtain rfl : i = rs.length := by omega
          rw [List.take_length] at hB
          have U7 := hide (((U6.out.mono (S' := [sb]) (by simp)).trans hux (fun i h _ => h)).mono (S' := []) (by simp; omega))
          have ones : ∀ e, e < ev → wr.cell? ⟨sb, e, none⟩ = some (.int .i64 1) := fun e he => by
            rw [hB.cell, seenA_get ev _ e he, hI.out.all e he]; rfl
          replace ones := hide ones
          clear hB hux
          go_wp2_with fail
          go_loopw [10] (fun ve wz => ∃ (e : Nat), e ≤ ev ∧ ve = .int .i64 e ∧ wz = wr) (fun ve _ => ev - (intOf ve).toNat)
          case atStart => exact ⟨0, by omega, rfl, rfl⟩
          case round =>
            obtain ⟨e, he, rfl, rfl⟩ := hrel
            by_cases hee : e < ev
            · have heei : (e : Int) < ev := by omega
              have c1 := ones.out e hee
              go_wp2_with fail
              go_roundw
              case rel => exact ⟨e + 1, by omega, by go_num, trivial⟩
              case measure => simp [intOf]; omega
            · obtain rfl : e = ev := by omega
              go_wp2_with fail
              refine (told_any _).mono ?_
              rintro e2 w9 ⟨rfl, u9⟩
              replace u9 := hide u9
              go_wp2_with fail
              go_ret
              exact ⟨rfl, U7.out.trans u9.out (by simp)⟩
end Go.Proofs.Ytfnddooclgklmaa
