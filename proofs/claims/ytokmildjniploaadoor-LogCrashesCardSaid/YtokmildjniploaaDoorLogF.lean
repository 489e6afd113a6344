/- log: what the laws keep of a log (its blocks, its records, rows held beside it); 'same'. Conditions: none. -/
import Derived.Test.YtokmildjniploaaDoorLogL
namespace Go.Proofs.YtokmildjniploaaDoor.PLog
open Go.RowKit Go.Proofs.YtokmildjniploaaDoorW.PrintWords Go.Proofs.YtokmildjniploaaDoorW.PrintLast Go.Proofs.YtokmildjniploaaDoorW.PrintMore Go.Proofs.YtokmildjniploaaDoor.BGLog Go.Proofs.YtokmildjniploaaDoor.MStr
open Go.Extern.Stop Go.Stop Go.Extern
set_option linter.unusedVariables false
set_option linter.unusedSimpArgs false
/-- Which blocks a log's may be: none that was there, all that are new. -/
structure Lst (w0 w : World) (ok : Nat → Prop) : Prop where
  lo : ∀ k, ok k → w0.heap.size ≤ k
  hi : ∀ k, w.heap.size ≤ k → ok k
  below : Below w0.heap.size w0 w
/-- Rows of rows that are held beside it. -/
structure Held (w : World) (B : Nat) (ok : Nat → Prop) (v : Value) (xs : List Rx) (recs : List (List Int)) : Prop where
  row : Kd.R kQ 35 w B (fun k => ¬ ok k) v xs
  each : Each (RowX w) xs recs
section
variable {w0 w w1 : World} {ok okB : Nat → Prop} {gd gl nb m area G B : Nat} {D : Dat} {recs : List (List Int)} {v : Value} {xs : List Rx}
theorem Lst.fr (h : Lst w0 w ok) {Ts : List Nat} (hf : Fr ok Ts w w1) : Lst w0 w1 ok := ⟨h.lo, fun k hk => h.hi k (Nat.le_trans hf.size hk), hf.below h.below h.below.size h.lo⟩
theorem Lst.step (h : Lst w0 w ok) (hb : Below w.heap.size w w1) : Lst w0 w1 ok := ⟨h.lo, fun k hk => h.hi k (Nat.le_trans hb.size hk), below_step h.below hb⟩
theorem Held.fr (h : Held w B ok v xs recs) (hs : Lst w0 w ok) (hf : Fr ok logT w w1) : Held w1 B ok v xs recs := ⟨rows_fr h.row hs.hi hf, h.each.imp (fun x y h => h.move (keepU_fr hf))⟩
theorem Held.step (h : Held w B ok v xs recs) (hb : Below w.heap.size w w1) : Held w1 B ok v xs recs := ⟨Kd.R_below h.row hb, h.each.imp (fun x y h => h.move (keepU_below hb))⟩
theorem Held.okTo (h : Held w B ok v xs recs) (hk : ∀ k, okB k → ok k) : Held w B okB v xs recs := ⟨Kd.R_mono h.row (fun k hn h => hn (hk k h)), h.each⟩
theorem Held.C (h : Held w B ok v xs recs) : ∃ A c, v = .slice A recs.length c ∧ recs.length ≤ c ∧ Kd.C (Kd.slice 5 (Kd.int .u8)) w A recs.length recs := by
  obtain ⟨A, c, rfl⟩ := Kd.R_slice h.row
  have h1 := Kd.R_reads' h.row
  have hl := h.each.1
  rw [hl] at h1 ⊢
  exact ⟨A, c, rfl, h1.2.1, rows_C h1.2.2 h.each⟩
theorem held_nil (w : World) (B : Nat) (ok : Nat → Prop) : Held w B ok (.slice none 0 0) [] [] := ⟨Kd.R_nil _ _ _ _ _, Each.nil⟩
end
/-- Open over a log whose rows are known. -/
theorem open_l (GA : Nat → Addr) (w0 w : World) (nb m : Nat) (ok : Nat → Prop) (gd : Nat) (D : Dat) (area G : Nat) (recs : List (List Int)) (hd : DevAt w ok gd D) (hs : Lst w0 w ok) (hl : LogD nb m D area G recs) (ha1 : 1 ≤ area) (ha : area ≤ 1000) (hnb : nb ≤ 1000000) (hmb : m ≤ 800000) (hG : Glob GA w) (hg : G < 4294967293) :
    Calls Tryd.prog 11 #[.pointer (some ⟨gd, 0, none⟩), .int .i64 (area : Int)] w fun e w' =>
      ∃ gl A c xs ok2, e = .returned (.tuple #[.pointer (some ⟨gl, 0, none⟩), .slice A recs.length c, .int .i64 0]) ∧
        LogAt w' ok2 gd gl (anewD area (G + 1) D recs) area (G + 1) (sumS recs) ∧ LogD nb (m + area + sumS recs + 1) (anewD area (G + 1) D recs) area (G + 1) recs ∧ Lst w0 w' ok2 ∧ (∀ k, ok2 k → ok k) ∧ Fr ok logT w w' ∧ Held w' w.heap.size ok2 (.slice A recs.length c) xs recs := by
  have hm : G < mark := by unfold mark; omega
  have hrd := hl.reads ha hm
  have ho := Open_ GA nb m ok gd D area w hd hs.hi (hl.may ha1 ha) hnb hmb hl.good hl.byt hG (by rw [hrd.1]; exact hg)
  rw [hrd.1, hrd.2] at ho
  refine ho.mono ?_
  intro e w' h
  rcases h with ⟨h0, _⟩ | ⟨_, gl, A, c, xs, ok2, rfl, h1, h2, h3, h4, h5, h6⟩
  · exact absurd h0 (by have := hl.log.one; omega)
  · exact ⟨gl, A, c, xs, ok2, rfl, h1, hl.anew hm hl.log.fit hl.log.good, ⟨fun k hk => hs.lo k (h2 k hk), h3, (hs.fr h4).below⟩, h2, h4, h5, h6⟩
theorem append_l (w0 w : World) (nb m : Nat) (ok : Nat → Prop) (gd gl : Nat) (D : Dat) (area G : Nat) (recs : List (List Int)) (A : Option Addr) (n c : Nat) (rec : List Int) (h : LogAt w ok gd gl D area G (sumS recs)) (hs : Lst w0 w ok) (hl : LogD nb m D area G recs) (ha : area ≤ 1000) (hg : G < 4294967296) (hnb : nb ≤ 1000000) (hmb : m ≤ 900000) (hC : Kd.C (Kd.int .u8) w A n rec) (hw : wfb rec) (hc : n ≤ c) (hn : n ≤ 65536) (hf : sumS recs + chN (4 + n) ≤ area) :
    Calls Tryd.prog 13 #[.pointer (some ⟨gl, 0, none⟩), .slice A n c] w fun e w' => e = .returned (.int .i64 0) ∧ LogAt w' ok gd gl (putD area G (sumS recs) D rec).flush area G (sumS (recs ++ [rec])) ∧ LogD nb (m + chN (4 + n)) (putD area G (sumS recs) D rec).flush area G (recs ++ [rec]) ∧ Lst w0 w' ok ∧ Fr ok logT w w' := by
  have hln : rec.length = n := hC.1
  subst hln
  refine (Append_ok nb m ok gd gl D area G (sumS recs) A rec.length c rec w h hs.hi ha hl.log.fit hg hnb hmb hl.good hC hc hn (by omega)).mono ?_
  rintro e w' ⟨rfl, h1, h2⟩
  refine ⟨rfl, ?_, hl.app hw hn hf, hs.fr h2, h2⟩
  rw [sumS_snoc]
  exact h1
/-! ### same -/
theorem take_same {α : Type} {a b : List α} {i : Nat} (h : a.take i = b.take i) (ha : i < a.length) (hb : i < b.length) (he : a[i] = b[i]) : a.take (i + 1) = b.take (i + 1) := by
  rw [List.take_succ_eq_append_getElem ha, List.take_succ_eq_append_getElem hb, h, he]
set_option maxHeartbeats 8000000 in
set_option maxRecDepth 100000 in
theorem same_ (A0 A1 : Option Addr) (c0 c1 n0 n1 : Nat) (l0 l1 : List (List Int)) (w : World) (h0 : Kd.C (Kd.slice 5 (Kd.int .u8)) w A0 n0 l0) (h1 : Kd.C (Kd.slice 5 (Kd.int .u8)) w A1 n1 l1) (hw0 : ∀ r, r ∈ l0 → wfb r) (hw1 : ∀ r, r ∈ l1 → wfb r) (hn : n0 ≤ 1000000) :
    Calls Tryd.prog 14 #[.slice A0 n0 c0, .slice A1 n1 c1] w fun e w' => e = .returned (.bool (decide (l0 = l1))) ∧ Below w.heap.size w w' := by
  have e0 : l0.length = n0 := h0.1
  have e1 : l1.length = n1 := h1.1
  by_cases hne : n0 = n1
  · have d1 : decide ((n0 : Int) = (n1 : Int)) = true := decide_eq_true (by omega)
    subst hne
    have H0 := Aside0.mk h0
    have H1 := Aside0.mk h1
    have HW0 := Aside0.mk hw0
    have HW1 := Aside0.mk hw1
    have HL := Aside0.mk (And.intro e0 e1)
    have HB := Aside0.mk (Below.refl w.heap.size w)
    have HN := Aside0.mk hn
    clear h0 h1 hw0 hw1 e0 e1 hn d1
    go_enter Tryd.func14, Tryd.ntmps14
    go_wp2
    go_loopg [5] (n0 + 1) (fun kq v5 w2 => ∃ i : Nat, v5 = .int .i64 (i : Int) ∧ Aside0 (i ≤ n0 ∧ n0 < kq + i) ∧ Aside0 (l0.take i = l1.take i) ∧ Aside0 (Below w.heap.size w w2))
    case atStart => exact ⟨0, rfl, ⟨by omega, by omega⟩, ⟨rfl⟩, HB⟩
    case round =>
      clear HB
      obtain ⟨i, rfl, HI, HT, HB⟩ := hrel
      by_cases hlt : i < n0
      · have t1 : decide ((i : Int) < (n0 : Int)) = true := decide_eq_true (by omega)
        have t2 : decide (i < n0) = true := decide_eq_true hlt
        have t3 : (i : Int) < (n0 : Int) := by omega
        have hn1 := HN.out
        have hw1 : IntKind.i64.wrap ((i : Int) + 1) = ((i + 1 : Nat) : Int) := by rw [IntKind.wrap_i64]; omega
        have hi0 : i < l0.length := by have := HL.out.1; omega
        have hi1 : i < l1.length := by have := HL.out.2; omega
        obtain ⟨ad, Ax, cx, eA, hx, hcx, hCx⟩ := at_rows (Kd.C_below H0.out HB.out) i hlt _ (List.getElem?_eq_getElem hi0)
        obtain ⟨ad1, Ay, cy, eB, hy, hcy, hCy⟩ := at_rows (Kd.C_below H1.out HB.out) i hlt _ (List.getElem?_eq_getElem hi1)
        cases eA
        cases eB
        have hcs0 := Kd.C_string (P := Tryd.prog) (src := 35) (e := 5) (dst := 9) (c := cx) Tryd.underlying35 Tryd.underlying5 Tryd.underlying9 hCx
        have hcd0 := fun m : Nat => Kd.C_string (P := Tryd.prog) (src := 35) (e := 5) (dst := 9) (c := cx) Tryd.underlying35 Tryd.underlying5 Tryd.underlying9 (Kd.C_drewN hCx m)
        have hcs1 := Kd.C_string (P := Tryd.prog) (src := 35) (e := 5) (dst := 9) (c := cy) Tryd.underlying35 Tryd.underlying5 Tryd.underlying9 hCy
        have hcd1 := fun m : Nat => Kd.C_string (P := Tryd.prog) (src := 35) (e := 5) (dst := 9) (c := cy) Tryd.underlying35 Tryd.underlying5 Tryd.underlying9 (Kd.C_drewN hCy m)
        have hbe := str_beq l0[i] l1[i] (HW0.out _ (List.getElem_mem hi0)) (HW1.out _ (List.getElem_mem hi1))
        have HLT := Aside0.mk hlt
        obtain ⟨nx, hnx⟩ : ∃ nx, l0[i].length = nx := ⟨_, rfl⟩
        obtain ⟨ny, hny⟩ : ∃ ny, l1[i].length = ny := ⟨_, rfl⟩
        rw [hnx] at hx hcs0
        simp only [hnx] at hcd0
        rw [hny] at hy hcs1
        simp only [hny] at hcd1
        by_cases he : l0[i] = l1[i]
        · rw [decide_eq_true he] at hbe
          have HTN := Aside0.mk (take_same HT.out hi0 hi1 he)
          generalize strOfNums l0[i] = s0 at hcs0 hcd0 hbe
          generalize strOfNums l1[i] = s1 at hcs1 hcd1 hbe
          clear hlt hi0 hi1 hCx hCy hnx hny he hcx hcy
          go_upto_region 6 with (fail)
          go_quiet (fail)
          go_wp2
          go_roundg (gk - 1)
          case measure => have := HI.out; omega
          case rel => exact ⟨i + 1, by first | rfl | go_num, ⟨by have := HLT.out; omega, by have := HI.out; omega⟩, HTN, ⟨pw_below_drewN HB.out _⟩⟩
        · rw [decide_eq_false he] at hbe
          have HNE := Aside0.mk (show decide (l0 = l1) = false from decide_eq_false (fun e => he (by subst e; rfl)))
          generalize strOfNums l0[i] = s0 at hcs0 hcd0 hbe
          generalize strOfNums l1[i] = s1 at hcs1 hcd1 hbe
          clear hlt hi0 hi1 hCx hCy hnx hny he hcx hcy
          go_upto_region 6 with (fail)
          go_quiet (fail)
          go_wp2
          go_ret
          exact ⟨by rw [HNE.out]; rfl, pw_below_drewN HB.out _⟩
      · have t1 : decide ((i : Int) < (n0 : Int)) = false := decide_eq_false (by omega)
        have t2 : decide (i < n0) = false := decide_eq_false hlt
        have t3 : ¬ (i : Int) < (n0 : Int) := by omega
        have HE := Aside0.mk (show decide (l0 = l1) = true from decide_eq_true (by
          have h := HT.out
          have hl := HL.out
          rw [List.take_of_length_le (by have := HI.out; omega), List.take_of_length_le (by have := HI.out; omega)] at h
          exact h))
        clear hlt
        go_wp2
        go_ret
        exact ⟨by rw [HE.out]; rfl, HB.out⟩
  · have d1 : decide ((n0 : Int) = (n1 : Int)) = false := decide_eq_false (by omega)
    have d2 : decide (n0 = n1) = false := decide_eq_false hne
    have d3 : ((n0 : Int) == (n1 : Int)) = false := beq_eq_false_iff_ne.mpr (by omega)
    have d4 : (n0 == n1) = false := beq_eq_false_iff_ne.mpr hne
    have d5 : ((n0 : Int) = (n1 : Int)) = False := eq_false (by omega)
    have HNE := Aside0.mk (show decide (l0 = l1) = false from decide_eq_false (fun e => hne (by rw [← e0, ← e1, e])))
    clear hne h0 h1 e0 e1
    go_enter Tryd.func14, Tryd.ntmps14
    go_wp2
    go_ret
    exact ⟨by rw [HNE.out]; rfl, Below.refl _ _⟩
/-- One more row is held. -/
theorem want_step {w0 W W1 : World} {ok : Nat → Prop} {gd gl area G used B : Nat} {D : Dat} {recs : List (List Int)} {v v1 : Value} {xs : List Rx} {x : Rx} {r : List Int} (hX : Held W B ok v xs recs) (hs : Lst w0 W ok) (hA : LogAt W ok gd gl D area G used) (ho : Kd.R kQ 35 W1 B (fun k => ¬ ok k ∨ W.heap.size ≤ k) v1 (xs ++ [x])) (hg : W.grownBy W1 v.ownBlock) (hb : Below w0.heap.size w0 W1) (hx : RowX W x r) :
    ∃ okC : Nat → Prop, (∀ k, okC k → ok k) ∧ LogAt W1 okC gd gl D area G used ∧ Lst w0 W1 okC ∧ Held W1 B okC v1 (xs ++ [x]) (recs ++ [r]) := by
  have hrk : ∀ k, v.ownBlock = some k → ¬ ok k ∧ (k < W.heap.size → ∃ cs, W.heap[k]? = some (Obj.cells cs 35 (0, 0))) := fun k hk => ⟨hX.row.1 k hk, fun _ => Kd.R_typed hX.row k hk⟩
  have hA2 := hA.bound.grownO hg (fun k hk => ⟨fun h => (hrk k hk).1 h.1, (hrk k hk).2⟩)
  have hku := keepU_grown hg (fun k hk => (hrk k hk).2)
  refine ⟨fun k => (ok k ∧ k < W.heap.size) ∨ W1.heap.size ≤ k, fun k hk => ?_, hA2.mono (fun k hk => .inl hk), ⟨fun k hk => ?_, fun k hk => .inr hk, hb⟩, ⟨?_, ?_⟩⟩
  · rcases hk with h | h
    · exact h.1
    · exact hs.hi k (Nat.le_trans hg.size h)
  · rcases hk with h | h
    · exact hs.lo k h.1
    · exact hs.lo k (hs.hi k (Nat.le_trans hg.size h))
  · refine Kd.R_mono (Kd.R_bound ho) (fun k hk h => ?_)
    have h3 := hk.2.2.1
    rcases h with h | h
    · rcases hk.1 with h2 | h2
      · exact h2 h.1
      · omega
    · omega
  · exact (hX.each.imp (fun x y h => h.move hku)).snoc (hx.move hku)
end Go.Proofs.YtokmildjniploaaDoor.PLog
