/- log: what crashes leave of a log: the plain law (no program in sight). log: a log behind a crash: the plain law (no program in sight). log: what LogCrashes keeps of a device: live, cold, behind a crash (no program in sight). LogCrashes: light, deeds, and rows that are held beside a log that may stop. Conditions: none. -/
import Derived.Test.YtokmildjniploaaDoorLogL
import Derived.Test.YtokmildjniploaaDoorLogX
namespace Go.Proofs.YtokmildjniploaaDoor.PLog
open Go.RowKit Go.Proofs.YtokmildjniploaaDoorW.PrintWords Go.Proofs.YtokmildjniploaaDoorW.PrintLast Go.Proofs.YtokmildjniploaaDoorW.PrintMore Go.Proofs.YtokmildjniploaaDoor.BGLog
set_option linter.unusedVariables false
set_option linter.unusedSimpArgs false
/-! ### Torn blocks -/
/-- Torn over what has other last bytes: none, or whole. -/
theorem torn_no (g s : Int) (a y : List Int) (ha : a.length ≤ 110) (hy : y.length = 128) (hne : y.drop 120 ≠ F4 g ++ F4 s) (k : Nat) (hk : k ≤ 128) (hw : wfb ((putT g s a).take k ++ y.drop k)) (h : (putT g s a).take k ++ y.drop k ≠ putT g s a) :
    (takeT g s ((putT g s a).take k ++ y.drop k)).2 = false := by
  have hx := putT_len g s a ha
  unfold BGLog.takeT
  rw [if_neg]
  intro ⟨h1, h2, h3⟩
  apply h
  have hll : (ld ((putT g s a).take k ++ y.drop k)).length ≤ 110 := by
    have := ld_len _ hw h1 h2
    omega
  have hend := put_end g s _ hll
  rw [h3] at hend
  have hxl : ((putT g s a).take k).length = k := by rw [List.length_take]; omega
  by_cases hk2 : k ≤ 120
  · exfalso
    apply hne
    rw [← hend]
    have e : ((putT g s a).take k ++ y.drop k).drop 120 = (y.drop k).drop (120 - k) := by
      rw [show (120 : Nat) = ((putT g s a).take k).length + (120 - k) by omega, List.drop_append, hxl]
      have : ((putT g s a).take k).drop (k + (120 - k)) = [] := List.drop_eq_nil_of_le (by omega)
      rw [this, List.nil_append]
    rw [e, List.drop_drop, show k + (120 - k) = 120 by omega]
  · have e1 : ((putT g s a).take k ++ y.drop k).take 120 = (putT g s a).take 120 := by
      rw [List.take_append_of_le_length (by omega), List.take_take, show min 120 k = 120 by omega]
    rw [← List.take_append_drop 120 ((putT g s a).take k ++ y.drop k), e1, hend, ← put_end g s a ha, List.take_append_drop]
/-- First bytes of the one, the others of the other. -/
def Mix (new old row : List Int) : Prop := ∃ k, k ≤ 128 ∧ row = new.take k ++ old.drop k
theorem mix_old (new old : List Int) : Mix new old old := ⟨0, by omega, by simp⟩
theorem mix_new {new old : List Int} (hn : new.length = 128) (ho : old.length = 128) : Mix new old new := ⟨128, Nat.le_refl _, by rw [List.take_of_length_le (by omega), List.drop_eq_nil_of_le (by omega), List.append_nil]⟩
theorem mix_tear {new old row : List Int} (hn : new.length = 128) (h : Mix new old row) (T : Nat) (hT : T ≤ 128) : Mix new old (new.take T ++ row.drop T) := by
  obtain ⟨k, hk, rfl⟩ := h
  have hl : (new.take k).length = k := by rw [List.length_take]; omega
  rcases Nat.le_total T k with c | c
  · refine ⟨k, hk, ?_⟩
    rw [List.drop_append_of_le_length (by omega), ← List.append_assoc]
    have := List.take_append_drop T (new.take k)
    rw [List.take_take, Nat.min_eq_left c] at this
    rw [this]
  · refine ⟨T, hT, ?_⟩
    have e : (new.take k ++ old.drop k).drop T = old.drop T := by
      rw [show T = (new.take k).length + (T - k) by omega, List.drop_append, hl]
      have h0 : (new.take k).drop (k + (T - k)) = [] := List.drop_eq_nil_of_le (by omega)
      rw [h0, List.nil_append, List.drop_drop, show k + (T - k) = T by omega]
      congr 1
      omega
    rw [e]
theorem mix_wf {new old row : List Int} (h : Mix new old row) (hn : wfb new) (ho : wfb old) : wfb row := by
  obtain ⟨k, _, rfl⟩ := h
  exact wfb_app (fun x hx => hn x (List.mem_of_mem_take hx)) (fun x hx => ho x (List.mem_of_mem_drop hx))
/-! ### What a crash leaves, block by block -/
theorem getD_set_or {s : List (List Int)} {j : Nat} {v : List Int} (P : List Int → Prop) (h1 : P v) (h2 : P (s.getD j [])) : P ((s.set j v).getD j []) := by
  by_cases c : j < s.length
  · rw [getD_set_at c]; exact h1
  · rw [List.set_eq_of_length_le (by omega)]; exact h2
theorem crash_mix (keep : List Int) (torn : Int) (T j : Nat) (b old : List Int) (hT : T ≤ 128) (hb : b.length = 128) (ho : old.length = 128) (l : List (Int × List Int)) : ∀ (i : Nat) (s : List (List Int)), (∀ x, x ∈ l → x.1.toNat = j → x.2 = b) → Mix b old (s.getD j []) → Mix b old ((crashS keep torn T i l s).getD j []) := by
  induction l with
  | nil => intro i s _ h; exact h
  | cons x l ih =>
    intro i s h hm
    have hx := h x List.mem_cons_self
    simp only [crashS]
    refine ih (i + 1) _ (fun y hy => h y (List.mem_cons_of_mem _ hy)) ?_
    by_cases hj : x.1.toNat = j
    · rw [hj, hx hj]
      split
      · exact getD_set_or (Mix b old) (mix_tear hb hm T hT) hm
      · split
        · exact getD_set_or (Mix b old) (mix_new hb ho) hm
        · exact hm
    · split
      · rw [getD_set_ne hj]; exact hm
      · split
        · rw [getD_set_ne hj]; exact hm
        · exact hm
theorem crash_far (keep : List Int) (torn : Int) (T j : Nat) (l : List (Int × List Int)) (i : Nat) (s : List (List Int)) (h : ∀ x, x ∈ l → x.1.toNat ≠ j) : (crashS keep torn T i l s).getD j [] = s.getD j [] := by
  rw [List.getD_eq_getElem?_getD, List.getD_eq_getElem?_getD, crashS_other keep torn T j l i s h]
theorem byt_getD {s : List (List Int)} (h : Byt s) (j : Nat) : wfb (s.getD j []) := by
  rw [List.getD_eq_getElem?_getD]
  cases c : s[j]? with
  | none => exact wfb_nil
  | some r => exact h r (List.mem_of_getElem? c)
theorem byt_set {s : List (List Int)} (h : Byt s) (j : Nat) {v : List Int} (hv : wfb v) : Byt (s.set j v) := fun r hr => by
  rcases List.mem_or_eq_of_mem_set hr with hr | hr
  · exact h r hr
  · rw [hr]; exact hv
theorem crash_byt (keep : List Int) (torn : Int) (T : Nat) (l : List (Int × List Int)) : ∀ (i : Nat) (s : List (List Int)), (∀ x, x ∈ l → wfb x.2) → Byt s → Byt (crashS keep torn T i l s) := by
  induction l with
  | nil => intro i s _ h; exact h
  | cons x l ih =>
    intro i s h hs
    have hx := h x List.mem_cons_self
    simp only [crashS]
    refine ih (i + 1) _ (fun y hy => h y (List.mem_cons_of_mem _ hy)) ?_
    split
    · exact byt_set hs _ (wfb_app (fun y hy => hx y (List.mem_of_mem_take hy)) (fun y hy => byt_getD hs _ y (List.mem_of_mem_drop hy)))
    · split
      · exact byt_set hs _ hx
      · exact hs
theorem clampT_le (a : Int) : clampT a ≤ 128 := by unfold clampT; split <;> (try split) <;> omega
/-! ### Writes of a device that may stop -/
def castW (l : List Wr) : List (Int × List Int) := l.map fun x => ((x.1 : Int), x.2)
theorem castW_mem {l : List Wr} {x : Int × List Int} (h : x ∈ castW l) : ∃ y, y ∈ l ∧ x.1.toNat = y.1 ∧ x.2 = y.2 := by
  obtain ⟨y, hy, rfl⟩ := List.mem_map.1 h
  exact ⟨y, hy, by show ((y.1 : Int)).toNat = y.1; omega, rfl⟩
theorem runW_stop (l : List Wr) : ∀ D : Dat, -1 ≤ D.left → MayW D.seen.length l → (∃ j, j ≤ l.length ∧ (runW D l).seen = sets D.seen (l.take j) ∧ (runW D l).later = D.later ++ castW (l.take j) ∧ ((runW D l).left ≠ 0 → j = l.length)) ∧ (runW D l).sure = D.sure ∧ -1 ≤ (runW D l).left ∧ (D.left = 0 → runW D l = D) := by
  induction l with
  | nil => intro D h _; exact ⟨⟨0, Nat.le_refl _, rfl, (List.append_nil _).symm, fun _ => rfl⟩, rfl, h, fun _ => rfl⟩
  | cons x l ih =>
    intro D h hm
    have hx := hm x List.mem_cons_self
    by_cases h0 : D.left = 0
    · have e : (D.write (x.1 : Int) x.2).2 = D := by
        unfold Dat.write
        rw [if_pos ⟨by omega, by omega, hx.2⟩, if_pos h0]
      have ew : runW D (x :: l) = D := (congrArg (fun D => runW D l) e).trans ((ih D h (fun y hy => hm y (List.mem_cons_of_mem _ hy))).2.2.2 h0)
      rw [ew]
      exact ⟨⟨0, Nat.zero_le _, rfl, (List.append_nil _).symm, fun hn => absurd h0 hn⟩, rfl, h, fun _ => rfl⟩
    · have e : (D.write (x.1 : Int) x.2).2 = D.wrote x.1 x.2 := by
        unfold Dat.write
        rw [if_pos ⟨by omega, by omega, hx.2⟩, if_neg h0, Int.toNat_natCast]
      have ew : runW D (x :: l) = runW (D.wrote x.1 x.2) l := congrArg (fun D => runW D l) e
      have hl : -1 ≤ (D.wrote x.1 x.2).left := by
        show -1 ≤ (if 0 < D.left then D.left - 1 else D.left)
        split <;> omega
      have hs : (D.wrote x.1 x.2).seen = D.seen.set x.1 x.2 := rfl
      obtain ⟨⟨j, h1, h2, h3, h4⟩, h5, h6, _⟩ := ih (D.wrote x.1 x.2) hl (fun y hy => by rw [hs, List.length_set]; exact hm y (List.mem_cons_of_mem _ hy))
      rw [ew]
      refine ⟨⟨j + 1, by rw [List.length_cons]; omega, h2, ?_, fun hn => by rw [h4 hn, List.length_cons]⟩, h5, h6, fun hz => absurd hz h0⟩
      rw [h3]
      show D.later ++ [((x.1 : Int), x.2)] ++ castW (l.take j) = D.later ++ castW (x :: l.take j)
      rw [List.append_assoc]
      rfl
/-- All that was written is sure. -/
structure Quiet (D : Dat) (s : List (List Int)) : Prop where
  seen : D.seen = s
  sure : D.sure = s
  later : D.later = []
theorem run_flush {D : Dat} {s : List (List Int)} {l : List Wr} (hq : Quiet D s) (hl : -1 ≤ D.left) (hm : MayW s.length l) : -1 ≤ (runW D l).flush.left ∧ (((runW D l).flush.left = 0 ∧ (runW D l).flush.sure = s ∧ (∃ j, (runW D l).flush.later = castW (l.take j)) ∧ (runW D l).flush.seen.length = s.length) ∨ ((runW D l).flush.left ≠ 0 ∧ Quiet (runW D l).flush (sets s l))) := by
  obtain ⟨⟨j, h1, h2, h3, h4⟩, h5, h6, _⟩ := runW_stop l D hl (by rw [hq.seen]; exact hm)
  rw [flush_left]
  refine ⟨h6, ?_⟩
  by_cases z : (runW D l).left = 0
  · have hf : (runW D l).flush = runW D l := by unfold Dat.flush; rw [if_pos z]
    rw [hf]
    exact .inl ⟨z, h5.trans hq.sure, ⟨j, by rw [h3, hq.later, List.nil_append]⟩, by rw [h2, sets_len, hq.seen]⟩
  · have hf : (runW D l).flush = { runW D l with sure := (runW D l).seen, later := [] } := by unfold Dat.flush; rw [if_neg z]
    have hs : (runW D l).seen = sets s l := by rw [h2, h4 z, List.take_length, hq.seen]
    rw [hf]
    exact .inr ⟨z, hs, hs, rfl⟩
theorem run_stuck {D : Dat} {l : List Wr} (h : D.left = 0) (hm : MayW D.seen.length l) : (runW D l).flush = D := by
  have := (runW_stop l D (by omega) hm).2.2.2 h
  rw [this]
  unfold Dat.flush
  rw [if_pos h]
theorem may_slot (area G n : Nat) (h : 2 + 2 * area ≤ n) : MayW n [(G % 2, putT (G : Int) (mark : Int) [])] := fun x hx => by
  have hm : G % 2 < 2 := Nat.mod_lt _ (by decide)
  rw [List.mem_singleton.1 hx]
  exact ⟨by show G % 2 < _; omega, putT_len _ _ _ (by decide)⟩
/-- Anew, cut short: which blocks are not sure. -/
theorem anew_out {D : Dat} {s : List (List Int)} {area G : Nat} {recs : List (List Int)} (hq : Quiet D s) (hl : -1 ≤ D.left) (hn : 2 + 2 * area ≤ s.length) (hs : sumS recs ≤ area) : -1 ≤ (anewD area G D recs).left ∧
    (((anewD area G D recs).left ≠ 0 ∧ Quiet (anewD area G D recs) (anewS s area G recs)) ∨
     ((anewD area G D recs).left = 0 ∧ ∃ l : List Wr, (anewD area G D recs).later = castW l ∧
       (((∀ x, x ∈ l → x ∈ wrs (blankW area G) area) ∧ (anewD area G D recs).sure = s) ∨ ((∀ x, x ∈ l → x ∈ putsW area G 0 recs) ∧ (anewD area G D recs).sure = sets s (wrs (blankW area G) area)) ∨
        ((∀ x, x ∈ l → x = (G % 2, putT (G : Int) (mark : Int) [])) ∧ (anewD area G D recs).sure = sets (sets s (wrs (blankW area G) area)) (putsW area G 0 recs))))) := by
  rw [anewD_run]
  obtain ⟨k1, h1⟩ := run_flush hq hl (may_blank area G _ hn)
  generalize (runW D (wrs (blankW area G) area)).flush = D1 at *
  rcases h1 with ⟨z, hsu, ⟨j, hj⟩, hsl⟩ | ⟨z, hq1⟩
  · have e2 : (runW D1 (putsW area G 0 recs)).flush = D1 := run_stuck z (by rw [hsl]; exact may_puts area G _ hn recs 0 (by omega))
    have e3 : (runW D1 [(G % 2, putT (G : Int) (mark : Int) [])]).flush = D1 := run_stuck z (by rw [hsl]; exact may_slot area G _ hn)
    rw [e2, e3]
    exact ⟨k1, .inr ⟨z, _, hj, .inl ⟨fun x hx => List.mem_of_mem_take hx, hsu⟩⟩⟩
  · have hn1 : 2 + 2 * area ≤ (sets s (wrs (blankW area G) area)).length := by rw [sets_len]; exact hn
    obtain ⟨k2, h2⟩ := run_flush hq1 k1 (may_puts area G _ hn1 recs 0 (by omega))
    generalize (runW D1 (putsW area G 0 recs)).flush = D2 at *
    rcases h2 with ⟨z2, hsu, ⟨j, hj⟩, hsl⟩ | ⟨z2, hq2⟩
    · have e3 : (runW D2 [(G % 2, putT (G : Int) (mark : Int) [])]).flush = D2 := run_stuck z2 (by rw [hsl]; exact may_slot area G _ hn1)
      rw [e3]
      exact ⟨k2, .inr ⟨z2, _, hj, .inr (.inl ⟨fun x hx => List.mem_of_mem_take hx, hsu⟩)⟩⟩
    · have hn2 : 2 + 2 * area ≤ (sets (sets s (wrs (blankW area G) area)) (putsW area G 0 recs)).length := by rw [sets_len]; exact hn1
      obtain ⟨k3, h3⟩ := run_flush hq2 k2 (may_slot area G _ hn2)
      refine ⟨k3, ?_⟩
      rcases h3 with ⟨z3, hsu, ⟨j, hj⟩, _⟩ | ⟨z3, hq3⟩
      · exact .inr ⟨z3, _, hj, .inr (.inr ⟨fun x hx => List.mem_singleton.1 (List.mem_of_mem_take hx), hsu⟩)⟩
      · exact .inl ⟨z3, hq3⟩
/-- Append, cut short. -/
theorem app_out {D : Dat} {s : List (List Int)} {area G u : Nat} {r : List Int} (hq : Quiet D s) (hl : -1 ≤ D.left) (hn : 2 + 2 * area ≤ s.length) (hu : u + chN (4 + r.length) ≤ area) : -1 ≤ (putD area G u D r).flush.left ∧
    (((putD area G u D r).flush.left ≠ 0 ∧ Quiet (putD area G u D r).flush (appS s area G u r)) ∨
     ((putD area G u D r).flush.left = 0 ∧ (putD area G u D r).flush.sure = s ∧ ∃ l : List Wr, (putD area G u D r).flush.later = castW l ∧ ∀ x, x ∈ l → x ∈ wrs (recW area G u r) (chN (4 + r.length)))) := by
  rw [putD_run]
  obtain ⟨k1, h1⟩ := run_flush hq hl (may_rec area G u _ r hn hu)
  refine ⟨k1, ?_⟩
  rcases h1 with ⟨z, hsu, ⟨j, hj⟩, _⟩ | ⟨z, hq1⟩
  · exact .inr ⟨z, hsu, _, hj, fun x hx => List.mem_of_mem_take hx⟩
  · exact .inl ⟨z, hq1⟩
end Go.Proofs.YtokmildjniploaaDoor.PLog
namespace Go.Proofs.YtokmildjniploaaDoor.PLog
open Go.RowKit Go.Proofs.YtokmildjniploaaDoorW.PrintWords Go.Proofs.YtokmildjniploaaDoorW.PrintLast Go.Proofs.YtokmildjniploaaDoorW.PrintMore Go.Proofs.YtokmildjniploaaDoor.BGLog
set_option linter.unusedVariables false
set_option linter.unusedSimpArgs false
/-! ### What is read hangs on the area's rows alone -/
theorem recGo_congr {D D2 : Dat} {area gen used : Nat} (h : ∀ i, i < area → D2.seen.getD (atN area gen i) [] = D.seen.getD (atN area gen i) []) : ∀ (f k : Nat) (text : List Int) (long : Nat), recGo D2 area gen used f k text long = recGo D area gen used f k text long
  | 0, _, _, _ => rfl
  | f + 1, k, text, long => by
    unfold recGo
    by_cases c1 : long ≤ text.length
    · rw [if_pos c1, if_pos c1]
    · by_cases c2 : area ≤ used + k
      · rw [if_neg c1, if_neg c1, if_pos c2, if_pos c2]
      · rw [rowAt_nat, rowAt_nat, h (used + k) (by omega), recGo_congr h f]
theorem record_congr {D D2 : Dat} {area gen used : Nat} (h : ∀ i, i < area → D2.seen.getD (atN area gen i) [] = D.seen.getD (atN area gen i) []) : recordS D2 area gen used = recordS D area gen used := recGo_congr h _ _ _ _
/-! ### The slot that is written -/
theorem numS_take (r : List Int) (m : Nat) (hm : 4 ≤ m) : numS (r.take m) = numS r := by
  unfold numS
  rw [List.take_take, Nat.min_eq_left hm]
theorem slot_wf (g : Nat) : wfb (putT (g : Int) (mark : Int) []) := putT_wf _ _ _ wfb_nil
theorem drop_mix {X Y : List Int} {k : Nat} (hx : X.length = k) (m : Nat) : (X ++ Y.drop k).drop (k + m) = Y.drop (k + m) := by
  have h := List.drop_append (l₁ := X) (l₂ := Y.drop k) (i := k + m)
  rw [h, List.drop_eq_nil_of_le (by omega), List.nil_append, List.drop_drop]
  congr 1
  omega
theorem slot_part {G : Nat} {row : List Int} (h2 : 2 ≤ G) (hm : G + 1 < mark) (h : Mix (putT ((G + 1 : Nat) : Int) (mark : Int) []) (putT ((G - 1 : Nat) : Int) (mark : Int) []) row) : row = putT ((G + 1 : Nat) : Int) (mark : Int) [] ∨ (slotB row ((G + 1) % 2) = true → numS row ≤ G) := by
  have hw := mix_wf h (slot_wf (G + 1)) (slot_wf (G - 1))
  obtain ⟨k, hk, hrow⟩ := h
  by_cases hn : row = putT ((G + 1 : Nat) : Int) (mark : Int) []
  · exact .inl hn
  refine .inr (fun hs => ?_)
  have hm2 : mark = 4294967295 := rfl
  have hg : numS row < 4294967296 := numS_lt row
  unfold slotB at hs
  rw [Bool.and_eq_true, Bool.and_eq_true, Bool.and_eq_true] at hs
  have ht := hs.1.1.1
  generalize hgg : numS row = g at *
  have hok : okT (g : Int) (mark : Int) row := by
    unfold BGLog.takeT at ht
    split at ht
    · assumption
    · cases ht
  obtain ⟨h1, h8, hp⟩ := hok
  have hll : (ld row).length ≤ 110 := by
    have := ld_len _ hw h1 h8
    omega
  have hend := put_end (g : Int) (mark : Int) _ hll
  rw [hp] at hend
  have ho := putT_len ((G - 1 : Nat) : Int) (mark : Int) [] (by decide)
  have hnl := putT_len ((G + 1 : Nat) : Int) (mark : Int) [] (by decide)
  have hxl : ((putT ((G + 1 : Nat) : Int) (mark : Int) []).take k).length = k := by rw [List.length_take]; omega
  by_cases hk2 : k ≤ 120
  · have e : row.drop 120 = (putT ((G - 1 : Nat) : Int) (mark : Int) []).drop 120 := by
      have h := drop_mix (Y := putT ((G - 1 : Nat) : Int) (mark : Int) []) hxl (120 - k)
      rw [show k + (120 - k) = 120 by omega] at h
      rw [hrow]
      exact h
    rw [e, put_end _ _ _ (by decide)] at hend
    have h4 := (List.append_inj hend (by rw [F4_len, F4_len])).1
    have := F4_inj _ _ (by unfold u32; omega) (by unfold u32; omega) h4
    omega
  · exfalso
    apply hn
    have e1 : row.take 120 = (putT ((G + 1 : Nat) : Int) (mark : Int) []).take 120 := by
      rw [hrow, List.take_append_of_le_length (by omega), List.take_take, show min 120 k = 120 by omega]
    have e2 : g = G + 1 := by
      have h3 := numS_take row 120 (by omega)
      rw [e1, numS_take _ 120 (by omega), numS_put (G + 1) (by omega), hgg] at h3
      exact h3.symm
    rw [e2] at hend
    rw [← List.take_append_drop 120 row, e1, hend, ← put_end ((G + 1 : Nat) : Int) (mark : Int) [] (by decide), List.take_append_drop]
/-! ### A log behind a crash -/
structure LogC (D : Dat) (area G : Nat) (recs : List (List Int)) : Prop where
  log : LogS D.seen area G recs
  stop : recordS D area G (sumS recs) = none
  two : 2 ≤ G
  old : Mix (putT ((G + 1 : Nat) : Int) (mark : Int) []) (putT ((G - 1 : Nat) : Int) (mark : Int) []) (D.seen.getD ((G + 1) % 2) [])
theorem LogC.congr {D D2 : Dat} {area G : Nat} {recs : List (List Int)} (h : LogC D area G recs) (he : D2.seen = D.seen) : LogC D2 area G recs := by
  refine ⟨by rw [he]; exact h.log, ?_, h.two, by rw [he]; exact h.old⟩
  rw [record_congr (D := D) (fun i _ => by rw [he])]
  exact h.stop
theorem LogC.reads {D : Dat} {area G : Nat} {recs : List (List Int)} (h : LogC D area G recs) (ha : area ≤ 1000) (hm : G < mark) : genTo D 2 = G ∧ openRecs D area G = recs := h.log.reads ha hm h.stop
theorem LogC.far {D D2 : Dat} {area G : Nat} {recs : List (List Int)} (h : LogC D area G recs) (hm : G + 1 < mark) (hlen : D2.seen.length = D.seen.length)
    (hcur : D2.seen.getD (G % 2) [] = D.seen.getD (G % 2) []) (hoth : Mix (putT ((G + 1 : Nat) : Int) (mark : Int) []) (putT ((G - 1 : Nat) : Int) (mark : Int) []) (D2.seen.getD ((G + 1) % 2) [])) (hno : D2.seen.getD ((G + 1) % 2) [] = D.seen.getD ((G + 1) % 2) [] ∨ D2.seen.getD ((G + 1) % 2) [] ≠ putT ((G + 1 : Nat) : Int) (mark : Int) [])
    (hbl : ∀ i, i < area → D2.seen.getD (atN area G i) [] = D.seen.getD (atN area G i) []) : LogC D2 area G recs := by
  have hfit := h.log.fit
  refine ⟨⟨h.log.one, by rw [hlen]; exact h.log.len, hcur.trans h.log.cur, ?_, h.log.blk.frame (fun i _ hi => hbl i (by omega)), h.log.fit, h.log.good⟩, ?_, h.two, hoth⟩
  · rcases hno with e | e
    · rw [e]; exact h.log.oth
    · rcases slot_part h.two hm hoth with e2 | e2
      · exact absurd e2 e
      · exact e2
  · rw [record_congr (D := D) hbl]
    exact h.stop
theorem crash_seen (D : Dat) (keep : List Int) (torn a : Int) : (D.crash keep torn a).seen = crashS keep torn (clampT a) 0 D.later D.sure := rfl
theorem blank_far (area G j : Nat) (h : ∀ i, i < area → atN area G i ≠ j) (s : List (List Int)) : (sets s (wrs (blankW area G) area)).getD j [] = s.getD j [] :=
  sets_other _ _ _ (fun x hx => by obtain ⟨i, h3, rfl⟩ := wrs_mem hx; exact h i h3)
theorem puts_far (area G j : Nat) (h : ∀ i, i < area → atN area G i ≠ j) (recs : List (List Int)) (hs : sumS recs ≤ area) (s : List (List Int)) : (sets s (putsW area G 0 recs)).getD j [] = s.getD j [] :=
  sets_other _ _ _ (fun x hx => by
    obtain ⟨i, _, h4, h5⟩ := puts_idx area G recs 0 x hx
    rw [h5]
    exact h i (by omega))
/-- Anew, cut short by a crash: what was, or what is new. -/
theorem anew_crash {D : Dat} {area G : Nat} {R0 recs : List (List Int)} (hc : LogC D area G R0) (hq : Quiet D D.seen) (hl : -1 ≤ D.left) (ha : area ≤ 1000) (hm : G + 2 < mark) (hs : sumS recs ≤ area) (hr : Recs recs) (keep : List Int) (torn a : Int) :
    LogC ((anewD area (G + 1) D recs).crash keep torn a) area G R0 ∨ LogC ((anewD area (G + 1) D recs).crash keep torn a) area (G + 1) recs := by
  have hn := hc.log.len
  have hm2 : mark = 4294967295 := rfl
  obtain ⟨_, ho⟩ := anew_out (area := area) (G := G + 1) (recs := recs) hq hl hn hs
  generalize anewD area (G + 1) D recs = D' at *
  have hsl : ∀ q i, i < area → atN area (G + 1) i ≠ q % 2 := fun q i _ => by have := at_slot area (G + 1) i; have := Nat.mod_lt q (show 0 < 2 by decide); omega
  have hgp : G % 2 ≠ (G + 1) % 2 := by omega
  have hdown : ∀ i q, i < area → q < area → atN area (G + 1) q ≠ atN area G i := fun i q hi hqq e => at_apart hi hqq e.symm
  -- the rows behind all puts
  have hfar2 : ∀ j, (∀ i, i < area → atN area (G + 1) i ≠ j) → (sets (sets D.seen (wrs (blankW area (G + 1)) area)) (putsW area (G + 1) 0 recs)).getD j [] = D.seen.getD j [] := fun j hj => (puts_far area (G + 1) j hj recs hs _).trans (blank_far area (G + 1) j hj _)
  have hnew := anew_logS (s := D.seen) (area := area) (G := G + 1) (recs := recs) (by omega) hn (fun hx => by
    rw [show (G + 1 + 1) % 2 = G % 2 by omega, hc.log.cur, numS_put G (by omega)]
    omega) hs hr
  have hset : anewS D.seen area (G + 1) recs = (sets (sets D.seen (wrs (blankW area (G + 1)) area)) (putsW area (G + 1) 0 recs)).set ((G + 1) % 2) (putT ((G + 1 : Nat) : Int) (mark : Int) []) := rfl
  -- a state that has the new log
  have hnewC : ∀ D2 : Dat, D2.seen.length = D.seen.length → (∀ j, j ≠ (G + 1) % 2 → D2.seen.getD j [] = (sets (sets D.seen (wrs (blankW area (G + 1)) area)) (putsW area (G + 1) 0 recs)).getD j []) → D2.seen.getD ((G + 1) % 2) [] = putT ((G + 1 : Nat) : Int) (mark : Int) [] → LogC D2 area (G + 1) recs := fun D2 hlen2 hj hslot => by
    have hall : ∀ j, D2.seen.getD j [] = (anewS D.seen area (G + 1) recs).getD j [] := fun j => by
      rw [hset]
      by_cases c : j = (G + 1) % 2
      · have hb : (G + 1) % 2 < (sets (sets D.seen (wrs (blankW area (G + 1)) area)) (putsW area (G + 1) 0 recs)).length := by
          rw [sets_len, sets_len]
          have := Nat.mod_lt (G + 1) (show 0 < 2 by decide)
          omega
        rw [c, hslot, getD_set_at hb]
      · rw [hj j c, getD_set_ne (fun e => c e.symm)]
    have h2 : (G + 1 + 1) % 2 = G % 2 := by omega
    refine ⟨⟨by omega, by rw [hlen2]; exact hn, hslot, ?_, hnew.1.blk.frame (fun i _ _ => hall _), hs, hr⟩, ?_, by have := hc.two; omega, ?_⟩
    · rw [hall]; exact hnew.1.oth
    · refine Rest.none (fun i h1 h3 => ?_) ha (by omega) (by omega) hs
      rw [hall]
      exact hnew.2 i h1 h3
    · rw [h2, hj _ hgp, hfar2 _ (fun i hi => hsl G i hi), hc.log.cur]
      exact mix_old _ _
  rcases ho with ⟨_, hq2⟩ | ⟨_, l, hla, ⟨hx, hsu⟩ | ⟨hx, hsu⟩ | ⟨hx, hsu⟩⟩
  · refine .inr (hnewC _ ?_ ?_ ?_)
    · rw [crash_seen, crashS_len, hq2.sure, anewS_len]
    · intro j hj
      rw [crash_seen, hq2.later, hq2.sure]
      show (anewS D.seen area (G + 1) recs).getD j [] = _
      rw [hset, getD_set_ne (fun e => hj e.symm)]
    · rw [crash_seen, hq2.later, hq2.sure]
      exact hnew.1.cur
  · refine .inl (hc.far (by omega) ?_ ?_ ?_ (.inl ?_) ?_)
    · rw [crash_seen, crashS_len, hsu]
    all_goals (try rw [crash_seen, hla, hsu])
    · rw [crash_far _ _ _ _ _ _ _ (fun x hxx => by obtain ⟨y, hy, e1, _⟩ := castW_mem hxx; obtain ⟨i, hi, rfl⟩ := wrs_mem (hx y hy); rw [e1]; exact hsl G i hi)]
    · rw [crash_far _ _ _ _ _ _ _ (fun x hxx => by obtain ⟨y, hy, e1, _⟩ := castW_mem hxx; obtain ⟨i, hi, rfl⟩ := wrs_mem (hx y hy); rw [e1]; exact hsl (G + 1) i hi)]
      exact hc.old
    · rw [crash_far _ _ _ _ _ _ _ (fun x hxx => by obtain ⟨y, hy, e1, _⟩ := castW_mem hxx; obtain ⟨i, hi, rfl⟩ := wrs_mem (hx y hy); rw [e1]; exact hsl (G + 1) i hi)]
    · intro i hi
      rw [crash_far _ _ _ _ _ _ _ (fun x hxx => by obtain ⟨y, hy, e1, _⟩ := castW_mem hxx; obtain ⟨q, hqq, rfl⟩ := wrs_mem (hx y hy); rw [e1]; exact hdown i q hi hqq)]
  · have hpf : ∀ j, (∀ i, i < area → atN area (G + 1) i ≠ j) → ∀ x, x ∈ castW l → x.1.toNat ≠ j := fun j hj x hxx => by
      obtain ⟨y, hy, e1, _⟩ := castW_mem hxx
      obtain ⟨i, _, h4, h5⟩ := puts_idx area (G + 1) recs 0 y (hx y hy)
      rw [e1, h5]
      exact hj i (by omega)
    refine .inl (hc.far (by omega) ?_ ?_ ?_ (.inl ?_) ?_)
    · rw [crash_seen, crashS_len, hsu, sets_len]
    all_goals (try rw [crash_seen, hla, hsu])
    · rw [crash_far _ _ _ _ _ _ _ (hpf _ (fun i hi => hsl G i hi)), blank_far area (G + 1) _ (fun i hi => hsl G i hi)]
    · rw [crash_far _ _ _ _ _ _ _ (hpf _ (fun i hi => hsl (G + 1) i hi)), blank_far area (G + 1) _ (fun i hi => hsl (G + 1) i hi)]
      exact hc.old
    · rw [crash_far _ _ _ _ _ _ _ (hpf _ (fun i hi => hsl (G + 1) i hi)), blank_far area (G + 1) _ (fun i hi => hsl (G + 1) i hi)]
    · intro i hi
      rw [crash_far _ _ _ _ _ _ _ (hpf _ (fun q hqq => hdown i q hi hqq)), blank_far area (G + 1) _ (fun q hqq => hdown i q hi hqq)]
  · have hpf : ∀ j, j ≠ (G + 1) % 2 → ∀ x, x ∈ castW l → x.1.toNat ≠ j := fun j hj x hxx => by
      obtain ⟨y, hy, e1, _⟩ := castW_mem hxx
      rw [e1, hx y hy]
      exact fun e => hj e.symm
    have hrow : ∀ j, j ≠ (G + 1) % 2 → (D'.crash keep torn a).seen.getD j [] = (sets (sets D.seen (wrs (blankW area (G + 1)) area)) (putsW area (G + 1) 0 recs)).getD j [] := fun j hj => by
      rw [crash_seen, hla, hsu, crash_far _ _ _ _ _ _ _ (hpf j hj)]
    have hmix : Mix (putT ((G + 1 : Nat) : Int) (mark : Int) []) (putT ((G - 1 : Nat) : Int) (mark : Int) []) ((D'.crash keep torn a).seen.getD ((G + 1) % 2) []) := by
      rw [crash_seen, hla, hsu]
      refine crash_mix keep torn _ _ _ _ (clampT_le a) (putT_len _ _ _ (by decide)) (putT_len _ _ _ (by decide)) _ 0 _ (fun x hxx _ => ?_) ?_
      · obtain ⟨y, hy, _, e2⟩ := castW_mem hxx
        rw [e2, hx y hy]
      · rw [hfar2 _ (fun i hi => hsl (G + 1) i hi)]
        exact hc.old
    have hlen2 : (D'.crash keep torn a).seen.length = D.seen.length := by rw [crash_seen, crashS_len, hsu, sets_len, sets_len]
    by_cases hw : (D'.crash keep torn a).seen.getD ((G + 1) % 2) [] = putT ((G + 1 : Nat) : Int) (mark : Int) []
    · exact .inr (hnewC _ hlen2 hrow hw)
    · refine .inl (hc.far (by omega) hlen2 ?_ hmix (.inr hw) ?_)
      · rw [hrow _ hgp, hfar2 _ (fun i hi => hsl G i hi)]
      · intro i hi
        rw [hrow _ (fun e => by have := at_slot area G i; have := Nat.mod_lt (G + 1) (show 0 < 2 by decide); omega), hfar2 _ (fun q hqq => hdown i q hi hqq)]
theorem first_bad (P : Nat → Prop) : ∀ N, (∀ i, i < N → P i) ∨ ∃ k, k < N ∧ ¬ P k ∧ ∀ j, j < k → P j
  | 0 => .inl (fun i h => absurd h (Nat.not_lt_zero _))
  | N + 1 => by
    rcases first_bad P N with h | ⟨k, h1, h2, h3⟩
    · by_cases c : P N
      · refine .inl (fun i hi => ?_)
        by_cases e : i = N
        · exact e ▸ c
        · exact h i (by omega)
      · exact .inr ⟨N, by omega, c, h⟩
    · exact .inr ⟨k, by omega, h2, h3⟩
/-- Append, cut short by a crash: without the record, or with it. -/
theorem app_crash {D : Dat} {area G : Nat} {recs : List (List Int)} {r : List Int} (h : LogC D area G recs) (hR : Rest D.seen area G (sumS recs)) (hq : Quiet D D.seen) (hl : -1 ≤ D.left) (ha : area ≤ 1000) (hm : G + 2 < mark) (hw : wfb r) (hr : r.length ≤ 65536) (hf : sumS recs + chN (4 + r.length) ≤ area) (keep : List Int) (torn a : Int) :
    LogC ((putD area G (sumS recs) D r).flush.crash keep torn a) area G recs ∨ LogC ((putD area G (sumS recs) D r).flush.crash keep torn a) area G (recs ++ [r]) := by
  have hm2 : mark = 4294967295 := rfl
  have hn := h.log.len
  have hone := h.log.one
  obtain ⟨_, ho⟩ := app_out (r := r) (u := sumS recs) (G := G) hq hl hn hf
  have happ := h.log.app hR hw hr hf
  generalize (putD area G (sumS recs) D r).flush = D' at *
  have es := sumS_snoc recs r
  have hsl : ∀ q i, atN area G i ≠ q % 2 := fun q i => by have := at_slot area G i; have := Nat.mod_lt q (show 0 < 2 by decide); omega
  have hslot : ∀ q, (appS D.seen area G (sumS recs) r).getD (q % 2) [] = D.seen.getD (q % 2) [] := fun q => app_other (fun i _ _ => hsl q i)
  -- a state with the record
  have hyes : ∀ D2 : Dat, D2.seen.length = D.seen.length → (∀ q, D2.seen.getD (q % 2) [] = D.seen.getD (q % 2) []) → (∀ i, i < area → D2.seen.getD (atN area G i) [] = (appS D.seen area G (sumS recs) r).getD (atN area G i) []) → LogC D2 area G (recs ++ [r]) := fun D2 hlen2 hs2 hb2 => by
    refine ⟨⟨hone, by rw [hlen2]; exact hn, by rw [hs2]; exact h.log.cur, by rw [hs2]; exact h.log.oth, happ.1.blk.frame (fun i _ hi => hb2 i (by have := happ.1.fit; omega)), happ.1.fit, happ.1.good⟩, ?_, h.two, by rw [hs2]; exact h.old⟩
    refine Rest.none (fun i h1 h3 => ?_) ha hone (by omega) happ.1.fit
    rw [hb2 i h3]
    exact happ.2 i h1 h3
  rcases ho with ⟨_, hq2⟩ | ⟨_, hsu, l, hla, hx⟩
  · refine .inr (hyes _ ?_ (fun q => ?_) (fun i hi => ?_))
    · rw [crash_seen, crashS_len, hq2.sure]; unfold appS; rw [sets_len]
    · rw [crash_seen, hq2.later, hq2.sure]; exact hslot q
    · rw [crash_seen, hq2.later, hq2.sure]; rfl
  · have hfar : ∀ j, (∀ i, i < chN (4 + r.length) → atN area G (sumS recs + i) ≠ j) → (D'.crash keep torn a).seen.getD j [] = D.seen.getD j [] := fun j hj => by
      rw [crash_seen, hla, hsu, crash_far _ _ _ _ _ _ _ (fun x hxx => by obtain ⟨y, hy, e1, _⟩ := castW_mem hxx; obtain ⟨i, hi, rfl⟩ := wrs_mem (hx y hy); rw [e1]; exact hj i hi)]
    have hpl : ∀ i, i < chN (4 + r.length) → (chB (textR r) i).length ≤ 110 := fun i hi => chB_le (by rw [textR_len]; exact hi)
    have hmix : ∀ i, i < chN (4 + r.length) → Mix (putT (G : Int) ((sumS recs + i : Nat) : Int) (chB (textR r) i)) z128 ((D'.crash keep torn a).seen.getD (atN area G (sumS recs + i)) []) := fun i hi => by
      rw [crash_seen, hla, hsu]
      refine crash_mix keep torn _ _ _ _ (clampT_le a) (putT_len _ _ _ (hpl i hi)) z128_len _ 0 _ (fun x hxx hj => ?_) ?_
      · obtain ⟨y, hy, e1, e2⟩ := castW_mem hxx
        obtain ⟨q, hqq, rfl⟩ := wrs_mem (hx y hy)
        rw [e1] at hj
        have : q = i := by
          rcases Nat.lt_trichotomy q i with c | c | c
          · exact absurd hj (at_inj (show sumS recs + q ≠ sumS recs + i by omega))
          · exact c
          · exact absurd hj (at_inj (show sumS recs + q ≠ sumS recs + i by omega))
        subst this
        exact e2
      · rw [hR (sumS recs + i) (by omega) (by omega)]
        exact mix_old _ _
    have hlen2 : (D'.crash keep torn a).seen.length = D.seen.length := by rw [crash_seen, crashS_len, hsu]
    have hs2 : ∀ q, (D'.crash keep torn a).seen.getD (q % 2) [] = D.seen.getD (q % 2) [] := fun q => hfar _ (fun i _ => hsl q _)
    have hbefore : ∀ i, i < sumS recs → (D'.crash keep torn a).seen.getD (atN area G i) [] = D.seen.getD (atN area G i) [] := fun i hi => hfar _ (fun q _ => at_inj (by omega))
    rcases first_bad (fun i => (D'.crash keep torn a).seen.getD (atN area G (sumS recs + i)) [] = putT (G : Int) ((sumS recs + i : Nat) : Int) (chB (textR r) i)) (chN (4 + r.length)) with hall | ⟨k, hk, hbad, hgood⟩
    · refine .inr (hyes _ hlen2 hs2 (fun i hi => ?_))
      by_cases c : sumS recs ≤ i ∧ i < sumS recs + chN (4 + r.length)
      · have h1 := hall (i - sumS recs) (by omega)
        have h2 := rec_sets D.seen area G (sumS recs) r hn hf (i - sumS recs) (by omega)
        rw [show sumS recs + (i - sumS recs) = i by omega] at h1 h2
        exact h1.trans h2.symm
      · rw [hfar _ (fun q _ => at_inj (by omega)), app_other (fun q h1 h2 => at_inj (by omega))]
    · refine .inl ⟨⟨hone, by rw [hlen2]; exact hn, by rw [hs2]; exact h.log.cur, by rw [hs2]; exact h.log.oth, h.log.blk.frame (fun i _ hi => hbefore i (by omega)), h.log.fit, h.log.good⟩, ?_, h.two, by rw [hs2]; exact h.old⟩
      refine rec_cut _ area G (sumS recs) r ha (by omega) hr k hk (by omega) hgood (fun _ => ?_)
      have hmx := hmix k hk
      have hwm := mix_wf hmx (putT_wf _ _ _ (chB_wf (textR_wf hw) k)) z128_wf
      obtain ⟨q, hq1, hq2⟩ := hmx
      rw [hq2] at hbad hwm ⊢
      refine torn_no (G : Int) _ _ z128 (hpl k hk) z128_len (fun e => ?_) q hq1 hwm hbad
      have e4 := congrArg (List.take 4) e
      rw [List.take_left' (F4_len _)] at e4
      have := F4_inj (G : Int) 0 (by unfold u32; omega) (by unfold u32; omega) (e4.symm.trans (by decide +kernel))
      omega
end Go.Proofs.YtokmildjniploaaDoor.PLog
namespace Go.Proofs.YtokmildjniploaaDoor.PLog
open Go.RowKit Go.Proofs.YtokmildjniploaaDoorW.PrintWords Go.Proofs.YtokmildjniploaaDoorW.PrintLast Go.Proofs.YtokmildjniploaaDoorW.PrintMore Go.Proofs.YtokmildjniploaaDoor.BGLog
set_option linter.unusedVariables false
set_option linter.unusedSimpArgs false
/-- All are bytes. -/
structure BytA (D : Dat) : Prop where
  seen : Byt D.seen
  sure : Byt D.sure
  later : ∀ x, x ∈ D.later → wfb x.2
theorem bytA_new (n : Nat) : BytA (newD n) := ⟨byt_new n, byt_new n, fun x hx => by cases hx⟩
theorem bytA_write {D : Dat} (h : BytA D) (i : Int) (b : List Int) (hb : wfb b) : BytA (D.write i b).2 := by
  unfold Dat.write
  split
  · show BytA (if D.left = 0 then D else D.wrote i.toNat b)
    split
    · exact h
    · refine ⟨byt_set h.seen _ hb, h.sure, fun x hx => ?_⟩
      rcases List.mem_append.1 hx with hx | hx
      · exact h.later x hx
      · rw [List.mem_singleton.1 hx]; exact hb
  · exact h
theorem bytA_flush {D : Dat} (h : BytA D) : BytA D.flush := by
  unfold Dat.flush
  split
  · exact h
  · exact ⟨h.seen, h.seen, fun x hx => by cases hx⟩
theorem bytA_run (l : List Wr) : ∀ {D : Dat}, BytA D → (∀ x, x ∈ l → wfb x.2) → BytA (runW D l) := by
  induction l with
  | nil => intro D h _; exact h
  | cons x l ih => intro D h hb; exact ih (bytA_write h _ _ (hb x List.mem_cons_self)) (fun y hy => hb y (List.mem_cons_of_mem _ hy))
theorem wf_rec (area G u : Nat) {r : List Int} (hr : wfb r) : ∀ x, x ∈ wrs (recW area G u r) (chN (4 + r.length)) → wfb x.2 := fun x hx => by
  obtain ⟨j, _, rfl⟩ := wrs_mem hx
  exact putT_wf _ _ _ (chB_wf (textR_wf hr) j)
theorem wf_puts (area G : Nat) : ∀ (recs : List (List Int)) (u : Nat), (∀ r, r ∈ recs → wfb r) → ∀ x, x ∈ putsW area G u recs → wfb x.2
  | [], _, _, x, hx => by cases hx
  | r :: rs, u, h, x, hx => by
    rcases List.mem_append.1 hx with hx | hx
    · exact wf_rec area G u (h r List.mem_cons_self) x hx
    · exact wf_puts area G rs _ (fun y hy => h y (List.mem_cons_of_mem _ hy)) x hx
theorem bytA_anew {D : Dat} (h : BytA D) (area G : Nat) {recs : List (List Int)} (hr : ∀ r, r ∈ recs → wfb r) : BytA (anewD area G D recs) := by
  rw [anewD_run]
  exact bytA_flush (bytA_run _ (bytA_flush (bytA_run _ (bytA_flush (bytA_run _ h (fun x hx => by obtain ⟨j, _, rfl⟩ := wrs_mem hx; exact z128_wf))) (wf_puts area G recs 0 hr))) (fun x hx => by rw [List.mem_singleton.1 hx]; exact slot_wf G))
theorem bytA_put {D : Dat} (h : BytA D) (area G u : Nat) {r : List Int} (hr : wfb r) : BytA (putD area G u D r).flush := by
  rw [putD_run]
  exact bytA_flush (bytA_run _ h (wf_rec area G u hr))
theorem bytA_crash {D : Dat} (h : BytA D) (keep : List Int) (torn a : Int) : BytA (D.crash keep torn a) := by
  have hb : Byt (crashS keep torn (clampT a) 0 D.later D.sure) := crash_byt keep torn _ D.later 0 D.sure h.later h.sure
  exact ⟨hb, hb, fun x hx => by cases hx⟩
/-- A log's device that is opened, or may be. -/
structure Cold (nb m : Nat) (D : Dat) (area G : Nat) (recs : List (List Int)) : Prop where
  good : Good nb m D
  byt : BytA D
  left : -1 ≤ D.left
  quiet : Quiet D D.seen
  log : LogC D area G recs
structure Live (nb m : Nat) (D : Dat) (area G : Nat) (recs : List (List Int)) : Prop where
  cold : Cold nb m D area G recs
  rest : Rest D.seen area G (sumS recs)
/-- What any crash leaves. -/
def After (nb m : Nat) (D : Dat) (area g : Nat) (P : List (List Int) → Prop) : Prop := Good nb m D ∧ ∀ keep torn a, ∃ G R, G ≤ g ∧ P R ∧ Cold nb m (D.crash keep torn a) area G R
section
variable {nb m area G : Nat} {D : Dat} {recs : List (List Int)}
theorem crash_quiet (D : Dat) (keep : List Int) (torn a : Int) : Quiet (D.crash keep torn a) (D.crash keep torn a).seen := ⟨rfl, rfl, rfl⟩
theorem cold_crash (hg : Good nb m D) (hb : BytA D) (keep : List Int) (torn a : Int) (h : LogC (D.crash keep torn a) area G recs) : Cold nb m (D.crash keep torn a) area G recs :=
  ⟨good_crash hg keep torn a, bytA_crash hb keep torn a, by show (-1 : Int) ≤ -1; omega, crash_quiet D keep torn a, h⟩
theorem Cold.stop (h : Cold nb m D area G recs) (k : Int) (hk : k ≤ 9223372036854775807) : Cold nb m (D.stop k) area G recs :=
  ⟨good_stop h.good k hk, ⟨h.byt.seen, h.byt.sure, h.byt.later⟩, by show -1 ≤ if k < -1 then -1 else k; split <;> omega, ⟨rfl, h.quiet.sure, h.quiet.later⟩, h.log.congr rfl⟩
theorem Live.stop (h : Live nb m D area G recs) (k : Int) (hk : k ≤ 9223372036854775807) : Live nb m (D.stop k) area G recs := ⟨h.cold.stop k hk, h.rest⟩
theorem Cold.after (h : Cold nb m D area G recs) : After nb m D area G (fun R => R = recs) := by
  refine ⟨h.good, fun keep torn a => ⟨G, recs, Nat.le_refl _, rfl, cold_crash h.good h.byt keep torn a (h.log.congr ?_)⟩⟩
  rw [crash_seen, h.quiet.later, h.quiet.sure]
  rfl
theorem After.imp {P Q : List (List Int) → Prop} {g g2 m2 : Nat} (h : After nb m D area g P) (hg : g ≤ g2) (hm : m ≤ m2) (hi : ∀ R, P R → Q R) : After nb m2 D area g2 Q := by
  refine ⟨h.1.le hm, fun keep torn a => ?_⟩
  obtain ⟨G, R, h1, h2, h3⟩ := h.2 keep torn a
  exact ⟨G, R, Nat.le_trans h1 hg, hi R h2, ⟨h3.good.le hm, h3.byt, h3.left, h3.quiet, h3.log⟩⟩
theorem Cold.le (h : Cold nb m D area G recs) {m2 : Nat} (hm : m ≤ m2) : Cold nb m2 D area G recs := ⟨h.good.le hm, h.byt, h.left, h.quiet, h.log⟩
theorem Live.le (h : Live nb m D area G recs) {m2 : Nat} (hm : m ≤ m2) : Live nb m2 D area G recs := ⟨h.cold.le hm, h.rest⟩
theorem Cold.reads (h : Cold nb m D area G recs) (ha : area ≤ 1000) (hm : G < mark) : genTo D 2 = G ∧ openRecs D area G = recs := h.log.reads ha hm
theorem Cold.may (h : Cold nb m D area G recs) (ha1 : 1 ≤ area) (ha : area ≤ 1000) : mayB D (area : Int) = true := decide_eq_true ⟨by omega, by omega, by have := h.log.log.len; omega⟩
/-- Anew: it is done, or cut short. -/
theorem Cold.anew (h : Cold nb m D area G recs) (ha : area ≤ 1000) (hm : G + 2 < mark) {R : List (List Int)} (hs : sumS R ≤ area) (hr : Recs R) :
    ((anewD area (G + 1) D R).left ≠ 0 ∧ Live nb (m + area + sumS R + 1) (anewD area (G + 1) D R) area (G + 1) R) ∨ ((anewD area (G + 1) D R).left = 0 ∧ After nb (m + area + sumS R + 1) (anewD area (G + 1) D R) area (G + 1) (fun X => X = recs ∨ X = R)) := by
  have hm2 : mark = 4294967295 := rfl
  have hg := good_anew h.good area (G + 1) R
  have hb := bytA_anew h.byt area (G + 1) (fun r hx => (hr r hx).1)
  obtain ⟨hl, ho⟩ := anew_out (area := area) (G := G + 1) (recs := R) h.quiet h.left h.log.log.len hs
  rcases ho with ⟨z, hq⟩ | ⟨z, _⟩
  · refine .inl ⟨z, ?_⟩
    have hnew := anew_logS (s := D.seen) (area := area) (G := G + 1) (recs := R) (by omega) h.log.log.len (fun hx => by
      rw [show (G + 1 + 1) % 2 = G % 2 by omega, h.log.log.cur, numS_put G (by omega)]
      omega) hs hr
    have e : (anewD area (G + 1) D R).seen = anewS D.seen area (G + 1) R := hq.seen
    have hR : Rest (anewD area (G + 1) D R).seen area (G + 1) (sumS R) := by rw [e]; exact hnew.2
    refine ⟨⟨hg, hb, hl, ⟨rfl, hq.sure.trans e.symm, hq.later⟩, ⟨by rw [e]; exact hnew.1, hR.none ha (by omega) (by omega) hs, by have := h.log.two; omega, ?_⟩⟩, hR⟩
    rw [e, show (G + 1 + 1) % 2 = G % 2 by omega, anew_oth (by omega) (fun i _ => by have := at_slot area (G + 1) i; have := Nat.mod_lt G (show 0 < 2 by decide); omega) hs, h.log.log.cur]
    exact mix_old _ _
  · refine .inr ⟨z, hg, fun keep torn a => ?_⟩
    rcases anew_crash h.log h.quiet h.left ha hm hs hr keep torn a with hc | hc
    · exact ⟨G, recs, by omega, .inl rfl, cold_crash hg hb keep torn a hc⟩
    · exact ⟨G + 1, R, Nat.le_refl _, .inr rfl, cold_crash hg hb keep torn a hc⟩
/-- Append: it is done, or cut short. -/
theorem Live.app (h : Live nb m D area G recs) (ha : area ≤ 1000) (hm : G + 2 < mark) {r : List Int} (hw : wfb r) (hr : r.length ≤ 65536) (hf : sumS recs + chN (4 + r.length) ≤ area) :
    ((putD area G (sumS recs) D r).flush.left ≠ 0 ∧ Live nb (m + chN (4 + r.length)) (putD area G (sumS recs) D r).flush area G (recs ++ [r])) ∨ ((putD area G (sumS recs) D r).flush.left = 0 ∧ After nb (m + chN (4 + r.length)) (putD area G (sumS recs) D r).flush area G (fun X => X = recs ∨ X = recs ++ [r])) := by
  have hm2 : mark = 4294967295 := rfl
  have hg := good_flush (good_putD h.cold.good area G (sumS recs) r)
  have hb := bytA_put h.cold.byt area G (sumS recs) hw
  obtain ⟨hl, ho⟩ := app_out (r := r) (u := sumS recs) (G := G) h.cold.quiet h.cold.left h.cold.log.log.len hf
  have hone := h.cold.log.log.one
  rcases ho with ⟨z, hq⟩ | ⟨z, _⟩
  · refine .inl ⟨z, ?_⟩
    have happ := h.cold.log.log.app h.rest hw hr hf
    have e : (putD area G (sumS recs) D r).flush.seen = appS D.seen area G (sumS recs) r := hq.seen
    have hR : Rest (putD area G (sumS recs) D r).flush.seen area G (sumS (recs ++ [r])) := by rw [e]; exact happ.2
    refine ⟨⟨hg, hb, hl, ⟨rfl, hq.sure.trans e.symm, hq.later⟩, ⟨by rw [e]; exact happ.1, hR.none ha hone (by omega) happ.1.fit, h.cold.log.two, ?_⟩⟩, hR⟩
    rw [e, app_other (fun i _ _ => by have := at_slot area G i; have := Nat.mod_lt (G + 1) (show 0 < 2 by decide); omega)]
    exact h.cold.log.old
  · refine .inr ⟨z, hg, fun keep torn a => ?_⟩
    rcases app_crash h.cold.log h.rest h.cold.quiet h.cold.left ha hm hw hr hf keep torn a with hc | hc
    · exact ⟨G, recs, Nat.le_refl _, .inl rfl, cold_crash hg hb keep torn a hc⟩
    · exact ⟨G, recs ++ [r], Nat.le_refl _, .inr rfl, cold_crash hg hb keep torn a hc⟩
/-- Opening it: cut short or not, the same records. -/
theorem Cold.opened (h : Cold nb m D area G recs) (ha : area ≤ 1000) (hm : G + 2 < mark) : After nb (m + area + sumS recs + 1) (anewD area (G + 1) D recs) area (G + 1) (fun X => X = recs) := by
  rcases h.anew ha hm h.log.log.fit h.log.log.good with ⟨_, h2⟩ | ⟨_, h2⟩
  · exact h2.cold.after
  · exact h2.imp (Nat.le_refl _) (Nat.le_refl _) (fun R hR => hR.elim id id)
end
theorem quiet_new (n : Nat) : Quiet (newD n) (newD n).seen := ⟨rfl, rfl, rfl⟩
/-- Behind Make and Open. -/
theorem first_live {nb area : Nat} {recs : List (List Int)} (hn : 2 + 2 * area ≤ nb) (ha : area ≤ 1000) (hs : sumS recs ≤ area) (hr : Recs recs) :
    LogD nb (area + sumS recs + 1) (anewD area 1 (newD nb) recs) area 1 recs ∧ Live nb (area + sumS recs + 1 + area + sumS recs + 1) (anewD area 2 (anewD area 1 (newD nb) recs) recs) area 2 recs := by
  have h1 := logD_first hn hs hr
  have hm2 : mark = 4294967295 := rfl
  have h2 := h1.anew (by omega) hs hr
  have hl : (newD nb).seen.length = nb := List.length_replicate
  have hq1 : Quiet (anewD area 1 (newD nb) recs) (anewD area 1 (newD nb) recs).seen := by
    obtain ⟨_, ho⟩ := anew_out (area := area) (G := 1) (recs := recs) (quiet_new nb) (by show (-1 : Int) ≤ -1; omega) (by rw [hl]; exact hn) hs
    rcases ho with ⟨_, hq⟩ | ⟨z, _⟩
    · exact ⟨rfl, hq.sure.trans hq.seen.symm, hq.later⟩
    · exact absurd z (by rw [h1.go]; decide)
  have hq2 : Quiet (anewD area 2 (anewD area 1 (newD nb) recs) recs) (anewD area 2 (anewD area 1 (newD nb) recs) recs).seen := by
    obtain ⟨_, ho⟩ := anew_out (area := area) (G := 2) (recs := recs) hq1 (by rw [h1.go]; decide) h1.log.len hs
    rcases ho with ⟨_, hq⟩ | ⟨z, _⟩
    · exact ⟨rfl, hq.sure.trans hq.seen.symm, hq.later⟩
    · exact absurd z (by rw [h2.go]; decide)
  have hseen := (anewD_go (D := anewD area 1 (newD nb) recs) (area := area) (G := 2) (recs := recs) h1.go h1.log.len hs).1
  refine ⟨h1, ⟨⟨h2.good, bytA_anew (bytA_anew (bytA_new nb) area 1 (fun r hx => (hr r hx).1)) area 2 (fun r hx => (hr r hx).1), by rw [h2.go]; decide, hq2, ⟨h2.log, h2.rest.none ha (by omega) (by omega) hs, Nat.le_refl _, ?_⟩⟩, h2.rest⟩⟩
  rw [hseen, show (2 + 1) % 2 = 1 % 2 from rfl, anew_oth (by decide) (fun i _ => by have := at_slot area 2 i; omega) hs, h1.log.cur]
  exact mix_old _ _
end Go.Proofs.YtokmildjniploaaDoor.PLog
namespace Go.Proofs.YtokmildjniploaaDoor.PLog
open Go.RowKit Go.Proofs.YtokmildjniploaaDoorW.PrintWords Go.Proofs.YtokmildjniploaaDoorW.PrintLast Go.Proofs.YtokmildjniploaaDoorW.PrintMore Go.Proofs.YtokmildjniploaaDoor.BGLog Go.Proofs.YtokmildjniploaaDoor.MStr
open Go.Extern.Stop Go.Stop Go.Extern
set_option linter.unusedVariables false
set_option linter.unusedSimpArgs false
/-! ### light -/
def lightO (x : S46) : Prop := x.f1.length ≤ 700 ∧ x.f2.length ≤ 5 ∧ x.f3.length ≤ 20 ∧ ∀ r, r ∈ x.f2 → r.length ≤ 300
theorem light_in (l : List S46) (i : Nat) (hlt : i < l.length) (hl : l.length ≤ 9223372036854775807) (k : Nat) (r : Bool) (h : rabbetlaw21_light.l0 k l ((i + 1 : Nat) : Int) = some r) (h5 : l[i].f2.length ≤ 5) : ∀ (d x : Nat), x + d = l[i].f2.length → ∃ k1 r1, rabbetlaw21_light.l1 k1 l (i : Int) (x : Int) = some r1 ∧ (r1 = true → r = true ∧ ∀ (j : Nat) (hj : j < l[i].f2.length), x ≤ j → (l[i].f2[j]).length ≤ 300) := by
  have hg : rd_T46 l (i : Int) = l[i] := by simp [rd_T46, List.getD_eq_getElem?_getD, List.getElem?_eq_getElem hlt]
  intro d
  induction d with
  | zero =>
    intro x hx
    refine ⟨k + 1, r, ?_, fun ht => ⟨ht, fun j hj hh => by omega⟩⟩
    simp only [rabbetlaw21_light.l1, hg]
    rw [if_pos (by omega), if_pos (by omega), if_neg (by omega), show wrap64 ((i : Int) + 1) = ((i + 1 : Nat) : Int) by unfold wrap64; omega]
    exact h
  | succ d ih =>
    intro x hx
    obtain ⟨k1, r1, h1, h2⟩ := ih (x + 1) (by omega)
    have hxl : x < l[i].f2.length := by omega
    have hg2 : rd_L1 l[i].f2 (x : Int) = l[i].f2[x] := by simp [rd_L1, List.getD_eq_getElem?_getD, List.getElem?_eq_getElem hxl]
    by_cases c : ((l[i].f2[x]).length : Int) > 300
    · refine ⟨k1 + 1, false, ?_, fun ht => by cases ht⟩
      simp only [rabbetlaw21_light.l1, hg, hg2]
      rw [if_pos (by omega), if_pos (by omega), if_pos (by omega), if_pos (by omega), if_pos c]
    · refine ⟨k1 + 1, r1, ?_, fun ht => ⟨(h2 ht).1, fun j hj hxj => ?_⟩⟩
      · simp only [rabbetlaw21_light.l1, hg, hg2]
        rw [if_pos (by omega), if_pos (by omega), if_pos (by omega), if_pos (by omega), if_neg c, show wrap64 ((x : Int) + 1) = ((x + 1 : Nat) : Int) by unfold wrap64; omega]
        exact h1
      · by_cases e : j = x
        · subst e; omega
        · exact (h2 ht).2 j hj (by omega)
theorem light_out (l : List S46) (hl : l.length ≤ 9223372036854775807) (d : Nat) : ∀ i : Nat, i + d = l.length → ∃ k r, rabbetlaw21_light.l0 k l (i : Int) = some r ∧ (r = true → l.length ≤ 20 ∧ ∀ (j : Nat) (hj : j < l.length), i ≤ j → lightO l[j]) := by
  induction d with
  | zero =>
    intro i hi
    refine ⟨1, decide ((l.length : Int) ≤ 20), ?_, fun h => ⟨by have := of_decide_eq_true h; omega, fun j hj hh => by omega⟩⟩
    simp only [rabbetlaw21_light.l0]
    rw [if_neg (by omega)]
  | succ d ih =>
    intro i hi
    obtain ⟨k, r, hr, h⟩ := ih (i + 1) (by omega)
    have hlt : i < l.length := by omega
    have hg : rd_T46 l (i : Int) = l[i] := by simp [rd_T46, List.getD_eq_getElem?_getD, List.getElem?_eq_getElem hlt]
    have hbad : ∀ k, rabbetlaw21_light.j1 (k + 1) l (i : Int) true = some false := fun k => by simp only [rabbetlaw21_light.j1, if_true]
    by_cases c1 : (l[i].f1.length : Int) > 700
    · refine ⟨2, false, ?_, fun h => by cases h⟩
      simp only [rabbetlaw21_light.l0, hg]
      rw [if_pos (by omega), if_pos (by omega), if_pos c1, hbad]
    by_cases c2 : (l[i].f2.length : Int) > 5
    · refine ⟨2, false, ?_, fun h => by cases h⟩
      simp only [rabbetlaw21_light.l0, hg]
      rw [if_pos (by omega), if_pos (by omega), if_neg c1, if_pos c2, hbad]
    by_cases c3 : (l[i].f3.length : Int) > 20
    · refine ⟨2, false, ?_, fun h => by cases h⟩
      simp only [rabbetlaw21_light.l0, hg]
      rw [if_pos (by omega), if_pos (by omega), if_neg c1, if_neg c2, decide_eq_true c3, hbad]
    obtain ⟨k1, r1, h1, h2⟩ := light_in l i hlt hl k r hr (by omega) l[i].f2.length 0 (by omega)
    refine ⟨k1 + 2, r1, ?_, fun ht => ⟨(h (h2 ht).1).1, fun j hj hij => ?_⟩⟩
    · simp only [rabbetlaw21_light.l0, hg]
      rw [if_pos (by omega), if_pos (by omega), if_neg c1, if_neg c2, decide_eq_false c3]
      simp only [rabbetlaw21_light.j1, Bool.false_eq_true, if_false]
      exact h1
    · by_cases cj : j = i
      · subst cj
        refine ⟨by omega, by omega, by omega, fun x hx => ?_⟩
        obtain ⟨q, hq, rfl⟩ := List.getElem_of_mem hx
        exact (h2 ht).2 q hq (Nat.zero_le _)
      · exact (h (h2 ht).1).2 j hj (by omega)
theorem light (A : Option Addr) (c : Nat) (l : List S46) (w : World) (h : Kd.C k46 w A l.length l) (hc : l.length ≤ c) :
    ∃ r : Bool, (r = true → l.length ≤ 20 ∧ ∀ x, x ∈ l → lightO x) ∧ ∀ w' : World, Kd.C k46 w' A l.length l → Calls Tryd.prog 17 #[.slice A l.length c] w' fun e w'' => e = .returned (.bool r) ∧ Drawn0 w' w'' := by
  obtain ⟨k, r, hr, hh⟩ := light_out l (Kd.C_max h) l.length 0 (by omega)
  refine ⟨r, fun ht => ⟨(hh ht).1, fun x hx => ?_⟩, fun w' hC => rabbetlaw21_light.calls k A c l r w' hC hc hr⟩
  obtain ⟨j, hj, rfl⟩ := List.getElem_of_mem hx
  exact (hh ht).2 j hj (Nat.zero_le _)
/-! ### Rows that are held: a log's own, or the caller's -/
def RowV (w0 W : World) (x : Rx) (r : List Int) : Prop := RowX W x r ∨ RowC w0 x r
structure HeldV (w0 w : World) (B : Nat) (ok : Nat → Prop) (v : Value) (xs : List Rx) (recs : List (List Int)) : Prop where
  row : Kd.R kQ 35 w B (fun k => ¬ ok k) v xs
  each : Each (RowV w0 w) xs recs
section
variable {w0 w w1 : World} {ok okB : Nat → Prop} {gd gl nb m area G B : Nat} {D : Dat} {recs : List (List Int)} {v : Value} {xs : List Rx}
theorem RowV.move {x : Rx} {r : List Int} (h : RowV w0 w x r) (k : KeepU w w1) : RowV w0 w1 x r := h.elim (fun h => .inl (h.move k)) .inr
theorem RowV.c {x : Rx} {r : List Int} (h : RowV w0 w x r) (hb : Below w0.heap.size w0 w) : RowC w x r := h.elim (fun h => h.c) (fun h => h.below hb)
theorem HeldV.fr (h : HeldV w0 w B ok v xs recs) (hs : Lst w0 w ok) (hf : Fr ok logT w w1) : HeldV w0 w1 B ok v xs recs := ⟨rows_fr h.row hs.hi hf, h.each.imp (fun x y h => h.move (keepU_fr hf))⟩
theorem HeldV.step (h : HeldV w0 w B ok v xs recs) (hb : Below w.heap.size w w1) : HeldV w0 w1 B ok v xs recs := ⟨Kd.R_below h.row hb, h.each.imp (fun x y h => h.move (keepU_below hb))⟩
theorem HeldV.okTo (h : HeldV w0 w B ok v xs recs) (hk : ∀ k, okB k → ok k) : HeldV w0 w B okB v xs recs := ⟨Kd.R_mono h.row (fun k hn h => hn (hk k h)), h.each⟩
theorem Held.asV (h : Held w B ok v xs recs) : HeldV w0 w B ok v xs recs := ⟨h.row, h.each.imp (fun x y h => .inl h)⟩
theorem HeldV.C (h : HeldV w0 w B ok v xs recs) (hb : Below w0.heap.size w0 w) : ∃ A c, v = .slice A recs.length c ∧ recs.length ≤ c ∧ Kd.C (Kd.slice 5 (Kd.int .u8)) w A recs.length recs := by
  obtain ⟨A, c, rfl⟩ := Kd.R_slice h.row
  have h1 := Kd.R_reads' h.row
  have hl := h.each.1
  rw [hl] at h1 ⊢
  exact ⟨A, c, rfl, h1.2.1, rows_deep h1.2.2 (h.each.imp (fun x y h => h.c hb))⟩
theorem HeldV.Q (h : HeldV w0 w B ok v xs recs) : ∃ A c, v = .slice A xs.length c ∧ xs.length ≤ c ∧ Kd.C kQ w A xs.length xs := by
  obtain ⟨A, c, rfl⟩ := Kd.R_slice h.row
  have h1 := Kd.R_reads' h.row
  exact ⟨A, c, rfl, h1.2.1, h1.2.2⟩
/-- A fresh row is held: the log's blocks are told without it. -/
theorem fresh_step {used : Nat} (hA : LogAt w ok gd gl D area G used) (hs : Lst w0 w ok) (hb : Below w.heap.size w w1) (ho : Kd.R kQ 35 w1 w.heap.size (fun _ => True) v xs) (he : Each (RowV w0 w1) xs recs) :
    ∃ okC : Nat → Prop, (∀ k, okC k → ok k) ∧ LogAt w1 okC gd gl D area G used ∧ Lst w0 w1 okC ∧ HeldV w0 w1 w.heap.size okC v xs recs := by
  refine ⟨fun k => (ok k ∧ k < w.heap.size) ∨ w1.heap.size ≤ k, fun k hk => ?_, (hA.bound.below hb).mono (fun k hk => .inl hk), ⟨fun k hk => ?_, fun k hk => .inr hk, below_step hs.below hb⟩, ⟨?_, he⟩⟩
  · rcases hk with h | h
    · exact h.1
    · exact hs.hi k (Nat.le_trans hb.size h)
  · rcases hk with h | h
    · exact hs.lo k h.1
    · exact hs.lo k (hs.hi k (Nat.le_trans hb.size h))
  · refine Kd.R_mono (Kd.R_bound ho) (fun k hk h => ?_)
    have h3 := hk.2.2.1
    have h4 := hk.2.1
    rcases h with h | h <;> omega
theorem box_Q {b : Nat} {x : Rx} {fr : Nat × Nat} (hb : w.heap[b]? = some (.cells #[encX x] 35 fr)) : Kd.C kQ w (some ⟨b, 0, none⟩) 1 [x] := by
  refine ⟨rfl, by decide, fun _ => ⟨_, rfl, fun j p hj => ?_⟩⟩
  match j, hj with
  | 0, hj =>
    obtain rfl := Option.some.inj hj
    refine ⟨[encX x], rfl, rfl, fun i u hu => ?_⟩
    match i, hu with
    | 0, hu =>
      rw [add_plain]
      have : w.cell? ⟨b, 0, none⟩ = some (encX x) := by simp [World.cell?, hb]
      exact this.trans hu
end
/-! ### Deeds -/
/-- What a deed leaves. -/
def Deed (w0 w w' : World) (ok : Nat → Prop) (gd gl nb m : Nat) (D : Dat) (area G : Nat) (hv next : List (List Int)) (e : Ending) : Prop :=
  ((e = .returned (.int .i64 6) ∧ LogAt w' ok gd gl D area G (sumS hv)) ∨
   (e = .returned (.int .i64 0) ∧ ∃ D' G', G' ≤ G + 1 ∧ ((D'.left ≠ 0 ∧ LogAt w' ok gd gl D' area G' (sumS next) ∧ Live nb (m + 60) D' area G' next) ∨ (D'.left = 0 ∧ DevAt w' ok gd D' ∧ After nb (m + 60) D' area G' (fun X => X = hv ∨ X = next))))) ∧
  Lst w0 w' ok ∧ Fr ok logT w w'
theorem append_c (w0 w : World) (nb m : Nat) (ok : Nat → Prop) (gd gl : Nat) (D : Dat) (area G : Nat) (recs : List (List Int)) (A : Option Addr) (n c : Nat) (rec : List Int) (h : LogAt w ok gd gl D area G (sumS recs)) (hs : Lst w0 w ok) (hl : Live nb m D area G recs) (ha : area ≤ 25) (hg : G ≤ 1000) (hnb : nb ≤ 1000000) (hmb : m ≤ 700000) (hC : Kd.C (Kd.int .u8) w A n rec) (hw : wfb rec) (hc : n ≤ c) (hn : n ≤ 65536) :
    Calls Tryd.prog 13 #[.pointer (some ⟨gl, 0, none⟩), .slice A n c] w fun e w' => Deed w0 w w' ok gd gl nb m D area G recs (recs ++ [rec]) e := by
  have hln : rec.length = n := hC.1
  subst hln
  have hm2 : mark = 4294967295 := rfl
  have hfit := hl.cold.log.log.fit
  by_cases hf : sumS recs + chN (4 + rec.length) ≤ area
  · refine (Append_ok nb m ok gd gl D area G (sumS recs) A rec.length c rec w h hs.hi (by omega) hfit (by omega) hnb (by omega) hl.cold.good hC hc hn (by omega)).mono ?_
    rintro e w' ⟨rfl, h1, h2⟩
    refine ⟨.inr ⟨rfl, (putD area G (sumS recs) D rec).flush, G, by omega, ?_⟩, hs.fr h2, h2⟩
    rcases hl.app (by omega) (by omega) hw hn hf with ⟨z, h3⟩ | ⟨z, h3⟩
    · exact .inl ⟨z, by rw [sumS_snoc]; exact h1, h3.le (by omega)⟩
    · exact .inr ⟨z, h1.dev, h3.imp (Nat.le_refl _) (by omega) (fun _ h => h)⟩
  · refine (Append_full ok gd gl D area G (sumS recs) A rec.length c rec w h (by omega) hfit hC hc hn (by omega)).mono ?_
    rintro e w' ⟨rfl, hb⟩
    exact ⟨.inl ⟨rfl, h.below hb⟩, hs.step hb, Fr.of_below hb⟩
theorem anew_c (w0 w : World) (nb m : Nat) (ok : Nat → Prop) (gd gl : Nat) (D : Dat) (area G : Nat) (recs R : List (List Int)) (A : Option Addr) (n c : Nat) (h : LogAt w ok gd gl D area G (sumS recs)) (hs : Lst w0 w ok) (hl : Live nb m D area G recs) (ha : area ≤ 25) (hg : G ≤ 1000) (hnb : nb ≤ 1000000) (hmb : m ≤ 700000)
    (hC : ∀ W, Below w0.heap.size w0 W → Kd.C (Kd.slice 5 (Kd.int .u8)) W A n R) (hc : n ≤ c) (hn : n ≤ 100) (hr : Recs R) :
    Calls Tryd.prog 15 #[.pointer (some ⟨gl, 0, none⟩), .slice A n c] w fun e w' => Deed w0 w w' ok gd gl nb m D area G recs R e := by
  have hln : R.length = n := (hC w hs.below).1
  subst hln
  have hm2 : mark = 4294967295 := rfl
  refine (Anew_gen nb m ok gd gl D area G (sumS recs) A c R w h hs.hi (by omega) (by omega) hnb (by omega) hl.cold.good (fun w' hf => hC w' (hs.fr hf).below) hc (fun r hx => (hr r hx).2) (by omega)).mono ?_
  rintro e w' ⟨hh, hf⟩
  refine ⟨?_, hs.fr hf, hf⟩
  rcases hh with ⟨_, he, h1⟩ | ⟨hfit, he, h1⟩
  · exact .inl ⟨he, h1⟩
  · refine .inr ⟨he, anewD area (G + 1) D R, G + 1, Nat.le_refl _, ?_⟩
    rcases hl.cold.anew (by omega) (by omega) hfit hr with ⟨z, h3⟩ | ⟨z, h3⟩
    · exact .inl ⟨z, h1, h3.le (by omega)⟩
    · exact .inr ⟨z, h1.dev, h3.imp (Nat.le_refl _) (by omega) (fun _ h => h)⟩
/-- A crash of what it may have been. -/
theorem crash_c (w0 w : World) (nb m : Nat) (ok : Nat → Prop) (gd : Nat) (D : Dat) (area g : Nat) (P : List (List Int) → Prop) (Ak : Option Addr) (nk ck : Nat) (keep : List Int) (torn a : Int) (h : DevAt w ok gd D) (hs : Lst w0 w ok) (hA : After nb m D area g P) (hnb : 0 < nb ∧ nb ≤ 1000000) (hm : m ≤ 1000000) (hK : Kd.C (Kd.int .u8) w0 Ak nk keep) (hkc : nk ≤ ck) (hkl : nk ≤ 1000) (hkb : wfb keep) :
    Calls Tryd.prog 20 #[.pointer (some ⟨gd, 0, none⟩), .slice Ak nk ck, .int .i64 torn, .int .i64 a] w fun e w' => e = .returned (.tuple #[]) ∧ ∃ D' G R, G ≤ g ∧ P R ∧ Cold nb m D' area G R ∧ DevAt w' ok gd D' ∧ Lst w0 w' ok ∧ Fr ok logT w w' := by
  have hln : keep.length = nk := hK.1
  subst hln
  have hg := hA.1
  refine (Crash ok gd D Ak ck keep torn a w h hs.hi (by have := hg.seen; omega) (by rw [hg.sure, hg.seen]) (by have := hg.later; omega) hg.idx (fun w' hf => Kd.C_below hK ((hs.fr hf).below)) hkc (by omega) hkb (by have := hg.seen; omega)).mono ?_
  rintro e w' ⟨rfl, hd, hf⟩
  obtain ⟨G, R, h1, h2, h3⟩ := hA.2 keep torn a
  exact ⟨rfl, D.crash keep torn a, G, R, h1, h2, h3, hd, hs.fr hf, frL hf⟩
/-- It is stopped behind so many writes. -/
theorem stop_c (w0 w : World) (nb m : Nat) (ok : Nat → Prop) (gd : Nat) (D : Dat) (area G : Nat) (R : List (List Int)) (k : Int) (h : DevAt w ok gd D) (hs : Lst w0 w ok) (hl : Cold nb m D area G R) (hk : k ≤ 9223372036854775807) :
    Calls Tryd.prog 18 #[.pointer (some ⟨gd, 0, none⟩), .int .i64 k] w fun e w' => e = .returned (.tuple #[]) ∧ Cold nb m (D.stop k) area G R ∧ DevAt w' ok gd (D.stop k) ∧ Lst w0 w' ok ∧ Fr ok devT w w' := by
  refine (Stop ok gd D k w h).mono ?_
  rintro e w' ⟨rfl, hd, hf⟩
  exact ⟨rfl, hl.stop k hk, hd, hs.fr hf, hf⟩
/-- It is opened, cut short or not. -/
theorem open_c (GA : Nat → Addr) (w0 w : World) (nb m : Nat) (ok : Nat → Prop) (gd : Nat) (D : Dat) (area G : Nat) (R : List (List Int)) (h : DevAt w ok gd D) (hs : Lst w0 w ok) (hl : Cold nb m D area G R) (ha1 : 1 ≤ area) (ha : area ≤ 25) (hg : G ≤ 1000) (hnb : nb ≤ 1000000) (hmb : m ≤ 700000) (hG : Glob GA w) :
    Calls Tryd.prog 11 #[.pointer (some ⟨gd, 0, none⟩), .int .i64 (area : Int)] w fun e w' =>
      ∃ gl A c xs ok2 D', e = .returned (.tuple #[.pointer (some ⟨gl, 0, none⟩), .slice A R.length c, .int .i64 0]) ∧ After nb (m + 60) D' area (G + 1) (fun X => X = R) ∧ DevAt w' ok2 gd D' ∧ Lst w0 w' ok2 ∧ (∀ k, ok2 k → ok k) ∧ Fr ok logT w w' ∧ Held w' w.heap.size ok2 (.slice A R.length c) xs R := by
  have hm2 : mark = 4294967295 := rfl
  have hrd := hl.reads (by omega) (by omega)
  have ho := Open_ GA nb m ok gd D area w h hs.hi (hl.may ha1 (by omega)) hnb (by omega) hl.good hl.byt.seen hG (by rw [hrd.1]; omega)
  rw [hrd.1, hrd.2] at ho
  have hfit := hl.log.log.fit
  refine ho.mono ?_
  intro e w' hh
  rcases hh with ⟨h0, _⟩ | ⟨_, gl, A, c, xs, ok2, rfl, h1, h2, h3, h4, h5, h6⟩
  · exact absurd h0 (by have := hl.log.log.one; omega)
  · exact ⟨gl, A, c, xs, ok2, anewD area (G + 1) D R, rfl, (hl.opened (by omega) (by omega)).imp (Nat.le_refl _) (by omega) (fun _ h => h), h1.dev, ⟨fun k hk => hs.lo k (h2 k hk), h3, (hs.fr h4).below⟩, h2, h4, h5, h6⟩
end Go.Proofs.YtokmildjniploaaDoor.PLog
