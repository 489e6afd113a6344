/- log: the plain law of what is written and read again (no program in sight). Conditions: none. -/
import Derived.Test.YtokmildjniploaaDoorLogG
namespace Go.Proofs.YtokmildjniploaaDoor.PLog
open Go.RowKit Go.Proofs.YtokmildjniploaaDoorW.PrintWords Go.Proofs.YtokmildjniploaaDoorW.PrintLast Go.Proofs.YtokmildjniploaaDoorW.PrintMore Go.Proofs.YtokmildjniploaaDoor.BGLog
set_option linter.unusedVariables false
set_option linter.unusedSimpArgs false
theorem rowAt_nat (D : Dat) (i : Nat) : rowAt D (i : Int) = D.seen.getD i [] := by
  unfold rowAt
  rw [Int.toNat_natCast]
  split
  · rfl
  · rename_i h
    rw [List.getD_eq_getElem?_getD, List.getElem?_eq_none (by omega)]
    rfl
/-! ### One record -/
theorem numS_F4 (g : Nat) (hg : g < 4294967296) (r : List Int) : numS (F4 (g : Int) ++ r) = g := by
  unfold numS
  rw [show (F4 (g : Int) ++ r).take 4 = F4 (g : Int) from List.take_left' (F4_len _)]
  unfold F4
  simp only [List.foldl_cons, List.foldl_nil]
  omega
theorem putT_front (g s : Int) (l : List Int) : ∃ r, putT g s l = F4 g ++ r := ⟨_, by unfold putT; simp only [List.append_assoc]; rfl⟩
theorem numS_put (g : Nat) (hg : g < 4294967296) (s : Int) (l : List Int) : numS (putT (g : Int) s l) = g := by
  obtain ⟨r, hr⟩ := putT_front (g : Int) s l
  rw [hr]
  exact numS_F4 g hg r
theorem take_step (t : List Int) (k : Nat) (h : k < chN t.length) : t.take (k * 110) ++ chB t k = t.take ((k + 1) * 110) := by
  have hp := chL_pos h
  rw [Nat.add_mul, Nat.one_mul, List.take_add]
  congr 1
  unfold chB chL
  rcases Nat.le_total 110 (t.length - k * 110) with c | c
  · rw [Nat.min_eq_left c]
  · rw [Nat.min_eq_right c, List.take_of_length_le (by rw [List.length_drop]; omega), List.take_of_length_le (by rw [List.length_drop]; omega)]
theorem numS_text (r : List Int) (hl : r.length ≤ 65536) (m : Nat) (hm : 4 ≤ m) : numS ((textR r).take m) = r.length := by
  have e : (textR r).take m = F4 (r.length : Int) ++ r.take (m - 4) := by
    unfold textR
    rw [List.take_append, F4_len, List.take_of_length_le (by rw [F4_len]; exact hm)]
  rw [e]
  exact numS_F4 r.length (by omega) _
theorem chB_le {t : List Int} {k : Nat} (h : k < chN t.length) : (chB t k).length ≤ 110 := by rw [chB_len h]; exact (chL_pos h).2.2.2
theorem rec_step (D : Dat) (area gen used : Nat) (r : List Int) (f k : Nat) (hk : k < chN (4 + r.length)) (ha : area ≤ 1000) (hu : used + k < area) (hg : gen < 4294967296) (hl : r.length ≤ 65536) (hrow : D.seen.getD (atN area gen (used + k)) [] = putT gen ((used + k : Nat) : Int) (chB (textR r) k)) :
    recGo D area gen used (f + 1) k ((textR r).take (k * 110)) (if k = 0 then 4 else 4 + r.length) = recGo D area gen used f (k + 1) ((textR r).take ((k + 1) * 110)) (4 + r.length) := by
  have htl := textR_len r
  have hk2 : k < chN (textR r).length := by rw [htl]; exact hk
  have hp := chL_pos hk
  have ht : takeT gen ((used + k : Nat) : Int) (rowAt D (atN area gen (used + k) : Nat)) = (chB (textR r) k, true) := by
    rw [rowAt_nat, hrow, take_put _ _ _ _ (by unfold u32; omega) (by unfold u32; omega) (by unfold u32; omega) (by unfold u32; omega) _ (chB_le hk2), if_pos ⟨rfl, rfl⟩]
  have hlen : ((textR r).take ((k + 1) * 110)).length = min ((k + 1) * 110) (4 + r.length) := by rw [List.length_take, htl]
  have hlen0 : ((textR r).take (k * 110)).length = min (k * 110) (4 + r.length) := by rw [List.length_take, htl]
  have hn := numS_text r hl ((k + 1) * 110) (by omega)
  show (if (if k = 0 then 4 else 4 + r.length) ≤ ((textR r).take (k * 110)).length then _ else _) = _
  rw [ht, take_step _ _ hk2]
  dsimp only
  rw [hlen, hlen0, hn, if_neg (by split <;> omega), if_neg (by omega), if_neg (by decide), if_neg (by omega), if_neg (by omega), if_neg (by omega)]
theorem rec_run (D : Dat) (area gen used : Nat) (r : List Int) (ha : area ≤ 1000) (hg : gen < 4294967296) (hl : r.length ≤ 65536) : ∀ k, k ≤ chN (4 + r.length) → used + k ≤ area → (∀ j, j < k → D.seen.getD (atN area gen (used + j)) [] = putT gen ((used + j : Nat) : Int) (chB (textR r) j)) →
    recordS D area gen used = recGo D area gen used (area + 2 - k) k ((textR r).take (k * 110)) (if k = 0 then 4 else 4 + r.length) := by
  intro k
  induction k with
  | zero => intro _ _ _; rw [if_pos rfl, Nat.zero_mul, List.take_zero]; rfl
  | succ k ih =>
    intro h1 h2 h3
    rw [ih (by omega) (by omega) (fun j hj => h3 j (by omega)), show area + 2 - k = (area + 2 - (k + 1)) + 1 by omega, rec_step D area gen used r _ k (by omega) ha (by omega) hg hl (h3 k (by omega)), if_neg (by omega)]
/-- A record that lies there is read. -/
theorem rec_back (D : Dat) (area gen used : Nat) (r : List Int) (ha : area ≤ 1000) (hg : gen < 4294967296) (hl : r.length ≤ 65536) (hf : used + chN (4 + r.length) ≤ area) (h : ∀ j, j < chN (4 + r.length) → D.seen.getD (atN area gen (used + j)) [] = putT gen ((used + j : Nat) : Int) (chB (textR r) j)) : recordS D area gen used = some r := by
  have hch : 1 ≤ chN (4 + r.length) := by unfold chN; omega
  have hfull : (textR r).take (chN (4 + r.length) * 110) = textR r := List.take_of_length_le (by rw [textR_len]; unfold chN; omega)
  rw [rec_run D area gen used r ha hg hl _ (Nat.le_refl _) hf h, if_neg (by omega), hfull, show area + 2 - chN (4 + r.length) = (area + 1 - chN (4 + r.length)) + 1 by omega]
  show (if 4 + r.length ≤ (textR r).length then some ((textR r).drop 4) else _) = _
  rw [if_pos (by rw [textR_len]; omega)]
  unfold textR
  rw [List.drop_left' (F4_len _)]
/-- One that is not whole is none. -/
theorem rec_cut (D : Dat) (area gen used : Nat) (r : List Int) (ha : area ≤ 1000) (hg : gen < 4294967296) (hl : r.length ≤ 65536) (k : Nat) (hk : k < chN (4 + r.length)) (hf : used + k ≤ area) (h : ∀ j, j < k → D.seen.getD (atN area gen (used + j)) [] = putT gen ((used + j : Nat) : Int) (chB (textR r) j)) (hno : used + k < area → (takeT gen ((used + k : Nat) : Int) (D.seen.getD (atN area gen (used + k)) [])).2 = false) : recordS D area gen used = none := by
  have hp := chL_pos hk
  have hlen0 : ((textR r).take (k * 110)).length = min (k * 110) (4 + r.length) := by rw [List.length_take, textR_len]
  rw [rec_run D area gen used r ha hg hl k (by omega) hf h, show area + 2 - k = (area + 1 - k) + 1 by omega]
  show (if (if k = 0 then 4 else 4 + r.length) ≤ ((textR r).take (k * 110)).length then _ else _) = _
  rw [hlen0, if_neg (by split <;> omega)]
  by_cases hc : area ≤ used + k
  · rw [if_pos hc]
  · rw [if_neg hc, rowAt_nat, if_pos (hno (by omega))]
theorem rec_none (D : Dat) (area gen used : Nat) (ha : area ≤ 1000) (hg : gen < 4294967296) (hf : used ≤ area) (hno : used < area → (takeT gen ((used : Nat) : Int) (D.seen.getD (atN area gen used) [])).2 = false) : recordS D area gen used = none :=
  rec_cut D area gen used [] ha hg (by decide) 0 (by decide) hf (fun j hj => absurd hj (Nat.not_lt_zero _)) hno
theorem take_z (g s : Int) (hg : 1 ≤ g) (hg2 : g < 4294967296) : (takeT g s z128).2 = false := by
  unfold BGLog.takeT
  rw [if_neg]
  intro ⟨_, _, h⟩
  obtain ⟨r, hr⟩ := putT_front g s (ld z128)
  rw [hr] at h
  have h2 : F4 g = F4 0 := by
    have := congrArg (List.take 4) h
    rw [List.take_left' (F4_len _)] at this
    rw [this]
    decide
  have := F4_inj g 0 ⟨by omega, hg2⟩ ⟨by omega, by omega⟩ h2
  omega
/-! ### All records -/
def BlkS (s : List (List Int)) (area gen : Nat) : Nat → List (List Int) → Prop
  | _, [] => True
  | u, r :: rs => (∀ j, j < chN (4 + r.length) → s.getD (atN area gen (u + j)) [] = putT gen ((u + j : Nat) : Int) (chB (textR r) j)) ∧ BlkS s area gen (u + chN (4 + r.length)) rs
theorem sumS_cons (r : List Int) (a : List (List Int)) : sumS (r :: a) = chN (4 + r.length) + sumS a := by unfold sumS; simp
theorem chN1 (n : Nat) : 1 ≤ chN (4 + n) := by unfold chN; omega
theorem BlkS.frame {s s' : List (List Int)} {area gen : Nat} : ∀ {recs : List (List Int)} {u : Nat}, BlkS s area gen u recs → (∀ i, u ≤ i → i < u + sumS recs → s'.getD (atN area gen i) [] = s.getD (atN area gen i) []) → BlkS s' area gen u recs
  | [], _, _, _ => trivial
  | r :: rs, u, h, hf => by
    have e := sumS_cons r rs
    exact ⟨fun j hj => (hf (u + j) (by omega) (by omega)).trans (h.1 j hj), h.2.frame (fun i h1 h2 => hf i (by omega) (by omega))⟩
theorem BlkS.snoc {s : List (List Int)} {area gen : Nat} {r : List Int} : ∀ {recs : List (List Int)} {u : Nat}, BlkS s area gen u recs → (∀ j, j < chN (4 + r.length) → s.getD (atN area gen (u + sumS recs + j)) [] = putT gen ((u + sumS recs + j : Nat) : Int) (chB (textR r) j)) → BlkS s area gen u (recs ++ [r])
  | [], _, _, hr => ⟨hr, trivial⟩
  | x :: rs, u, h, hr => by
    have e := sumS_cons x rs
    refine ⟨h.1, h.2.snoc ?_⟩
    rw [e, ← Nat.add_assoc] at hr
    exact hr
theorem len_sum (recs : List (List Int)) : recs.length ≤ sumS recs := by
  induction recs with
  | nil => exact Nat.le_refl _
  | cons r rs ih => have := sumS_cons r rs; have := chN1 r.length; rw [List.length_cons]; omega
def Recs (recs : List (List Int)) : Prop := ∀ r, r ∈ recs → wfb r ∧ r.length ≤ 65536
theorem Recs.snoc {a : List (List Int)} {r : List Int} (h : Recs a) (h1 : wfb r) (h2 : r.length ≤ 65536) : Recs (a ++ [r]) := fun x hx => by
  rcases List.mem_append.1 hx with hx | hx
  · exact h x hx
  · rw [List.mem_singleton.1 hx]; exact ⟨h1, h2⟩
theorem all_back (D : Dat) (area gen : Nat) (ha : area ≤ 1000) (hg : gen < 4294967296) : ∀ (recs : List (List Int)) (f u : Nat), BlkS D.seen area gen u recs → Recs recs → u + sumS recs ≤ area → recs.length < f → recordS D area gen (u + sumS recs) = none → recAll D area gen f u = recs := by
  intro recs
  induction recs with
  | nil =>
    intro f u _ _ _ hf he
    obtain ⟨f, rfl⟩ : ∃ n, f = n + 1 := ⟨f - 1, by have : ([] : List (List Int)).length = 0 := rfl; omega⟩
    rw [show u + sumS [] = u from rfl] at he
    unfold recAll
    rw [he]
  | cons r rs ih =>
    intro f u hb hr hs hf he
    have e := sumS_cons r rs
    rw [List.length_cons] at hf
    obtain ⟨f, rfl⟩ : ∃ n, f = n + 1 := ⟨f - 1, by omega⟩
    have hh := rec_back D area gen u r ha hg (hr r List.mem_cons_self).2 (by omega) hb.1
    unfold recAll
    rw [hh]
    dsimp only
    rw [ih f (u + chN (4 + r.length)) hb.2 (fun x hx => hr x (List.mem_cons_of_mem _ hx)) (by omega) (by omega) (by rw [Nat.add_assoc, ← e]; exact he)]
/-! ### The slots -/
theorem slot_put (g : Nat) (h1 : 1 ≤ g) (hm : g < mark) : slotB (putT (g : Int) (mark : Int) []) (g % 2) = true := by
  have hm2 : g < 4294967296 := by unfold mark at hm; omega
  unfold slotB
  rw [numS_put g hm2, take_put _ _ _ _ (by unfold u32; omega) (by unfold u32 mark; omega) (by unfold u32; omega) (by unfold u32 mark; omega) [] (by decide), if_pos ⟨rfl, rfl⟩, decide_eq_true h1, decide_eq_true hm]
  simp
theorem gen_two (D : Dat) (G : Nat) (h1 : 1 ≤ G) (hm : G < mark) (cur : D.seen.getD (G % 2) [] = putT G mark []) (oth : slotB (D.seen.getD ((G + 1) % 2) []) ((G + 1) % 2) = true → numS (D.seen.getD ((G + 1) % 2) []) ≤ G) : genTo D 2 = G := by
  have hs := slot_put G h1 hm
  have hn := numS_put G (by unfold mark at hm; omega) (mark : Int) []
  have h0 : ∀ i, rowAt D ((i : Nat) : Int) = D.seen.getD i [] := rowAt_nat D
  show (if slotB (rowAt D ((1 : Nat) : Int)) 1 = true then max (if slotB (rowAt D ((0 : Nat) : Int)) 0 = true then max 0 (numS (rowAt D ((0 : Nat) : Int))) else 0) (numS (rowAt D ((1 : Nat) : Int))) else (if slotB (rowAt D ((0 : Nat) : Int)) 0 = true then max 0 (numS (rowAt D ((0 : Nat) : Int))) else 0)) = G
  rw [h0 0, h0 1]
  rcases Nat.mod_two_eq_zero_or_one G with c | c
  · have c1 : (G + 1) % 2 = 1 := by omega
    rw [c] at cur hs
    rw [c1] at oth
    rw [cur, hs, hn, if_pos rfl]
    split
    · rename_i hx; have := oth hx; omega
    · omega
  · have c1 : (G + 1) % 2 = 0 := by omega
    rw [c] at cur hs
    rw [c1] at oth
    rw [cur, hs, hn, if_pos rfl]
    split
    · rename_i hx; have := oth hx; omega
    · omega
/-! ### A log, in the rows of a device -/
structure LogS (s : List (List Int)) (area G : Nat) (recs : List (List Int)) : Prop where
  one : 1 ≤ G
  len : 2 + 2 * area ≤ s.length
  cur : s.getD (G % 2) [] = putT G mark []
  oth : slotB (s.getD ((G + 1) % 2) []) ((G + 1) % 2) = true → numS (s.getD ((G + 1) % 2) []) ≤ G
  blk : BlkS s area G 0 recs
  fit : sumS recs ≤ area
  good : Recs recs
def Rest (s : List (List Int)) (area G u : Nat) : Prop := ∀ i, u ≤ i → i < area → s.getD (atN area G i) [] = z128
theorem LogS.reads {D : Dat} {area G : Nat} {recs : List (List Int)} (h : LogS D.seen area G recs) (ha : area ≤ 1000) (hm : G < mark) (he : recordS D area G (sumS recs) = none) : genTo D 2 = G ∧ openRecs D area G = recs := by
  refine ⟨gen_two D G h.one hm h.cur h.oth, ?_⟩
  have hl := len_sum recs
  have hf := h.fit
  exact all_back D area G ha (by unfold mark at hm; omega) recs (area + 1) 0 h.blk h.good (by omega) (by omega) (by rw [Nat.zero_add]; exact he)
theorem Rest.none {D : Dat} {area G u : Nat} (h : Rest D.seen area G u) (ha : area ≤ 1000) (h1 : 1 ≤ G) (hm : G < mark) (hu : u ≤ area) : recordS D area G u = none := by
  have hm2 : G < 4294967296 := by unfold mark at hm; omega
  exact rec_none D area G u ha hm2 hu (fun hlt => by rw [h u (Nat.le_refl _) hlt]; exact take_z G u (by omega) (by omega))
/-! ### What is written -/
abbrev Wr := Nat × List Int
def sets (s : List (List Int)) (l : List Wr) : List (List Int) := l.foldl (fun s x => s.set x.1 x.2) s
def runW (D : Dat) (l : List Wr) : Dat := l.foldl (fun D x => (D.write (x.1 : Int) x.2).2) D
theorem sets_len (l : List Wr) : ∀ s, (sets s l).length = s.length := by
  induction l with
  | nil => intro s; rfl
  | cons x l ih => intro s; exact (ih _).trans (List.length_set)
theorem sets_app (s : List (List Int)) (a b : List Wr) : sets s (a ++ b) = sets (sets s a) b := List.foldl_append
theorem runW_app (D : Dat) (a b : List Wr) : runW D (a ++ b) = runW (runW D a) b := List.foldl_append
theorem getD_set_ne {s : List (List Int)} {i j : Nat} (h : i ≠ j) (b : List Int) : (s.set i b).getD j [] = s.getD j [] := by
  rw [List.getD_eq_getElem?_getD, List.getD_eq_getElem?_getD, List.getElem?_set_ne h]
theorem getD_set_at {s : List (List Int)} {i : Nat} (h : i < s.length) (b : List Int) : (s.set i b).getD i [] = b := by
  rw [List.getD_eq_getElem?_getD, List.getElem?_set_self h]
  rfl
theorem sets_other (j : Nat) (l : List Wr) : ∀ s, (∀ x, x ∈ l → x.1 ≠ j) → (sets s l).getD j [] = s.getD j [] := by
  induction l with
  | nil => intro s _; rfl
  | cons x l ih =>
    intro s h
    exact (ih _ (fun y hy => h y (List.mem_cons_of_mem _ hy))).trans (getD_set_ne (h x List.mem_cons_self) _)
/-- What a row of writes is: one for each number. -/
def wrs (f : Nat → Wr) (n : Nat) : List Wr := (List.range n).map f
theorem wrs_succ (f : Nat → Wr) (n : Nat) : wrs f (n + 1) = wrs f n ++ [f n] := by unfold wrs; rw [List.range_succ, List.map_append]; rfl
theorem wrs_mem {f : Nat → Wr} {n : Nat} {x : Wr} (h : x ∈ wrs f n) : ∃ j, j < n ∧ x = f j := by
  obtain ⟨j, hj, rfl⟩ := List.mem_map.1 h
  exact ⟨j, List.mem_range.1 hj, rfl⟩
theorem sets_at (f : Nat → Wr) (s : List (List Int)) : ∀ n, (∀ i j, i < n → j < n → i ≠ j → (f i).1 ≠ (f j).1) → (∀ i, i < n → (f i).1 < s.length) → ∀ j, j < n → (sets s (wrs f n)).getD (f j).1 [] = (f j).2 := by
  intro n
  induction n with
  | zero => intro _ _ j hj; omega
  | succ n ih =>
    intro hi hl j hj
    rw [wrs_succ, sets_app]
    show ((sets s (wrs f n)).set (f n).1 (f n).2).getD (f j).1 [] = _
    by_cases c : j = n
    · subst c
      exact getD_set_at (by rw [sets_len]; exact hl j (by omega)) _
    · rw [getD_set_ne (hi n j (by omega) hj (fun e => c e.symm))]
      exact ih (fun i k h1 h2 => hi i k (by omega) (by omega)) (fun i h => hl i (by omega)) j (by omega)
/-- The writes of a record, of records, of blanks. -/
def recW (area gen u : Nat) (r : List Int) (j : Nat) : Wr := (atN area gen (u + j), putT gen ((u + j : Nat) : Int) (chB (textR r) j))
def blankW (area gen : Nat) (j : Nat) : Wr := (atN area gen j, z128)
def putsW (area gen : Nat) : Nat → List (List Int) → List Wr
  | _, [] => []
  | u, r :: rs => wrs (recW area gen u r) (chN (4 + r.length)) ++ putsW area gen (u + chN (4 + r.length)) rs
theorem putD_run (area gen u : Nat) (D : Dat) (r : List Int) : putD area gen u D r = runW D (wrs (recW area gen u r) (chN (4 + r.length))) := by
  have : ∀ n, putGo area gen (textR r) u D (List.range n) = runW D (wrs (recW area gen u r) n) := by
    intro n
    induction n with
    | zero => rfl
    | succ n ih =>
      rw [List.range_succ, putGo_snoc, ih, wrs_succ, runW_app, List.length_range]
      rfl
  unfold putD
  rw [this, textR_len]
theorem putAll_run (area gen : Nat) : ∀ (recs : List (List Int)) (u : Nat) (D : Dat), putAll area gen u D recs = runW D (putsW area gen u recs)
  | [], _, _ => rfl
  | r :: rs, u, D => by
    show putAll area gen (u + chN (4 + r.length)) (putD area gen u D r) rs = runW D (_ ++ _)
    rw [putAll_run, putD_run, runW_app]
theorem blanks_run (area gen : Nat) (D : Dat) : ∀ n, blanks area gen D n = runW D (wrs (blankW area gen) n)
  | 0 => rfl
  | n + 1 => by
    rw [wrs_succ, runW_app, ← blanks_run area gen D n]
    rfl
/-- Writes that may be: at a block, of a block's length. -/
def MayW (n : Nat) (l : List Wr) : Prop := ∀ x, x ∈ l → x.1 < n ∧ x.2.length = 128
theorem runW_go (D : Dat) (l : List Wr) : ∀ D : Dat, D.left = -1 → MayW D.seen.length l → (runW D l).seen = sets D.seen l ∧ (runW D l).left = -1 ∧ (runW D l).sure = D.sure := by
  induction l with
  | nil => intro D h _; exact ⟨rfl, h, rfl⟩
  | cons x l ih =>
    intro D h hm
    have hx := hm x List.mem_cons_self
    have e : (D.write (x.1 : Int) x.2).2 = D.wrote x.1 x.2 := by
      unfold Dat.write
      rw [if_pos ⟨by omega, by omega, hx.2⟩, if_neg (by omega), Int.toNat_natCast]
    have hl : (D.wrote x.1 x.2).left = -1 := by
      show (if 0 < D.left then D.left - 1 else D.left) = -1
      rw [if_neg (by omega), h]
    have hs : (D.wrote x.1 x.2).seen = D.seen.set x.1 x.2 := rfl
    have := ih (D.wrote x.1 x.2) hl (fun y hy => by rw [hs, List.length_set]; exact hm y (List.mem_cons_of_mem _ hy))
    have ew : runW D (x :: l) = runW (D.wrote x.1 x.2) l := congrArg (fun D => runW D l) e
    rw [ew]
    exact this
theorem flush_left (D : Dat) : D.flush.left = D.left := by unfold Dat.flush; split <;> rfl
theorem at_inj {area gen i j : Nat} (h : i ≠ j) : atN area gen i ≠ atN area gen j := by unfold atN; omega
theorem at_lt {area gen i : Nat} (h : i < area) : atN area gen i < 2 + 2 * area := by
  unfold atN
  rcases Nat.mod_two_eq_zero_or_one gen with c | c <;> rw [c] <;> omega
theorem at_slot (area gen i : Nat) : 2 ≤ atN area gen i := by unfold atN; omega
theorem at_apart {area gen i j : Nat} (hi : i < area) (hj : j < area) : atN area gen i ≠ atN area (gen + 1) j := by
  unfold atN
  rcases Nat.mod_two_eq_zero_or_one gen with c | c
  · rw [c, show (gen + 1) % 2 = 1 by omega]; omega
  · rw [c, show (gen + 1) % 2 = 0 by omega]; omega
theorem z128_len : z128.length = 128 := List.length_replicate
theorem may_blank (area gen n : Nat) (h : 2 + 2 * area ≤ n) : MayW n (wrs (blankW area gen) area) := fun x hx => by
  obtain ⟨j, hj, rfl⟩ := wrs_mem hx
  have := at_lt (gen := gen) hj
  exact ⟨by show atN area gen j < n; omega, z128_len⟩
theorem may_rec (area gen u n : Nat) (r : List Int) (h : 2 + 2 * area ≤ n) (hu : u + chN (4 + r.length) ≤ area) : MayW n (wrs (recW area gen u r) (chN (4 + r.length))) := fun x hx => by
  obtain ⟨j, hj, rfl⟩ := wrs_mem hx
  have := at_lt (gen := gen) (show u + j < area by omega)
  exact ⟨by show atN area gen (u + j) < n; omega, putT_len _ _ _ (chB_le (by rw [textR_len]; exact hj))⟩
theorem may_puts (area gen n : Nat) (h : 2 + 2 * area ≤ n) : ∀ (recs : List (List Int)) (u : Nat), u + sumS recs ≤ area → MayW n (putsW area gen u recs)
  | [], _, _ => fun x hx => by cases hx
  | r :: rs, u, hu => fun x hx => by
    have e := sumS_cons r rs
    rcases List.mem_append.1 hx with hx | hx
    · exact may_rec area gen u n r h (by omega) x hx
    · exact may_puts area gen n h rs _ (by omega) x hx
theorem puts_idx (area gen : Nat) : ∀ (recs : List (List Int)) (u : Nat) (x : Wr), x ∈ putsW area gen u recs → ∃ i, u ≤ i ∧ i < u + sumS recs ∧ x.1 = atN area gen i
  | [], _, _, hx => by cases hx
  | r :: rs, u, x, hx => by
    have e := sumS_cons r rs
    rcases List.mem_append.1 hx with hx | hx
    · obtain ⟨j, hj, rfl⟩ := wrs_mem hx
      exact ⟨u + j, by omega, by omega, rfl⟩
    · obtain ⟨i, h1, h2, h3⟩ := puts_idx area gen rs _ x hx
      exact ⟨i, by omega, by omega, h3⟩
theorem rec_sets (s : List (List Int)) (area gen u : Nat) (r : List Int) (h : 2 + 2 * area ≤ s.length) (hu : u + chN (4 + r.length) ≤ area) (j : Nat) (hj : j < chN (4 + r.length)) : (sets s (wrs (recW area gen u r) (chN (4 + r.length)))).getD (atN area gen (u + j)) [] = putT gen ((u + j : Nat) : Int) (chB (textR r) j) :=
  sets_at (recW area gen u r) s _ (fun i k _ _ hne => at_inj (by omega)) (fun i hi => by have := at_lt (gen := gen) (show u + i < area by omega); show atN area gen (u + i) < _; omega) j hj
theorem puts_sets (area gen : Nat) : ∀ (recs : List (List Int)) (u : Nat) (s : List (List Int)), 2 + 2 * area ≤ s.length → u + sumS recs ≤ area → BlkS (sets s (putsW area gen u recs)) area gen u recs
  | [], _, _, _, _ => trivial
  | r :: rs, u, s, h, hu => by
    have e := sumS_cons r rs
    show BlkS (sets s (_ ++ _)) area gen u (r :: rs)
    rw [sets_app]
    refine ⟨fun j hj => ?_, puts_sets area gen rs _ _ (by rw [sets_len]; exact h) (by omega)⟩
    rw [sets_other _ _ _ (fun x hx => by
      obtain ⟨i, h1, h2, h3⟩ := puts_idx area gen rs _ x hx
      rw [h3]
      exact at_inj (by omega))]
    exact rec_sets s area gen u r h (by omega) j hj
theorem blank_sets (s : List (List Int)) (area gen : Nat) (h : 2 + 2 * area ≤ s.length) (i : Nat) (hi : i < area) : (sets s (wrs (blankW area gen) area)).getD (atN area gen i) [] = z128 :=
  sets_at (blankW area gen) s _ (fun i k _ _ hne => at_inj hne) (fun i hi => by have := at_lt (gen := gen) hi; show atN area gen i < _; omega) i hi
/-- The rows behind an Anew. -/
def anewS (s : List (List Int)) (area G : Nat) (recs : List (List Int)) : List (List Int) := (sets (sets s (wrs (blankW area G) area)) (putsW area G 0 recs)).set (G % 2) (putT G mark [])
theorem anewS_len (s : List (List Int)) (area G : Nat) (recs : List (List Int)) : (anewS s area G recs).length = s.length := by unfold anewS; rw [List.length_set, sets_len, sets_len]
theorem anew_oth {s : List (List Int)} {area G : Nat} {recs : List (List Int)} {j : Nat} (h1 : j ≠ G % 2) (h2 : ∀ i, i < area → atN area G i ≠ j) (hs : sumS recs ≤ area) : (anewS s area G recs).getD j [] = s.getD j [] := by
  unfold anewS
  rw [getD_set_ne (fun e => h1 e.symm), sets_other _ _ _ (fun x hx => by
    obtain ⟨i, _, h4, h5⟩ := puts_idx area G recs 0 x hx
    rw [h5]
    exact h2 i (by omega)), sets_other _ _ _ (fun x hx => by
    obtain ⟨i, h3, rfl⟩ := wrs_mem hx
    exact h2 i h3)]
theorem anew_logS {s : List (List Int)} {area G : Nat} {recs : List (List Int)} (h1 : 1 ≤ G) (hl : 2 + 2 * area ≤ s.length) (oth : slotB (s.getD ((G + 1) % 2) []) ((G + 1) % 2) = true → numS (s.getD ((G + 1) % 2) []) ≤ G) (hs : sumS recs ≤ area) (hr : Recs recs) : LogS (anewS s area G recs) area G recs ∧ Rest (anewS s area G recs) area G (sumS recs) := by
  have hl1 : 2 + 2 * area ≤ (sets s (wrs (blankW area G) area)).length := by rw [sets_len]; exact hl
  have ho : (anewS s area G recs).getD ((G + 1) % 2) [] = s.getD ((G + 1) % 2) [] := anew_oth (by omega) (fun i hi => by have := at_slot area G i; omega) hs
  have hm : G % 2 < 2 := Nat.mod_lt _ (by decide)
  refine ⟨⟨h1, by rw [anewS_len]; exact hl, getD_set_at (by rw [sets_len]; omega) _, by rw [ho]; exact oth, ?_, hs, hr⟩, ?_⟩
  · refine (puts_sets area G recs 0 _ hl1 (by omega)).frame (fun i _ _ => getD_set_ne (by have := at_slot area G i; omega) _)
  · intro i hi1 hi2
    unfold anewS
    rw [getD_set_ne (by have := at_slot area G i; omega), sets_other _ _ _ (fun x hx => by
      obtain ⟨k, h3, h4, h5⟩ := puts_idx area G recs 0 x hx
      rw [h5]
      exact at_inj (by omega))]
    exact blank_sets s area G hl i hi2
theorem anewD_run (area gen : Nat) (D : Dat) (recs : List (List Int)) : anewD area gen D recs = (runW (runW (runW D (wrs (blankW area gen) area)).flush (putsW area gen 0 recs)).flush [(gen % 2, putT gen mark [])]).flush := by
  unfold anewD
  rw [blanks_run, putAll_run]
  rfl
/-- Anew on a device that goes on. -/
theorem anewD_go {D : Dat} {area G : Nat} {recs : List (List Int)} (hl : D.left = -1) (hn : 2 + 2 * area ≤ D.seen.length) (hs : sumS recs ≤ area) : (anewD area G D recs).seen = anewS D.seen area G recs ∧ (anewD area G D recs).left = -1 := by
  rw [anewD_run]
  have h1 := runW_go D _ D hl (may_blank area G _ hn)
  have e1 : (runW D (wrs (blankW area G) area)).flush.seen = sets D.seen (wrs (blankW area G) area) := (flush_seen _).trans h1.1
  have h2 := runW_go D (putsW area G 0 recs) (runW D (wrs (blankW area G) area)).flush ((flush_left _).trans h1.2.1) (by rw [e1, sets_len]; exact may_puts area G _ hn recs 0 (by omega))
  have e2 := (flush_seen _).trans h2.1
  have hm : G % 2 < 2 := Nat.mod_lt _ (by decide)
  have h3 := runW_go D [(G % 2, putT G mark [])] (runW (runW D (wrs (blankW area G) area)).flush (putsW area G 0 recs)).flush ((flush_left _).trans h2.2.1) (by
    rw [e2, sets_len, e1, sets_len]
    intro x hx
    rw [List.mem_singleton.1 hx]
    exact ⟨by show G % 2 < _; omega, putT_len _ _ _ (by decide)⟩)
  refine ⟨?_, (flush_left _).trans h3.2.1⟩
  rw [flush_seen, h3.1, e2, e1]
  rfl
/-- Append on one. -/
def appS (s : List (List Int)) (area G u : Nat) (r : List Int) : List (List Int) := sets s (wrs (recW area G u r) (chN (4 + r.length)))
theorem appD_go {D : Dat} {area G u : Nat} {r : List Int} (hl : D.left = -1) (hn : 2 + 2 * area ≤ D.seen.length) (hu : u + chN (4 + r.length) ≤ area) : (putD area G u D r).flush.seen = appS D.seen area G u r ∧ (putD area G u D r).flush.left = -1 := by
  rw [putD_run]
  have h1 := runW_go D _ D hl (may_rec area G u _ r hn hu)
  exact ⟨(flush_seen _).trans h1.1, (flush_left _).trans h1.2.1⟩
theorem app_other {s : List (List Int)} {area G u : Nat} {r : List Int} {j : Nat} (h : ∀ i, u ≤ i → i < u + chN (4 + r.length) → atN area G i ≠ j) : (appS s area G u r).getD j [] = s.getD j [] :=
  sets_other _ _ _ (fun x hx => by
    obtain ⟨i, hi, rfl⟩ := wrs_mem hx
    exact h (u + i) (by omega) (by omega))
theorem LogS.app {s : List (List Int)} {area G : Nat} {recs : List (List Int)} {r : List Int} (h : LogS s area G recs) (hR : Rest s area G (sumS recs)) (hw : wfb r) (hr : r.length ≤ 65536) (hf : sumS recs + chN (4 + r.length) ≤ area) : LogS (appS s area G (sumS recs) r) area G (recs ++ [r]) ∧ Rest (appS s area G (sumS recs) r) area G (sumS (recs ++ [r])) := by
  have e := sumS_snoc recs r
  have hsl : ∀ j, j < 2 → (appS s area G (sumS recs) r).getD j [] = s.getD j [] := fun j hj => app_other (fun i _ _ => by have := at_slot area G i; omega)
  have hm : ∀ k, k % 2 < 2 := fun k => Nat.mod_lt _ (by decide)
  refine ⟨⟨h.one, by unfold appS; rw [sets_len]; exact h.len, by rw [hsl _ (hm _)]; exact h.cur, by rw [hsl _ (hm _)]; exact h.oth, ?_, by omega, h.good.snoc hw hr⟩, fun i h1 h2 => ?_⟩
  · refine BlkS.snoc (h.blk.frame (fun i _ h2 => app_other (fun k h3 _ => at_inj (by omega)))) (fun j hj => ?_)
    rw [Nat.zero_add]
    exact rec_sets s area G (sumS recs) r h.len hf j hj
  · rw [app_other (fun k h3 h4 => at_inj (by omega))]
    exact hR i (by omega) h2
/-- The whole of a log of a device that goes on. -/
structure LogD (nb m : Nat) (D : Dat) (area G : Nat) (recs : List (List Int)) : Prop where
  good : Good nb m D
  byt : Byt D.seen
  go : D.left = -1
  log : LogS D.seen area G recs
  rest : Rest D.seen area G (sumS recs)
section
variable {nb m area G : Nat} {D : Dat} {recs : List (List Int)}
theorem LogD.le (h : LogD nb m D area G recs) {m' : Nat} (hm : m ≤ m') : LogD nb m' D area G recs := ⟨h.good.le hm, h.byt, h.go, h.log, h.rest⟩
theorem LogD.reads (h : LogD nb m D area G recs) (ha : area ≤ 1000) (hm : G < mark) : genTo D 2 = G ∧ openRecs D area G = recs := h.log.reads ha hm (h.rest.none ha h.log.one hm h.log.fit)
theorem LogD.may (h : LogD nb m D area G recs) (ha1 : 1 ≤ area) (ha : area ≤ 1000) : mayB D (area : Int) = true := decide_eq_true ⟨by omega, by omega, by have := h.log.len; omega⟩
theorem slot_fresh (n : Nat) : slotB ((newD n).seen.getD 0 []) 0 = false := by
  have h : (newD n).seen.getD 0 [] = z128 ∨ (newD n).seen.getD 0 [] = [] := by
    show (List.replicate n z128).getD 0 [] = z128 ∨ _
    rw [List.getD_eq_getElem?_getD, List.getElem?_replicate]
    split
    · exact .inl rfl
    · rename_i c
      refine .inr ?_
      show (List.replicate n z128).getD 0 [] = []
      rw [List.getD_eq_getElem?_getD, List.getElem?_replicate, if_neg c]
      rfl
  have h0 : numS z128 = 0 := by decide +kernel
  have h1 : numS [] = 0 := by decide
  rcases h with h | h
  · rw [h]; unfold slotB; rw [h0]; simp
  · rw [h]; unfold slotB; rw [h1]; simp
theorem logD_first (hn : 2 + 2 * area ≤ nb) (hs : sumS recs ≤ area) (hr : Recs recs) : LogD nb (area + sumS recs + 1) (anewD area 1 (newD nb) recs) area 1 recs := by
  have hl : (newD nb).seen.length = nb := List.length_replicate
  have hg := anewD_go (D := newD nb) (area := area) (G := 1) (recs := recs) rfl (by rw [hl]; exact hn) hs
  have hg2 := good_anew (good_new nb) area 1 recs
  have hs2 := anew_logS (s := (newD nb).seen) (area := area) (G := 1) (recs := recs) (Nat.le_refl _) (by rw [hl]; exact hn) (fun hx => by
    rw [show (1 + 1) % 2 = 0 from rfl, slot_fresh nb] at hx
    cases hx) hs hr
  refine ⟨hg2.le (by omega), byt_anew (byt_new nb) area 1 recs (fun r hx => (hr r hx).1), hg.2, ?_, ?_⟩
  · rw [hg.1]; exact hs2.1
  · rw [hg.1]; exact hs2.2
theorem LogD.anew (h : LogD nb m D area G recs) (hm : G < mark) {recs2 : List (List Int)} (hs : sumS recs2 ≤ area) (hr : Recs recs2) : LogD nb (m + area + sumS recs2 + 1) (anewD area (G + 1) D recs2) area (G + 1) recs2 := by
  have hg := anewD_go (D := D) (area := area) (G := G + 1) (recs := recs2) h.go h.log.len hs
  have hg2 := good_anew h.good area (G + 1) recs2
  have hs2 := anew_logS (s := D.seen) (area := area) (G := G + 1) (recs := recs2) (by omega) h.log.len (fun hx => by
    rw [show (G + 1 + 1) % 2 = G % 2 by omega, h.log.cur, numS_put G (by unfold mark at hm; omega)]
    omega) hs hr
  refine ⟨hg2, byt_anew h.byt area (G + 1) recs2 (fun r hx => (hr r hx).1), hg.2, ?_, ?_⟩
  · rw [hg.1]; exact hs2.1
  · rw [hg.1]; exact hs2.2
theorem LogD.app (h : LogD nb m D area G recs) {r : List Int} (hw : wfb r) (hr : r.length ≤ 65536) (hf : sumS recs + chN (4 + r.length) ≤ area) : LogD nb (m + chN (4 + r.length)) (putD area G (sumS recs) D r).flush area G (recs ++ [r]) := by
  have hg := appD_go (D := D) (G := G) h.go h.log.len hf
  have hs2 := h.log.app h.rest hw hr hf
  refine ⟨good_flush (good_putD h.good area G (sumS recs) r), byt_flush (byt_putD h.byt hw area G (sumS recs)), hg.2, ?_, ?_⟩
  · rw [hg.1]; exact hs2.1
  · rw [hg.1]; exact hs2.2
end
end Go.Proofs.YtokmildjniploaaDoor.PLog
