/- SpaceApart's plain law: runs that do not meet, told by which blocks are taken. Conditions: none. -/
import Derived.Test.YtaoegbebeogkbaaDoorSpaceA
namespace Go.Proofs.YtaoegbebeogkbaaDoor.PSpace
open Go.RowKit Go.Proofs.YtaoegbebeogkbaaDoorW.PrintWords Go.Proofs.YtaoegbebeogkbaaDoorW.PrintLast Go.Proofs.YtaoegbebeogkbaaDoorW.PrintMore
set_option linter.unusedVariables false
set_option linter.unusedSimpArgs false
def Cov (hv : List S39) (k : Int) : Prop := ∃ x, x ∈ hv ∧ x.f0 ≤ k ∧ k < x.f0 + x.f1
def okR (x : S39) : Prop := 7 ≤ x.f0 ∧ 1 ≤ x.f1 ∧ x.f0 + x.f1 ≤ 57
def Clear (x y : S39) : Prop := x.f0 + x.f1 ≤ y.f0 ∨ y.f0 + y.f1 ≤ x.f0
def Inv (L : List Bool) (hv : List S39) : Prop := L.length = 50 ∧ (∀ x, x ∈ hv → okR x) ∧ hv.Pairwise Clear ∧ ∀ j : Nat, j < 50 → (L.getD j false = true ↔ Cov hv (7 + (j : Int)))
def Own (own : List Int) (P : Int → Prop) : Prop := own.length = 60 ∧ ∀ k : Nat, k < 60 → (own.getD k 0 ≠ 0 ↔ P (k : Int))
def total (hv : List S39) : Int := (hv.map (·.f1)).sum
theorem cov_nil (k : Int) : ¬ Cov [] k := fun ⟨x, hx, _⟩ => by cases hx
theorem cov_cons (x : S39) (hv : List S39) (k : Int) : Cov (x :: hv) k ↔ (x.f0 ≤ k ∧ k < x.f0 + x.f1) ∨ Cov hv k := by
  unfold Cov
  constructor
  · rintro ⟨y, hy, h⟩
    rcases List.mem_cons.1 hy with rfl | hy
    · exact .inl h
    · exact .inr ⟨y, hy, h⟩
  · rintro (h | ⟨y, hy, h⟩)
    · exact ⟨x, List.mem_cons_self, h⟩
    · exact ⟨y, List.mem_cons_of_mem _ hy, h⟩
theorem cov_snoc (x : S39) (hv : List S39) (k : Int) : Cov (hv ++ [x]) k ↔ Cov hv k ∨ (x.f0 ≤ k ∧ k < x.f0 + x.f1) := by
  unfold Cov
  constructor
  · rintro ⟨y, hy, h⟩
    rcases List.mem_append.1 hy with hy | hy
    · exact .inl ⟨y, hy, h⟩
    · rw [List.mem_singleton] at hy; subst hy; exact .inr h
  · rintro (⟨y, hy, h⟩ | h)
    · exact ⟨y, List.mem_append_left _ hy, h⟩
    · exact ⟨x, List.mem_append_right _ (List.mem_singleton.2 rfl), h⟩
theorem setN_getD (l : List Bool) (i N j : Nat) (t : Bool) (h : i + N ≤ l.length) : (setN l i N t).getD j false = if i ≤ j ∧ j < i + N then t else l.getD j false := by
  have h1 : (l.take i).length = i := by rw [List.length_take]; omega
  simp only [List.getD_eq_getElem?_getD]
  unfold setN
  by_cases c1 : j < i
  · rw [if_neg (by omega), List.append_assoc, List.getElem?_append_left (by omega), List.getElem?_take_of_lt c1]
  · by_cases c2 : j < i + N
    · rw [if_pos (by omega), List.append_assoc, List.getElem?_append_right (by omega), h1, List.getElem?_append_left (by rw [List.length_replicate]; omega), List.getElem?_replicate, if_pos (by omega)]
      rfl
    · rw [if_neg (by omega), List.getElem?_append_right (by rw [List.length_append, List.length_replicate, h1]; omega), List.length_append, List.length_replicate, h1, List.getElem?_drop, show i + N + (j - (i + N)) = j by omega]
theorem inv_new : Inv (List.replicate 50 false) [] := by
  refine ⟨List.length_replicate, fun x hx => (List.not_mem_nil hx).elim, List.Pairwise.nil, fun j hj => ⟨fun h => ?_, fun h => (cov_nil _ h).elim⟩⟩
  rw [List.getD_eq_getElem?_getD, List.getElem?_replicate, if_pos hj] at h
  cases h
theorem mem_cut (l : List Bool) (i N : Nat) (t : Bool) (h : i + N ≤ l.length) : t ∈ (l.drop i).take N ↔ ∃ j, i ≤ j ∧ j < i + N ∧ l.getD j false = t := by
  rw [List.mem_iff_getElem?]
  constructor
  · rintro ⟨m, hm⟩
    have hlt : m < N := by
      rcases Nat.lt_or_ge m N with c | c
      · exact c
      · rw [List.getElem?_take, if_neg (by omega)] at hm; cases hm
    rw [List.getElem?_take_of_lt hlt, List.getElem?_drop] at hm
    exact ⟨i + m, by omega, by omega, by rw [List.getD_eq_getElem?_getD, hm]; rfl⟩
  · rintro ⟨j, h1, h2, h3⟩
    refine ⟨j - i, ?_⟩
    rw [List.getElem?_take_of_lt (by omega), List.getElem?_drop, show i + (j - i) = j by omega, List.getElem?_eq_getElem (by omega)]
    rw [List.getD_eq_getElem?_getD, List.getElem?_eq_getElem (by omega)] at h3
    exact congrArg some h3
theorem take_off {L L2 : List Bool} {k a n : Int} (h : takeE 7 L k = (a, n, false, L2)) : L2 = L := by
  unfold takeE at h
  split at h
  · injection h with _ h; injection h with _ h; injection h with h _; cases h
  · injection h with _ h; injection h with _ h; injection h with _ h; exact h.symm
theorem inv_take {L L2 : List Bool} {hv : List S39} {k a n : Int} (h : Inv L hv) (hq : takeE 7 L k = (a, n, true, L2)) : n = k ∧ okR ⟨a, n⟩ ∧ (∀ j : Int, a ≤ j → j < a + n → ¬ Cov hv j) ∧ Inv L2 (hv ++ [⟨a, n⟩]) := by
  obtain ⟨hL, ho, hp, hc⟩ := h
  unfold takeE at hq
  split at hq
  · rename_i i hi
    have hP := List.find?_some hi
    injection hq with e1 hq; injection hq with e2 hq; injection hq with _ e3
    subst e1 e2 e3
    have hP2 : okE 7 L.length (7 + (i : Int)) k ∧ true ∉ (L.drop (7 + (i : Int) - 7).toNat).take k.toNat := by
      unfold takeP setE at hP
      split at hP
      · assumption
      · cases hP
    obtain ⟨h1, h2⟩ := hP2
    have hset : (setE 7 L (7 + (i : Int)) k true).2 = setN L (7 + (i : Int) - 7).toNat k.toNat true := by
      unfold setE
      rw [if_pos ⟨h1, h2⟩]
    rw [hset]
    rw [show (7 + (i : Int) - 7).toNat = i by omega] at h2 ⊢
    unfold okE at h1
    have hfree : ∀ j : Int, 7 + (i : Int) ≤ j → j < 7 + (i : Int) + k → ¬ Cov hv j := by
      intro j g1 g2 g3
      apply h2
      rw [mem_cut L i k.toNat true (by omega)]
      refine ⟨(j - 7).toNat, by omega, by omega, ?_⟩
      rw [hc (j - 7).toNat (by omega), show 7 + ((j - 7).toNat : Int) = j by omega]
      exact g3
    refine ⟨rfl, ⟨by show (7 : Int) ≤ 7 + (i : Int); omega, by show 1 ≤ k; omega, by show 7 + (i : Int) + k ≤ 57; omega⟩, hfree, ?_, ?_, ?_, ?_⟩
    · rw [setN_length _ _ _ _ (by omega), hL]
    · intro x hx
      rcases List.mem_append.1 hx with hx | hx
      · exact ho x hx
      · rw [List.mem_singleton] at hx
        subst hx
        exact ⟨by show (7 : Int) ≤ 7 + (i : Int); omega, by show 1 ≤ k; omega, by show 7 + (i : Int) + k ≤ 57; omega⟩
    · rw [List.pairwise_append]
      refine ⟨hp, List.pairwise_singleton _ _, fun x hx y hy => ?_⟩
      rw [List.mem_singleton] at hy
      subst hy
      have hx1 := ho x hx
      unfold okR at hx1
      show x.f0 + x.f1 ≤ 7 + (i : Int) ∨ 7 + (i : Int) + k ≤ x.f0
      rcases Int.lt_or_le x.f0 (7 + (i : Int)) with c | c
      · have := hfree (7 + (i : Int)) (by omega) (by omega)
        unfold Cov at this
        have h3 : ¬ (x.f0 ≤ 7 + (i : Int) ∧ 7 + (i : Int) < x.f0 + x.f1) := fun hh => this ⟨x, hx, hh⟩
        omega
      · by_cases c2 : 7 + (i : Int) + k ≤ x.f0
        · exact .inr c2
        · exact ((hfree x.f0 c (by omega)) ⟨x, hx, by omega, by omega⟩).elim
    · intro j hj
      rw [setN_getD L i k.toNat j true (by omega), cov_snoc]
      show _ ↔ Cov hv (7 + (j : Int)) ∨ (7 + (i : Int) ≤ 7 + (j : Int) ∧ 7 + (j : Int) < 7 + (i : Int) + k)
      split
      · exact ⟨fun _ => .inr (by omega), fun _ => rfl⟩
      · rw [hc j hj]
        exact ⟨.inl, fun hh => hh.elim id (fun hh => by omega)⟩
  · injection hq with _ hq; injection hq with _ hq; injection hq with hq _; cases hq
theorem inv_free {L : List Bool} {hv : List S39} {x : S39} (h : Inv L (x :: hv)) : ∃ L2, setE 7 L x.f0 x.f1 false = (true, L2) ∧ Inv L2 hv ∧ setE 7 L2 x.f0 x.f1 false = (false, L2) ∧ usedE L = usedE L2 + x.f1.toNat := by
  obtain ⟨hL, ho, hp, hc⟩ := h
  have hx := ho x List.mem_cons_self
  unfold okR at hx
  obtain ⟨i, hi⟩ : ∃ i : Nat, i = (x.f0 - 7).toNat := ⟨_, rfl⟩
  obtain ⟨N, hN⟩ : ∃ N : Nat, N = x.f1.toNat := ⟨_, rfl⟩
  have hall : ∀ j, i ≤ j → j < i + N → L.getD j false = true := fun j h1 h2 => (hc j (by omega)).2 ((cov_cons _ _ _).2 (.inl (by omega)))
  refine ⟨setN L i N false, ?_, ⟨?_, fun y hy => ho y (List.mem_cons_of_mem _ hy), (List.pairwise_cons.1 hp).2, ?_⟩, ?_, ?_⟩
  · have hno : false ∉ (L.drop i).take N := fun hm => by
      obtain ⟨j, h1, h2, h3⟩ := (mem_cut L i N false (by omega)).1 hm
      rw [hall j h1 h2] at h3
      cases h3
    unfold setE
    rw [← hi, ← hN, if_pos ⟨by unfold okE; omega, hno⟩]
  · rw [setN_length _ _ _ _ (by omega), hL]
  · intro j hj
    rw [setN_getD L i N j false (by omega)]
    split
    · rename_i hin
      refine ⟨fun hh => (Bool.noConfusion hh), fun hh => ?_⟩
      obtain ⟨y, hy, g1, g2⟩ := hh
      have hcl := (List.pairwise_cons.1 hp).1 y hy
      unfold Clear at hcl
      omega
    · rename_i hout
      rw [hc j hj, cov_cons]
      exact ⟨fun hh => hh.elim (fun hh => by omega) id, .inr⟩
  · unfold setE
    rw [← hi, ← hN, if_neg]
    rintro ⟨_, h2⟩
    apply h2
    rw [mem_cut _ i N false (by rw [setN_length _ _ _ _ (by omega)]; omega)]
    exact ⟨i, by omega, by omega, by rw [setN_getD L i N i false (by omega), if_pos (by omega)]⟩
  · have hmid : (L.drop i).take N = List.replicate N true := by
      apply List.ext_getElem?
      intro m
      by_cases hm : m < N
      · rw [List.getElem?_take_of_lt hm, List.getElem?_drop, List.getElem?_replicate, if_pos hm]
        have := hall (i + m) (by omega) (by omega)
        rw [List.getD_eq_getElem?_getD, List.getElem?_eq_getElem (by omega)] at this
        rw [List.getElem?_eq_getElem (by omega)]
        exact congrArg some this
      · rw [List.getElem?_take, if_neg hm, List.getElem?_replicate, if_neg hm]
    have e : L = L.take i ++ (List.replicate N true ++ L.drop (i + N)) := by
      rw [← hmid, ← List.drop_drop, List.take_append_drop, List.take_append_drop]
    rw [← hN]
    unfold usedE setN
    conv => lhs; rw [e]
    rw [List.count_append, List.count_append, List.count_append, List.count_append, List.count_replicate, List.count_replicate]
    simp
    omega
theorem inv_nil {L : List Bool} (h : Inv L []) : L = List.replicate 50 false := by
  obtain ⟨hL, _, _, hc⟩ := h
  apply List.ext_getElem
  · rw [hL, List.length_replicate]
  · intro j h1 h2
    rw [List.getElem_replicate]
    have := hc j (by omega)
    rw [List.getD_eq_getElem?_getD, List.getElem?_eq_getElem h1] at this
    cases hh : L[j] with
    | false => rfl
    | true => exact (cov_nil _ (this.1 hh)).elim
theorem inv_used {hv : List S39} : ∀ {L : List Bool}, Inv L hv → (usedE L : Int) = total hv := by
  induction hv with
  | nil =>
    intro L h
    rw [inv_nil h]
    decide
  | cons x hv ih =>
    intro L h
    obtain ⟨L2, _, h2, _, h4⟩ := inv_free h
    have h5 := ih h2
    have hx := h.2.1 x List.mem_cons_self
    unfold okR at hx
    have e : total (x :: hv) = x.f1 + total hv := by unfold total; rw [List.map_cons, List.sum_cons]
    rw [e]
    omega
theorem inv_take_all : takeE 7 (List.replicate 50 false) 50 = (7, 50, true, List.replicate 50 true) ∧ usedE (List.replicate 50 true) = 50 := by decide +kernel
theorem inv_len {L : List Bool} {hv : List S39} (h : Inv L hv) : hv.length ≤ 50 := by
  have h1 := inv_used h
  have h2 : usedE L ≤ L.length := used_le L
  have h3 : ∀ l : List S39, (∀ x, x ∈ l → okR x) → (l.length : Int) ≤ total l := by
    intro l
    induction l with
    | nil => intro _; exact Int.le_refl _
    | cons x l ih =>
      intro hh
      have g1 := ih (fun y hy => hh y (List.mem_cons_of_mem _ hy))
      have g2 := hh x List.mem_cons_self
      unfold okR at g2
      have e : total (x :: l) = x.f1 + total l := by unfold total; rw [List.map_cons, List.sum_cons]
      rw [e, List.length_cons]
      omega
  have h4 := h3 hv h.2.1
  have h5 := h.1
  omega
theorem total_nonneg {hv : List S39} (h : ∀ x, x ∈ hv → okR x) : 0 ≤ total hv := by
  induction hv with
  | nil => exact Int.le_refl _
  | cons x l ih =>
    have g1 := ih (fun y hy => h y (List.mem_cons_of_mem _ hy))
    have g2 := h x List.mem_cons_self
    unfold okR at g2
    have e : total (x :: l) = x.f1 + total l := by unfold total; rw [List.map_cons, List.sum_cons]
    omega
theorem total_take {hv : List S39} (i : Nat) (h : i < hv.length) : total (hv.take (i + 1)) = total (hv.take i) + hv[i].f1 := by
  unfold total
  rw [List.take_succ_eq_append_getElem h, List.map_append, List.sum_append]
  simp
theorem total_part {hv : List S39} (h : ∀ x, x ∈ hv → okR x) (i : Nat) : 0 ≤ total (hv.take i) ∧ total (hv.take i) ≤ total hv := by
  have h1 := total_nonneg (hv := hv.take i) (fun x hx => h x (List.mem_of_mem_take hx))
  have h2 := total_nonneg (hv := hv.drop i) (fun x hx => h x (List.mem_of_mem_drop hx))
  have h3 : total hv = total (hv.take i) + total (hv.drop i) := by
    conv => lhs; rw [← List.take_append_drop i hv]
    unfold total
    rw [List.map_append, List.sum_append]
  omega
theorem own_new : Own (List.replicate 60 0) (Cov []) := by
  refine ⟨List.length_replicate, fun k hk => ⟨fun h => ?_, fun h => (cov_nil _ h).elim⟩⟩
  rw [List.getD_eq_getElem?_getD, List.getElem?_replicate, if_pos hk] at h
  exact (h rfl).elim
theorem own_eq {own : List Int} {P Q : Int → Prop} (h : Own own P) (he : ∀ k : Int, P k ↔ Q k) : Own own Q := ⟨h.1, fun k hk => (h.2 k hk).trans (he k)⟩
theorem own_set {own : List Int} {P Q : Int → Prop} (h : Own own P) (m : Nat) (v : Int) (hm : m < 60) (h1 : v ≠ 0 ↔ Q m) (h2 : ∀ k : Int, k ≠ m → (P k ↔ Q k)) : Own (own.set m v) Q := by
  refine ⟨by rw [List.length_set]; exact h.1, fun k hk => ?_⟩
  rw [List.getD_eq_getElem?_getD, List.getElem?_set]
  split
  · rename_i e
    subst e
    rw [if_pos (by rw [h.1]; exact hm)]
    exact h1
  · rename_i e
    rw [← List.getD_eq_getElem?_getD]
    exact (h.2 k hk).trans (h2 k (by omega))
theorem own_zero {own : List Int} {P : Int → Prop} (h : Own own P) (m : Nat) (hm : m < 60) (hp : ¬ P m) : own[m]? = some 0 := by
  have h1 := h.2 m hm
  have hl : m < own.length := by rw [h.1]; exact hm
  rw [List.getD_eq_getElem?_getD, List.getElem?_eq_getElem hl] at h1
  rw [List.getElem?_eq_getElem hl]
  by_cases c : own[m] = 0
  · rw [c]
  · exact (hp (h1.1 c)).elim
theorem cov_rest {L : List Bool} {hv : List S39} {x : S39} (h : Inv L (x :: hv)) (k : Int) : (Cov (x :: hv) k ∧ ¬ (x.f0 ≤ k ∧ k < x.f0 + x.f1)) ↔ Cov hv k := by
  rw [cov_cons]
  constructor
  · rintro ⟨h1 | h1, h2⟩
    · exact (h2 h1).elim
    · exact h1
  · intro h1
    refine ⟨.inr h1, fun h2 => ?_⟩
    obtain ⟨y, hy, g1, g2⟩ := h1
    have := (List.pairwise_cons.1 h.2.2.1).1 y hy
    unfold Clear at this
    omega
theorem head_drop {hv : List S39} (h : 0 < hv.length) : hv = rd_T39 hv 0 :: hv.drop 1 := by
  cases hv with
  | nil => exact absurd h (by decide)
  | cons x l => rfl
theorem rd_drop {hv : List S39} (i : Nat) (h : i < hv.length) : hv.drop i = rd_T39 hv (i : Int) :: hv.drop (i + 1) := by
  rw [List.drop_eq_getElem_cons h]
  congr 1
  simp [rd_T39, List.getD_eq_getElem?_getD, List.getElem?_eq_getElem h]
theorem rd_get {hv : List S39} (i : Nat) (h : i < hv.length) : rd_T39 hv (i : Int) = hv[i] := by
  simp [rd_T39, List.getD_eq_getElem?_getD, List.getElem?_eq_getElem h]
theorem tail_cut (A : Option Addr) (n c : Nat) (h : 0 < n) : ∃ v2, (∀ W : World, (Instr.slice 37 (.slice A n c) (some (.int .i64 1)) none none).run Tryd.prog W = .ok v2 W) ∧ ∀ (w : World) (B : Nat) (ok : Nat → Prop) (hv : List S39), Kd.Q k39 39 w B ok (.slice A n c) hv → Kd.Q k39 39 w B ok v2 (hv.drop 1) := by
  obtain ⟨i0, hi0, hz⟩ := Option.map_eq_some_iff.1 info39
  simp only [Prod.mk.injEq] at hz
  refine ⟨_, fun W => cut_from (P := Tryd.prog) 37 39 .i64 Tryd.underlying37 hi0 2 hz.2.1 A n c 1 (by decide) (by omega) W, fun w B ok hv hQ => ?_⟩
  have hn := (Kd.Q_reads' hQ).1
  exact Kd.Q_drop hQ (k := 1) (by omega)
end Go.Proofs.YtaoegbebeogkbaaDoor.PSpace
