/- Any values out of picks; which values may be, by the program and by the document; and the loops of a law over all types. Conditions: none. -/
import Derived.Test.YtigldipjkejalaaDoorPRleAllx13
import Derived.Test.YtigldipjkejalaaDoorMStr
namespace Go.Proofs.YtigldipjkejalaaDoor.BWRleAll
open Go.RowKit Go.Proofs.YtigldipjkejalaaDoor.PRleAll Go.Proofs.YtigldipjkejalaaDoorW.PrintWords Go.Proofs.YtigldipjkejalaaDoorW.PrintLast Go.Proofs.YtigldipjkejalaaDoorW.PrintMore
set_option linter.unusedVariables false

def ok64 (x : Int) : Prop := -9223372036854775808 ≤ x ∧ x ≤ 9223372036854775807
def wfb (l : List Int) : Prop := ∀ x, x ∈ l → 0 ≤ x ∧ x < 256
theorem wfb_app {a b : List Int} (ha : wfb a) (hb : wfb b) : wfb (a ++ b) := fun x hx => by
  rcases List.mem_append.1 hx with h | h
  · exact ha x h
  · exact hb x h
/-- Whatever lies in memory: a number of 64 bits, a text of 40 bytes at the most. -/
def okv (v : S26) : Prop := ok64 v.f1 ∧ v.f2.size ≤ 40
theorem empty_str : (⟨#[]⟩ : ByteArray).toList = ([] : List UInt8) := by rw [ByteArray.toList_eq]
theorem empty_size : (⟨#[]⟩ : ByteArray).size = 0 := rfl
theorem of_empty (s : ByteArray) (h : s.toList = ([] : List UInt8)) : s = (⟨#[]⟩ : ByteArray) := by
  rw [ByteArray.toList_eq] at h
  obtain ⟨⟨l⟩⟩ := s
  have h' : l = [] := h
  rw [h']
theorem drop_consT (l : List S26) (i : Nat) (h : i < l.length) : l.drop i = rd_T26 l (i : Int) :: l.drop (i + 1) := by
  rw [List.drop_eq_getElem_cons h]
  simp [rd_T26, List.getD_eq_getElem?_getD, List.getElem?_eq_getElem h]
theorem rd_getT (l : List S26) (i : Nat) (h : i < l.length) : rd_T26 l (i : Int) = l[i] := by simp [rd_T26, List.getD_eq_getElem?_getD, List.getElem?_eq_getElem h]
theorem rd_memT (l : List S26) (i : Nat) (h : i < l.length) : rd_T26 l (i : Int) ∈ l := by rw [rd_getT l i h]; exact List.getElem_mem h
theorem take_succT (l : List S26) (i : Nat) (h : i < l.length) : l.take i ++ [rd_T26 l (i : Int)] = l.take (i + 1) := by rw [rd_getT l i h, List.take_append_getElem]

/-! ### which values may be -/
def mayB (v : S26) : Bool := (value_May.f v.f0 v.f1 v.f2).getD false
theorem may_ev (v : S26) : value_May.f v.f0 v.f1 v.f2 = some (mayB v) := by
  unfold mayB value_May.f
  repeat' split
  all_goals rfl
theorem rmay_ev (v : S26) : rabbetref1_May.f v.f0 v.f1 v.f2 = some (mayB v) := by
  unfold mayB value_May.f rabbetref1_May.f
  by_cases h0 : v.f0 = 0
  · rw [if_pos h0, if_neg (show ¬ v.f0 = 1 by omega), if_neg (show ¬ v.f0 = 2 by omega), if_pos h0]
    by_cases h : v.f1 = 0
    · rw [if_pos h]; rfl
    · rw [if_neg h]; rfl
  rw [if_neg h0]
  by_cases h1 : v.f0 = 1
  · rw [if_pos h1, if_pos h1]
    by_cases h2 : v.f1 < -32768
    · rw [if_neg (show ¬ v.f1 ≥ -32768 by omega), if_pos h2]; rfl
    rw [if_pos (show v.f1 ≥ -32768 by omega), if_neg h2]
    by_cases h3 : v.f1 > 32767
    · rw [if_neg (show ¬ v.f1 ≤ 32767 by omega), if_pos h3]; rfl
    rw [if_pos (show v.f1 ≤ 32767 by omega), if_neg h3]; rfl
  rw [if_neg h1, if_neg h1]
  by_cases h2 : v.f0 = 2
  · rw [if_pos h2, if_pos h2]; rfl
  rw [if_neg h2, if_neg h2, if_neg h0]
  by_cases h3 : v.f0 = 3
  · rw [if_pos h3]
    by_cases h : v.f1 = 0
    · rw [if_pos h]; rfl
    rw [if_neg h]
    by_cases h' : v.f1 = 1
    · rw [if_pos h']; rfl
    · rw [if_neg h']; rfl
  rw [if_neg h3]
  by_cases h4 : v.f0 = 4
  · rw [if_pos h4]
    by_cases h : v.f1 = 0
    · rw [if_pos h]; rfl
    · rw [if_neg h]; rfl
  rw [if_neg h4]
  rfl
def isT (t : Int) : Bool := decide (1 ≤ t ∧ t ≤ 4)
theorem isType_ev (t : Int) : rabbetref1_isType.f t = some (isT t) := by
  unfold rabbetref1_isType.f isT
  by_cases h : 1 ≤ t
  · rw [if_pos h]
    congr 1
    rw [Bool.eq_iff_iff]
    simp only [decide_eq_true_eq]
    omega
  · rw [if_neg h, decide_eq_false (by omega)]
/-- A value of just this type that may be. -/
def okB (t : Int) (v : S26) : Bool := (v.f0 == t) && mayB v
theorem right_loop (t : Int) (l : List S26) (hn : l.length ≤ 1000) (d : Nat) : ∀ i : Nat, i + d = l.length → Ev (fun k => rabbetref1_right.l0 k t l (i : Int)) (isT t && (l.drop i).all (okB t)) := by
  induction d with
  | zero =>
    intro i hi
    obtain rfl : i = l.length := by omega
    refine Ev.step (f := fun _ => some _) (fun k => ?_) (Ev.now _)
    simp only [rabbetref1_right.l0]
    rw [if_neg (by omega), isType_ev, List.drop_length]
    simp
  | succ d ih =>
    intro i hi
    have hlt : i < l.length := by omega
    have hih := ih (i + 1) (by omega)
    rw [drop_consT l i hlt, List.all_cons]
    have hstep : ∀ k, rabbetref1_right.l0 (k + 1) t l (i : Int) = (rabbetref1_Fits.f t (rd_T26 l (i : Int)).f0 (rd_T26 l (i : Int)).f1 (rd_T26 l (i : Int)).f2).bind fun x => (if x = true then (if (rd_T26 l (i : Int)).f0 = t then (rabbetref1_right.l0 k t l (wrap64 ((i : Int) + 1))) else (some false)) else (some false)) := by
      intro k
      simp only [rabbetref1_right.l0]
      rw [if_pos (by omega), if_pos (by omega)]
    generalize rd_T26 l (i : Int) = v at *
    have hw : wrap64 ((i : Int) + 1) = ((i + 1 : Nat) : Int) := by unfold wrap64; omega
    have hf : rabbetref1_Fits.f t v.f0 v.f1 v.f2 = some (mayB v && (isT t && (v.f0 == 0 || v.f0 == t))) := by
      unfold rabbetref1_Fits.f
      rw [rmay_ev, Option.bind_some]
      cases mayB v
      · simp
      · rw [if_pos rfl, isType_ev, Option.bind_some]
        cases isT t
        · simp
        · rw [if_pos rfl]
          by_cases h0 : v.f0 = 0
          · rw [if_pos h0]; simp [h0]
          · rw [if_neg h0]; simp [h0]
    refine Ev.step hstep (Ev.congr (f := fun k => if (mayB v && (isT t && (v.f0 == 0 || v.f0 == t))) = true then (if v.f0 = t then (rabbetref1_right.l0 k t l ((i + 1 : Nat) : Int)) else (some false)) else (some false)) (fun k => by rw [hf, Option.bind_some, hw]) ?_)
    by_cases hm : mayB v = true
    · by_cases ht : isT t = true
      · by_cases h0 : v.f0 = t
        · have e : okB t v = true := by simp [okB, hm, h0]
          refine Ev.congr (fun k => ?_) (show Ev (fun k => rabbetref1_right.l0 k t l ((i + 1 : Nat) : Int)) _ from by rw [e]; exact hih)
          rw [if_pos (by simp [hm, ht, h0]), if_pos h0]
        · have e : okB t v = false := by simp [okB, h0]
          rw [e]
          refine Ev.congr (f := fun _ => some _) (fun k => ?_) (Ev.now _)
          by_cases hc : (mayB v && (isT t && (v.f0 == 0 || v.f0 == t))) = true
          · rw [if_pos hc, if_neg h0]; simp
          · rw [if_neg hc]; simp
      · refine Ev.congr (f := fun _ => some _) (fun k => ?_) (Ev.now _)
        rw [if_neg (by simp [ht])]
        simp [ht]
    · refine Ev.congr (f := fun _ => some _) (fun k => ?_) (Ev.now _)
      rw [if_neg (by simp [hm])]
      simp [okB, hm]
/-- Values all of a type, none of them nothing. -/
def rightB (t : Int) (l : List S26) : Bool := isT t && l.all (okB t)
theorem right_ev (t : Int) (l : List S26) (hn : l.length ≤ 1000) : Ev (fun k => rabbetref1_right.f k t l) (rightB t l) := by
  refine Ev.congr (fun k => ?_) (right_loop t l hn l.length 0 (by omega))
  simp only [rabbetref1_right.f]
  rfl

/-! ### values out of picks -/
theorem num_pick (p : List Int) (hp : wfb p) (hn : p.length ≤ 1000) (q : Nat) (hq : q ≤ p.length) : ∃ n q' : Nat, n < 9 ∧ q' ≤ p.length ∧ rabbetplay_Picks_Num.f p (q : Int) 9 = some ((n : Int), (q' : Int)) := by
  unfold rabbetplay_Picks_Num.f
  by_cases h : (q : Int) ≥ (p.length : Int)
  · exact ⟨0, q, by omega, hq, by rw [if_pos h]; rfl⟩
  · have hlt : q < p.length := by omega
    have e1 : wrap64 ((wrap64 ((q : Int) + 1)) - 1) = (q : Int) := by unfold wrap64; omega
    have hm : rd p (q : Int) ∈ p := by
      have : rd p (q : Int) = p[q] := by simp [rd, List.getD_eq_getElem?_getD, List.getElem?_eq_getElem hlt]
      rw [this]; exact List.getElem_mem hlt
    obtain ⟨h0, h1⟩ := hp _ hm
    obtain ⟨c, hc⟩ := Int.eq_ofNat_of_zero_le h0
    refine ⟨c % 9, q + 1, Nat.mod_lt _ (by decide), by omega, ?_⟩
    rw [if_neg h, e1, if_pos (by omega), if_pos (by omega), if_neg (by decide), hc]
    rw [show wrap64 (c : Int) = (c : Int) by unfold wrap64; omega, show wrap64 ((q : Int) + 1) = ((q + 1 : Nat) : Int) by unfold wrap64; omega]
    rfl
theorem small_list : ∀ n : Nat, n < 9 → -9223372036854775808 ≤ rd ([0, 1, 2, 3, (-1), 100, (-32768), 32767, 5] : List Int) (n : Int) ∧ rd ([0, 1, 2, 3, (-1), 100, (-32768), 32767, 5] : List Int) (n : Int) ≤ 9223372036854775807 := by decide
theorem int_list : ∀ n : Nat, n < 9 → -9223372036854775808 ≤ rd ([0, 1, 2, 3, (-1), 1000000, (-9223372036854775808), 9223372036854775807, 4611686018427387904] : List Int) (n : Int) ∧ rd ([0, 1, 2, 3, (-1), 1000000, (-9223372036854775808), 9223372036854775807, 4611686018427387904] : List Int) (n : Int) ≤ 9223372036854775807 := by decide
theorem text_list : ∀ n : Nat, n < 9 → (rdOf ByteArray.empty ([(⟨#[]⟩ : ByteArray), (⟨#[97]⟩ : ByteArray), (⟨#[98]⟩ : ByteArray), (⟨#[97, 58, 98]⟩ : ByteArray), (⟨#[97, 98]⟩ : ByteArray), (⟨#[120, 58, 121, 58, 122]⟩ : ByteArray), (⟨#[58]⟩ : ByteArray), (⟨#[116, 119, 101, 110, 116, 121, 45, 98, 121, 116, 101, 115, 45, 111, 102, 45, 116, 101, 120, 116]⟩ : ByteArray), (⟨#[99]⟩ : ByteArray)] : List ByteArray) (n : Int)).size ≤ 40 := by decide
theorem two_list : ∀ n : Nat, n < 9 → Int.tmod (n : Int) 2 = 0 ∨ Int.tmod (n : Int) 2 = 1 := by decide
theorem value_j0 (t : Int) (n : Nat) (hn : n < 9) (b : Bool) (p : List Int) (q : Int) : ∃ v : S26, okv v ∧ Ev (fun k => rabbetplay_Picks_Value.j0 k t (n : Int) b p q) (v.f0, v.f1, v.f2, q) := by
  cases b
  · by_cases h1 : t = 1
    · have h := small_list n hn
      refine ⟨⟨t, rd ([0, 1, 2, 3, (-1), 100, (-32768), 32767, 5] : List Int) (n : Int), ⟨#[]⟩⟩, ⟨h, by show (0 : Nat) ≤ 40; omega⟩, Ev.step (f := fun _ => _) (fun k => ?_) (Ev.now _)⟩
      simp only [rabbetplay_Picks_Value.j0, Bool.false_eq_true, if_false, Option.bind_some]
      rw [if_pos h1, if_pos (by omega), if_pos (by simp; omega)]
    by_cases h2 : t = 2
    · have h := int_list n hn
      refine ⟨⟨t, rd ([0, 1, 2, 3, (-1), 1000000, (-9223372036854775808), 9223372036854775807, 4611686018427387904] : List Int) (n : Int), ⟨#[]⟩⟩, ⟨h, by show (0 : Nat) ≤ 40; omega⟩, Ev.step (f := fun _ => _) (fun k => ?_) (Ev.now _)⟩
      simp only [rabbetplay_Picks_Value.j0, Bool.false_eq_true, if_false, Option.bind_some]
      rw [if_neg h1, if_pos h2, if_pos (by omega), if_pos (by simp; omega)]
    by_cases h3 : t = 3
    · have h := two_list n hn
      refine ⟨⟨t, Int.tmod (n : Int) 2, ⟨#[]⟩⟩, ⟨?_, by show (0 : Nat) ≤ 40; omega⟩, Ev.step (f := fun _ => _) (fun k => ?_) (Ev.now _)⟩
      · unfold ok64
        dsimp only
        rcases h with h | h
        · rw [h]; decide
        · rw [h]; decide
      · simp only [rabbetplay_Picks_Value.j0, Bool.false_eq_true, if_false]
        rw [if_neg h1, if_neg h2, if_pos h3]
    · have h := text_list n hn
      refine ⟨⟨4, 0, rdOf ByteArray.empty ([(⟨#[]⟩ : ByteArray), (⟨#[97]⟩ : ByteArray), (⟨#[98]⟩ : ByteArray), (⟨#[97, 58, 98]⟩ : ByteArray), (⟨#[97, 98]⟩ : ByteArray), (⟨#[120, 58, 121, 58, 122]⟩ : ByteArray), (⟨#[58]⟩ : ByteArray), (⟨#[116, 119, 101, 110, 116, 121, 45, 98, 121, 116, 101, 115, 45, 111, 102, 45, 116, 101, 120, 116]⟩ : ByteArray), (⟨#[99]⟩ : ByteArray)] : List ByteArray) (n : Int)⟩, ⟨⟨by dsimp only; decide, by dsimp only; decide⟩, h⟩, Ev.step (f := fun _ => _) (fun k => ?_) (Ev.now _)⟩
      simp only [rabbetplay_Picks_Value.j0, Bool.false_eq_true, if_false, Option.bind_some]
      rw [if_neg h1, if_neg h2, if_neg h3, if_pos (by omega), if_pos (by simp; omega)]
  · refine ⟨⟨0, 0, ⟨#[]⟩⟩, ⟨⟨by dsimp only; decide, by dsimp only; decide⟩, by show (0 : Nat) ≤ 40; omega⟩, Ev.step (f := fun _ => _) (fun k => ?_) (Ev.now _)⟩
    simp only [rabbetplay_Picks_Value.j0, if_true]
theorem value_ev (t : Int) (p : List Int) (hp : wfb p) (hn : p.length ≤ 1000) (q : Nat) (hq : q ≤ p.length) : ∃ (v : S26) (q' : Nat), q' ≤ p.length ∧ okv v ∧ Ev (fun k => rabbetplay_Picks_Value.f k p (q : Int) t) (v.f0, v.f1, v.f2, (q' : Int)) := by
  obtain ⟨n, q', h9, hq', hnum⟩ := num_pick p hp hn q hq
  by_cases h0 : (n : Int) = 0
  · obtain ⟨v, hv, he⟩ := value_j0 t n h9 (!(decide ((q' : Int) ≥ (p.length : Int)))) p (q' : Int)
    refine ⟨v, q', hq', hv, Ev.congr (fun k => ?_) he⟩
    simp only [rabbetplay_Picks_Value.f]
    rw [hnum, Option.bind_some, if_pos h0]
    rfl
  · obtain ⟨v, hv, he⟩ := value_j0 t n h9 false p (q' : Int)
    refine ⟨v, q', hq', hv, Ev.congr (fun k => ?_) he⟩
    simp only [rabbetplay_Picks_Value.f]
    rw [hnum, Option.bind_some, if_neg h0]
theorem some_loop (t : Int) (p : List Int) (hp : wfb p) (hn : p.length ≤ 1000) (d : Nat) : ∀ (i q : Nat) (x : List S26), i + d = 30 → q ≤ p.length → x.length ≤ i → (∀ v, v ∈ x → okv v) →
    ∃ r : List S26, r.length ≤ 30 ∧ (∀ v, v ∈ r → okv v) ∧ Ev (fun k => rabbetlaw6_some.l0 k t 30 x (i : Int) p (q : Int)) r := by
  induction d with
  | zero =>
    intro i q x hi _ hx hf
    refine ⟨x, by omega, hf, Ev.step (f := fun _ => some x) (fun k => ?_) (Ev.now _)⟩
    simp only [rabbetlaw6_some.l0]
    rw [if_neg (by omega)]
  | succ d ih =>
    intro i q x hi hq hx hf
    obtain ⟨v, q', hq', hv, he⟩ := value_ev t p hp hn q hq
    have hw : wrap64 ((i : Int) + 1) = ((i + 1 : Nat) : Int) := by unfold wrap64; omega
    by_cases h0 : v.f0 = 0
    · obtain ⟨r, h1, h2, h3⟩ := ih (i + 1) q' x (by omega) hq' (by omega) hf
      refine ⟨r, h1, h2, Ev.step (f := fun k => (rabbetplay_Picks_Value.f k p (q : Int) t).bind _) (fun k => by simp only [rabbetlaw6_some.l0]; rw [if_pos (by omega)]) (Ev.bind he (Ev.congr (fun k => ?_) h3))⟩
      dsimp only
      rw [if_pos h0, hw]
    · obtain ⟨r, h1, h2, h3⟩ := ih (i + 1) q' (x ++ [v]) (by omega) hq' (by rw [List.length_append]; simp; omega) (fun z hz => by
        rcases List.mem_append.1 hz with hz | hz
        · exact hf z hz
        · simp at hz; subst hz; exact hv)
      refine ⟨r, h1, h2, Ev.step (f := fun k => (rabbetplay_Picks_Value.f k p (q : Int) t).bind _) (fun k => by simp only [rabbetlaw6_some.l0]; rw [if_pos (by omega)]) (Ev.bind he (Ev.congr (fun k => ?_) h3))⟩
      dsimp only
      rw [if_neg h0, if_pos (by omega), hw]
theorem some_ev (t : Int) (p : List Int) (hp : wfb p) (hn : p.length ≤ 1000) : ∃ r : List S26, r.length ≤ 30 ∧ (∀ v, v ∈ r → okv v) ∧ Ev (fun k => rabbetlaw6_some.f k p t 30) r := by
  obtain ⟨r, h1, h2, h3⟩ := some_loop t p hp hn 30 0 0 [] (by omega) (by omega) (by simp) (fun v hv => by simp at hv)
  refine ⟨r, h1, h2, Ev.congr (fun k => ?_) h3⟩
  simp only [rabbetlaw6_some.f, rabbetplay_Made.f]
  rfl

/-! ### two rows of values -/
theorem same_loop (l : List S26) (hn : l.length ≤ 1000) (d : Nat) : ∀ i : Nat, i + d = l.length → Ev (fun k => rabbetref1_SameValues.l0 k l l (i : Int)) true := by
  induction d with
  | zero =>
    intro i hi
    refine Ev.step (f := fun _ => some true) (fun k => ?_) (Ev.now _)
    simp only [rabbetref1_SameValues.l0]
    rw [if_neg (by omega)]
  | succ d ih =>
    intro i hi
    refine Ev.step (fun k => ?_) (ih (i + 1) (by omega))
    simp only [rabbetref1_SameValues.l0]
    rw [if_pos (by omega), if_pos (by omega), if_pos (by omega), if_neg (by simp), show wrap64 ((i : Int) + 1) = ((i + 1 : Nat) : Int) by unfold wrap64; omega]
theorem same_ev (l : List S26) (hn : l.length ≤ 1000) : Ev (fun k => rabbetref1_SameValues.f k l l) true := by
  refine Ev.congr (fun k => ?_) (same_loop l hn l.length 0 (by omega))
  simp only [rabbetref1_SameValues.f, if_true]
  rfl
end Go.Proofs.YtigldipjkejalaaDoor.BWRleAll
