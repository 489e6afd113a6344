/- One value as bytes, and the value that bytes begin with, by the program and by the document. Conditions: none. -/
import Derived.Test.YtigldipjkejalaaDoorBWRleAll
import Derived.Test.YtigldipjkejalaaDoorBRRleAll
import Derived.Test.YtigldipjkejalaaDoorMStr
import Derived.Test.YtigldipjkejalaaDoorPRleAllx13
namespace Go.Proofs.YtigldipjkejalaaDoor.BORleAll
open Go.RowKit Go.Proofs.YtigldipjkejalaaDoor.PRleAll Go.Proofs.YtigldipjkejalaaDoorW.PrintWords Go.Proofs.YtigldipjkejalaaDoorW.PrintLast Go.Proofs.YtigldipjkejalaaDoorW.PrintMore Go.Proofs.YtigldipjkejalaaDoor.MNum Go.Proofs.YtigldipjkejalaaDoor.MStr Go.Proofs.YtigldipjkejalaaDoor.BWRleAll
set_option linter.unusedVariables false

def enc (v : S26) : List Int := if v.f0 = 3 then [v.f1 % 256] else if v.f0 = 4 then ((v.f2.size : Int) % 256) :: bytesOf v.f2 else E 9 (zig v.f1).toNat
theorem nine (u : Nat) (h : u < 18446744073709551616) : u < 2 * 128 ^ 9 := Nat.lt_of_lt_of_le h (by decide)
theorem zig_nat (x : Int) (h : ok64 x) : ∃ u : Nat, zig x = (u : Int) ∧ u < 18446744073709551616 ∧ (zig x).toNat = u := by
  have h1 := zig_range x h.1 h.2
  obtain ⟨u, hu⟩ := Int.eq_ofNat_of_zero_le h1.1
  exact ⟨u, hu, by omega, by rw [hu, Int.toNat_natCast]⟩
theorem bytes_wf (s : ByteArray) : wfb (bytesOf s) := fun x hx => by
  unfold bytesOf at hx
  obtain ⟨b, _, rfl⟩ := List.mem_map.1 hx
  have := b.toNat_lt
  omega
theorem enc_wf (v : S26) (h : ok64 v.f1) : wfb (enc v) := by
  intro x hx
  unfold enc at hx
  by_cases h3 : v.f0 = 3
  · rw [if_pos h3] at hx
    simp at hx
    omega
  rw [if_neg h3] at hx
  by_cases h4 : v.f0 = 4
  · rw [if_pos h4] at hx
    rcases List.mem_cons.1 hx with hx | hx
    · omega
    · exact bytes_wf _ x hx
  rw [if_neg h4] at hx
  obtain ⟨u, h1, h2, e⟩ := zig_nat v.f1 h
  rw [e] at hx
  exact E_wf 9 u (nine u h2) x hx
theorem enc_le (v : S26) (hs : v.f2.size ≤ 40) : (enc v).length ≤ 41 := by
  unfold enc
  by_cases h3 : v.f0 = 3
  · rw [if_pos h3]; simp
  rw [if_neg h3]
  by_cases h4 : v.f0 = 4
  · rw [if_pos h4, List.length_cons, bytesOf_length]; omega
  rw [if_neg h4]
  have := E_le 9 (zig v.f1).toNat
  omega
theorem enc_pos (v : S26) : 0 < (enc v).length := by
  unfold enc
  by_cases h3 : v.f0 = 3
  · rw [if_pos h3]; simp
  rw [if_neg h3]
  by_cases h4 : v.f0 = 4
  · rw [if_pos h4]; simp
  rw [if_neg h4]
  exact E_pos 9 _
theorem one_ev (v : S26) (h : ok64 v.f1) (hs : v.f2.size ≤ 40) (acc : List Int) (ha : acc.length ≤ 100000000) : Ev (fun k => rle_one.f k acc v.f0 v.f1 v.f2) (acc ++ enc v) := by
  unfold enc
  by_cases h3 : v.f0 = 3
  · rw [if_pos h3]
    refine Ev.congr (f := fun _ => some _) (fun k => ?_) (Ev.now _)
    unfold rle_one.f
    rw [if_pos h3, if_pos (by omega)]
  rw [if_neg h3]
  by_cases h4 : v.f0 = 4
  · rw [if_pos h4]
    refine Ev.congr (f := fun _ => some _) (fun k => ?_) (Ev.now _)
    unfold rle_one.f
    rw [if_neg h3, if_pos h4, if_pos (by omega), Option.bind_some, if_pos (by simp; omega)]
    simp
  rw [if_neg h4]
  obtain ⟨u, h1, h2, e⟩ := zig_nat v.f1 h
  have hel := E_le 9 u
  rw [e]
  refine Ev.congr (f := fun k => (num_Put.f k (u : Int)).bind fun t124 => (if acc.length + t124.length < 140737488355328 then (some (acc ++ t124)) else (none))) (fun k => ?_) (Ev.bind (BRleAll.put_ev u h2) (Ev.congr (f := fun _ => some (acc ++ E 9 u)) (fun k => ?_) (Ev.now _)))
  · unfold rle_one.f
    rw [if_neg h3, if_neg h4]
    have hz : num_Zig.f v.f1 = some (u : Int) := by unfold num_Zig.f; rw [zig_eq _ h.1 h.2, h1]
    rw [hz, Option.bind_some]
  · rw [if_pos (by omega)]
theorem rone_ev (v : S26) (h : ok64 v.f1) (hs : v.f2.size ≤ 40) : Ev (fun k => rabbetref1_one.f k v.f0 v.f1 v.f2) (enc v) := by
  unfold enc
  by_cases h3 : v.f0 = 3
  · rw [if_pos h3]
    refine Ev.congr (f := fun _ => some _) (fun k => ?_) (Ev.now _)
    unfold rabbetref1_one.f
    rw [if_pos h3]
  rw [if_neg h3]
  by_cases h4 : v.f0 = 4
  · rw [if_pos h4]
    refine Ev.congr (f := fun _ => some _) (fun k => ?_) (Ev.now _)
    unfold rabbetref1_one.f
    rw [if_neg h3, if_pos h4, Option.bind_some, if_pos (by simp; omega)]
    simp
  rw [if_neg h4]
  obtain ⟨u, h1, h2, e⟩ := zig_nat v.f1 h
  rw [e]
  have hz := BRRleAll.rzig_eq v.f1 h.1 h.2
  rw [h1] at hz
  refine Ev.congr (f := fun k => (rabbetref1_PutNum.f k (u : Int)).bind fun t => some t) (fun k => ?_) (Ev.bind (BRRleAll.rput_ev u h2) (Ev.now _))
  unfold rabbetref1_one.f
  rw [if_neg h3, if_neg h4, hz, Option.bind_some]
theorem may_size (v : S26) (h : mayB v = true) : v.f2.size ≤ 20 := by
  have he : ∀ s : ByteArray, (s.toList == ([] : List UInt8)) = true → s.size ≤ 20 := fun s hs => by
    have := of_empty s (by simpa using hs)
    rw [this]
    show (0 : Nat) ≤ 20
    omega
  unfold mayB value_May.f at h
  by_cases h1 : v.f0 = 1
  · rw [if_pos h1] at h
    by_cases h2 : v.f1 < -32768
    · rw [if_pos h2] at h; cases h
    rw [if_neg h2] at h
    by_cases h3 : v.f1 > 32767
    · rw [if_pos h3] at h; cases h
    rw [if_neg h3] at h
    exact he _ h
  rw [if_neg h1] at h
  by_cases h2 : v.f0 = 2
  · rw [if_pos h2] at h; exact he _ h
  rw [if_neg h2] at h
  by_cases h0 : v.f0 = 0
  · rw [if_pos h0] at h
    by_cases h5 : v.f1 = 0
    · rw [if_pos h5] at h; exact he _ h
    · rw [if_neg h5] at h; cases h
  rw [if_neg h0] at h
  by_cases h3 : v.f0 = 3
  · rw [if_pos h3] at h
    by_cases h5 : v.f1 = 0
    · rw [if_pos h5] at h; exact he _ h
    rw [if_neg h5] at h
    by_cases h6 : v.f1 = 1
    · rw [if_pos h6] at h; exact he _ h
    · rw [if_neg h6] at h; cases h
  rw [if_neg h3] at h
  by_cases h4 : v.f0 = 4
  · rw [if_pos h4] at h
    by_cases h5 : v.f1 = 0
    · rw [if_pos h5] at h
      have := of_decide_eq_true (show decide ((v.f2.size : Int) ≤ 20) = true from h)
      omega
    · rw [if_neg h5] at h; cases h
  rw [if_neg h4] at h
  cases h
theorem of_loop (t : Int) (l : List S26) (hn : l.length ≤ 1000) (d : Nat) : ∀ i : Nat, i + d = l.length → Ev (fun k => rle_of.l0 k t l (l.length : Int) (i : Int)) ((l.drop i).all (okB t)) := by
  induction d with
  | zero =>
    intro i hi
    refine Ev.step (f := fun _ => some _) (fun k => ?_) (Ev.now _)
    simp only [rle_of.l0]
    rw [if_neg (by omega), List.drop_eq_nil_of_le (by omega)]
    rfl
  | succ d ih =>
    intro i hi
    have hih := ih (i + 1) (by omega)
    rw [drop_consT l i (by omega), List.all_cons]
    have hw : wrap64 ((i : Int) + 1) = ((i + 1 : Nat) : Int) := by unfold wrap64; omega
    by_cases hv : okB t (rd_T26 l (i : Int)) = true
    · rw [hv, Bool.true_and]
      refine Ev.step (fun k => ?_) hih
      unfold okB at hv
      rw [Bool.and_eq_true] at hv
      simp only [rle_of.l0]
      rw [if_pos (by omega), if_pos (by omega), if_pos (by omega), if_pos (eq_of_beq hv.1), may_ev, Option.bind_some, if_pos hv.2, hw]
    · have hf : okB t (rd_T26 l (i : Int)) = false := by simpa using hv
      rw [hf, Bool.false_and]
      refine Ev.step (f := fun _ => some false) (fun k => ?_) (Ev.now _)
      simp only [rle_of.l0]
      rw [if_pos (by omega), if_pos (by omega), if_pos (by omega)]
      unfold okB at hf
      by_cases h0 : (rd_T26 l (i : Int)).f0 = t
      · rw [if_pos h0, may_ev, Option.bind_some]
        rw [h0, beq_self_eq_true, Bool.true_and] at hf
        rw [hf, if_neg (by decide)]
      · rw [if_neg h0]
theorem of_ev (t : Int) (l : List S26) (hn : l.length ≤ 1000) : Ev (fun k => rle_of.f k t l) (rightB t l) := by
  unfold rightB
  by_cases ht : isT t = true
  · rw [ht, Bool.true_and]
    have h14 := of_decide_eq_true ht
    have hj : Ev (fun k => rle_of.j0 k t l false) (l.all (okB t)) := by
      refine Ev.step (fun k => ?_) (of_loop t l hn l.length 0 (by omega))
      simp only [rle_of.j0, Bool.false_eq_true, if_false]
      rfl
    refine Ev.congr (fun k => ?_) hj
    simp only [rle_of.f]
    rw [if_neg (by omega), decide_eq_false (by omega)]
  · have hf : isT t = false := by simpa using ht
    rw [hf, Bool.false_and]
    have h14 := of_decide_eq_false hf
    have hj : Ev (fun k => rle_of.j0 k t l true) false := by
      refine Ev.step (f := fun _ => some false) (fun k => ?_) (Ev.now _)
      simp only [rle_of.j0, if_true]
    refine Ev.congr (fun k => ?_) hj
    simp only [rle_of.f]
    by_cases h1 : t < 1
    · rw [if_pos h1]
    · rw [if_neg h1, decide_eq_true (by omega)]
/-- The value that bytes begin with, and how many bytes it has. -/
def firstR (t : Int) (l : List Int) : Option (S26 × Nat) :=
  if t ≠ 3 ∧ t ≠ 4 then (match D 10 true l with | none => none | some (u, m) => some (⟨t, zag (u : Int), (⟨#[]⟩ : ByteArray)⟩, m))
  else if l.length = 0 then none
  else if t = 3 then some (⟨t, rd l 0, (⟨#[]⟩ : ByteArray)⟩, 1)
  else if (l.length : Int) < 1 + rd l 0 then none
  else some (⟨t, 0, strOfNums ((l.take (1 + rd l 0).toNat).drop 1)⟩, (1 + rd l 0).toNat)
theorem rd0 (l : List Int) (hl : wfb l) (h : 0 < l.length) : 0 ≤ rd l 0 ∧ rd l 0 < 256 := by
  have : rd l 0 ∈ l := by
    have e : rd l 0 = l[0] := by simp [rd, List.getD_eq_getElem?_getD, List.getElem?_eq_getElem h]
    rw [e]; exact List.getElem_mem h
  exact hl _ this
theorem D64 (l : List Int) (hl : wfb l) (u m : Nat) (h : D 10 true l = some (u, m)) : u < 18446744073709551616 := by
  have h1 := (E_D 9 true l u m hl h).1
  have : (2 : Nat) * 128 ^ 9 = 18446744073709551616 := by decide
  omega
theorem zag_ok (u : Nat) (h : u < 18446744073709551616) : ok64 (zag (u : Int)) := by
  unfold ok64 zag
  by_cases hp : (u : Int) % 2 = 1
  · simp only [hp, if_true]; omega
  · simp only [hp, if_false]; omega
theorem firstR_facts (t : Int) (l : List Int) (hl : wfb l) (v : S26) (m : Nat) (h : firstR t l = some (v, m)) : v.f0 = t ∧ ok64 v.f1 ∧ 0 < m ∧ m ≤ l.length := by
  unfold firstR at h
  by_cases c : t ≠ 3 ∧ t ≠ 4
  · rw [if_pos c] at h
    cases hD : D 10 true l with
    | none => rw [hD] at h; cases h
    | some p =>
      obtain ⟨u, q⟩ := p
      rw [hD] at h
      injection h with h
      injection h with h1 h2
      subst h1 h2
      have := D_le 10 true l u q hD
      exact ⟨rfl, zag_ok u (D64 l hl u q hD), this.1, this.2.2⟩
  rw [if_neg c] at h
  by_cases c1 : l.length = 0
  · rw [if_pos c1] at h; cases h
  rw [if_neg c1] at h
  have h0 := rd0 l hl (by omega)
  by_cases c2 : t = 3
  · rw [if_pos c2] at h
    injection h with h
    injection h with h1 h2
    subst h1 h2
    exact ⟨rfl, ⟨by show _ ≤ rd l 0; omega, by show rd l 0 ≤ _; omega⟩, by omega, by omega⟩
  rw [if_neg c2] at h
  by_cases c3 : (l.length : Int) < 1 + rd l 0
  · rw [if_pos c3] at h; cases h
  rw [if_neg c3] at h
  injection h with h
  injection h with h1 h2
  subst h1 h2
  exact ⟨rfl, ⟨by show _ ≤ (0 : Int); decide, by show (0 : Int) ≤ _; decide⟩, by omega, by omega⟩
theorem first_some (t : Int) (l : List Int) (hl : wfb l) (v : S26) (m : Nat) (h : firstR t l = some (v, m)) : Ev (fun k => rle_first.f k t l) (v.f0, v.f1, v.f2, (m : Int), none) := by
  unfold firstR at h
  by_cases c : t ≠ 3 ∧ t ≠ 4
  · rw [if_pos c] at h
    cases hD : D 10 true l with
    | none => rw [hD] at h; cases h
    | some p =>
      obtain ⟨u, q⟩ := p
      rw [hD] at h
      injection h with h
      injection h with h1 h2
      subst h1 h2
      have h64 := D64 l hl u q hD
      have he := BRleAll.take_ev l hl
      have ht : BRleAll.takeR l = ((u : Int), (q : Int), true) := by unfold BRleAll.takeR; rw [hD]
      rw [ht] at he
      have hz : num_Zag.f (u : Int) = some (zag (u : Int)) := by unfold num_Zag.f; rw [zag_eq _ (by omega) (by omega)]
      refine Ev.congr (f := fun k => (num_Take.f k l).bind _) (fun k => by unfold rle_first.f; rw [if_pos c]) (Ev.bind he (Ev.congr (f := fun _ => some _) (fun k => ?_) (Ev.now _)))
      dsimp only
      rw [if_pos rfl, hz, Option.bind_some]
  rw [if_neg c] at h
  by_cases c1 : l.length = 0
  · rw [if_pos c1] at h; cases h
  rw [if_neg c1] at h
  have h0 := rd0 l hl (by omega)
  refine Ev.congr (f := fun _ => some _) (fun k => ?_) (Ev.now _)
  unfold rle_first.f
  rw [if_neg c, if_neg c1, if_pos (by omega)]
  by_cases c2 : t = 3
  · rw [if_pos c2] at h
    injection h with h
    injection h with h1 h2
    subst h1 h2
    rw [if_pos c2]
    rfl
  rw [if_neg c2] at h
  by_cases c3 : (l.length : Int) < 1 + rd l 0
  · rw [if_pos c3] at h; cases h
  rw [if_neg c3] at h
  injection h with h
  injection h with h1 h2
  subst h1 h2
  rw [if_neg c2, if_neg c3, Int.toNat_of_nonneg (by omega)]
theorem first_none (t : Int) (l : List Int) (hl : wfb l) (h : firstR t l = none) : ∃ c : Int, errG c = 1 ∧ Ev (fun k => rle_first.f k t l) (t, 0, (⟨#[]⟩ : ByteArray), 0, some c) := by
  unfold firstR at h
  by_cases c : t ≠ 3 ∧ t ≠ 4
  · rw [if_pos c] at h
    cases hD : D 10 true l with
    | some p => rw [hD] at h; cases h
    | none =>
      have he := BRleAll.take_ev l hl
      have ht : BRleAll.takeR l = (0, 0, false) := by unfold BRleAll.takeR; rw [hD]
      rw [ht] at he
      refine ⟨2, by decide, Ev.congr (f := fun k => (num_Take.f k l).bind _) (fun k => by unfold rle_first.f; rw [if_pos c]) (Ev.bind he (Ev.congr (f := fun _ => some _) (fun k => ?_) (Ev.now _)))⟩
      rw [if_neg (by decide)]
  rw [if_neg c] at h
  by_cases c1 : l.length = 0
  · refine ⟨3, by decide, Ev.congr (f := fun _ => some _) (fun k => ?_) (Ev.now _)⟩
    unfold rle_first.f
    rw [if_neg c, if_pos c1]
  rw [if_neg c1] at h
  have h0 := rd0 l hl (by omega)
  by_cases c2 : t = 3
  · rw [if_pos c2] at h; cases h
  rw [if_neg c2] at h
  by_cases c3 : (l.length : Int) < 1 + rd l 0
  · refine ⟨4, by decide, Ev.congr (f := fun _ => some _) (fun k => ?_) (Ev.now _)⟩
    unfold rle_first.f
    rw [if_neg c, if_neg c1, if_pos (by omega), if_neg c2, if_pos c3]
  rw [if_neg c3] at h
  cases h
/-- The document's answer. -/
def oneR (t : Int) (l : List Int) : Int × Int × ByteArray × Int × Bool := match firstR t l with
  | none => (0, 0, (⟨#[]⟩ : ByteArray), 0, false)
  | some (v, m) => (v.f0, v.f1, v.f2, (m : Int), mayB v && isT t)
theorem fin_ev (v : S26) (t : Int) (m : Int) : ((rabbetref1_May.f v.f0 v.f1 v.f2).bind fun x => (if x = true then ((rabbetref1_isType.f t).bind fun y => (some (v.f0, v.f1, v.f2, m, y))) else (some (v.f0, v.f1, v.f2, m, false)))) = some (v.f0, v.f1, v.f2, m, mayB v && isT t) := by
  rw [rmay_ev, Option.bind_some, isType_ev, Option.bind_some]
  cases mayB v
  · rw [if_neg (by decide)]; rfl
  · rw [if_pos rfl]; rfl
theorem takeOne_ev (t : Int) (l : List Int) (hl : wfb l) : Ev (fun k => rabbetref1_takeOne.f k t l) (oneR t l) := by
  by_cases c1 : l.length = 0
  · have e : firstR t l = none := by
      unfold firstR
      by_cases c : t ≠ 3 ∧ t ≠ 4
      · rw [if_pos c, show l = [] from List.eq_nil_of_length_eq_zero c1]; rfl
      · rw [if_neg c, if_pos c1]
    unfold oneR
    rw [e]
    refine Ev.congr (f := fun _ => some _) (fun k => ?_) (Ev.now _)
    unfold rabbetref1_takeOne.f
    rw [if_pos (by omega)]
  have h0 := rd0 l hl (by omega)
  have hw : wrap64 (rd l 0) = rd l 0 := by unfold wrap64; omega
  have hw2 : wrap64 (1 + rd l 0) = 1 + rd l 0 := by unfold wrap64; omega
  by_cases c3 : t = 3
  · subst c3
    have e : firstR 3 l = some (⟨3, rd l 0, (⟨#[]⟩ : ByteArray)⟩, 1) := by
      unfold firstR
      rw [if_neg (by omega), if_neg c1, if_pos rfl]
    unfold oneR
    rw [e]
    refine Ev.congr (f := fun _ => some _) (fun k => ?_) (Ev.now _)
    unfold rabbetref1_takeOne.f
    rw [if_neg (by omega), if_pos rfl, if_pos (by omega), hw]
    exact fin_ev ⟨3, rd l 0, (⟨#[]⟩ : ByteArray)⟩ 3 1
  by_cases c4 : t = 4
  · subst c4
    by_cases c5 : (l.length : Int) < 1 + rd l 0
    · have e : firstR 4 l = none := by
        unfold firstR
        rw [if_neg (by omega), if_neg c1, if_neg (by decide), if_pos c5]
      unfold oneR
      rw [e]
      refine Ev.congr (f := fun _ => some _) (fun k => ?_) (Ev.now _)
      unfold rabbetref1_takeOne.f
      rw [if_neg (by omega), if_neg (by decide), if_pos rfl, if_pos (by omega), hw, hw2, if_pos (by omega)]
    · have e : firstR 4 l = some (⟨4, 0, strOfNums ((l.take (1 + rd l 0).toNat).drop 1)⟩, (1 + rd l 0).toNat) := by
        unfold firstR
        rw [if_neg (by omega), if_neg c1, if_neg (by decide), if_neg c5]
      unfold oneR
      rw [e]
      refine Ev.congr (f := fun _ => some _) (fun k => ?_) (Ev.now _)
      unfold rabbetref1_takeOne.f
      rw [if_neg (by omega), if_neg (by decide), if_pos rfl, if_pos (by omega), hw, hw2, if_neg (by omega), if_pos (by omega), if_pos (by omega)]
      have := fin_ev ⟨4, 0, strOfNums ((l.take (1 + rd l 0).toNat).drop 1)⟩ 4 (1 + rd l 0)
      dsimp only at this ⊢
      rw [this, Int.toNat_of_nonneg (by omega)]
  have he := BRRleAll.rtake_ev l hl (fun a b ha hb => MStr.str_eq a b ha hb)
  cases hD : D 10 true l with
  | none =>
    have e : firstR t l = none := by
      unfold firstR
      rw [if_pos ⟨c3, c4⟩, hD]
    have ht : BRleAll.takeR l = (0, 0, false) := by unfold BRleAll.takeR; rw [hD]
    rw [ht] at he
    unfold oneR
    rw [e]
    refine Ev.congr (f := fun k => (rabbetref1_TakeNum.f k l).bind _) (fun k => by unfold rabbetref1_takeOne.f; rw [if_neg (by omega), if_neg c3, if_neg c4]) (Ev.bind he (Ev.congr (f := fun _ => some _) (fun k => ?_) (Ev.now _)))
    rw [if_neg (by decide)]
  | some p =>
    obtain ⟨u, q⟩ := p
    have e : firstR t l = some (⟨t, zag (u : Int), (⟨#[]⟩ : ByteArray)⟩, q) := by
      unfold firstR
      rw [if_pos ⟨c3, c4⟩, hD]
    have ht : BRleAll.takeR l = ((u : Int), (q : Int), true) := by unfold BRleAll.takeR; rw [hD]
    rw [ht] at he
    unfold oneR
    rw [e]
    have hz := BRRleAll.rzag_eq u (D64 l hl u q hD)
    refine Ev.congr (f := fun k => (rabbetref1_TakeNum.f k l).bind _) (fun k => by unfold rabbetref1_takeOne.f; rw [if_neg (by omega), if_neg c3, if_neg c4]) (Ev.bind he (Ev.congr (f := fun _ => some _) (fun k => ?_) (Ev.now _)))
    dsimp only
    rw [if_pos rfl, hz, Option.bind_some]
    exact fin_ev ⟨t, zag (u : Int), (⟨#[]⟩ : ByteArray)⟩ t q
end Go.Proofs.YtigldipjkejalaaDoor.BORleAll
