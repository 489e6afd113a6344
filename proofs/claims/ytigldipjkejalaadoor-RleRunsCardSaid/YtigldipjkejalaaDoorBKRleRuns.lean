/- rle: values come back; their bytes cut off, or with one more, are not theirs. Conditions: none. -/
import Derived.Test.YtigldipjkejalaaDoorBDRleRuns
namespace Go.Proofs.YtigldipjkejalaaDoor.BKRleRuns
open Go.RowKit Go.Proofs.YtigldipjkejalaaDoor.PRleRuns Go.Proofs.YtigldipjkejalaaDoorW.PrintWords Go.Proofs.YtigldipjkejalaaDoorW.PrintLast Go.Proofs.YtigldipjkejalaaDoorW.PrintMore Go.Proofs.YtigldipjkejalaaDoor.MNum Go.Proofs.YtigldipjkejalaaDoor.MStr Go.Proofs.YtigldipjkejalaaDoor.BWRleRuns Go.Proofs.YtigldipjkejalaaDoor.BORleRuns Go.Proofs.YtigldipjkejalaaDoor.BDRleRuns
set_option linter.unusedVariables false

theorem take_add {α : Type} (a b : List α) (i : Nat) : (a ++ b).take (a.length + i) = a ++ b.take i := by
  induction a with
  | nil => simp
  | cons x a ih => rw [List.length_cons, show a.length + 1 + i = (a.length + i) + 1 by omega, List.cons_append, List.take_succ_cons, ih, List.cons_append]
theorem take_in {α : Type} (a b : List α) (i : Nat) (h : i ≤ a.length) : (a ++ b).take i = a.take i := List.take_append_of_le_length h
theorem firstR_nil (t : Int) : firstR t [] = none := by
  unfold firstR
  by_cases c : t ≠ 3 ∧ t ≠ 4
  · rw [if_pos c]; rfl
  · rw [if_neg c, if_pos (show ([] : List Int).length = 0 from rfl)]
theorem readR_one (t x : Int) (f : Nat) : readR t f 0 [x] = none := by
  cases f with
  | zero => rfl
  | succ f =>
    simp only [readR]
    rw [if_neg (by simp)]
    cases hD : D 10 true [x] with
    | none => rfl
    | some p =>
      obtain ⟨u, m⟩ := p
      have hm := D_le 10 true [x] u m hD
      dsimp only
      by_cases hu : 0 < u
      · rw [if_pos hu]
      · rw [if_neg hu]
        have e : ([x] : List Int).drop m = [] := List.drop_eq_nil_of_le (by show 1 ≤ m; exact hm.1)
        rw [e, firstR_nil]
theorem readR_long (t : Int) (ht : isT t = true) (x : Int) (d : Nat) : ∀ (l : List S26) (f : Nat), l.length ≤ d → l.length ≤ 1000 → (∀ v, v ∈ l → v.f0 = t ∧ mayB v = true ∧ ok64 v.f1) → readR t f l.length (encR d l ++ [x]) = none := by
  induction d with
  | zero =>
    intro l f hl _ _
    obtain rfl : l = [] := List.eq_nil_of_length_eq_zero (by omega)
    exact readR_one t x f
  | succ d ih =>
    intro l f hl hn hv
    cases l with
    | nil => exact readR_one t x f
    | cons v r =>
      cases f with
      | zero => rfl
      | succ f =>
        rw [List.length_cons] at hl hn
        have hle := lead_le v r
        have h1 := hv v List.mem_cons_self
        have hih := ih (r.drop (lead v r)) f (by rw [List.length_drop]; omega) (by rw [List.length_drop]; omega) (fun z hz => hv z (List.mem_cons_of_mem _ (List.mem_of_mem_drop hz)))
        have he : encR (d + 1) (v :: r) ++ [x] = E 9 (1 + lead v r) ++ (enc v ++ (encR d (r.drop (lead v r)) ++ [x])) := by rw [encR]; simp
        rw [he]
        have hD := D_E 9 (1 + lead v r) true (enc v ++ (encR d (r.drop (lead v r)) ++ [x])) (nine2 _ (by omega)) (.inl rfl)
        simp only [readR]
        rw [if_neg (by rw [List.length_append, List.length_append, List.length_append]; simp), hD]
        dsimp only
        rw [if_neg (by rw [List.length_cons]; omega), List.drop_left, first_enc t ht v h1.1 h1.2.1 h1.2.2]
        dsimp only
        rw [← List.drop_drop, List.drop_left, List.drop_left, show (v :: r).length - (1 + lead v r) = (r.drop (lead v r)).length by rw [List.length_cons, List.length_drop]; omega, hih]
        rfl
theorem firstR_cut (t : Int) (ht : isT t = true) (v : S26) (h0 : v.f0 = t) (hm : mayB v = true) (hok : ok64 v.f1) (i : Nat) (hi : i < (enc v).length) : firstR t ((enc v).take i) = none := by
  have hf := may_facts v hm
  have hsz := may_size v hm
  obtain ⟨v0, v1, v2⟩ := v
  dsimp only at h0 hf hsz hok
  subst h0
  by_cases h3 : v0 = 3
  · subst h3
    have e : (enc (⟨3, v1, v2⟩ : S26)).length = 1 := by unfold enc; rw [if_pos rfl]; rfl
    obtain rfl : i = 0 := by omega
    exact firstR_nil 3
  by_cases h4 : v0 = 4
  · subst h4
    have e : enc (⟨4, v1, v2⟩ : S26) = (v2.size : Int) :: bytesOf v2 := by
      unfold enc
      rw [if_neg (show ¬ (4 : Int) = 3 by decide), if_pos rfl]
      dsimp only
      rw [show (v2.size : Int) % 256 = (v2.size : Int) by omega]
    rw [e] at hi ⊢
    rw [List.length_cons, bytesOf_length] at hi
    cases i with
    | zero => exact firstR_nil 4
    | succ i =>
      rw [List.take_succ_cons]
      unfold firstR
      have hr : rd ((v2.size : Int) :: (bytesOf v2).take i) 0 = (v2.size : Int) := rfl
      rw [if_neg (by omega), if_neg (by simp), if_neg (by decide), hr, if_pos (by rw [List.length_cons, List.length_take, bytesOf_length]; omega)]
  · obtain ⟨u, h1, h2, e1⟩ := zig_nat v1 hok
    have e : enc (⟨v0, v1, v2⟩ : S26) = E 9 u := by
      unfold enc
      rw [if_neg h3, if_neg h4, e1]
    rw [e] at hi ⊢
    unfold firstR
    rw [if_pos ⟨h3, h4⟩, D_cut 9 u true i hi]
theorem readR_cut (t : Int) (ht : isT t = true) (d : Nat) : ∀ (l : List S26) (f j : Nat), l.length ≤ d → l.length ≤ 1000 → (∀ v, v ∈ l → v.f0 = t ∧ mayB v = true ∧ ok64 v.f1) → j < (encR d l).length → ∀ r, readR t f l.length ((encR d l).take j) = some r → r.length < l.length := by
  induction d with
  | zero => intro l f j _ _ _ hj; simp [encR] at hj
  | succ d ih =>
    intro l f j hl hn hv hj z hz
    cases l with
    | nil => simp [encR] at hj
    | cons v r =>
      cases f with
      | zero => simp [readR] at hz
      | succ f =>
        rw [List.length_cons] at hl hn
        have hle := lead_le v r
        have h1 := hv v List.mem_cons_self
        have he : encR (d + 1) (v :: r) = E 9 (1 + lead v r) ++ (enc v ++ encR d (r.drop (lead v r))) := by rw [encR, List.append_assoc]
        rw [he] at hz hj
        simp only [readR] at hz
        by_cases h0 : ((E 9 (1 + lead v r) ++ (enc v ++ encR d (r.drop (lead v r)))).take j).length = 0
        · rw [if_pos h0] at hz
          injection hz with hz
          subst hz
          simp
        rw [if_neg h0] at hz
        by_cases hjE : j < (E 9 (1 + lead v r)).length
        · rw [take_in _ _ j (by omega), D_cut 9 (1 + lead v r) true j hjE] at hz
          cases hz
        obtain ⟨i, rfl⟩ : ∃ i, j = (E 9 (1 + lead v r)).length + i := ⟨j - (E 9 (1 + lead v r)).length, by omega⟩
        rw [take_add, D_E 9 (1 + lead v r) true _ (nine2 _ (by omega)) (.inl rfl)] at hz
        dsimp only at hz
        rw [if_neg (by rw [List.length_cons]; omega), List.drop_left] at hz
        by_cases hi : i < (enc v).length
        · rw [take_in _ _ i (by omega), firstR_cut t ht v h1.1 h1.2.1 h1.2.2 i hi] at hz
          cases hz
        obtain ⟨i2, rfl⟩ : ∃ i2, i = (enc v).length + i2 := ⟨i - (enc v).length, by omega⟩
        rw [take_add, first_enc t ht v h1.1 h1.2.1 h1.2.2] at hz
        dsimp only at hz
        rw [← List.drop_drop, List.drop_left, List.drop_left, show (v :: r).length - (1 + lead v r) = (r.drop (lead v r)).length by rw [List.length_cons, List.length_drop]; omega] at hz
        obtain ⟨y, hy, rfl⟩ := Option.map_eq_some_iff.1 hz
        have hih := ih (r.drop (lead v r)) f i2 (by rw [List.length_drop]; omega) (by rw [List.length_drop]; omega) (fun z hz => hv z (List.mem_cons_of_mem _ (List.mem_of_mem_drop hz))) (by rw [List.length_append, List.length_append] at hj; omega) y hy
        rw [List.length_drop] at hih
        rw [List.length_append, List.length_replicate, List.length_cons]
        omega
theorem put_is (t : Int) (l : List S26) (hr : rightB t l = true) : putR t l = (encR l.length l, true) := by
  unfold putR
  rw [if_pos hr]
theorem take_back (t : Int) (l : List S26) (hr : rightB t l = true) (hok : ∀ v, v ∈ l → ok64 v.f1) (hn : l.length ≤ 1000) : takeR t (l.length : Int) (encR l.length l) = (l, true) := by
  have hp := put_is t l hr
  have hR := put_readR t l _ hp hn hok
  unfold takeR
  rw [if_neg (by omega), Int.toNat_natCast, hR]
  dsimp only
  rw [if_pos ⟨hp, rfl⟩]
theorem take_long (t : Int) (l : List S26) (hr : rightB t l = true) (hok : ∀ v, v ∈ l → ok64 v.f1) (hn : l.length ≤ 1000) (x : Int) : takeR t (l.length : Int) (encR l.length l ++ [x]) = ([], false) := by
  unfold takeR
  rw [if_neg (by omega), Int.toNat_natCast, readR_long t (right_isT hr) x l.length l _ (Nat.le_refl _) hn (fun v hv => ⟨(right_okv hr v hv).1, (right_okv hr v hv).2.1, hok v hv⟩)]
theorem take_short (t : Int) (l : List S26) (hr : rightB t l = true) (hok : ∀ v, v ∈ l → ok64 v.f1) (hn : l.length ≤ 1000) (j : Nat) (hj : j < (encR l.length l).length) : takeR t (l.length : Int) ((encR l.length l).take j) = ([], false) := by
  unfold takeR
  rw [if_neg (by omega), Int.toNat_natCast]
  cases hR : readR t (((encR l.length l).take j).length + 1) l.length ((encR l.length l).take j) with
  | none => rfl
  | some r =>
    have := readR_cut t (right_isT hr) l.length l _ j (Nat.le_refl _) hn (fun v hv => ⟨(right_okv hr v hv).1, (right_okv hr v hv).2.1, hok v hv⟩) hj r hR
    dsimp only
    rw [if_neg (by intro h; omega)]
theorem encR_len (d : Nat) : ∀ l : List S26, (∀ v, v ∈ l → v.f2.size ≤ 40) → (encR d l).length ≤ 51 * d := by
  induction d with
  | zero => intro l _; simp [encR]
  | succ d ih =>
    intro l hl
    cases l with
    | nil => simp [encR]
    | cons v r =>
      have h1 := E_le 9 (1 + lead v r)
      have h2 := enc_le v (hl v List.mem_cons_self)
      have h3 := ih (r.drop (lead v r)) (fun z hz => hl z (List.mem_cons_of_mem _ (List.mem_of_mem_drop hz)))
      rw [encR, List.length_append, List.length_append]
      omega
end Go.Proofs.YtigldipjkejalaaDoor.BKRleRuns
