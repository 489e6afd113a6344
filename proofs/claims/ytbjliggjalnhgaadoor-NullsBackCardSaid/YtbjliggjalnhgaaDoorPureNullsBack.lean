/- NullsBack's plain law: bits come back, of their number alone. Conditions: none. -/
import Derived.Test.YtbjliggjalnhgaaDoorBNullsBack
import Derived.OpenShut
namespace Go.Proofs.YtbjliggjalnhgaaDoor.Pure
open Go.RowKit Go.Proofs.YtbjliggjalnhgaaDoor.PNullsBack Go.Proofs.YtbjliggjalnhgaaDoorW.PrintWords Go.Proofs.YtbjliggjalnhgaaDoorW.PrintLast Go.Proofs.YtbjliggjalnhgaaDoorW.PrintMore Go.Proofs.YtbjliggjalnhgaaDoor.MBits Go.Proofs.YtbjliggjalnhgaaDoor.BNNullsBack
set_option linter.unusedVariables false
theorem nulls_begun : Ev rabbetlaw4_begun.f true := Ev.of rabbetlaw4_begun.mono (k := 30) (by decide +kernel)
/-- One behind the last that is set, among the first i. -/
def lastS (l : List Bool) : Nat → Nat
  | 0 => 0
  | i + 1 => if l.getD i false = true then i + 1 else lastS l i
theorem lastS_le (l : List Bool) : ∀ i, lastS l i ≤ i := by
  intro i
  induction i with
  | zero => exact Nat.le_refl _
  | succ i ih => simp only [lastS]; split <;> omega
theorem lastS_iff (l : List Bool) (k : Nat) : ∀ i, lastS l i ≤ k ↔ ∀ j, k ≤ j → j < i → l.getD j false = false := by
  intro i
  induction i with
  | zero => simp [lastS]
  | succ i ih =>
    simp only [lastS]
    by_cases h : l.getD i false = true
    · rw [if_pos h]
      constructor
      · intro h1 j h2 h3; omega
      · intro h1
        rcases Nat.lt_or_ge i k with h2 | h2
        · omega
        · have := h1 i h2 (by omega); rw [h] at this; cases this
    · rw [if_neg h, ih]
      constructor
      · intro h1 j h2 h3
        by_cases h4 : j = i
        · subst h4; exact Bool.eq_false_iff.2 h
        · exact h1 j h2 (by omega)
      · intro h1 j h2 h3; exact h1 j h2 (by omega)
theorem back_loop (l : List Bool) (b : List Int) (a : Int) (hl : l.length ≤ 60) (r : Bool)
    (hend : Ev (fun k => (nulls_Take.f k b (wrap64 (Int.tmod a 70))).bind fun bt152 => (if (wrap64 (Int.tdiv (wrap64 ((wrap64 (Int.tmod a 70)) + 7)) 8)) = (b.length : Int) then (some (bt152.2 == (decide ((wrap64 (Int.tmod a 70)) ≥ ((lastS l l.length : Nat) : Int))))) else (some (bt152.2 == false)))) r) (d : Nat) :
    ∀ i, i + d = l.length → Ev (fun k => rabbetlaw4_NullsBack.l0 k l a b l ((lastS l i : Nat) : Int) (i : Int)) r := by
  induction d with
  | zero =>
    intro i hi
    obtain rfl : i = l.length := by omega
    refine Ev.step (fun k => ?_) hend
    simp only [rabbetlaw4_NullsBack.l0]
    rw [if_neg (by omega)]
  | succ d ih =>
    intro i hi
    refine Ev.step (fun k => ?_) (ih (i + 1) (by omega))
    simp only [rabbetlaw4_NullsBack.l0]
    rw [if_pos (by omega), if_pos (by omega), if_pos (by omega), bne_self_eq_false, if_neg (by decide), rdOf_eq, show wrap64 ((i : Int) + 1) = ((i + 1 : Nat) : Int) by unfold wrap64; omega]
    simp only [lastS]
    by_cases h : l.getD i false = true
    · rw [if_pos h, if_pos h]
    · rw [if_neg h, if_neg h]
theorem other_number (l : List Bool) (k : Nat) (hk : (k + 7) / 8 = (l.length + 7) / 8) : putL (takeL (putL l) k) = putL l ↔ lastS l l.length ≤ k := by
  have hg : ∀ j, j < k → bitl (takeL (putL l) k) j = if j < l.length then bitl l j else 0 := by
    intro j hj
    have e : (takeL (putL l) k).getD j false = decide (bitb (putL l) j = 1) := by simp [takeL, List.getD_eq_getElem?_getD, hj]
    unfold bitl
    rw [e]
    unfold putL
    rw [bitb_bytesT _ (bitl_le l) _ _ _ (by omega)]
    by_cases h1 : j < l.length
    · rw [if_pos h1, if_pos h1]
      unfold bitl
      split <;> simp
    · rw [if_neg h1, if_neg h1]; simp
  rw [lastS_iff]
  constructor
  · intro h j h1 h2
    have h3 := congrArg (fun z => bitb z j) h
    simp only [putL] at h3
    rw [bitb_bytesT _ (bitl_le _) _ _ _ (by rw [takeL_length]; omega), bitb_bytesT _ (bitl_le _) _ _ _ (by omega), takeL_length, if_neg (by omega), if_pos h2] at h3
    unfold bitl at h3
    cases hb : l.getD j false
    · rfl
    · rw [hb] at h3; simp at h3
  · intro h
    unfold putL
    rw [takeL_length, hk]
    have e : ∀ q r, r < 8 → term (bitl (takeL (bytesT (bitl l) l.length ((l.length + 7) / 8)) k)) k q r = term (bitl l) l.length q r := by
      intro q r hr
      unfold term
      have hg' := hg (8 * q + r)
      simp only [putL] at hg'
      by_cases h1 : 8 * q + r < k
      · rw [if_pos h1, hg' h1]
        by_cases h2 : 8 * q + r < l.length
        · rw [if_pos h2, if_pos h2]
        · rw [if_neg h2, if_neg h2, Nat.zero_mul]
      · rw [if_neg h1]
        by_cases h2 : 8 * q + r < l.length
        · rw [if_pos h2]
          unfold bitl
          rw [h _ (by omega) h2]
          simp
        · rw [if_neg h2]
    have e2 : ∀ q, pb (bitl (takeL (bytesT (bitl l) l.length ((l.length + 7) / 8)) k)) k q = pb (bitl l) l.length q := by
      intro q
      unfold pb
      rw [e q 0 (by decide), e q 1 (by decide), e q 2 (by decide), e q 3 (by decide), e q 4 (by decide), e q 5 (by decide), e q 6 (by decide), e q 7 (by decide)]
    show bytesT _ k _ = bytesT _ _ _
    generalize takeL (bytesT (bitl l) l.length ((l.length + 7) / 8)) k = z at *
    unfold bytesT
    simp only [e2]
theorem NullsBack : ∀ (l0 : List Bool) (a1 : Int), l0.length ≤ maxLen → l0.length * 1 ≤ 140737488351232 → (∀ y, y ∈ l0 → (fun _ => True) y) → (Lit.int .u8 a1).wf = true → ∃ k, rabbetlaw4_NullsBack.f k l0 a1 = some true := by
  intro l a _ _ _ ha
  have ba := bounds_u8 ha
  obtain ⟨c, rfl⟩ := Int.eq_ofNat_of_zero_le ba.1
  obtain ⟨K0, e0⟩ := nulls_begun
  by_cases hlen : (l.length : Int) > 60
  · refine ⟨K0, ?_⟩
    unfold rabbetlaw4_NullsBack.f
    rw [e0 K0 (Nat.le_refl _)]
    simp only [Option.bind_some, if_true]
    rw [if_pos hlen]
  obtain ⟨j, hj⟩ : ∃ j, j = c % 70 := ⟨_, rfl⟩
  have hmod : wrap64 (Int.tmod (c : Int) 70) = (j : Int) := by
    rw [show Int.tmod (c : Int) 70 = ((c % 70 : Nat) : Int) from rfl, ← hj]
    unfold wrap64; omega
  obtain ⟨K1, e1⟩ := put_ev l (by omega)
  obtain ⟨K2, e2⟩ := take_ev (putL l) (putL_wf l) (l.length : Int) (by omega) (by omega)
  rw [takeR_putL l (by omega)] at e2
  have hend : Ev (fun k => (nulls_Take.f k (putL l) (wrap64 (Int.tmod (c : Int) 70))).bind fun bt152 => (if (wrap64 (Int.tdiv (wrap64 ((wrap64 (Int.tmod (c : Int) 70)) + 7)) 8)) = ((putL l).length : Int) then (some (bt152.2 == (decide ((wrap64 (Int.tmod (c : Int) 70)) ≥ ((lastS l l.length : Nat) : Int))))) else (some (bt152.2 == false)))) true := by
    rw [hmod]
    refine Ev.bind (take_ev (putL l) (putL_wf l) (j : Int) (by omega) (by omega)) ?_
    refine Ev.congr (f := fun _ => some true) (fun k => ?_) (Ev.now _)
    rw [up8 _ (by omega), putL_length]
    by_cases h8 : (j + 7) / 8 = (l.length + 7) / 8
    · rw [if_pos (by omega)]
      have ho := other_number l j h8
      unfold takeR
      rw [Int.toNat_natCast, if_neg (by rw [putL_length]; omega)]
      by_cases h9 : lastS l l.length ≤ j
      · rw [if_pos (ho.2 h9), decide_eq_true (show (j : Int) ≥ ((lastS l l.length : Nat) : Int) by omega)]
        rfl
      · rw [if_neg (fun h => h9 (ho.1 h)), decide_eq_false (show ¬ (j : Int) ≥ ((lastS l l.length : Nat) : Int) by omega)]
        rfl
    · rw [if_neg (by omega)]
      unfold takeR
      rw [Int.toNat_natCast, if_pos (.inr (.inr (by rw [putL_length]; omega)))]
      rfl
  obtain ⟨K3, e3⟩ := back_loop l (putL l) (c : Int) (by omega) true hend l.length 0 (by omega)
  dsimp only at e1 e2 e3
  have hbl := putL_length l
  generalize putL l = b at *
  obtain ⟨K, hK⟩ : ∃ K, K = K0 + K1 + K2 + K3 := ⟨_, rfl⟩
  refine ⟨K + 1, ?_⟩
  unfold rabbetlaw4_NullsBack.f
  rw [e0 _ (by omega)]
  simp only [Option.bind_some, if_true]
  rw [if_neg hlen, e1 _ (by omega)]
  simp only [Option.bind_some]
  rw [e2 _ (by omega)]
  simp only [Option.bind_some, if_true]
  rw [up8 _ (by omega)]
  have hne : ((b.length : Int) != (((l.length + 7) / 8 : Nat) : Int)) = false := by rw [bne_eq_false_iff_eq]; omega
  rw [hne]
  simp only [rabbetlaw4_NullsBack.j0, Bool.false_eq_true, if_false]
  exact e3 _ (by omega)
end Go.Proofs.YtbjliggjalnhgaaDoor.Pure
