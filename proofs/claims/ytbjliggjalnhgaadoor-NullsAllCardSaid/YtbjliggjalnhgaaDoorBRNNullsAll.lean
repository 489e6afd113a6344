/- The document's bits, and the plain ones. Conditions: none. -/
import Derived.Test.YtbjliggjalnhgaaDoorBNullsAll
import Derived.Test.YtbjliggjalnhgaaDoorBRNullsAll
namespace Go.Proofs.YtbjliggjalnhgaaDoor.BRNNullsAll
open Go.RowKit Go.Proofs.YtbjliggjalnhgaaDoor.PNullsAll Go.Proofs.YtbjliggjalnhgaaDoorW.PrintWords Go.Proofs.YtbjliggjalnhgaaDoorW.PrintLast Go.Proofs.YtbjliggjalnhgaaDoorW.PrintMore Go.Proofs.YtbjliggjalnhgaaDoor.MBits Go.Proofs.YtbjliggjalnhgaaDoor.MStr
set_option linter.unusedVariables false

def ones (l : List Bool) : List Int := l.map fun c => if c = true then 1 else 0
theorem ones_length (l : List Bool) : (ones l).length = l.length := by simp [ones]
theorem ones_get (l : List Bool) (j : Nat) : (ones l).getD j 0 = ((BNNullsAll.bitl l j : Nat) : Int) := by
  unfold BNNullsAll.bitl
  by_cases h : j < l.length
  · simp [ones, List.getD_eq_getElem?_getD, h]
    cases l[j] <;> simp
  · simp [ones, List.getD_eq_getElem?_getD, Nat.not_lt.1 h]
theorem ones_wf (l : List Bool) : ∀ x, x ∈ ones l → 0 ≤ x ∧ x < 2 := by
  intro x hx
  simp only [ones, List.mem_map] at hx
  obtain ⟨c, _, rfl⟩ := hx
  cases c <;> simp
theorem ones_takeL (b : List Int) (n : Nat) : ones (BNNullsAll.takeL b n) = takeS b n 1 := by
  apply List.ext_getElem
  · simp [ones, BNNullsAll.takeL, takeS, numsT]
  · intro i h1 h2
    have hn : i < n := by simpa [takeS, numsT] using h2
    have hb := bitb_le b i
    simp only [ones, BNNullsAll.takeL, takeS, numsT, List.getElem_map, List.getElem_range, nbk, Nat.mul_one, Nat.add_zero, Nat.zero_add, Nat.pow_zero]
    rw [if_pos hn]
    have : bitb b i = 0 ∨ bitb b i = 1 := by omega
    rcases this with h | h <;> simp [h]
theorem putS_ones (l : List Bool) : putS (ones l) 1 = BNNullsAll.putL l := by
  unfold putS BNNullsAll.putL
  rw [ones_length, Nat.mul_one]
  refine bytesT_congr _ _ _ _ (fun j _ => ?_)
  unfold bitf
  rw [Nat.div_one, ones_get, Nat.mod_one, Nat.pow_zero, Nat.div_one, Int.toNat_natCast]
  have := BNNullsAll.bitl_le l j
  omega
theorem putR_ones (l : List Bool) : BRNullsAll.putR (ones l) 1 = (BNNullsAll.putL l, true) := by
  unfold BRNullsAll.putR
  have h := (W_le (ones l) (fun x hx => by have := ones_wf l x hx; omega) 1).2 (fun x hx => by have := ones_wf l x hx; omega)
  rw [if_neg (by omega), if_neg (by omega)]
  show (putS (ones l) 1, true) = _
  rw [putS_ones]
/-- The ones at round i. -/
def onesT (l : List Bool) (i : Nat) : List Int := (List.range l.length).map fun j => if j < i then ((BNNullsAll.bitl l j : Nat) : Int) else 0
theorem onesT_length (l : List Bool) (i : Nat) : (onesT l i).length = l.length := by simp [onesT]
theorem onesT_zero (l : List Bool) : onesT l 0 = List.replicate l.length 0 := by
  apply List.ext_getElem
  · simp [onesT]
  · intro i h1 h2; simp [onesT]
theorem onesT_full (l : List Bool) : onesT l l.length = ones l := by
  apply List.ext_getElem
  · simp [onesT, ones]
  · intro i h1 h2
    have h3 : i < l.length := by simpa [onesT] using h1
    simp only [onesT, ones, List.getElem_map, List.getElem_range]
    rw [if_pos h3]
    unfold BNNullsAll.bitl
    rw [List.getD_eq_getElem?_getD, List.getElem?_eq_getElem h3, Option.getD_some]
    cases l[i] <;> simp
theorem onesT_set (l : List Bool) (i : Nat) (h : i < l.length) : (onesT l i).set i ((BNNullsAll.bitl l i : Nat) : Int) = onesT l (i + 1) := by
  apply List.ext_getElem
  · simp [onesT]
  · intro j h1 h2
    by_cases hj : i = j
    · subst hj; rw [List.getElem_set_self]; simp [onesT]
    · rw [List.getElem_set_ne hj]
      simp only [onesT, List.getElem_map, List.getElem_range]
      by_cases h3 : j < i
      · rw [if_pos h3, if_pos (by omega)]
      · rw [if_neg h3, if_neg (by omega)]
theorem onesT_same (l : List Bool) (i : Nat) (h : BNNullsAll.bitl l i = 0) : onesT l (i + 1) = onesT l i := by
  apply List.ext_getElem
  · simp [onesT]
  · intro j h1 h2
    simp only [onesT, List.getElem_map, List.getElem_range]
    by_cases h3 : j < i
    · rw [if_pos h3, if_pos (by omega)]
    · rw [if_neg h3]
      by_cases h4 : j = i
      · subst h4; rw [if_pos (by omega), h]; rfl
      · rw [if_neg (by omega)]
theorem rputn_loop (l : List Bool) (hn : l.length ≤ 100000) (d : Nat) : ∀ i, i + d = l.length → Ev (fun k => rabbetref1_PutNulls.l0 k l (onesT l i) (i : Int)) (BNNullsAll.putL l) := by
  induction d with
  | zero =>
    intro i hi
    obtain rfl : i = l.length := by omega
    have hp := BRNullsAll.rput_ev (ones l) (fun x hx => by have := ones_wf l x hx; omega) (by rw [ones_length]; exact hn) 1
    rw [putR_ones] at hp
    refine Ev.step (f := fun k => (rabbetref1_PutBits.f k (ones l) 1).bind fun bt => some bt.1) (fun k => ?_) (Ev.bind hp (Ev.congr (f := fun _ => some (BNNullsAll.putL l)) (fun k => rfl) (Ev.now _)))
    simp only [rabbetref1_PutNulls.l0]
    rw [if_neg (by omega), onesT_full]
  | succ d ih =>
    intro i hi
    refine Ev.step (fun k => ?_) (ih (i + 1) (by omega))
    simp only [rabbetref1_PutNulls.l0]
    rw [if_pos (by omega), if_pos (by omega), BNNullsAll.rdOf_eq, onesT_length, show wrap64 ((i : Int) + 1) = ((i + 1 : Nat) : Int) by unfold wrap64; omega]
    by_cases hb : l.getD i false = true
    · have h1 : BNNullsAll.bitl l i = 1 := by unfold BNNullsAll.bitl; rw [if_pos hb]
      have h2 := onesT_set l i (by omega)
      rw [h1] at h2
      rw [if_pos hb, if_pos (by omega), Int.toNat_natCast, ← h2]
      rfl
    · rw [if_neg hb, onesT_same l i (by unfold BNNullsAll.bitl; rw [if_neg hb])]
theorem rputn_ev (l : List Bool) (hn : l.length ≤ 100000) : Ev (fun k => rabbetref1_PutNulls.f k l) (BNNullsAll.putL l) := by
  refine Ev.congr (fun k => ?_) (rputn_loop l hn l.length 0 (by omega))
  simp only [rabbetref1_PutNulls.f]
  rw [if_pos (by omega), if_pos (by omega), Int.toNat_natCast, onesT_zero]
  rfl
theorem rtaken_loop (b : List Int) (n : Nat) (hn : n ≤ 1000) (d : Nat) : ∀ i, i + d = n → Ev (fun k => rabbetref1_TakeNulls.l0 k (n : Int) (takeS b n 1) (BNNullsAll.readL b i n) (i : Int)) (BNNullsAll.takeL b n, true) := by
  induction d with
  | zero =>
    intro i hi
    obtain rfl : i = n := by omega
    refine Ev.step (f := fun _ => some (BNNullsAll.takeL b i, true)) (fun k => ?_) (Ev.now _)
    simp only [rabbetref1_TakeNulls.l0]
    rw [if_neg (by omega), BNNullsAll.readL_full]
  | succ d ih =>
    intro i hi
    have hlen : (takeS b n 1).length = n := by simp [takeS, numsT]
    have hr : rd (takeS b n 1) (i : Int) = ((bitb b i : Nat) : Int) := by
      unfold takeS
      rw [rd_numsT _ _ _ _ _ (by omega)]
      simp only [nbk, Nat.mul_one, Nat.add_zero, Nat.zero_add, Nat.pow_zero]
      rw [if_pos (by omega)]
    refine Ev.step (fun k => ?_) (ih (i + 1) (by omega))
    simp only [rabbetref1_TakeNulls.l0]
    rw [if_pos (by omega), if_pos (by omega), hlen, if_pos (by omega), BNNullsAll.readL_length, if_pos (by omega), hr, Int.toNat_natCast, show wrap64 ((i : Int) + 1) = ((i + 1 : Nat) : Int) by unfold wrap64; omega]
    have e : (((bitb b i : Nat) : Int) == 1) = decide (bitb b i = 1) := by
      rw [Bool.eq_iff_iff]
      simp only [beq_iff_eq, decide_eq_true_eq]
      omega
    rw [e, BNNullsAll.readL_set _ _ _ (by omega)]
theorem rtaken_ev (b : List Int) (hb : BNNullsAll.wf8 b) (n : Int) : Ev (fun k => rabbetref1_TakeNulls.f k b n) (BNNullsAll.takeR b n) := by
  refine Ev.congr (f := fun k => (rabbetref1_TakeBits.f k b n 1).bind _) (fun k => by simp only [rabbetref1_TakeNulls.f]; rfl) (Ev.bind (BRNullsAll.rtake_ev b hb n 1) ?_)
  unfold BRNullsAll.takeR BNNullsAll.takeR
  by_cases h : n < 0 ∨ 1000 < n ∨ b.length ≠ (n.toNat + 7) / 8
  · rw [if_pos h, if_pos (by rcases h with h | h | h; exact .inl h; exact .inr (.inl h); exact .inr (.inr (.inr (.inr (by simpa using h)))))]
    exact Ev.congr (f := fun _ => some ([], false)) (fun k => by rfl) (Ev.now _)
  · obtain ⟨m, rfl⟩ := Int.eq_ofNat_of_zero_le (show 0 ≤ n by omega)
    rw [if_neg h, if_neg (by simp only [Int.toNat_natCast, show (1 : Int).toNat = 1 from rfl, Nat.mul_one] at h ⊢; omega)]
    simp only [Int.toNat_natCast, show (1 : Int).toNat = 1 from rfl]
    rw [← ones_takeL, putS_ones]
    by_cases h6 : BNNullsAll.putL (BNNullsAll.takeL b m) = b
    · rw [if_pos h6, if_pos h6]
      refine Ev.congr (fun k => ?_) (rtaken_loop b m (by omega) m 0 (by omega))
      dsimp only
      rw [if_pos rfl, if_pos (by omega), if_pos (by omega), BNNullsAll.readL_zero, ones_takeL]
      rfl
    · rw [if_neg h6, if_neg h6]
      exact Ev.congr (f := fun _ => some ([], false)) (fun k => by rfl) (Ev.now _)
end Go.Proofs.YtbjliggjalnhgaaDoor.BRNNullsAll
