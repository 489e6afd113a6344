/- bits' printed functions and the plain ones. Conditions: none. -/
import Derived.Test.YtbjliggjalnhgaaMBits
import Derived.Test.YtbjliggjalnhgaaMStr
import Derived.Test.YtbjliggjalnhgaaPBitsJoinx2
namespace Go.Proofs.Ytbjliggjalnhgaa.BBBitsJoin
open Go.RowKit Go.Proofs.Ytbjliggjalnhgaa.PBitsJoin Go.Proofs.YtbjliggjalnhgaaW.PrintWords Go.Proofs.YtbjliggjalnhgaaW.PrintLast Go.Proofs.YtbjliggjalnhgaaW.PrintMore Go.Proofs.Ytbjliggjalnhgaa.MBits Go.Proofs.Ytbjliggjalnhgaa.MStr
set_option linter.unusedVariables false

def wf64 (l : List Int) : Prop := ∀ x, x ∈ l → 0 ≤ x ∧ x < 18446744073709551616
def wf8 (l : List Int) : Prop := ∀ x, x ∈ l → 0 ≤ x ∧ x < 256
theorem drop_cons (l : List Int) (i : Nat) (h : i < l.length) : l.drop i = rd l (i : Int) :: l.drop (i + 1) := by
  rw [List.drop_eq_getElem_cons h]
  simp [rd, List.getD_eq_getElem?_getD, List.getElem?_eq_getElem h]
theorem rd_mem (l : List Int) (i : Nat) (h : i < l.length) : rd l (i : Int) ∈ l := by
  have : rd l (i : Int) = l[i] := by simp [rd, List.getD_eq_getElem?_getD, List.getElem?_eq_getElem h]
  rw [this]; exact List.getElem_mem h
theorem len64_eq (x : Int) (h0 : 0 ≤ x) (h1 : x < 18446744073709551616) : bits_Len64.f x = some ((Lib.bitLen x.toNat : Nat) : Int) := by
  unfold bits_Len64.f
  rw [if_pos h0, if_pos (by omega)]
theorem width_loop (l : List Int) (hl : wf64 l) (hn : l.length ≤ 1000000) (d : Nat) : ∀ (i a : Nat), i + d = l.length →
    Ev (fun k => bits_Width.l0 k (a : Int) l (l.length : Int) (i : Int)) (((l.drop i).foldl (fun a x => max a (Lib.bitLen x.toNat)) a : Nat) : Int) := by
  induction d with
  | zero =>
    intro i a hi
    obtain rfl : i = l.length := by omega
    refine Ev.step (f := fun _ => some ((((l.drop l.length).foldl (fun a x => max a (Lib.bitLen x.toNat)) a : Nat)) : Int)) (fun k => ?_) (Ev.now _)
    simp only [bits_Width.l0]
    rw [if_neg (by omega), List.drop_length]
    rfl
  | succ d ih =>
    intro i a hi
    have hlt : i < l.length := by omega
    obtain ⟨h0, h1⟩ := hl _ (rd_mem l i hlt)
    have hih := ih (i + 1) (max a (Lib.bitLen (rd l (i : Int)).toNat)) (by omega)
    refine Ev.step (f := fun k => bits_Width.l0 k ((max a (Lib.bitLen (rd l (i : Int)).toNat) : Nat) : Int) l (l.length : Int) ((i + 1 : Nat) : Int)) (fun k => ?_) ?_
    · simp only [bits_Width.l0]
      rw [if_pos (by omega), if_pos (by omega), if_pos (by omega), len64_eq _ h0 h1]
      simp only [Option.bind_some]
      rw [show mx (a : Int) ((Lib.bitLen (rd l (i : Int)).toNat : Nat) : Int) = ((max a (Lib.bitLen (rd l (i : Int)).toNat) : Nat) : Int) by unfold mx; split <;> omega,
        show wrap64 ((i : Int) + 1) = ((i + 1 : Nat) : Int) by unfold wrap64; omega]
    · rw [drop_cons l i hlt, List.foldl_cons]
      exact hih
theorem width_ev (l : List Int) (hl : wf64 l) (hn : l.length ≤ 1000000) : Ev (fun k => bits_Width.f k l) ((W l : Nat) : Int) :=
  Ev.congr (fun k => by simp only [bits_Width.f]; rfl) (width_loop l hl hn l.length 0 0 (by omega))

theorem at_eq (i w k : Nat) (h : i * w + k ≤ 100000000) : wrap64 ((wrap64 ((i : Int) * (w : Int))) + (k : Int)) = ((i * w + k : Nat) : Int) := by
  rw [← Int.natCast_mul]
  generalize i * w = t at *
  unfold wrap64; omega
theorem tdiv8 (t : Nat) (h : t ≤ 200000000) : wrap64 (Int.tdiv (t : Int) 8) = ((t / 8 : Nat) : Int) := by
  have : Int.tdiv (t : Int) 8 = ((t / 8 : Nat) : Int) := rfl
  rw [this]
  unfold wrap64; omega
theorem tmod8 (t : Nat) : Int.tmod (t : Int) 8 = ((t % 8 : Nat) : Int) := rfl
theorem put_inner (l : List Int) (hl : wf64 l) (hn : l.length ≤ 100000) (w : Nat) (hw : w ≤ 64) (i : Nat) (hi : i < l.length) (r : List Int × Bool)
    (hout : Ev (fun k => bits_Put.l0 k (w : Int) (bytesT (bitf l w) ((i + 1) * w) ((l.length * w + 7) / 8)) l (l.length : Int) ((i + 1 : Nat) : Int)) r) (d : Nat) :
    ∀ kk, kk + d = w → Ev (fun k => bits_Put.l1 k (w : Int) (bytesT (bitf l w) (i * w + kk) ((l.length * w + 7) / 8)) (i : Int) (rd l (i : Int)) l (l.length : Int) (i : Int) (w : Int) (kk : Int)) r := by
  have hlw : l.length * w ≤ 6400000 := Nat.le_trans (Nat.mul_le_mul hn hw) (by decide)
  have hiw : i * w + w ≤ l.length * w := by
    have : (i + 1) * w ≤ l.length * w := Nat.mul_le_mul_right _ hi
    rw [Nat.add_mul] at this
    omega
  obtain ⟨h0, h1⟩ := hl _ (rd_mem l i hi)
  obtain ⟨v, hv⟩ := Int.eq_ofNat_of_zero_le h0
  induction d with
  | zero =>
    intro kk hk
    obtain rfl : kk = w := by omega
    refine Ev.step (f := fun k => bits_Put.l0 k (kk : Int) (bytesT (bitf l kk) ((i + 1) * kk) ((l.length * kk + 7) / 8)) l (l.length : Int) ((i + 1 : Nat) : Int)) (fun k => ?_) hout
    simp only [bits_Put.l1]
    rw [if_neg (by omega), show wrap64 ((i : Int) + 1) = ((i + 1 : Nat) : Int) by unfold wrap64; omega, Nat.add_mul, Nat.one_mul]
  | succ d ih =>
    intro kk hk
    have hih := ih (kk + 1) (by omega)
    refine Ev.step (f := fun k => bits_Put.l1 k (w : Int) (bytesT (bitf l w) (i * w + (kk + 1)) ((l.length * w + 7) / 8)) (i : Int) (rd l (i : Int)) l (l.length : Int) (i : Int) (w : Int) ((kk + 1 : Nat) : Int)) (fun k => ?_) hih
    have ht : (i * w + kk) / 8 < (l.length * w + 7) / 8 := by omega
    simp only [bits_Put.l1]
    rw [if_pos (by omega), at_eq i w kk (by omega), tdiv8 _ (by omega), tmod8, if_pos (by omega), bytesT_length, if_pos (by omega), if_pos (by omega), if_pos (by omega),
      show wrap64 ((kk : Int) + 1) = ((kk + 1 : Nat) : Int) by unfold wrap64; omega, Int.toNat_natCast, rd_bytesT _ _ _ _ ht, hv, bit64 v kk (by omega) (by omega)]
    have hb : ((v / 2 ^ kk % 2 : Nat) : Int) % 256 = ((v / 2 ^ kk % 2 : Nat) : Int) := by omega
    have hf : bitf l w (i * w + kk) = v / 2 ^ kk % 2 := by
      unfold bitf
      have hw0 : 0 < w := by omega
      have hkk : kk < w := by omega
      have e1 : (i * w + kk) / w = i := by rw [Nat.mul_comm, Nat.mul_add_div hw0, Nat.div_eq_of_lt hkk, Nat.add_zero]
      have e2 : (i * w + kk) % w = kk := by rw [Nat.mul_comm, Nat.mul_add_mod, Nat.mod_eq_of_lt hkk]
      rw [e1, e2]
      have : l.getD i 0 = (v : Int) := by rw [← hv]; unfold rd; rw [Int.toNat_natCast]
      rw [this, Int.toNat_natCast]
    rw [hb, or8 _ _ _ (pb_lt _ (bitf_le l w) _) (by omega) (by omega), ← hf, bytesT_set _ _ _ ht]
    rfl
theorem put_outer (l : List Int) (hl : wf64 l) (hn : l.length ≤ 100000) (w : Nat) (hw : w ≤ 64) (d : Nat) : ∀ i, i + d = l.length →
    Ev (fun k => bits_Put.l0 k (w : Int) (bytesT (bitf l w) (i * w) ((l.length * w + 7) / 8)) l (l.length : Int) (i : Int)) (putS l w, true) := by
  induction d with
  | zero =>
    intro i hi
    obtain rfl : i = l.length := by omega
    refine Ev.step (f := fun _ => some (putS l w, true)) (fun k => ?_) (Ev.now _)
    simp only [bits_Put.l0]
    rw [if_neg (by omega)]
    rfl
  | succ d ih =>
    intro i hi
    have h := put_inner l hl hn w hw i (by omega) _ (ih (i + 1) (by omega)) w 0 (by omega)
    refine Ev.step (f := fun k => bits_Put.l1 k (w : Int) (bytesT (bitf l w) (i * w + 0) ((l.length * w + 7) / 8)) (i : Int) (rd l (i : Int)) l (l.length : Int) (i : Int) (w : Int) ((0 : Nat) : Int)) (fun k => ?_) h
    simp only [bits_Put.l0]
    rw [if_pos (by omega), if_pos (by omega), if_pos (by omega)]
    rfl
theorem mul_cast (a b : Nat) (h : a * b ≤ 100000000) : wrap64 ((a : Int) * (b : Int)) = ((a * b : Nat) : Int) := by
  rw [← Int.natCast_mul]
  generalize a * b = t at *
  unfold wrap64; omega
theorem size_eq (t : Nat) (h : t ≤ 100000000) : bits_size.f ((t : Nat) : Int) = some (((t + 7) / 8 : Nat) : Int) := by
  unfold bits_size.f
  rw [show wrap64 ((t : Int) + 7) = ((t + 7 : Nat) : Int) by unfold wrap64; omega, tdiv8 _ (by omega)]
/-- Put: what it answers. -/
def putR (l : List Int) (w : Int) : List Int × Bool := if w < 0 ∨ 64 < w then ([], false) else if ((W l : Nat) : Int) > w then ([], false) else (putS l w.toNat, true)
theorem put_ev (l : List Int) (hl : wf64 l) (hn : l.length ≤ 100000) (w : Int) : Ev (fun k => bits_Put.f k l w) (putR l w) := by
  unfold putR
  by_cases h1 : w < 0
  · rw [if_pos (.inl h1)]
    refine Ev.congr (f := fun k => bits_Put.j0 k l w true) (fun k => by simp only [bits_Put.f]; rw [if_pos h1]) (Ev.step (f := fun _ => some ([], false)) (fun k => ?_) (Ev.now _))
    simp only [bits_Put.j0, if_true]
  by_cases h2 : 64 < w
  · rw [if_pos (.inr h2)]
    refine Ev.congr (f := fun k => bits_Put.j0 k l w true) (fun k => by simp only [bits_Put.f]; rw [if_neg h1, decide_eq_true (show w > 64 from h2)]) (Ev.step (f := fun _ => some ([], false)) (fun k => ?_) (Ev.now _))
    simp only [bits_Put.j0, if_true]
  rw [if_neg (by omega)]
  obtain ⟨u, rfl⟩ := Int.eq_ofNat_of_zero_le (show 0 ≤ w by omega)
  have hlw : l.length * u ≤ 6400000 := Nat.le_trans (Nat.mul_le_mul hn (show u ≤ 64 by omega)) (by decide)
  refine Ev.congr (f := fun k => bits_Put.j0 k l (u : Int) false) (fun k => by simp only [bits_Put.f]; rw [if_neg h1, decide_eq_false (show ¬ (u : Int) > 64 from h2)]) ?_
  refine Ev.step (f := fun k => (bits_Width.f k l).bind _) (fun k => by simp only [bits_Put.j0, Bool.false_eq_true, if_false]; rfl) (Ev.bind (width_ev l hl (by omega)) ?_)
  by_cases h3 : ((W l : Nat) : Int) > (u : Int)
  · rw [if_pos h3]
    exact Ev.congr (f := fun _ => some ([], false)) (fun k => by rw [if_pos h3]) (Ev.now _)
  · rw [if_neg h3]
    refine Ev.congr (f := fun k => bits_Put.l0 k (u : Int) (bytesT (bitf l u) (0 * u) ((l.length * u + 7) / 8)) l (l.length : Int) ((0 : Nat) : Int)) (fun k => ?_) ?_
    · rw [if_neg h3, mul_cast _ _ (by omega), size_eq _ (by omega)]
      simp only [Option.bind_some]
      rw [if_pos (by omega), if_pos (by omega), Nat.zero_mul, bytesT_zero, Int.toNat_natCast]
      rfl
    · rw [Int.toNat_natCast]
      exact put_outer l hl hn u (by omega) l.length 0 (by omega)

theorem take_loop (b : List Int) (hb : wf8 b) (n w : Nat) (hn : n ≤ 1000) (hw : w ≤ 64) (hlen : b.length = (n * w + 7) / 8) (r : List Int × Bool)
    (hend : Ev (fun k => (bits_Put.f k (takeS b n w) (w : Int)).bind fun bt118 => ((bytes_Equal.f bt118.1 b).bind fun t122 => (if t122 = true then (some (takeS b n w, true)) else (some (([] : List Int), false))))) r) (d : Nat) :
    ∀ t, t + d = n * w → Ev (fun k => bits_Take.l0 k b (w : Int) (numsT (bitb b) t n w) ((n * w : Nat) : Int) (t : Int)) r := by
  have hnw : n * w ≤ 64000 := Nat.le_trans (Nat.mul_le_mul hn hw) (by decide)
  induction d with
  | zero =>
    intro t ht
    obtain rfl : t = n * w := by omega
    refine Ev.step (fun k => ?_) hend
    simp only [bits_Take.l0]
    rw [if_neg (by omega)]
    rfl
  | succ d ih =>
    intro t ht
    have hw0 : 0 < w := by
      rcases Nat.eq_zero_or_pos w with h | h
      · rw [h, Nat.mul_zero] at ht; omega
      · exact h
    have hih := ih (t + 1) (by omega)
    have hq : t / w < n := by
      rw [Nat.div_lt_iff_lt_mul hw0]
      omega
    have h8 : t / 8 < b.length := by omega
    have hdm : t / w * w + t % w = t := by rw [Nat.mul_comm]; exact Nat.div_add_mod t w
    have hml : t % w < w := Nat.mod_lt _ hw0
    obtain ⟨h0, h1⟩ := hb _ (rd_mem b (t / 8) h8)
    obtain ⟨v, hv⟩ := Int.eq_ofNat_of_zero_le h0
    refine Ev.step (fun k => ?_) hih
    have e1 : wrap64 (Int.tdiv (t : Int) (w : Int)) = ((t / w : Nat) : Int) := by
      have e : Int.tdiv (t : Int) (w : Int) = ((t / w : Nat) : Int) := rfl
      rw [e]
      clear e
      have := Nat.div_le_self t w
      have : (0 : Int) ≤ ((t / w : Nat) : Int) := Int.natCast_nonneg _
      generalize t / w = q at *
      unfold wrap64; omega
    have e2 : Int.tmod (t : Int) (w : Int) = ((t % w : Nat) : Int) := rfl
    simp only [bits_Take.l0]
    rw [if_pos (by omega), if_neg (by omega), e1, tdiv8 _ (by omega), tmod8, e2]
    clear e1 e2
    have hq0 : (0 : Int) ≤ ((t / w : Nat) : Int) := Int.natCast_nonneg _
    rw [numsT_length, if_pos (by omega), if_pos (by omega), if_pos (by omega), if_pos (by omega), if_pos (by omega), if_pos (by omega),
      show wrap64 ((t : Int) + 1) = ((t + 1 : Nat) : Int) by unfold wrap64; omega, Int.toNat_natCast, rd_numsT _ _ _ _ _ hq, hv, bit8 v (t % 8) (by omega) (by omega)]
    have hg : bitb b t = v / 2 ^ (t % 8) % 2 := by
      unfold bitb
      have : b.getD (t / 8) 0 = (v : Int) := by rw [← hv]; unfold rd; rw [Int.toNat_natCast]
      rw [this, Int.toNat_natCast]
    have hlt := nbk_before (bitb b) (bitb_le b) (t / w * w) (t % w) w hml
    rw [hdm] at hlt
    rw [or64 _ _ _ hlt (by omega) (by omega), ← hg, numsT_set _ _ _ _ hw0 hq]
/-- Take: what it answers. -/
def takeR (b : List Int) (n w : Int) : List Int × Bool :=
  if n < 0 ∨ 1000 < n ∨ w < 0 ∨ 64 < w ∨ b.length ≠ (n.toNat * w.toNat + 7) / 8 then ([], false)
  else if putS (takeS b n.toNat w.toNat) w.toNat = b then (takeS b n.toNat w.toNat, true) else ([], false)
theorem putR_takeS (b : List Int) (n w : Nat) (hw : w ≤ 64) : putR (takeS b n w) (w : Int) = (putS (takeS b n w) w, true) := by
  unfold putR
  have h := (W_le (takeS b n w) (fun x hx => by
    have := takeS_lt b n w x hx
    have h2 := Nat.pow_le_pow_right (show 0 < 2 by decide) hw
    have h3 : (2 : Nat) ^ 64 = 18446744073709551616 := by decide
    omega) w).2 (fun x hx => (takeS_lt b n w x hx).2)
  rw [if_neg (by omega), if_neg (by omega), Int.toNat_natCast]
theorem take_ev (b : List Int) (hb : wf8 b) (n w : Int) (hn : -1000000000 ≤ n) (hn2 : n ≤ 1000000000) (hw1 : -1000000000 ≤ w) (hw2 : w ≤ 1000000000) : Ev (fun k => bits_Take.f k b n w) (takeR b n w) := by
  have hno : Ev (fun k => bits_Take.j0 k b n w true) ([], false) := by
    refine Ev.step (f := fun _ => some ([], false)) (fun k => ?_) (Ev.now _)
    simp only [bits_Take.j0, if_true]
  unfold takeR
  by_cases h1 : n < 0
  · rw [if_pos (.inl h1)]
    exact Ev.congr (fun k => by simp only [bits_Take.f]; rw [if_pos h1]) hno
  by_cases h2 : 1000 < n
  · rw [if_pos (.inr (.inl h2))]
    exact Ev.congr (fun k => by simp only [bits_Take.f]; rw [if_neg h1, if_pos h2]) hno
  by_cases h3 : w < 0
  · rw [if_pos (.inr (.inr (.inl h3)))]
    exact Ev.congr (fun k => by simp only [bits_Take.f]; rw [if_neg h1, if_neg (show ¬ n > 1000 from h2), if_pos h3]) hno
  by_cases h4 : 64 < w
  · rw [if_pos (.inr (.inr (.inr (.inl h4))))]
    exact Ev.congr (fun k => by simp only [bits_Take.f]; rw [if_neg h1, if_neg (show ¬ n > 1000 from h2), if_neg h3, if_pos h4]) hno
  obtain ⟨m, rfl⟩ := Int.eq_ofNat_of_zero_le (show 0 ≤ n by omega)
  obtain ⟨u, rfl⟩ := Int.eq_ofNat_of_zero_le (show 0 ≤ w by omega)
  have hnw : m * u ≤ 64000 := Nat.le_trans (Nat.mul_le_mul (show m ≤ 1000 by omega) (show u ≤ 64 by omega)) (by decide)
  simp only [Int.toNat_natCast]
  have hf : ∀ k, bits_Take.f k b (m : Int) (u : Int) = bits_Take.j0 k b (m : Int) (u : Int) ((b.length : Int) != (((m * u + 7) / 8 : Nat) : Int)) := by
    intro k
    simp only [bits_Take.f]
    rw [if_neg h1, if_neg (show ¬ (m : Int) > 1000 from h2), if_neg h3, if_neg (show ¬ (u : Int) > 64 from h4), mul_cast _ _ (by omega), size_eq _ (by omega)]
    rfl
  by_cases h5 : b.length = (m * u + 7) / 8
  · rw [if_neg (by omega)]
    have e : ((b.length : Int) != (((m * u + 7) / 8 : Nat) : Int)) = false := by rw [bne_eq_false_iff_eq]; omega
    refine Ev.congr hf ?_
    rw [e]
    refine Ev.step (f := fun k => bits_Take.l0 k b (u : Int) (numsT (bitb b) 0 m u) ((m * u : Nat) : Int) ((0 : Nat) : Int)) (fun k => ?_) (take_loop b hb m u (by omega) (by omega) h5 _ ?_ (m * u) 0 (by omega))
    · simp only [bits_Take.j0, Bool.false_eq_true, if_false]
      rw [if_pos (by omega), if_pos (by omega), numsT_zero, Int.toNat_natCast, mul_cast _ _ (by omega)]
      rfl
    · have hp := put_ev (takeS b m u) (fun x hx => by
        have := takeS_lt b m u x hx
        have h2 := Nat.pow_le_pow_right (show 0 < 2 by decide) (show u ≤ 64 by omega)
        have h3 : (2 : Nat) ^ 64 = 18446744073709551616 := by decide
        omega) (by simp only [takeS, numsT_length]; omega) (u : Int)
      rw [putR_takeS b m u (by omega)] at hp
      refine Ev.bind hp ?_
      have hs := str_beq (putS (takeS b m u) u) b (bytesT_wf _ (bitf_le _ _) _ _) hb
      by_cases h6 : putS (takeS b m u) u = b
      · rw [if_pos h6]
        refine Ev.congr (f := fun _ => some (takeS b m u, true)) (fun k => ?_) (Ev.now _)
        simp only [bytes_Equal.f, Option.bind_some, hs, decide_eq_true h6, if_true]
      · rw [if_neg h6]
        refine Ev.congr (f := fun _ => some ([], false)) (fun k => ?_) (Ev.now _)
        simp only [bytes_Equal.f, Option.bind_some, hs, decide_eq_false h6, Bool.false_eq_true, if_false]
  · rw [if_pos (.inr (.inr (.inr (.inr h5))))]
    have e : ((b.length : Int) != (((m * u + 7) / 8 : Nat) : Int)) = true := by rw [bne_iff_ne]; omega
    refine Ev.congr hf ?_
    rw [e]
    exact hno
end Go.Proofs.Ytbjliggjalnhgaa.BBBitsJoin
