/- BitsBack's plain law: numbers come back, of as many bits as they want or more; with a byte more or less they do not. Conditions: none. -/
import Derived.Test.YtbjliggjalnhgaaBBitsBack
import Derived.OpenShut
namespace Go.Proofs.Ytbjliggjalnhgaa.Pure
open Go.RowKit Go.Proofs.Ytbjliggjalnhgaa.PBitsBack Go.Proofs.YtbjliggjalnhgaaW.PrintWords Go.Proofs.YtbjliggjalnhgaaW.PrintLast Go.Proofs.YtbjliggjalnhgaaW.PrintMore Go.Proofs.Ytbjliggjalnhgaa.MBits Go.Proofs.Ytbjliggjalnhgaa.BBBitsBack
set_option linter.unusedVariables false

theorem bits_begun : Ev rabbetlaw3_begun.f true := Ev.of rabbetlaw3_begun.mono (k := 60) (by decide +kernel)
theorem compare_loop (l : List Int) (hl : l.length ≤ 40) (r : Bool) (hend : Ev (fun k => (bits_Width.f k l).bind fun t179 => ((bits_Put.f k l (wrap64 (t179 - 1))).bind fun bt180 => (some (!bt180.2)))) r) (d : Nat) :
    ∀ i, i + d = l.length → Ev (fun k => rabbetlaw3_BitsBack.l0 k l l (i : Int)) r := by
  induction d with
  | zero =>
    intro i hi
    refine Ev.step (fun k => ?_) hend
    simp only [rabbetlaw3_BitsBack.l0]
    rw [if_neg (by omega)]
  | succ d ih =>
    intro i hi
    refine Ev.step (fun k => ?_) (ih (i + 1) (by omega))
    simp only [rabbetlaw3_BitsBack.l0]
    rw [if_pos (by omega), if_pos (by omega), if_pos (by omega), if_pos trivial, show wrap64 ((i : Int) + 1) = ((i + 1 : Nat) : Int) by unfold wrap64; omega]
theorem BitsBack : rabbetlaw3_BitsBack.Pure := by
  intro l a h0 h1 hl ha
  have ba := bounds_u8 ha
  obtain ⟨c, rfl⟩ := Int.eq_ofNat_of_zero_le ba.1
  obtain ⟨K0, e0⟩ := bits_begun
  by_cases hlen : (l.length : Int) > 40
  · refine ⟨K0, ?_⟩
    unfold rabbetlaw3_BitsBack.f
    rw [e0 K0 (Nat.le_refl _)]
    simp only [Option.bind_some, if_true]
    rw [if_pos hlen]
  have hwf : wf64 l := fun x hx => by have := bounds_u64 (hl x hx); omega
  have hWm := W_max l
  obtain ⟨m, hm⟩ : ∃ m, m = min (W l + c % 9) 64 := ⟨_, rfl⟩
  have hw : ∀ _ : Unit, mn (wrap64 (((W l : Nat) : Int) + (wrap64 (Int.tmod (c : Int) 9)))) 64 = (m : Int) := by
    intro _
    rw [show Int.tmod (c : Int) 9 = ((c % 9 : Nat) : Int) from rfl]
    unfold mn wrap64
    split <;> omega
  have hmul : l.length * m ≤ 2560 := Nat.le_trans (Nat.mul_le_mul (show l.length ≤ 40 by omega) (show m ≤ 64 by omega)) (by decide)
  have hlt := (W_le l hwf m).1 (by omega)
  have hlm : ∀ x, x ∈ l → 0 ≤ x ∧ x.toNat < 2 ^ m := fun x hx => ⟨(hwf x hx).1, hlt x hx⟩
  have hputR : putR l (m : Int) = (putS l m, true) := by
    unfold putR
    rw [if_neg (by omega), if_neg (by omega), Int.toNat_natCast]
  have hblen : (putS l m).length = (l.length * m + 7) / 8 := bytesT_length _ _ _
  have hbwf : wf8 (putS l m) := bytesT_wf _ (bitf_le _ _) _ _
  have hback := takeS_putS l m hlm
  obtain ⟨K1, e1⟩ := width_ev l hwf (by omega)
  obtain ⟨K2, e2⟩ := put_ev l hwf (by omega) (m : Int)
  obtain ⟨K3, e3⟩ := take_ev (putS l m) hbwf (l.length : Int) (m : Int) (by omega) (by omega) (by omega) (by omega)
  obtain ⟨K4, e4⟩ := take_ev (putS l m ++ [0]) (fun x hx => by
    rcases List.mem_append.1 hx with hx | hx
    · exact hbwf x hx
    · simp at hx; omega) (l.length : Int) (m : Int) (by omega) (by omega) (by omega) (by omega)
  obtain ⟨K5, e5⟩ := take_ev ((putS l m).take ((putS l m).length - 1)) (fun x hx => hbwf x (List.mem_of_mem_take hx)) (l.length : Int) (m : Int) (by omega) (by omega) (by omega) (by omega)
  rw [hputR] at e2
  have t3 : takeR (putS l m) (l.length : Int) (m : Int) = (l, true) := by
    unfold takeR
    rw [Int.toNat_natCast, Int.toNat_natCast, hback, if_neg (by rw [hblen]; omega), if_pos rfl]
  have t4 : takeR (putS l m ++ [0]) (l.length : Int) (m : Int) = ([], false) := by
    unfold takeR
    rw [Int.toNat_natCast, Int.toNat_natCast, if_pos (.inr (.inr (.inr (.inr (by rw [List.length_append, hblen]; simp)))))]
  rw [t3] at e3
  rw [t4] at e4
  have hp2 := put_ev l hwf (by omega) (wrap64 (((W l : Nat) : Int) - 1))
  have hputR2 : putR l (wrap64 (((W l : Nat) : Int) - 1)) = ([], false) := by
    unfold putR
    by_cases hW0 : W l = 0
    · rw [if_pos (.inl (by unfold wrap64; omega))]
    · rw [if_neg (by unfold wrap64; omega), if_pos (by unfold wrap64; omega)]
  rw [hputR2] at hp2
  have hend : Ev (fun k => (bits_Width.f k l).bind fun t179 => ((bits_Put.f k l (wrap64 (t179 - 1))).bind fun bt180 => (some (!bt180.2)))) true := by
    refine Ev.bind (width_ev l hwf (by omega)) (Ev.bind hp2 (Ev.congr (f := fun _ => some true) (fun k => rfl) (Ev.now _)))
  obtain ⟨K6, e6⟩ := compare_loop l (by omega) true hend l.length 0 (by omega)
  dsimp only at e1 e2 e3 e4 e5 e6
  have t5 : 0 < (putS l m).length → takeR ((putS l m).take ((putS l m).length - 1)) (l.length : Int) (m : Int) = ([], false) := by
    intro hpos
    unfold takeR
    rw [Int.toNat_natCast, Int.toNat_natCast, if_pos (.inr (.inr (.inr (.inr (by rw [List.length_take, ← hblen]; omega)))))]
  have htd : ∀ _ : Unit, wrap64 (Int.tdiv (wrap64 ((wrap64 ((l.length : Int) * (m : Int))) + 7)) 8) = (((l.length * m + 7) / 8 : Nat) : Int) := by
    intro _
    rw [mul_cast _ _ (by omega), show wrap64 (((l.length * m : Nat) : Int) + 7) = ((l.length * m + 7 : Nat) : Int) by generalize l.length * m = t at *; unfold wrap64; omega, tdiv8 _ (by omega)]
  generalize putS l m = b at *
  obtain ⟨K, hK⟩ : ∃ K, K = K0 + K1 + K2 + K3 + K4 + K5 + K6 := ⟨_, rfl⟩
  refine ⟨K + 4, ?_⟩
  unfold rabbetlaw3_BitsBack.f
  rw [e0 _ (by omega)]
  simp only [Option.bind_some, if_true]
  rw [if_neg hlen, e1 _ (by omega)]
  rw [Option.bind_some, hw (), e2 _ (by omega), Option.bind_some]
  dsimp only
  rw [if_pos rfl, htd ()]
  have hne : ((b.length : Int) != (((l.length * m + 7) / 8 : Nat) : Int)) = false := by rw [bne_eq_false_iff_eq]; omega
  rw [hne]
  simp only [rabbetlaw3_BitsBack.j0, Bool.false_eq_true, if_false]
  rw [e3 _ (by omega)]
  simp only [Option.bind_some, List.nil_append, List.length_nil]
  rw [if_pos (by omega), if_pos (by omega), e4 _ (by omega)]
  simp only [Option.bind_some]
  have hj1 : rabbetlaw3_BitsBack.j1 (K + 3) l l true false false = some true := by
    simp only [rabbetlaw3_BitsBack.j1, rabbetlaw3_BitsBack.j2, if_true, Bool.false_eq_true, if_false]
    exact e6 _ (by omega)
  by_cases hpos : (b.length : Int) > 0
  · rw [if_pos hpos, show wrap64 ((b.length : Int) - 1) = ((b.length - 1 : Nat) : Int) by unfold wrap64; omega, if_pos (by omega), if_pos (by omega), Int.toNat_natCast, e5 _ (by omega), t5 (by omega)]
    simp only [Option.bind_some]
    exact hj1
  · rw [if_neg hpos]
    exact hj1
end Go.Proofs.Ytbjliggjalnhgaa.Pure
