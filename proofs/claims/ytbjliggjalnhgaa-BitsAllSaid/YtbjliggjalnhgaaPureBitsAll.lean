/- BitsAll's plain law: numbers' bytes of few bits and bytes' numbers are the document's. Conditions: none. -/
import Derived.Test.YtbjliggjalnhgaaBRBitsAll
import Derived.Test.YtbjliggjalnhgaaPBitsAllx5
import Derived.OpenShut
namespace Go.Proofs.Ytbjliggjalnhgaa.Pure
open Go.RowKit Go.Proofs.Ytbjliggjalnhgaa.PBitsAll Go.Proofs.YtbjliggjalnhgaaW.PrintWords Go.Proofs.YtbjliggjalnhgaaW.PrintLast Go.Proofs.YtbjliggjalnhgaaW.PrintMore Go.Proofs.Ytbjliggjalnhgaa.MBits Go.Proofs.Ytbjliggjalnhgaa.BBBitsAll Go.Proofs.Ytbjliggjalnhgaa.BRBitsAll
set_option linter.unusedVariables false
theorem bits_begun : Ev rabbetlaw3_begun.f true := Ev.of rabbetlaw3_begun.mono (k := 60) (by decide +kernel)
theorem compare_loop (l : List Int) (hl : l.length ≤ 100000) (d : Nat) : ∀ i, i + d = l.length → Ev (fun k => rabbetlaw3_BitsAll.l0 k l l (i : Int)) true := by
  induction d with
  | zero =>
    intro i hi
    refine Ev.step (f := fun _ => some true) (fun k => ?_) (Ev.now _)
    simp only [rabbetlaw3_BitsAll.l0]
    rw [if_neg (by omega)]
  | succ d ih =>
    intro i hi
    refine Ev.step (fun k => ?_) (ih (i + 1) (by omega))
    simp only [rabbetlaw3_BitsAll.l0]
    rw [if_pos (by omega), if_pos (by omega), if_pos (by omega), if_pos trivial, show wrap64 ((i : Int) + 1) = ((i + 1 : Nat) : Int) by unfold wrap64; omega]
theorem takeR_len (b : List Int) (n w : Int) : (takeR b n w).1.length ≤ 1000 := by
  unfold takeR
  split
  · simp
  · rename_i h
    split
    · simp only [takeS, numsT_length]; omega
    · simp
theorem BitsAll : rabbetlaw3_BitsAll.Pure := by
  intro l w b n _ _ hl _ _ _ hb _
  have hwf : wf64 l := fun x hx => by have := bounds_u64 (hl x hx); omega
  have hbf : wf8 b := fun x hx => by have := bounds_u8 (hb x hx); omega
  obtain ⟨K0, e0⟩ := bits_begun
  have skip : rabbetlaw3_BitsAll.j0 (K0 + 1) l w b n true = some true := by simp only [rabbetlaw3_BitsAll.j0, if_true]
  by_cases hlen : (l.length : Int) > 40
  · refine ⟨K0 + 1, ?_⟩
    unfold rabbetlaw3_BitsAll.f
    rw [e0 _ (by omega), Option.bind_some, if_pos rfl, if_pos hlen, skip]
  by_cases hlen2 : (b.length : Int) > 60
  · refine ⟨K0 + 1, ?_⟩
    unfold rabbetlaw3_BitsAll.f
    rw [e0 _ (by omega), Option.bind_some, if_pos rfl, if_neg hlen, decide_eq_true hlen2, skip]
  have hH : rabbetlaw0_Handed.f b = some b := by unfold rabbetlaw0_Handed.f; rw [if_pos (by omega)]
  have hS : rabbetlaw0_Same.f b b = some true := by unfold rabbetlaw0_Same.f; rw [if_pos rfl]
  obtain ⟨K1, e1⟩ := put_ev l hwf (by omega) w
  obtain ⟨K2, e2⟩ := rput_ev l hwf (by omega) w
  obtain ⟨K3, e3⟩ := take_any b hbf n w
  obtain ⟨K4, e4⟩ := rtake_ev b hbf n w
  obtain ⟨K5, e5⟩ := width_ev l hwf (by omega)
  obtain ⟨K6, e6⟩ := rwidth_ev l hwf (by omega)
  have ht := takeR_len b n w
  obtain ⟨K7, e7⟩ := compare_loop (takeR b n w).1 (by omega) _ 0 (Nat.zero_add _)
  generalize takeR b n w = t at *
  generalize putR l w = p at *
  generalize ((W l : Nat) : Int) = ww at *
  obtain ⟨K, hK⟩ : ∃ K, K = K0 + K1 + K2 + K3 + K4 + K5 + K6 + K7 := ⟨_, rfl⟩
  dsimp only at e1 e2 e3 e4 e5 e6 e7
  refine ⟨K + 2, ?_⟩
  unfold rabbetlaw3_BitsAll.f
  rw [e0 _ (by omega), Option.bind_some, if_pos rfl, if_neg hlen, decide_eq_false hlen2]
  simp only [rabbetlaw3_BitsAll.j0, Bool.false_eq_true, if_false]
  rw [hH, Option.bind_some, e1 _ (by omega), Option.bind_some, e2 _ (by omega), Option.bind_some, e3 _ (by omega), Option.bind_some, e4 _ (by omega), Option.bind_some, e5 _ (by omega), Option.bind_some, e6 _ (by omega), Option.bind_some, if_pos rfl, if_pos rfl, if_neg (by simp), if_neg (by simp), if_pos rfl, hS, Option.bind_some]
  simp only [rabbetlaw3_BitsAll.j1, Bool.not_true, Bool.false_eq_true, if_false]
  exact e7 _ (by omega)
end Go.Proofs.Ytbjliggjalnhgaa.Pure
