/- NullsSums' plain law: as many are set in a row as in its parts. Conditions: none. -/
import Derived.Test.YtbjliggjalnhgaaDoorBNullsSums
import Derived.OpenShut
namespace Go.Proofs.YtbjliggjalnhgaaDoor.Pure
open Go.RowKit Go.Proofs.YtbjliggjalnhgaaDoor.PNullsSums Go.Proofs.YtbjliggjalnhgaaDoorW.PrintWords Go.Proofs.YtbjliggjalnhgaaDoorW.PrintLast Go.Proofs.YtbjliggjalnhgaaDoorW.PrintMore Go.Proofs.YtbjliggjalnhgaaDoor.MBits Go.Proofs.YtbjliggjalnhgaaDoor.BNNullsSums
set_option linter.unusedVariables false
theorem nulls_begun : Ev rabbetlaw4_begun.f true := Ev.of rabbetlaw4_begun.mono (k := 30) (by decide +kernel)
theorem NullsSums : ∀ (l0 : List Bool) (a1 : Int), l0.length ≤ maxLen → l0.length * 1 ≤ 140737488351232 → (∀ y, y ∈ l0 → (fun _ => True) y) → (Lit.int .u8 a1).wf = true → ∃ k, rabbetlaw4_NullsSums.f k l0 a1 = some true := by
  intro l a _ _ _ ha
  have ba := bounds_u8 ha
  obtain ⟨c, rfl⟩ := Int.eq_ofNat_of_zero_le ba.1
  obtain ⟨K0, e0⟩ := nulls_begun
  by_cases hlen : (l.length : Int) > 60
  · refine ⟨K0, ?_⟩
    unfold rabbetlaw4_NullsSums.f
    rw [e0 K0 (Nat.le_refl _)]
    simp only [Option.bind_some, if_true]
    rw [if_pos hlen]
  obtain ⟨j, hj⟩ : ∃ j, j = c % (l.length + 1) := ⟨_, rfl⟩
  have hjl : j ≤ l.length := by have := Nat.mod_lt c (show 0 < l.length + 1 by omega); omega
  have hmod : Int.tmod (wrap64 (c : Int)) (wrap64 ((l.length : Int) + 1)) = (j : Int) := by
    rw [show wrap64 (c : Int) = (c : Int) by unfold wrap64; omega, show wrap64 ((l.length : Int) + 1) = ((l.length + 1 : Nat) : Int) by unfold wrap64; omega, hj]
    rfl
  have hne : ¬ wrap64 ((l.length : Int) + 1) = 0 := by unfold wrap64; omega
  obtain ⟨K1, e1⟩ := put_ev l (by omega)
  obtain ⟨K2, e2⟩ := take_ev (putL l) (putL_wf l) (l.length : Int) (by omega) (by omega)
  rw [takeR_putL l (by omega)] at e2
  obtain ⟨K3, e3⟩ := count_ev l (by omega)
  obtain ⟨K4, e4⟩ := count_ev (l.take j) (by rw [List.length_take]; omega)
  obtain ⟨K5, e5⟩ := count_ev (l.drop j) (by rw [List.length_drop]; omega)
  dsimp only at e1 e2 e3 e4 e5
  have hsum : l.count true = (l.take j).count true + (l.drop j).count true := by rw [← List.count_append, List.take_append_drop]
  have hcl : l.count true ≤ l.length := List.count_le_length
  generalize putL l = b at *
  generalize hn0 : l.count true = n0 at *
  generalize hn1 : (l.take j).count true = n1 at *
  generalize hn2 : (l.drop j).count true = n2 at *
  clear hn0 hn1 hn2
  obtain ⟨K, hK⟩ : ∃ K, K = K0 + K1 + K2 + K3 + K4 + K5 := ⟨_, rfl⟩
  refine ⟨K, ?_⟩
  unfold rabbetlaw4_NullsSums.f
  rw [e0 _ (by omega)]
  simp only [Option.bind_some, if_true]
  rw [if_neg hlen, if_neg hne, e1 _ (by omega)]
  simp only [Option.bind_some]
  rw [e2 _ (by omega)]
  simp only [Option.bind_some, if_true]
  rw [e3 _ (by omega)]
  simp only [Option.bind_some, hmod]
  rw [if_pos (by omega), if_pos (by omega), Int.toNat_natCast, e4 _ (by omega)]
  rw [Option.bind_some, e5 _ (by omega), Option.bind_some, if_pos (by unfold wrap64; omega), beq_self_eq_true]
end Go.Proofs.YtbjliggjalnhgaaDoor.Pure
