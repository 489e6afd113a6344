/- NumAll's plain law: numbers' bytes and bytes' numbers are the document's. Conditions: none. -/
import Derived.Test.YtbjliggjalnhgaaDoorBRNumAll
import Derived.Test.YtbjliggjalnhgaaDoorMStr
import Derived.Test.YtbjliggjalnhgaaDoorPNumAllx3
import Derived.OpenShut
namespace Go.Proofs.YtbjliggjalnhgaaDoor.Pure
open Go.RowKit Go.Proofs.YtbjliggjalnhgaaDoor.PNumAll Go.Proofs.YtbjliggjalnhgaaDoorW.PrintWords Go.Proofs.YtbjliggjalnhgaaDoorW.PrintLast Go.Proofs.YtbjliggjalnhgaaDoor.MNum Go.Proofs.YtbjliggjalnhgaaDoor.BRNumAll
set_option linter.unusedVariables false
theorem num_begun : Ev rabbetlaw2_begun.f true := Ev.of rabbetlaw2_begun.mono (k := 30) (by decide +kernel)
theorem NumAll : rabbetlaw2_NumAll.Pure := by
  intro a0 a1 l h0 h1 _ _ hl
  have b0 := bounds_u64 h0
  have b1 := bounds_i64 h1
  obtain ⟨u, rfl⟩ := Int.eq_ofNat_of_zero_le b0.1
  have hu : u < 18446744073709551616 := by omega
  have hwf : wfb l := fun x hx => by have := bounds_u8 (hl x hx); omega
  obtain ⟨K0, e0⟩ := num_begun
  by_cases hlen : (l.length : Int) > 20
  · refine ⟨K0, ?_⟩
    unfold rabbetlaw2_NumAll.f
    rw [e0 K0 (Nat.le_refl _)]
    simp only [Option.bind_some, if_true]
    rw [if_pos hlen]
  obtain ⟨K1, e1⟩ := BNumAll.take_ev l hwf
  obtain ⟨K2, e2⟩ := rtake_ev l hwf (fun a b ha hb => MStr.str_eq a b ha hb)
  obtain ⟨K3, e3⟩ := BNumAll.put_ev u hu
  obtain ⟨K4, e4⟩ := rput_ev u hu
  have hH : rabbetlaw0_Handed.f l = some l := by unfold rabbetlaw0_Handed.f; rw [if_pos (by omega)]
  have hS : rabbetlaw0_Same.f l l = some true := by unfold rabbetlaw0_Same.f; rw [if_pos rfl]
  have hz1 : num_Zig.f a1 = some (zig a1) := by unfold num_Zig.f; rw [zig_eq a1 b1.1 b1.2]
  have hz2 := rzig_eq a1 b1.1 b1.2
  have hz3 : num_Zag.f (u : Int) = some (zag (u : Int)) := by unfold num_Zag.f; rw [zag_eq _ b0.1 b0.2]
  have hz4 := rzag_eq u hu
  generalize BNumAll.takeR l = t at *
  generalize E 9 u = z at *
  obtain ⟨K, hK⟩ : ∃ K, K = K0 + K1 + K2 + K3 + K4 := ⟨_, rfl⟩
  dsimp only at e1 e2 e3 e4
  refine ⟨K, ?_⟩
  unfold rabbetlaw2_NumAll.f
  rw [e0 _ (by omega)]
  simp only [Option.bind_some, if_true]
  rw [if_neg hlen, hH, Option.bind_some, e1 _ (by omega), Option.bind_some, e2 _ (by omega), Option.bind_some, e3 _ (by omega), Option.bind_some, e4 _ (by omega), Option.bind_some, if_pos rfl, if_pos rfl, if_pos rfl, if_pos (by simp), hz1, Option.bind_some, hz2, Option.bind_some, if_pos rfl, hz3, Option.bind_some, hz4, Option.bind_some, if_pos rfl, hS]
  rfl
end Go.Proofs.YtbjliggjalnhgaaDoor.Pure
