/- NumBack's plain law: a number comes back, cut off it is none, a lesser one is no longer; zig and zag undo each other. Conditions: none. -/
import Derived.Test.YtbjliggjalnhgaaDoorBNumBacknum
import Derived.OpenShut
namespace Go.Proofs.YtbjliggjalnhgaaDoor.Pure
open Go.RowKit Go.Proofs.YtbjliggjalnhgaaDoor.PNumBack Go.Proofs.YtbjliggjalnhgaaDoorW.PrintWords Go.Proofs.YtbjliggjalnhgaaDoorW.PrintLast Go.Proofs.YtbjliggjalnhgaaDoor.MNum Go.Proofs.YtbjliggjalnhgaaDoor.BNumBack
set_option linter.unusedVariables false

theorem num_begun : Ev rabbetlaw2_begun.f true := Ev.of rabbetlaw2_begun.mono (k := 30) (by decide +kernel)
theorem NumBack : rabbetlaw2_NumBack.Pure := by
  intro a0 a1 a2 l3 a4 h0 h1 h2 _ _ h3 h4
  have b0 := bounds_u64 h0
  have b1 := bounds_u64 h1
  have b2 := bounds_i64 h2
  have b4 := bounds_u8 h4
  obtain ⟨u, rfl⟩ := Int.eq_ofNat_of_zero_le b0.1
  obtain ⟨w, rfl⟩ := Int.eq_ofNat_of_zero_le b1.1
  obtain ⟨c, rfl⟩ := Int.eq_ofNat_of_zero_le b4.1
  have hu : u < 2 * 128 ^ 9 := Nat.lt_of_lt_of_le (show u < 18446744073709551616 by omega) (by decide)
  have hw : w < 18446744073709551616 := by omega
  obtain ⟨K0, e0⟩ := num_begun
  obtain ⟨K1, e1⟩ := put_ev u (by omega)
  obtain ⟨K2, e2⟩ := put_ev w hw
  have hEw := E_wf 9 u hu
  have hEp := E_pos 9 u
  have hEl := E_le 9 u
  obtain ⟨K3, e3⟩ := take_ev (E 9 u ++ l3) (fun x hx => by
    rcases List.mem_append.1 hx with hx | hx
    · exact hEw x hx
    · have := bounds_u8 (h3 x hx); omega)
  have hj : c % (E 9 u).length < (E 9 u).length := Nat.mod_lt _ hEp
  obtain ⟨K4, e4⟩ := take_ev ((E 9 u).take (c % (E 9 u).length)) (fun x hx => hEw x (List.mem_of_mem_take hx))
  have t3 : takeR (E 9 u ++ l3) = ((u : Int), ((E 9 u).length : Int), true) := by
    unfold takeR; rw [D_E 9 u true l3 hu (.inl rfl)]
  have t4 : takeR ((E 9 u).take (c % (E 9 u).length)) = (0, 0, false) := by
    unfold takeR; rw [D_cut 9 u true _ hj]
  rw [t3] at e3
  rw [t4] at e4
  dsimp only at e1 e2 e3 e4
  by_cases hl : (l3.length : Int) > 20
  · refine ⟨K0, ?_⟩
    unfold rabbetlaw2_NumBack.f
    rw [e0 K0 (Nat.le_refl _)]
    simp only [Option.bind_some, if_true]
    rw [if_pos hl]
  have hz : num_Zig.f a2 = some (zig a2) := by unfold num_Zig.f; rw [zig_eq a2 b2.1 b2.2]
  have zr := zig_range a2 b2.1 b2.2
  have hz2 : num_Zag.f (zig a2) = some a2 := by unfold num_Zag.f; rw [zag_eq _ zr.1 zr.2, zag_zig]
  have hz3 : num_Zag.f (u : Int) = some (zag u) := by unfold num_Zag.f; rw [zag_eq _ b0.1 b0.2]
  have zr3 := zag_range u b0.1 b0.2
  have hz4 : num_Zig.f (zag u) = some (u : Int) := by unfold num_Zig.f; rw [zig_eq _ zr3.1 zr3.2, zig_zag _ b0.1]
  have hmod : Int.tmod (wrap64 (c : Int)) ((E 9 u).length : Int) = ((c % (E 9 u).length : Nat) : Int) := by
    rw [show wrap64 (c : Int) = (c : Int) by unfold wrap64; omega]
    rfl
  have hm : w ≤ u → (E 9 w).length ≤ (E 9 u).length := E_mono 9 w u
  clear t3 t4 hu
  generalize E 9 w = bw at *
  generalize E 9 u = b at *
  obtain ⟨j, hjd⟩ : ∃ j, j = c % b.length := ⟨_, rfl⟩
  rw [← hjd] at hj e4 hmod
  obtain ⟨K, hK⟩ : ∃ K, K = K0 + K1 + K2 + K3 + K4 := ⟨_, rfl⟩
  refine ⟨K + 1, ?_⟩
  unfold rabbetlaw2_NumBack.f
  rw [e0 _ (by omega), e1 _ (by omega)]
  simp only [Option.bind_some, if_true]
  rw [if_neg hl, if_neg (by omega)]
  simp only [rabbetlaw2_NumBack.j0]
  rw [if_neg (by simp; omega)]
  simp only [Option.bind_some, List.nil_append, List.length_nil]
  rw [if_pos (by omega), if_pos (by omega), e3 _ (by omega)]
  simp only [Option.bind_some, hmod]
  rw [if_neg (by omega), if_pos (by omega), if_pos (by omega)]
  simp only [Int.toNat_natCast]
  rw [e4 _ (by omega)]
  simp only [Option.bind_some, if_true, hz, hz2, hz3, hz4, Bool.false_eq_true, if_false, beq_self_eq_true]
  rw [e2 _ (by omega)]
  simp only [Option.bind_some]
  by_cases hwu : (w : Int) > (u : Int)
  · rw [if_pos hwu]
  · rw [if_neg hwu, if_pos (by have := hm (by omega); omega)]
end Go.Proofs.YtbjliggjalnhgaaDoor.Pure
