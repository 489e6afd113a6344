/- PackBack's plain law: values come back, cut off or with a byte more they do not. Conditions: none. -/
import Derived.Test.YtigldipjkejalaaDoorBDPackBack
import Derived.Test.YtigldipjkejalaaDoorPPackBackx8
import Derived.OpenShut
namespace Go.Proofs.YtigldipjkejalaaDoor.Pure
open Go.RowKit Go.Proofs.YtigldipjkejalaaDoor.PPackBack Go.Proofs.YtigldipjkejalaaDoorW.PrintWords Go.Proofs.YtigldipjkejalaaDoorW.PrintLast Go.Proofs.YtigldipjkejalaaDoorW.PrintMore Go.Proofs.YtigldipjkejalaaDoor.BDPackBack Go.Proofs.YtigldipjkejalaaDoor.BAPackBack
set_option linter.unusedVariables false
theorem pack_begun : Ev rabbetlaw8_begun.f true := Ev.of rabbetlaw8_begun.mono (k := 100) (by decide +kernel)
theorem PackBack : rabbetlaw8_PackBack.Pure := by
  intro a0 p a2 a3 h0 _ _ hp h2 h3
  have b0 := bounds_u8 h0
  have b2 := bounds_u16 h2
  have b3 := bounds_u8 h3
  obtain ⟨c, rfl⟩ := Int.eq_ofNat_of_zero_le b0.1
  obtain ⟨cut, rfl⟩ := Int.eq_ofNat_of_zero_le b2.1
  obtain ⟨K0, e0⟩ := pack_begun
  have hwp : wfb p := fun x hx => by have := bounds_u8 (hp x hx); omega
  by_cases hlen : (p.length : Int) > 60
  · refine ⟨K0, ?_⟩
    unfold rabbetlaw8_PackBack.f
    rw [e0 K0 (Nat.le_refl _)]
    simp only [Option.bind_some, if_true]
    rw [if_pos hlen]
  obtain ⟨t, ht⟩ : ∃ t : Nat, t = 1 + c % 4 := ⟨_, rfl⟩
  have htw : ∀ _ : Unit, wrap64 (1 + (wrap64 (Int.tmod (c : Int) 4))) = (t : Int) := by
    intro _
    rw [show Int.tmod (c : Int) 4 = ((c % 4 : Nat) : Int) from rfl]
    unfold wrap64; omega
  have ht4 : (t : Int) = 1 ∨ (t : Int) = 2 ∨ (t : Int) = 3 ∨ (t : Int) = 4 := by omega
  obtain ⟨l, hl30, hg, K1, e1⟩ := some_ev (t : Int) ht4 p hwp (by omega)
  dsimp only at e1
  by_cases htt : (t : Int) = 4
  · obtain ⟨K2, e2⟩ := put_text l
    dsimp only at e2
    obtain ⟨K, hK⟩ : ∃ K, K = K0 + K1 + K2 := ⟨_, rfl⟩
    refine ⟨K + 2, ?_⟩
    unfold rabbetlaw8_PackBack.f
    rw [e0 _ (by omega)]
    simp only [Option.bind_some, if_true, htw ()]
    rw [htt] at e1 ⊢
    rw [if_neg hlen, e1 _ (by omega), Option.bind_some, e2 _ (by omega), Option.bind_some, if_pos rfl, if_neg (by simp)]
    rfl
  have ht3 : (t : Int) = 1 ∨ (t : Int) = 2 ∨ (t : Int) = 3 := by omega
  have hok : ∀ v, v ∈ l → ok64 v.f1 := fun v hv => (hg v hv).2.1
  obtain ⟨K2, e2⟩ := put_all (t : Int) ht3 l hg (by omega)
  obtain ⟨K3, e3⟩ := take_all (t : Int) ht3 l hg (by omega)
  obtain ⟨K4, e4⟩ := take_long (t : Int) ht3 l hg (by omega) a3 (by omega) (by omega)
  obtain ⟨K5, e5⟩ := same_ev l (by omega)
  have hle := encK_le l hok (by omega)
  have hsh := take_short (t : Int) ht3 l hg (by omega) (cut % (encK l).length)
  generalize encK l = b at *
  dsimp only at e2 e3 e4 e5
  by_cases hb : b.length = 0
  · obtain ⟨K, hK⟩ : ∃ K, K = K0 + K1 + K2 + K3 + K4 + K5 := ⟨_, rfl⟩
    refine ⟨K + 2, ?_⟩
    unfold rabbetlaw8_PackBack.f
    rw [e0 _ (by omega)]
    simp only [Option.bind_some, if_true, htw ()]
    rw [if_neg hlen, e1 _ (by omega), Option.bind_some, e2 _ (by omega), Option.bind_some, if_neg htt, e3 _ (by omega), Option.bind_some]
    simp only [if_true]
    rw [e5 _ (by omega), Option.bind_some]
    simp only [rabbetlaw8_PackBack.j0, Bool.not_true, Bool.false_eq_true, if_false, Option.bind_some, List.nil_append, List.length_nil]
    rw [if_pos (by omega), if_pos (by omega), e4 _ (by omega), Option.bind_some, if_neg (by simp), if_pos (by omega)]
    rfl
  · obtain ⟨j, hj⟩ : ∃ j, j = cut % b.length := ⟨_, rfl⟩
    have hjl : j < b.length := by rw [hj]; exact Nat.mod_lt _ (by omega)
    have hmod : ∀ _ : Unit, Int.tmod (wrap64 (cut : Int)) (b.length : Int) = (j : Int) := by
      intro _
      rw [show wrap64 (cut : Int) = (cut : Int) by unfold wrap64; omega, hj]
      rfl
    rw [← hj] at hsh
    obtain ⟨K6, e6⟩ := hsh hjl
    dsimp only at e6
    clear hj hsh
    obtain ⟨K, hK⟩ : ∃ K, K = K0 + K1 + K2 + K3 + K4 + K5 + K6 := ⟨_, rfl⟩
    refine ⟨K + 2, ?_⟩
    unfold rabbetlaw8_PackBack.f
    rw [e0 _ (by omega)]
    simp only [Option.bind_some, if_true, htw ()]
    rw [if_neg hlen, e1 _ (by omega), Option.bind_some, e2 _ (by omega), Option.bind_some, if_neg htt, e3 _ (by omega), Option.bind_some]
    simp only [if_true]
    rw [e5 _ (by omega), Option.bind_some]
    simp only [rabbetlaw8_PackBack.j0, Bool.not_true, Bool.false_eq_true, if_false, Option.bind_some, List.nil_append, List.length_nil, hmod ()]
    rw [if_pos (by omega), if_pos (by omega), e4 _ (by omega), Option.bind_some, if_neg (by simp), if_neg (by omega), if_pos (by omega), if_pos (by omega), Int.toNat_natCast, e6 _ (by omega)]
    rfl
end Go.Proofs.YtigldipjkejalaaDoor.Pure
