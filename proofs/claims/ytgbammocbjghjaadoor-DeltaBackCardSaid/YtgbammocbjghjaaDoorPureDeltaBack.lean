/- DeltaBack's plain law: values come back, cut off or with a byte more they do not. Conditions: none. -/
import Derived.Test.YtgbammocbjghjaaDoorBSDeltaBack
import Derived.Test.YtgbammocbjghjaaDoorPDeltaBackx6
import Derived.OpenShut
namespace Go.Proofs.YtgbammocbjghjaaDoor.Pure
open Go.RowKit Go.Proofs.YtgbammocbjghjaaDoor.PDeltaBack Go.Proofs.YtgbammocbjghjaaDoorW.PrintWords Go.Proofs.YtgbammocbjghjaaDoorW.PrintLast Go.Proofs.YtgbammocbjghjaaDoorW.PrintMore Go.Proofs.YtgbammocbjghjaaDoor.BDDeltaBack Go.Proofs.YtgbammocbjghjaaDoor.BSDeltaBack
set_option linter.unusedVariables false
theorem delta_begun : Ev rabbetlaw9_begun.f true := by
  have hg : ∀ v, v ∈ ([(⟨2, 5, (⟨#[]⟩ : ByteArray)⟩ : S26), (⟨2, 5, (⟨#[]⟩ : ByteArray)⟩ : S26)] : List (S26)) → good 2 v := by
    intro v hv
    have : v = (⟨2, 5, (⟨#[]⟩ : ByteArray)⟩ : S26) := by simpa using hv
    subst this
    exact ⟨rfl, rfl, ⟨by decide, by decide⟩, fun h => by cases h⟩
  obtain ⟨K2, e2⟩ := put_all 2 (.inr rfl) _ hg (by decide)
  obtain ⟨K3, e3⟩ := take_all 2 (.inr rfl) _ hg (by decide)
  obtain ⟨K4, e4⟩ : Ev (fun k => delta_Put.f k 2 ([(⟨0, 0, (⟨#[]⟩ : ByteArray)⟩ : S26)] : List (S26))) ([], false) := Ev.of (fun k => delta_Put.mono _ _ k) (k := 10) (by decide +kernel)
  have hpos : 0 < (encD ([(⟨2, 5, (⟨#[]⟩ : ByteArray)⟩ : S26), (⟨2, 5, (⟨#[]⟩ : ByteArray)⟩ : S26)] : List (S26)) 0).length := by
    have := enc1_pos 5 0
    simp only [encD, List.length_append]
    omega
  dsimp only at e2 e3 e4
  generalize encD ([(⟨2, 5, (⟨#[]⟩ : ByteArray)⟩ : S26), (⟨2, 5, (⟨#[]⟩ : ByteArray)⟩ : S26)] : List (S26)) 0 = b at *
  refine ⟨K2 + K3 + K4, fun k hk => ?_⟩
  have e3' := e3 k (by omega)
  rw [show ((([(⟨2, 5, (⟨#[]⟩ : ByteArray)⟩ : S26), (⟨2, 5, (⟨#[]⟩ : ByteArray)⟩ : S26)] : List (S26)).length : Nat) : Int) = 2 from rfl] at e3'
  unfold rabbetlaw9_begun.f
  rw [e2 k (by omega), Option.bind_some]
  dsimp only
  rw [e3', Option.bind_some, e4 k (by omega), Option.bind_some]
  dsimp only
  rw [if_pos rfl, if_pos (by omega), if_pos rfl, if_pos (by decide), if_pos (by decide), if_pos (by decide)]
  rfl
theorem DeltaBack : rabbetlaw9_DeltaBack.Pure := by
  intro a0 p a2 a3 h0 _ _ hp h2 h3
  have b0 := bounds_u8 h0
  have b2 := bounds_u16 h2
  have b3 := bounds_u8 h3
  obtain ⟨c, rfl⟩ := Int.eq_ofNat_of_zero_le b0.1
  obtain ⟨cut, rfl⟩ := Int.eq_ofNat_of_zero_le b2.1
  obtain ⟨K0, e0⟩ := delta_begun
  have hwp : wfb p := fun x hx => by have := bounds_u8 (hp x hx); omega
  by_cases hlen : (p.length : Int) > 60
  · refine ⟨K0, ?_⟩
    unfold rabbetlaw9_DeltaBack.f
    rw [e0 K0 (Nat.le_refl _)]
    simp only [Option.bind_some, if_true]
    rw [if_pos hlen]
  obtain ⟨t, ht⟩ : ∃ t : Nat, t = 1 + c % 4 := ⟨_, rfl⟩
  have htw : ∀ _ : Unit, wrap64 (1 + (wrap64 (Int.tmod (c : Int) 4))) = (t : Int) := by
    intro _
    rw [show Int.tmod (c : Int) 4 = ((c % 4 : Nat) : Int) from rfl]
    unfold wrap64; omega
  have ht4 : (t : Int) = 1 ∨ (t : Int) = 2 ∨ (t : Int) = 3 ∨ (t : Int) = 4 := by omega
  obtain ⟨l, hl30, hlf, K1, e1⟩ := some_ev (t : Int) ht4 p hwp (by omega)
  by_cases h12 : (t : Int) = 1 ∨ (t : Int) = 2
  · have hg : ∀ v, v ∈ l → good (t : Int) v := fun v hv => hlf v hv h12
    have h4n : ¬ (t : Int) = 4 := by omega
    have h3n : ((t : Int) == 3) = false := by simp; omega
    obtain ⟨K2, e2⟩ := put_all (t : Int) h12 l hg (by omega)
    obtain ⟨K3, e3⟩ := take_all (t : Int) h12 l hg (by omega)
    obtain ⟨K4, e4⟩ := take_long (t : Int) h12 l hg (by omega) a3 (by omega) (by omega)
    obtain ⟨K5, e5⟩ := same_ev l (by omega)
    have hle := encD_le l 0
    have hsh := take_short (t : Int) l (by omega) (cut % (encD l 0).length)
    generalize encD l 0 = b at *
    dsimp only at e1 e2 e3 e4 e5
    by_cases hb : b.length = 0
    · obtain ⟨K, hK⟩ : ∃ K, K = K0 + K1 + K2 + K3 + K4 + K5 := ⟨_, rfl⟩
      refine ⟨K + 2, ?_⟩
      unfold rabbetlaw9_DeltaBack.f
      rw [e0 _ (by omega)]
      simp only [Option.bind_some, if_true, htw ()]
      rw [if_neg hlen, e1 _ (by omega), Option.bind_some, e2 _ (by omega), Option.bind_some, if_neg h4n, h3n]
      simp only [rabbetlaw9_DeltaBack.j0, Bool.false_eq_true, if_false]
      rw [e3 _ (by omega), Option.bind_some]
      simp only [if_true]
      rw [e5 _ (by omega), Option.bind_some]
      simp only [rabbetlaw9_DeltaBack.j1, Bool.not_true, Bool.false_eq_true, if_false, Option.bind_some, List.nil_append, List.length_nil]
      rw [if_pos (by omega), if_pos (by omega), e4 _ (by omega), Option.bind_some, if_neg (by simp), if_pos (by omega)]
      rfl
    · obtain ⟨j, hj⟩ : ∃ j, j = cut % b.length := ⟨_, rfl⟩
      have hjl : j < b.length := by rw [hj]; exact Nat.mod_lt _ (by omega)
      have hmod : ∀ _ : Unit, Int.tmod (wrap64 (cut : Int)) (b.length : Int) = (j : Int) := by
        intro _
        rw [show wrap64 (cut : Int) = (cut : Int) by unfold wrap64; omega, hj]
        rfl
      rw [← hj] at hsh
      obtain ⟨K6, e6⟩ := hsh hjl
      dsimp only at e6
      clear hj hsh
      obtain ⟨K, hK⟩ : ∃ K, K = K0 + K1 + K2 + K3 + K4 + K5 + K6 := ⟨_, rfl⟩
      refine ⟨K + 2, ?_⟩
      unfold rabbetlaw9_DeltaBack.f
      rw [e0 _ (by omega)]
      simp only [Option.bind_some, if_true, htw ()]
      rw [if_neg hlen, e1 _ (by omega), Option.bind_some, e2 _ (by omega), Option.bind_some, if_neg h4n, h3n]
      simp only [rabbetlaw9_DeltaBack.j0, Bool.false_eq_true, if_false]
      rw [e3 _ (by omega), Option.bind_some]
      simp only [if_true]
      rw [e5 _ (by omega), Option.bind_some]
      simp only [rabbetlaw9_DeltaBack.j1, Bool.not_true, Bool.false_eq_true, if_false, Option.bind_some, List.nil_append, List.length_nil, hmod ()]
      rw [if_pos (by omega), if_pos (by omega), e4 _ (by omega), Option.bind_some, if_neg (by simp), if_neg (by omega), if_pos (by omega), if_pos (by omega), Int.toNat_natCast, e6 _ (by omega)]
      rfl
  · obtain ⟨K2, e2⟩ := put_none (t : Int) (by omega) (by omega) l
    dsimp only at e1 e2
    obtain ⟨K, hK⟩ : ∃ K, K = K0 + K1 + K2 := ⟨_, rfl⟩
    refine ⟨K + 1, ?_⟩
    unfold rabbetlaw9_DeltaBack.f
    rw [e0 _ (by omega)]
    simp only [Option.bind_some, if_true, htw ()]
    rw [if_neg hlen, e1 _ (by omega), Option.bind_some, e2 _ (by omega), Option.bind_some]
    by_cases h4 : (t : Int) = 4
    · rw [if_pos h4]
      simp [rabbetlaw9_DeltaBack.j0]
    · rw [if_neg h4, show ((t : Int) == 3) = true by simp; omega]
      simp [rabbetlaw9_DeltaBack.j0]
end Go.Proofs.YtgbammocbjghjaaDoor.Pure
