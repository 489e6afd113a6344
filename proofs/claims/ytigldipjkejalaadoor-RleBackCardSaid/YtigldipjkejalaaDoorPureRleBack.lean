/- RleBack's plain law: values come back, cut off or with a byte more they do not. Conditions: none. -/
import Derived.Test.YtigldipjkejalaaDoorBKRleBack
import Derived.Test.YtigldipjkejalaaDoorBARleBack
import Derived.Test.YtigldipjkejalaaDoorPRleBackx9
import Derived.OpenShut
namespace Go.Proofs.YtigldipjkejalaaDoor.Pure
open Go.RowKit Go.Proofs.YtigldipjkejalaaDoor.PRleBack Go.Proofs.YtigldipjkejalaaDoorW.PrintWords Go.Proofs.YtigldipjkejalaaDoorW.PrintLast Go.Proofs.YtigldipjkejalaaDoorW.PrintMore Go.Proofs.YtigldipjkejalaaDoor.BKRleBack Go.Proofs.YtigldipjkejalaaDoor.BDRleBack Go.Proofs.YtigldipjkejalaaDoor.BWRleBack
set_option linter.unusedVariables false
theorem rle_begun : Ev rabbetlaw6_begun.f true := Ev.of rabbetlaw6_begun.mono (k := 60) (by decide +kernel)
theorem good_right (t : Int) (ht : t = 1 ∨ t = 2 ∨ t = 3 ∨ t = 4) (l : List S26) (hg : ∀ v, v ∈ l → BARleBack.good t v) : rightB t l = true := by
  unfold rightB
  rw [Bool.and_eq_true]
  refine ⟨decide_eq_true (by omega), List.all_eq_true.2 fun v hv => ?_⟩
  have h := hg v hv
  unfold okB mayB
  rw [BARleBack.may_ok t ht v h, h.1]
  simp
theorem RleBack : rabbetlaw6_RleBack.Pure := by
  intro a0 p a2 a3 h0 _ _ hp h2 h3
  have b0 := bounds_u8 h0
  have b2 := bounds_u16 h2
  have b3 := bounds_u8 h3
  obtain ⟨c, rfl⟩ := Int.eq_ofNat_of_zero_le b0.1
  obtain ⟨cut, rfl⟩ := Int.eq_ofNat_of_zero_le b2.1
  obtain ⟨K0, e0⟩ := rle_begun
  have hwp : wfb p := fun x hx => by have := bounds_u8 (hp x hx); omega
  by_cases hlen : (p.length : Int) > 60
  · refine ⟨K0, ?_⟩
    unfold rabbetlaw6_RleBack.f
    rw [e0 K0 (Nat.le_refl _)]
    simp only [Option.bind_some, if_true]
    rw [if_pos hlen]
  obtain ⟨t, ht⟩ : ∃ t : Nat, t = 1 + c % 4 := ⟨_, rfl⟩
  have htw : ∀ _ : Unit, wrap64 (1 + (wrap64 (Int.tmod (c : Int) 4))) = (t : Int) := by
    intro _
    rw [show Int.tmod (c : Int) 4 = ((c % 4 : Nat) : Int) from rfl]
    unfold wrap64; omega
  have ht4 : (t : Int) = 1 ∨ (t : Int) = 2 ∨ (t : Int) = 3 ∨ (t : Int) = 4 := by omega
  obtain ⟨l, hl30, hg, K1, e1⟩ := BARleBack.some_ev (t : Int) ht4 p hwp (by omega)
  have hr := good_right (t : Int) ht4 l hg
  have hok : ∀ v, v ∈ l → ok64 v.f1 := fun v hv => (hg v hv).2.1
  have hn : l.length ≤ 1000 := by omega
  have hsz : ∀ v, v ∈ l → v.f2.size ≤ 40 := fun v hv => Nat.le_trans (right_okv hr v hv).2.2 (by decide)
  have hwb : wfb (encR l.length l) := encR_wf _ l hok hn
  obtain ⟨K2, e2⟩ := put_any (t : Int) l hok hn
  obtain ⟨K3, e3⟩ := take_any (t : Int) (l.length : Int) (encR l.length l) hwb
  obtain ⟨K4, e4⟩ := take_any (t : Int) (l.length : Int) (encR l.length l ++ [a3]) (wfb_app hwb (fun x hx => by simp at hx; omega))
  obtain ⟨K5, e5⟩ := same_ev l (by omega)
  rw [put_is _ l hr] at e2
  rw [take_back _ l hr hok hn] at e3
  rw [take_long _ l hr hok hn] at e4
  have hle : (encR l.length l).length ≤ 100000 := by have := encR_len l.length l hsz; omega
  have hsh : cut % (encR l.length l).length < (encR l.length l).length → Ev (fun k => rle_Take.f k (t : Int) (l.length : Int) ((encR l.length l).take (cut % (encR l.length l).length))) ([], false) := fun h => by
    have := take_any (t : Int) (l.length : Int) ((encR l.length l).take (cut % (encR l.length l).length)) (fun x hx => hwb x (List.mem_of_mem_take hx))
    rw [take_short _ l hr hok hn _ h] at this
    exact this
  generalize encR l.length l = b at *
  dsimp only at e1 e2 e3 e4 e5
  by_cases hb : b.length = 0
  · obtain ⟨K, hK⟩ : ∃ K, K = K0 + K1 + K2 + K3 + K4 + K5 := ⟨_, rfl⟩
    refine ⟨K + 2, ?_⟩
    unfold rabbetlaw6_RleBack.f
    rw [e0 _ (by omega)]
    simp only [Option.bind_some, if_true, htw ()]
    rw [if_neg hlen, e1 _ (by omega), Option.bind_some, e2 _ (by omega), Option.bind_some, e3 _ (by omega), Option.bind_some]
    simp only [if_true]
    rw [e5 _ (by omega), Option.bind_some]
    simp only [rabbetlaw6_RleBack.j0, Bool.not_true, Bool.false_eq_true, if_false, Option.bind_some, List.nil_append, List.length_nil]
    rw [if_pos (by omega), if_pos (by omega), e4 _ (by omega), Option.bind_some, if_neg (by simp), if_pos (by omega)]
    rfl
  · obtain ⟨j, hj⟩ : ∃ j, j = cut % b.length := ⟨_, rfl⟩
    have hjl : j < b.length := by rw [hj]; exact Nat.mod_lt _ (by omega)
    have hmod : ∀ _ : Unit, Int.tmod (wrap64 (cut : Int)) (b.length : Int) = (j : Int) := by
      intro _
      rw [show wrap64 (cut : Int) = (cut : Int) by unfold wrap64; omega, hj]
      rfl
    rw [← hj] at hsh
    obtain ⟨K6, e6⟩ := hsh hjl
    dsimp only at e6
    clear hj hsh
    obtain ⟨K, hK⟩ : ∃ K, K = K0 + K1 + K2 + K3 + K4 + K5 + K6 := ⟨_, rfl⟩
    refine ⟨K + 2, ?_⟩
    unfold rabbetlaw6_RleBack.f
    rw [e0 _ (by omega)]
    simp only [Option.bind_some, if_true, htw ()]
    rw [if_neg hlen, e1 _ (by omega), Option.bind_some, e2 _ (by omega), Option.bind_some, e3 _ (by omega), Option.bind_some]
    simp only [if_true]
    rw [e5 _ (by omega), Option.bind_some]
    simp only [rabbetlaw6_RleBack.j0, Bool.not_true, Bool.false_eq_true, if_false, Option.bind_some, List.nil_append, List.length_nil, hmod ()]
    rw [if_pos (by omega), if_pos (by omega), e4 _ (by omega), Option.bind_some, if_neg (by simp), if_neg (by omega), if_pos (by omega), if_pos (by omega), Int.toNat_natCast, e6 _ (by omega)]
    rfl
end Go.Proofs.YtigldipjkejalaaDoor.Pure
