/- RleRuns' plain law: of one value ever so often there are as many bytes as of one run. Conditions: none. -/
import Derived.Test.YtigldipjkejalaaDoorBKRleRuns
import Derived.Test.YtigldipjkejalaaDoorPRleRunsx7
import Derived.OpenShut
namespace Go.Proofs.YtigldipjkejalaaDoor.Pure
open Go.RowKit Go.Proofs.YtigldipjkejalaaDoor.PRleRuns Go.Proofs.YtigldipjkejalaaDoorW.PrintWords Go.Proofs.YtigldipjkejalaaDoorW.PrintLast Go.Proofs.YtigldipjkejalaaDoorW.PrintMore Go.Proofs.YtigldipjkejalaaDoor.MNum Go.Proofs.YtigldipjkejalaaDoor.BKRleRuns Go.Proofs.YtigldipjkejalaaDoor.BDRleRuns Go.Proofs.YtigldipjkejalaaDoor.BORleRuns Go.Proofs.YtigldipjkejalaaDoor.BWRleRuns
set_option linter.unusedVariables false
theorem rle_begun : Ev rabbetlaw6_begun.f true := Ev.of rabbetlaw6_begun.mono (k := 60) (by decide +kernel)
def V (v : Int) : S26 := ⟨2, v, (⟨#[]⟩ : ByteArray)⟩
theorem V_may (v : Int) : mayB (V v) = true := by
  unfold mayB value_May.f V
  dsimp only
  rw [if_neg (by decide), if_pos rfl, empty_str]
  rfl
theorem V_right (v : Int) (m : Nat) : rightB 2 (List.replicate m (V v)) = true := by
  unfold rightB
  rw [Bool.and_eq_true]
  refine ⟨rfl, List.all_eq_true.2 fun x hx => ?_⟩
  rw [(List.mem_replicate.1 hx).2]
  unfold okB
  rw [V_may]
  rfl
theorem lead_rep (v : S26) : ∀ m : Nat, lead v (List.replicate m v) = m
  | 0 => rfl
  | m + 1 => by
    have e : eqv v v = true := by simp [eqv]
    rw [List.replicate_succ, lead, if_pos e, lead_rep v m]
theorem enc_rep (v : S26) (m : Nat) : encR (m + 1) (List.replicate (m + 1) v) = E 9 (1 + m) ++ enc v := by
  rw [List.replicate_succ, encR, lead_rep, List.drop_eq_nil_of_le (by rw [List.length_replicate]; exact Nat.le_refl _)]
  cases m <;> simp [encR]
theorem E_two (n : Nat) (h : n < 128 ^ 2) : (E 9 n).length ≤ 2 := by
  have p : ∀ m : Nat, 2 ≤ m → n < 128 ^ m := fun m hm => Nat.lt_of_lt_of_le h (Nat.pow_le_pow_right (by decide) hm)
  rw [E_more 8 n (p 9 (by decide)), E_more 7 n (p 8 (by decide)), E_more 6 n (p 7 (by decide)), E_more 5 n (p 6 (by decide)), E_more 4 n (p 5 (by decide)), E_more 3 n (p 4 (by decide)), E_more 2 n (p 3 (by decide)), E_more 1 n h]
  exact E_le 1 n
theorem run_end (K : Nat) (h1 : 1 ≤ K) (hK : K ≤ 900) (v : Int) (hv : ok64 v) : Ev (fun k => rabbetlaw6_RleRuns.l0 k v (K : Int) (List.replicate K (V v)) (K : Int)) true := by
  obtain ⟨m, rfl⟩ : ∃ m, K = m + 1 := ⟨K - 1, by omega⟩
  have hok : ∀ n : Nat, ∀ x, x ∈ List.replicate n (V v) → ok64 x.f1 := fun n x hx => by rw [(List.mem_replicate.1 hx).2]; exact hv
  have hl : (List.replicate (m + 1) (V v)).length = m + 1 := List.length_replicate
  have hp := put_any 2 (List.replicate (m + 1) (V v)) (hok _) (by omega)
  have hp1 := put_any 2 (List.replicate 1 (V v)) (hok _) (by simp)
  have hwb := encR_wf (List.replicate (m + 1) (V v)).length (List.replicate (m + 1) (V v)) (hok _) (by omega)
  have ht := take_any 2 ((List.replicate (m + 1) (V v)).length : Int) _ hwb
  rw [take_back 2 _ (V_right v (m + 1)) (hok _) (by omega)] at ht
  rw [put_is 2 _ (V_right v (m + 1))] at hp
  rw [put_is 2 _ (V_right v 1)] at hp1
  have h1l : (List.replicate 1 (V v)).length = 0 + 1 := rfl
  rw [h1l, enc_rep (V v) 0] at hp1
  rw [hl, enc_rep (V v) m] at hp ht
  have hE := E_two (1 + m) (by omega)
  have hEp := E_pos 9 (1 + 0)
  have he := enc_le (V v) (by show (0 : Nat) ≤ 40; omega)
  have hE1 := E_le 9 (1 + 0)
  have htk : (List.replicate (m + 1) (V v)).take 1 = List.replicate 1 (V v) := by rw [List.replicate_succ, List.take_succ_cons]; rfl
  have hrd : rd_T26 (List.replicate (m + 1) (V v)) ((m : Nat) : Int) = V v := by simp [rd_T26, List.getD_eq_getElem?_getD, List.getElem?_replicate]
  have a1 : ((E 9 (1 + m) ++ enc (V v)).length : Int) ≤ wrap64 (((E 9 (1 + 0) ++ enc (V v)).length : Int) + 1) := by
    rw [List.length_append, List.length_append]
    unfold wrap64
    omega
  have a2 : wrap64 (((m + 1 : Nat) : Int) - 1) = (m : Int) := by unfold wrap64; omega
  have a3 : (0 : Int) ≤ (m : Int) := by omega
  have a4 : (m : Int) < ((List.replicate (m + 1) (V v)).length : Int) := by rw [hl]; omega
  have a5 : ((List.replicate (m + 1) (V v)).length : Int) = ((m + 1 : Nat) : Int) := by rw [hl]
  have a6 : (1 : Int) ≤ ((List.replicate (m + 1) (V v)).length : Int) := by rw [hl]; omega
  refine Ev.step (f := fun k => (rle_Put.f k 2 (List.replicate (m + 1) (V v))).bind _) (fun k => by simp only [rabbetlaw6_RleRuns.l0]; rw [if_neg (by omega)]) (Ev.bind hp ?_)
  refine Ev.congr (f := fun k => (rle_Put.f k 2 (List.replicate 1 (V v))).bind _) (fun k => by rw [if_pos a6, htk]) (Ev.bind hp1 (Ev.bind ht (Ev.congr (f := fun _ => some true) (fun k => ?_) (Ev.now _))))
  dsimp only
  rw [if_pos rfl, if_pos rfl, if_pos rfl, if_pos a1, if_pos a5, a2, if_pos a3, if_pos a4, hrd]
  show some (v == v) = some true
  rw [beq_self_eq_true]
theorem run_loop (K : Nat) (h1 : 1 ≤ K) (hK : K ≤ 900) (v : Int) (hv : ok64 v) (d : Nat) : ∀ i : Nat, i + d = K → Ev (fun k => rabbetlaw6_RleRuns.l0 k v (K : Int) (List.replicate i (V v)) (i : Int)) true := by
  induction d with
  | zero => intro i hi; obtain rfl : i = K := by omega
            exact run_end i h1 hK v hv
  | succ d ih =>
    intro i hi
    have hih := ih (i + 1) (by omega)
    have e : List.replicate i (V v) ++ [(⟨2, v, (⟨#[]⟩ : ByteArray)⟩ : S26)] = List.replicate (i + 1) (V v) := List.replicate_succ'.symm
    have hw : wrap64 ((i : Int) + 1) = ((i + 1 : Nat) : Int) := by unfold wrap64; omega
    refine Ev.step (fun k => ?_) hih
    simp only [rabbetlaw6_RleRuns.l0]
    rw [if_pos (by omega), if_pos (by rw [List.length_replicate]; omega), e, hw]
theorem RleRuns : rabbetlaw6_RleRuns.Pure := by
  intro n v hn hv
  have b0 := bounds_u16 hn
  have b1 := bounds_i64 hv
  obtain ⟨c, rfl⟩ := Int.eq_ofNat_of_zero_le b0.1
  have hk : wrap64 (1 + (wrap64 (Int.tmod (c : Int) 900))) = ((1 + c % 900 : Nat) : Int) := by
    rw [show Int.tmod (c : Int) 900 = ((c % 900 : Nat) : Int) from rfl]
    unfold wrap64; omega
  have h := run_loop (1 + c % 900) (by omega) (by omega) v b1 (1 + c % 900) 0 (by omega)
  refine Ev.rounds (g := fun k => rabbetlaw6_RleRuns.f k (c : Int) v) ?_
  refine Ev.congr (f := fun k => (rabbetlaw6_begun.f k).bind _) (fun k => by unfold rabbetlaw6_RleRuns.f; rfl) (Ev.bind rle_begun ?_)
  refine Ev.congr (fun k => ?_) h
  rw [if_pos rfl, hk]
  rfl
end Go.Proofs.YtigldipjkejalaaDoor.Pure
