/- DeltaEven's plain law: numbers that rise by as much each have as many bytes each, but for the first. Conditions: none. -/
import Derived.Test.YtgbammocbjghjaaDoorBDeltaEven
import Derived.Test.YtgbammocbjghjaaDoorPDeltaEvenx4
import Derived.OpenShut
namespace Go.Proofs.YtgbammocbjghjaaDoor.Pure
open Go.RowKit Go.Proofs.YtgbammocbjghjaaDoor.PDeltaEven Go.Proofs.YtgbammocbjghjaaDoorW.PrintWords Go.Proofs.YtgbammocbjghjaaDoorW.PrintLast Go.Proofs.YtgbammocbjghjaaDoorW.PrintMore Go.Proofs.YtgbammocbjghjaaDoor.BDDeltaEven Go.Proofs.YtgbammocbjghjaaDoor.MNum Go.Proofs.YtgbammocbjghjaaDoor.MStr
set_option linter.unusedVariables false
theorem delta_begun : Ev rabbetlaw9_begun.f true := Ev.of rabbetlaw9_begun.mono (k := 60) (by decide +kernel)
def vals (m : Int) : Nat → Int → List S26
  | 0, _ => []
  | n + 1, x => (⟨2, x, (⟨#[]⟩ : ByteArray)⟩ : S26) :: vals m n (x + m)
def rep (s : List Int) : Nat → List Int
  | 0 => []
  | n + 1 => s ++ rep s n
theorem vals_length (m : Int) (n : Nat) : ∀ x, (vals m n x).length = n := by
  induction n with
  | zero => intro x; rfl
  | succ n ih => intro x; simp only [vals, List.length_cons, ih]
theorem vals_more (m : Int) (n : Nat) : ∀ x, vals m n x ++ [(⟨2, x + (n : Int) * m, (⟨#[]⟩ : ByteArray)⟩ : S26)] = vals m (n + 1) x := by
  induction n with
  | zero => intro x; simp [vals]
  | succ n ih =>
    intro x
    have h := ih (x + m)
    have e : x + m + (n : Int) * m = x + ((n + 1 : Nat) : Int) * m := by
      rw [show ((n + 1 : Nat) : Int) = (n : Int) + 1 by omega, Int.add_mul]; omega
    rw [e] at h
    show (⟨2, x, (⟨#[]⟩ : ByteArray)⟩ : S26) :: (vals m n (x + m) ++ _) = _
    rw [h]
    rfl
theorem vals_good (m : Int) (hm : -32768 ≤ m ∧ m ≤ 32767) (n : Nat) : ∀ x : Int, n ≤ 100 → -4000000000 + 40000 * (n : Int) ≤ x → x ≤ 4000000000 - 40000 * (n : Int) → ∀ v, v ∈ vals m n x → good 2 v := by
  induction n with
  | zero => intro x _ _ _ v hv; simp [vals] at hv
  | succ n ih =>
    intro x hn h1 h2 v hv
    rcases List.mem_cons.1 hv with rfl | hv
    · exact ⟨rfl, rfl, ⟨by dsimp only; omega, by dsimp only; omega⟩, (fun h => by cases h)⟩
    · exact ih (x + m) (by omega) (by omega) (by omega) v hv
theorem encD_vals (m : Int) (hm : -32768 ≤ m ∧ m ≤ 32767) (n : Nat) : ∀ x : Int, encD (vals m n (x + m)) x = rep (E 9 (zig m).toNat) n := by
  induction n with
  | zero => intro x; rfl
  | succ n ih =>
    intro x
    have hd : dif (x + m) x = m := by unfold dif wrap64; omega
    show enc1 (x + m) x ++ encD (vals m n (x + m + m)) (x + m) = E 9 (zig m).toNat ++ rep (E 9 (zig m).toNat) n
    rw [ih (x + m)]
    unfold enc1
    rw [hd]
theorem rep_length (s : List Int) (n : Nat) : (rep s n).length = n * s.length := by
  induction n with
  | zero => simp [rep]
  | succ n ih => simp only [rep, List.length_append, ih]; rw [Nat.add_mul]; omega
theorem rep_end (s : List Int) (n : Nat) : rep s (n + 1) = rep s n ++ s := by
  induction n with
  | zero => simp [rep]
  | succ n ih =>
    show s ++ rep s (n + 1) = (s ++ rep s n) ++ s
    rw [ih, List.append_assoc]
theorem take_one (m : Int) (n : Nat) (x : Int) : (vals m (n + 2) x).take 1 = vals m 1 x := rfl
theorem take_two (m : Int) (n : Nat) (x : Int) : (vals m (n + 2) x).take 2 = vals m 2 x := rfl
theorem build (a m : Int) (ha : -2147483648 ≤ a ∧ a ≤ 2147483647) (hm : -32768 ≤ m ∧ m ≤ 32767) (K : Nat) (hK : K ≤ 100) (r : Bool) (h : Ev (fun k => rabbetlaw9_DeltaEven.l0 k a m (K : Int) (vals m K a) (K : Int)) r) (d : Nat) : ∀ i : Nat, i + d = K → Ev (fun k => rabbetlaw9_DeltaEven.l0 k a m (K : Int) (vals m i a) (i : Int)) r := by
  induction d with
  | zero =>
    intro i hi
    obtain rfl : i = K := by omega
    exact h
  | succ d ih =>
    intro i hi
    refine Ev.step (fun k => ?_) (ih (i + 1) (by omega))
    simp only [rabbetlaw9_DeltaEven.l0]
    have h1 : (i : Int) * m ≤ (i : Int) * 32767 := Int.mul_le_mul_of_nonneg_left (by omega) (by omega)
    have h2 : (i : Int) * (-32768) ≤ (i : Int) * m := Int.mul_le_mul_of_nonneg_left (by omega) (by omega)
    have e0 : wrap64 m = m := by unfold wrap64; omega
    have e1 : wrap64 a = a := by unfold wrap64; omega
    rw [e0, e1]
    have e2 : wrap64 ((i : Int) * m) = (i : Int) * m := by
      generalize (i : Int) * m = z at *
      unfold wrap64; omega
    have e3 : wrap64 (a + (i : Int) * m) = a + (i : Int) * m := by
      generalize (i : Int) * m = z at *
      unfold wrap64; omega
    rw [if_pos (by omega), if_pos (by rw [vals_length]; omega), e2, e3, vals_more, show wrap64 ((i : Int) + 1) = ((i + 1 : Nat) : Int) by unfold wrap64; omega]
theorem a_small (z : Nat) (h : z ≤ 100000) : wrap64 ((z : Nat) : Int) = (z : Int) := by unfold wrap64; omega
theorem a_sub (a s : Nat) (ha : a ≤ 1000) (hs : s ≤ 1000) : wrap64 (((a + s : Nat) : Int) - (a : Int)) = (s : Int) := by unfold wrap64; omega
theorem a_pred (n : Nat) (hn : n ≤ 1000) : wrap64 (((n + 2 : Nat) : Int) - 1) = ((n + 1 : Nat) : Int) := by unfold wrap64; omega
theorem a_back (a s n : Nat) (ha : a ≤ 1000) (hs : s ≤ 10) (hn : n ≤ 100) : wrap64 (((a + (n + 1) * s : Nat) : Int) - (s : Int)) = ((a + n * s : Nat) : Int) := by
  have h : n * s ≤ 1000 := Nat.mul_le_mul hn hs
  rw [Nat.add_mul]
  generalize n * s = z at *
  unfold wrap64; omega
theorem a_two (a s n : Nat) : ((a + s : Nat) : Int) ≤ ((a + (n + 1) * s : Nat) : Int) := by rw [Nat.add_mul]; omega
theorem a_three (a s n : Nat) : ((a + n * s : Nat) : Int) ≤ ((a + (n + 1) * s : Nat) : Int) := by rw [Nat.add_mul]; omega
theorem a_four (a s : Nat) : (a : Int) ≤ ((a + s : Nat) : Int) := by omega
theorem a_less (a s : Nat) (h : 0 < s) : ¬ ((a + s : Nat) : Int) ≤ (a : Int) := by omega
theorem mul_small (n s : Nat) (hn : n ≤ 100) (hs : s ≤ 10) : n * s ≤ 1000 := Nat.mul_le_mul hn hs
theorem fin_ev (a m : Int) (n : Nat) (A S : List Int) (hA : A.length ≤ 10) (hS : S.length ≤ 10) (hSp : 0 < S.length) (hn60 : n ≤ 60)
    (p1 : Ev (fun k => delta_Put.f k 2 (vals m (n + 2) a)) (A ++ rep S (n + 1), true)) (p2 : Ev (fun k => delta_Put.f k 2 (vals m 1 a)) (A, true)) (p3 : Ev (fun k => delta_Put.f k 2 (vals m 2 a)) (A ++ S, true)) :
    Ev (fun k => rabbetlaw9_DeltaEven.l0 k a m ((n + 2 : Nat) : Int) (vals m (n + 2) a) ((n + 2 : Nat) : Int)) true := by
  have hR := rep_length S (n + 1)
  have hms := mul_small (n + 1) S.length (by omega) (by omega)
  have hlen : (A ++ rep S (n + 1)).length = A.length + (n + 1) * S.length := by rw [List.length_append, hR]
  refine Ev.step (f := fun k => (delta_Put.f k 2 (vals m (n + 2) a)).bind _) (fun k => by simp only [rabbetlaw9_DeltaEven.l0]; rw [if_neg (by omega)]) (Ev.bind p1 ?_)
  dsimp only
  refine Ev.congr (f := fun k => (delta_Put.f k 2 (vals m 1 a)).bind _) (fun k => by rw [if_pos (by rw [vals_length]; omega), take_one]) (Ev.bind p2 ?_)
  dsimp only
  refine Ev.congr (f := fun k => (delta_Put.f k 2 (vals m 2 a)).bind _) (fun k => by rw [if_pos (by rw [vals_length]; omega), take_two]) (Ev.bind p3 ?_)
  dsimp only
  refine Ev.congr (f := fun _ => some true) (fun k => ?_) (Ev.now _)
  have hAS : (A ++ S).length = A.length + S.length := List.length_append
  have w1 : wrap64 (((A.length + S.length : Nat) : Int) - (A.length : Int)) = (S.length : Int) := a_sub A.length S.length (by omega) (by omega)
  have w2 : wrap64 (((n + 2 : Nat) : Int) - 1) = ((n + 1 : Nat) : Int) := a_pred n (by omega)
  have w3 : wrap64 (((n + 1 : Nat) : Int) * (S.length : Int)) = (((n + 1) * S.length : Nat) : Int) := by rw [← Int.natCast_mul]; exact a_small _ (by omega)
  have w4 : wrap64 ((A.length : Int) + (((n + 1) * S.length : Nat) : Int)) = ((A.length + (n + 1) * S.length : Nat) : Int) := by rw [← Int.natCast_add]; exact a_small _ (by omega)
  have w5 : wrap64 (((A.length + (n + 1) * S.length : Nat) : Int) - (S.length : Int)) = ((A.length + n * S.length : Nat) : Int) := a_back A.length S.length n (Nat.le_trans hA (by decide)) hS (Nat.le_trans hn60 (by decide))
  have t1 : (A ++ rep S (n + 1)).take (A ++ S).length = A ++ S := by
    rw [show A ++ rep S (n + 1) = (A ++ S) ++ rep S n by simp [rep]]
    exact List.take_left
  have t2 : (A ++ rep S (n + 1)).drop (A.length + n * S.length) = S := by
    rw [rep_end, ← List.append_assoc]
    exact List.drop_left' (by rw [List.length_append, rep_length])
  have t3 : (A ++ S).drop A.length = S := List.drop_left
  rw [if_pos rfl, if_pos rfl, if_pos rfl, hAS, hlen, w1, w2, w3, w4, if_neg (a_less _ _ hSp), if_pos rfl, if_pos (Int.natCast_nonneg _), if_pos (a_two A.length S.length n), Int.toNat_natCast, ← hAS, t1, if_pos rfl, w5, if_pos (Int.natCast_nonneg _), if_pos (a_three A.length S.length n), if_pos (Int.natCast_nonneg _), if_pos (by rw [hAS]; exact a_four _ _), Int.toNat_natCast, Int.toNat_natCast, t2, t3, beq_self_eq_true]
theorem DeltaEven : rabbetlaw9_DeltaEven.Pure := by
  intro a m c h0 h1 h2
  have b0 := bounds_i32 h0
  have b1 := bounds_i16 h1
  have b2 := bounds_u8 h2
  obtain ⟨c, rfl⟩ := Int.eq_ofNat_of_zero_le b2.1
  obtain ⟨K0, e0⟩ := delta_begun
  obtain ⟨n, hn⟩ : ∃ n, n = c % 60 := ⟨_, rfl⟩
  have hn60 : n < 60 := by omega
  have hk : ∀ _ : Unit, wrap64 (2 + (wrap64 (Int.tmod (c : Int) 60))) = ((n + 2 : Nat) : Int) := by
    intro _
    rw [show Int.tmod (c : Int) 60 = ((c % 60 : Nat) : Int) from rfl, ← hn]
    unfold wrap64; omega
  have hg : ∀ q : Nat, q ≤ 62 → ∀ v, v ∈ vals m q a → good 2 v := fun q hq => vals_good m (by omega) q a (by omega) (by omega) (by omega)
  have p1 := put_all 2 (by omega) (vals m (n + 2) a) (hg _ (by omega)) (by rw [vals_length]; omega)
  have p2 := put_all 2 (by omega) (vals m 1 a) (hg _ (by omega)) (by rw [vals_length]; omega)
  have p3 := put_all 2 (by omega) (vals m 2 a) (hg _ (by omega)) (by rw [vals_length]; omega)
  have E1 : encD (vals m (n + 2) a) 0 = enc1 a 0 ++ rep (E 9 (zig m).toNat) (n + 1) := by
    show enc1 a 0 ++ encD (vals m (n + 1) (a + m)) a = _
    rw [encD_vals m (by omega)]
  have E2 : encD (vals m 1 a) 0 = enc1 a 0 := by
    show enc1 a 0 ++ encD (vals m 0 (a + m)) a = _
    simp [vals, encD]
  have E3 : encD (vals m 2 a) 0 = enc1 a 0 ++ E 9 (zig m).toNat := by
    show enc1 a 0 ++ encD (vals m 1 (a + m)) a = _
    rw [encD_vals m (by omega)]
    simp [rep]
  rw [E1] at p1
  rw [E2] at p2
  rw [E3] at p3
  have hA := enc1_le a 0
  have hS := E_le 9 (zig m).toNat
  have hSp := E_pos 9 (zig m).toNat
  generalize enc1 a 0 = A at *
  generalize E 9 (zig m).toNat = S at *
  have hend := fin_ev a m n A S (by omega) (by omega) hSp (by omega) p1 p2 p3
  obtain ⟨K1, e1⟩ := build a m (by omega) (by omega) (n + 2) (by omega) true hend (n + 2) 0 (by omega)
  refine ⟨K0 + K1, ?_⟩
  unfold rabbetlaw9_DeltaEven.f
  rw [e0 _ (by omega)]
  simp only [Option.bind_some, if_true, hk ()]
  exact e1 _ (by omega)
end Go.Proofs.YtgbammocbjghjaaDoor.Pure
