/- BitsJoin's plain law: the bits of eight numbers and eight more are the bits of both, one behind the other; and the law's call, out of it and the walk. Conditions: none. -/
import Derived.Test.YtbjliggjalnhgaaBBBitsJoin
import Derived.Test.YtbjliggjalnhgaaBitsJoinW
import Derived.OpenShut
namespace Go.Proofs.Ytbjliggjalnhgaa.Pure
open Go.RowKit Go.Proofs.Ytbjliggjalnhgaa.PBitsJoin Go.Proofs.YtbjliggjalnhgaaW.PrintWords Go.Proofs.YtbjliggjalnhgaaW.PrintLast Go.Proofs.YtbjliggjalnhgaaW.PrintMore Go.Proofs.Ytbjliggjalnhgaa.MBits Go.Proofs.Ytbjliggjalnhgaa.BBBitsJoin
set_option linter.unusedVariables false
theorem bits_begun : Ev rabbetlaw3_begun.f true := Ev.of rabbetlaw3_begun.mono (k := 60) (by decide +kernel)
theorem bitf_left (a b : List Int) (w j : Nat) (ha : a.length = 8) (h : j < 8 * w) : bitf (a ++ b) w j = bitf a w j := by
  unfold bitf
  have hw : 0 < w := by omega
  have : j / w < 8 := Nat.div_lt_of_lt_mul (by rw [Nat.mul_comm]; exact h)
  rw [List.getD_eq_getElem?_getD, List.getElem?_append_left (by rw [ha]; exact this), ← List.getD_eq_getElem?_getD]
theorem bitf_right (a b : List Int) (w j : Nat) (ha : a.length = 8) (hw : 0 < w) : bitf (a ++ b) w (8 * w + j) = bitf b w j := by
  unfold bitf
  have e1 : (8 * w + j) / w = 8 + j / w := by rw [Nat.mul_comm, Nat.mul_add_div hw]
  have e2 : (8 * w + j) % w = j % w := by rw [Nat.mul_comm, Nat.mul_add_mod]
  rw [e1, e2, List.getD_eq_getElem?_getD, List.getElem?_append_right (by rw [ha]; exact Nat.le_add_right _ _), ha, Nat.add_sub_cancel_left, ← List.getD_eq_getElem?_getD]
theorem term_left (a b : List Int) (w q r : Nat) (ha : a.length = 8) (hq : q < w) (hr : r < 8) : term (bitf (a ++ b) w) (16 * w) q r = term (bitf a w) (8 * w) q r := by
  rw [term_on _ _ _ _ (by omega), term_on _ _ _ _ (by omega), bitf_left a b w _ ha (by omega)]
theorem term_right (a b : List Int) (w q r : Nat) (ha : a.length = 8) (hq : q < w) (hr : r < 8) : term (bitf (a ++ b) w) (16 * w) (w + q) r = term (bitf b w) (8 * w) q r := by
  rw [term_on _ _ _ _ (by omega), term_on _ _ _ _ (by omega), show 8 * (w + q) + r = 8 * w + (8 * q + r) by omega, bitf_right a b w _ ha (by omega)]
theorem putS_join (a b : List Int) (w : Nat) (ha : a.length = 8) (hb : b.length = 8) : putS (a ++ b) w = putS a w ++ putS b w := by
  unfold putS
  rw [List.length_append, ha, hb, show (8 + 8) * w = 16 * w by omega, show (16 * w + 7) / 8 = w + w by omega, show (8 * w + 7) / 8 = w by omega]
  unfold bytesT
  rw [List.range_add, List.map_append, List.map_map]
  congr 1
  · refine List.map_congr_left fun q hq => ?_
    have hq := List.mem_range.1 hq
    unfold pb
    simp only [term_left a b w q _ ha hq (by decide : 0 < 8), term_left a b w q _ ha hq (by decide : 1 < 8), term_left a b w q _ ha hq (by decide : 2 < 8), term_left a b w q _ ha hq (by decide : 3 < 8), term_left a b w q _ ha hq (by decide : 4 < 8), term_left a b w q _ ha hq (by decide : 5 < 8), term_left a b w q _ ha hq (by decide : 6 < 8), term_left a b w q _ ha hq (by decide : 7 < 8)]
  · refine List.map_congr_left fun q hq => ?_
    have hq := List.mem_range.1 hq
    show ((pb _ _ (w + q) : Nat) : Int) = _
    unfold pb
    simp only [term_right a b w q _ ha hq (by decide : 0 < 8), term_right a b w q _ ha hq (by decide : 1 < 8), term_right a b w q _ ha hq (by decide : 2 < 8), term_right a b w q _ ha hq (by decide : 3 < 8), term_right a b w q _ ha hq (by decide : 4 < 8), term_right a b w q _ ha hq (by decide : 5 < 8), term_right a b w q _ ha hq (by decide : 6 < 8), term_right a b w q _ ha hq (by decide : 7 < 8)]
theorem putS_len (a : List Int) (w : Nat) (ha : a.length = 8) : (putS a w).length = w := by
  unfold putS
  rw [bytesT_length, ha]
  omega
theorem modk_lt (k : Nat) (hk : k ≤ 64) (x : Int) (h0 : 0 ≤ x) (h1 : x < 18446744073709551616) : 0 ≤ modk k x ∧ (modk k x).toNat < 2 ^ k ∧ modk k x < 18446744073709551616 := by
  unfold modk
  by_cases h : k < 64
  · rw [if_pos h]
    obtain ⟨n, rfl⟩ := Int.eq_ofNat_of_zero_le h0
    have e : (n : Int) % (2 : Int) ^ k = ((n % 2 ^ k : Nat) : Int) := by rw [Int.natCast_emod, Int.natCast_pow]; rfl
    have hp : 0 < (2 : Nat) ^ k := Nat.pow_pos (by decide)
    have a1 := Nat.mod_lt n hp
    have a2 := Nat.mod_le n (2 ^ k)
    rw [e]
    generalize n % 2 ^ k = m at *
    exact ⟨by omega, by omega, by omega⟩
  · rw [if_neg h]
    obtain rfl : k = 64 := by omega
    exact ⟨h0, by omega, h1⟩
theorem put_wide (l : List Int) (k : Nat) (hk : k ≤ 64) (hn : l.length ≤ 1000) (hl : ∀ x, x ∈ l → 0 ≤ x ∧ x.toNat < 2 ^ k ∧ x < 18446744073709551616) : Ev (fun q => bits_Put.f q l (k : Int)) (putS l k, true) := by
  have hwf : wf64 l := fun x hx => ⟨(hl x hx).1, (hl x hx).2.2⟩
  have := put_ev l hwf (by omega) (k : Int)
  have hW := (W_le l hwf k).2 (fun x hx => (hl x hx).2.1)
  have e : putR l (k : Int) = (putS l k, true) := by
    unfold putR
    rw [if_neg (by omega), if_neg (by omega), Int.toNat_natCast]
  rwa [e] at this
theorem join_holds (a b : List Int) (c : Int) (w : World) (ha : a.length = 8) (hb : b.length = 8) (hwa : ∀ x, x ∈ a → (Lit.int .u64 x).wf = true) (hwb : ∀ x, x ∈ b → (Lit.int .u64 x).wf = true) (hc : (Lit.int .u8 c).wf = true) :
    Calls Try.prog 6 #[.agg (nums .u64 a).toArray, .agg (nums .u64 b).toArray, .int .u8 c] w fun e w' => e = .returned (.bool true) ∧ Below w.heap.size w w' := by
  have bc := bounds_u8 hc
  obtain ⟨c, rfl⟩ := Int.eq_ofNat_of_zero_le bc.1
  have hk : c % 65 ≤ 64 := by omega
  have hA : ∀ x, x ∈ a.map (modk (c % 65)) → 0 ≤ x ∧ x.toNat < 2 ^ (c % 65) ∧ x < 18446744073709551616 := fun x hx => by
    obtain ⟨y, hy, rfl⟩ := List.mem_map.1 hx
    have := bounds_u64 (hwa y hy)
    exact modk_lt _ hk y (by omega) (by omega)
  have hB : ∀ x, x ∈ b.map (modk (c % 65)) → 0 ≤ x ∧ x.toNat < 2 ^ (c % 65) ∧ x < 18446744073709551616 := fun x hx => by
    obtain ⟨y, hy, rfl⟩ := List.mem_map.1 hx
    have := bounds_u64 (hwb y hy)
    exact modk_lt _ hk y (by omega) (by omega)
  have la : (a.map (modk (c % 65))).length = 8 := by rw [List.length_map, ha]
  have lb : (b.map (modk (c % 65))).length = 8 := by rw [List.length_map, hb]
  obtain ⟨K0, e0⟩ := bits_begun
  obtain ⟨K1, e1⟩ := put_wide _ _ hk (by omega) hA
  obtain ⟨K2, e2⟩ := put_wide _ _ hk (by omega) hB
  obtain ⟨K3, e3⟩ := put_wide (a.map (modk (c % 65)) ++ b.map (modk (c % 65))) _ hk (by rw [List.length_append]; omega) (fun x hx => (List.mem_append.1 hx).elim (hA x) (hB x))
  exact join_walk K0 a b ha hb c (by omega) w (fun x hx => by have := bounds_u64 (hwa x hx); omega) (fun x hx => by have := bounds_u64 (hwb x hx); omega) (e0 _ (Nat.le_refl _)) (K1 + K2 + K3) _ _ _ (e1 _ (by omega)) (e2 _ (by omega)) (e3 _ (by omega)) (putS_join _ _ _ la lb) (putS_len _ _ la) (putS_len _ _ lb)
end Go.Proofs.Ytbjliggjalnhgaa.Pure
