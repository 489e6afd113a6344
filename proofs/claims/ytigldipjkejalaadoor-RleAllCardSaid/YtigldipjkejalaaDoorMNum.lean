/- Numbers in few bytes, and zig-zag, in plain Lean: what the printed functions come to. Conditions: none. -/
import Derived.Laws.BitsAllLaws
import Derived.Laws.DeepNot64
import Derived.RowKit
import Derived.Test.YtigldipjkejalaaDoorWWords
import Derived.Test.YtigldipjkejalaaDoorWMore
namespace Go.Proofs.YtigldipjkejalaaDoor.MNum
open Go.RowKit Go.Proofs.YtigldipjkejalaaDoorW.PrintWords Go.Proofs.YtigldipjkejalaaDoorW.PrintMore
set_option linter.unusedVariables false

theorem u64_wrap (n : Int) : IntKind.u64.wrap n = n % 18446744073709551616 := by simp [IntKind.wrap, IntKind.bits, IntKind.signed]

/-- The shortest bytes of a number, with so many bytes more at the most. -/
def E : Nat → Nat → List Int
  | 0, v => [(v : Int)]
  | f + 1, v => if v < 128 then [(v : Int)] else ((v % 128 + 128 : Nat) : Int) :: E f (v / 128)
/-- What bytes say: m: how many may come; first: is it the first byte. -/
def D : Nat → Bool → List Int → Option (Nat × Nat)
  | 0, _, _ => none
  | _ + 1, _, [] => none
  | m + 1, first, c :: r => if c < 128 then (if first = false ∧ c = 0 then none else if m = 0 ∧ 1 < c then none else some (c.toNat, 1))
      else match D m false r with | none => none | some (v, n) => some (c.toNat - 128 + 128 * v, n + 1)

theorem E_pos (f v : Nat) : 0 < (E f v).length := by
  cases f with
  | zero => simp [E]
  | succ f => simp only [E]; split <;> simp
theorem E_le (f : Nat) : ∀ v, (E f v).length ≤ f + 1 := by
  induction f with
  | zero => intro v; simp [E]
  | succ f ih =>
    intro v
    simp only [E]
    split
    · simp
    · have := ih (v / 128)
      simp only [List.length_cons]
      omega
theorem E_mono (f : Nat) : ∀ v u, v ≤ u → (E f v).length ≤ (E f u).length := by
  induction f with
  | zero => intro v u _; simp [E]
  | succ f ih =>
    intro v u h
    simp only [E]
    split
    · have h2 := E_pos (f + 1) u
      simp only [E] at h2
      exact h2
    · rw [if_neg (show ¬ u < 128 by omega)]
      have := ih (v / 128) (u / 128) (Nat.div_le_div_right h)
      simpa using this
theorem E_wf (f : Nat) : ∀ v, v < 2 * 128 ^ f → ∀ x, x ∈ E f v → 0 ≤ x ∧ x < 256 := by
  induction f with
  | zero => intro v h x hx; simp [E] at hx; subst hx; simp at h; omega
  | succ f ih =>
    intro v h x hx
    simp only [E] at hx
    split at hx
    · simp at hx; subst hx; omega
    · rcases List.mem_cons.1 hx with rfl | hx
      · omega
      · refine ih (v / 128) ?_ x hx
        rw [Nat.pow_succ] at h
        omega
/-- What was put is read, whatever stands behind. -/
theorem D_E (m : Nat) : ∀ (v : Nat) (first : Bool) (s : List Int), v < 2 * 128 ^ m → (first = true ∨ v ≠ 0) → D (m + 1) first (E m v ++ s) = some (v, (E m v).length) := by
  induction m with
  | zero =>
    intro v first s h hf
    have h' : v < 2 := by simpa using h
    simp only [E, List.cons_append, List.nil_append, D]
    rw [if_pos (by omega), if_neg (by rcases hf with rfl | hf; · simp
                                      · intro h; omega), if_neg (by omega)]
    simp
  | succ m ih =>
    intro v first s h hf
    simp only [E]
    by_cases h1 : v < 128
    · rw [if_pos h1]
      simp only [List.cons_append, List.nil_append]
      rw [D]
      rw [if_pos (by omega), if_neg (by rcases hf with rfl | hf; · simp
                                        · intro h; omega), if_neg (by omega)]
      simp
    · rw [if_neg h1]
      simp only [List.cons_append]
      rw [D]
      rw [if_neg (by omega), ih (v / 128) false s (by rw [Nat.pow_succ] at h; omega) (.inr (by omega))]
      simp only [List.length_cons, Option.some.injEq, Prod.mk.injEq, and_true]
      omega
/-- Cut off, it says nothing. -/
theorem D_cut (m : Nat) : ∀ (v : Nat) (first : Bool) (j : Nat), j < (E m v).length → D (m + 1) first ((E m v).take j) = none := by
  induction m with
  | zero => intro v first j h; simp [E] at h; subst h; simp [D]
  | succ m ih =>
    intro v first j h
    simp only [E] at h ⊢
    split at h
    · simp at h; subst h; simp [D]
    · rename_i h1
      rw [if_neg h1]
      cases j with
      | zero => simp [D]
      | succ j =>
        simp only [List.length_cons] at h
        simp only [List.take_succ_cons]
        rw [D, if_neg (by omega), ih (v / 128) false j (by omega)]
theorem D_le (m : Nat) : ∀ (first : Bool) (l : List Int) (v n : Nat), D m first l = some (v, n) → 0 < n ∧ n ≤ m ∧ n ≤ l.length := by
  induction m with
  | zero => intro first l v n h; simp [D] at h
  | succ m ih =>
    intro first l v n h
    cases l with
    | nil => simp [D] at h
    | cons c r =>
      rw [D] at h
      split at h
      · split at h
        · cases h
        · split at h
          · cases h
          · simp only [Option.some.injEq, Prod.mk.injEq] at h; simp only [List.length_cons]; omega
      · cases hd : D m false r with
        | none => rw [hd] at h; cases h
        | some p =>
          obtain ⟨v', n'⟩ := p
          rw [hd] at h
          simp only [Option.some.injEq, Prod.mk.injEq] at h
          have := ih false r v' n' hd
          simp only [List.length_cons]
          omega
/-- What was read is what is put. -/
theorem E_D (m : Nat) : ∀ (first : Bool) (l : List Int) (v n : Nat), (∀ x, x ∈ l → 0 ≤ x ∧ x < 256) → D (m + 1) first l = some (v, n) → v < 2 * 128 ^ m ∧ E m v = l.take n ∧ (first = true ∨ v ≠ 0) := by
  induction m with
  | zero =>
    intro first l v n hl h
    cases l with
    | nil => simp [D] at h
    | cons c r =>
      have hc := hl c List.mem_cons_self
      simp only [D] at h
      split at h
      · split at h
        · cases h
        · split at h
          · cases h
          · rename_i h1 h2 h3
            simp only [Option.some.injEq, Prod.mk.injEq] at h
            obtain ⟨rfl, rfl⟩ := h
            have h3' : ¬ 1 < c := by simpa using h3
            refine ⟨by simp; omega, ?_, ?_⟩
            · simp only [E, List.take_succ_cons, List.take_zero, List.cons.injEq, and_true]; omega
            · cases first with
              | true => exact .inl rfl
              | false => exact .inr (fun h => h2 ⟨rfl, by omega⟩)
      · cases h
  | succ m ih =>
    intro first l v n hl h
    cases l with
    | nil => simp [D] at h
    | cons c r =>
      have hc := hl c List.mem_cons_self
      rw [D] at h
      split at h
      · rename_i h1
        split at h
        · cases h
        · rename_i h2
          split at h
          · cases h
          · simp only [Option.some.injEq, Prod.mk.injEq] at h
            obtain ⟨rfl, rfl⟩ := h
            refine ⟨?_, ?_, ?_⟩
            · have : 0 < 128 ^ m := Nat.pow_pos (by decide)
              rw [Nat.pow_succ]; omega
            · simp only [E]; rw [if_pos (by omega)]; simp; omega
            · cases first with
              | true => exact .inl rfl
              | false => exact .inr (fun h => h2 ⟨rfl, by omega⟩)
      · rename_i h1
        cases hd : D (m + 1) false r with
        | none => rw [hd] at h; cases h
        | some p =>
          obtain ⟨v', n'⟩ := p
          rw [hd] at h
          simp only [Option.some.injEq, Prod.mk.injEq] at h
          obtain ⟨rfl, rfl⟩ := h
          obtain ⟨h2, h3, h4⟩ := ih false r v' n' (fun x hx => hl x (List.mem_cons_of_mem _ hx)) hd
          have h4' : v' ≠ 0 := by rcases h4 with h4 | h4; · cases h4
                                  · exact h4
          refine ⟨by rw [Nat.pow_succ]; omega, ?_, .inr (by omega)⟩
          simp only [E, List.take_succ_cons]
          rw [if_neg (by omega), ← h3]
          have e1 : (c.toNat - 128 + 128 * v') / 128 = v' := by omega
          have e2 : (((c.toNat - 128 + 128 * v') % 128 + 128 : Nat) : Int) = c := by omega
          rw [e1, e2]
/-- A lesser number of bytes is enough where it is enough. -/
theorem E_more (m : Nat) : ∀ v, v < 128 ^ (m + 1) → E (m + 1) v = E m v := by
  induction m with
  | zero => intro v h; simp only [E]; rw [if_pos (by simpa using h)]
  | succ m ih =>
    intro v h
    rw [E]
    conv => rhs; rw [E]
    split
    · rfl
    · rw [ih (v / 128) (by rw [Nat.pow_succ] at h; omega)]

/-! ### zig and zag -/
def zig (a : Int) : Int := if a < 0 then -2 * a - 1 else 2 * a
def zag (u : Int) : Int := if u % 2 = 1 then -(u / 2) - 1 else u / 2
theorem zag_zig (a : Int) : zag (zig a) = a := by unfold zag zig; split <;> split <;> omega
theorem zig_zag (u : Int) (h : 0 ≤ u) : zig (zag u) = u := by unfold zag zig; split <;> split <;> omega
theorem zig_range (a : Int) (h1 : -9223372036854775808 ≤ a) (h2 : a ≤ 9223372036854775807) : 0 ≤ zig a ∧ zig a ≤ 18446744073709551615 := by unfold zig; split <;> omega
theorem zag_range (u : Int) (h1 : 0 ≤ u) (h2 : u ≤ 18446744073709551615) : -9223372036854775808 ≤ zag u ∧ zag u ≤ 9223372036854775807 := by unfold zag; split <;> omega
theorem xor_ones (a : Nat) (ha : a < 18446744073709551616) : bits .xor .u64 (a : Int) 18446744073709551615 = ((18446744073709551615 - a : Nat) : Int) := by
  have h := u64_xor_nat a 18446744073709551615 ha (by omega)
  rw [show ((18446744073709551615 : Nat) : Int) = 18446744073709551615 from rfl] at h
  rw [h]
  congr 1
  have e : (18446744073709551615 : Nat) = 2 ^ 64 - 1 := by decide
  rw [e]
  apply Nat.eq_of_testBit_eq
  intro i
  rw [Nat.testBit_xor, Nat.testBit_two_pow_sub_one, show 2 ^ 64 - 1 - a = 2 ^ 64 - (a + 1) by omega, Nat.testBit_two_pow_sub_succ (by simpa using ha)]
  by_cases hi : i < 64
  · simp [hi]
  · have : a.testBit i = false := Nat.testBit_lt_two_pow (Nat.lt_of_lt_of_le ha (by
      have := Nat.pow_le_pow_right (show 0 < 2 by decide) (show 64 ≤ i by omega)
      simpa using this))
    simp [hi, this]
theorem zig_eq (a : Int) (h1 : -9223372036854775808 ≤ a) (h2 : a ≤ 9223372036854775807) :
    bits .xor .u64 (IntKind.u64.wrap ((IntKind.u64.wrap a) * 2)) (IntKind.u64.wrap (a / 9223372036854775808)) = zig a := by
  simp only [u64_wrap]
  unfold zig
  split
  · rename_i h
    obtain ⟨b, hb⟩ := Int.eq_ofNat_of_zero_le (show 0 ≤ 2 * a + 18446744073709551616 by omega)
    rw [show a / 9223372036854775808 % 18446744073709551616 = 18446744073709551615 by omega, show a % 18446744073709551616 * 2 % 18446744073709551616 = (b : Int) by omega, xor_ones b (by omega)]
    omega
  · rename_i h
    obtain ⟨b, hb⟩ := Int.eq_ofNat_of_zero_le (show 0 ≤ 2 * a by omega)
    rw [show a / 9223372036854775808 % 18446744073709551616 = ((0 : Nat) : Int) by omega, show a % 18446744073709551616 * 2 % 18446744073709551616 = (b : Int) by omega, u64_xor_nat b 0 (by omega) (by omega)]
    simp; omega
theorem ofInt_neg_one : BitVec.ofInt 64 (-1) = BitVec.allOnes 64 := by decide
theorem zag_eq (u : Int) (h1 : 0 ≤ u) (h2 : u ≤ 18446744073709551615) :
    bits .xor .i64 (wrap64 (u / 2)) (wrap64 (-(wrap64 (bits .and .u64 u 1)))) = zag u := by
  have hand : bits .and .u64 u 1 = u % 2 := by
    obtain ⟨b, rfl⟩ := Int.eq_ofNat_of_zero_le h1
    have h := u64_and_nat b 1 (by omega) (by omega)
    rw [show ((1 : Nat) : Int) = 1 from rfl] at h
    rw [h, Nat.and_one_is_mod]
    omega
  rw [hand]
  obtain ⟨b, hb⟩ := Int.eq_ofNat_of_zero_le (show 0 ≤ u / 2 by omega)
  rw [show wrap64 (u / 2) = (b : Int) by unfold wrap64; omega]
  unfold zag
  split
  · rename_i h
    rw [show wrap64 (-(wrap64 (u % 2))) = -1 by unfold wrap64; omega]
    have hc : bits .xor .i64 (b : Int) (-1) = bits .xor .i64 (-1) (b : Int) := by
      show IntKind.i64.wrap ((BitVec.ofInt 64 (b : Int) ^^^ BitVec.ofInt 64 (-1)).toNat : Int) = IntKind.i64.wrap ((BitVec.ofInt 64 (-1) ^^^ BitVec.ofInt 64 (b : Int)).toNat : Int)
      rw [BitVec.xor_comm]
    rw [hc, i64_not b (by omega)]
    omega
  · rw [show wrap64 (-(wrap64 (u % 2))) = 0 by unfold wrap64; omega]
    show IntKind.i64.wrap ((BitVec.ofInt 64 (b : Int) ^^^ BitVec.ofInt 64 0).toNat : Int) = _
    rw [show BitVec.ofInt 64 0 = 0#64 by decide, BitVec.xor_zero, ofInt_u64 b (by omega), IntKind.wrap_i64]
    omega
theorem or128 (x : Int) (h : 0 ≤ x) : bits .or .u8 (x % 256) 128 = x % 128 + 128 := by
  obtain ⟨b, hb⟩ := Int.eq_ofNat_of_zero_le (show 0 ≤ x % 256 by omega)
  rw [hb]
  have h2 := u8_or_nat b 128 (by omega) (by omega)
  rw [show ((128 : Nat) : Int) = 128 from rfl] at h2
  rw [h2]
  have h3 : b ||| 128 = b % 128 + 128 := by
    have hb2 : b < 256 := by omega
    clear hb h2
    revert hb2
    revert b
    decide +kernel
  rw [h3]
  omega
theorem and128 (c : Int) (h0 : 0 ≤ c) (h1 : c < 256) : (bits .and .u8 c 128 = 0) ↔ c < 128 := by
  obtain ⟨b, rfl⟩ := Int.eq_ofNat_of_zero_le h0
  have h2 := u8_and_nat b 128 (by omega) (by omega)
  rw [show ((128 : Nat) : Int) = 128 from rfl] at h2
  rw [h2]
  have hb2 : b < 256 := by omega
  have key : ∀ b : Nat, b < 256 → ((b &&& 128 = 0) ↔ b < 128) := by decide +kernel
  have := key b hb2
  omega
theorem and127 (c : Int) (h0 : 0 ≤ c) (h1 : c < 256) : bits .and .u8 c 127 = c % 128 := by
  obtain ⟨b, rfl⟩ := Int.eq_ofNat_of_zero_le h0
  have h2 := u8_and_nat b 127 (by omega) (by omega)
  rw [show ((127 : Nat) : Int) = 127 from rfl] at h2
  rw [h2]
  have hb2 : b < 256 := by omega
  have key : ∀ b : Nat, b < 256 → b &&& 127 = b % 128 := by decide +kernel
  rw [key b hb2]
  omega
/-- 'v | c << s', where v has no more than s bits. -/
theorem or_shl (v c s : Nat) (hv : v < 2 ^ s) (hs : s ≤ 63) (hc : c < 128) (hr : c * 2 ^ s < 18446744073709551616) :
    bits .or .u64 (v : Int) (shl .u64 (IntKind.u64.wrap (c : Int)) (s : Int)) = ((v + c * 2 ^ s : Nat) : Int) := by
  have e : shl .u64 (IntKind.u64.wrap (c : Int)) (s : Int) = ((c * 2 ^ s : Nat) : Int) := by
    unfold shl
    rw [u64_wrap, u64_wrap, show min (Int.toNat (s : Int)) IntKind.u64.bits = s from by
      show min s 64 = s
      omega]
    rw [show ((c : Int) % 18446744073709551616) = (c : Int) by omega]
    rw [show (2 : Int) ^ s = ((2 ^ s : Nat) : Int) from (Int.natCast_pow 2 s).symm, ← Int.natCast_mul]
    obtain ⟨q, hq⟩ : ∃ q, q = c * 2 ^ s := ⟨_, rfl⟩
    rw [← hq] at hr ⊢
    omega
  have hv' : v < 18446744073709551616 := Nat.lt_of_lt_of_le hv (by
    have := Nat.pow_le_pow_right (show 0 < 2 by decide) (show s ≤ 64 by omega)
    simpa using this)
  rw [e, u64_or_nat v (c * 2 ^ s) hv' hr]
  congr 1
  have := Nat.two_pow_add_eq_or_of_lt hv c
  rw [Nat.mul_comm c, Nat.or_comm, ← this]
  omega
end Go.Proofs.YtigldipjkejalaaDoor.MNum
