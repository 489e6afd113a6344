/- Numbers of few bits in plain Lean: how many bits, which bytes, and back. Conditions: none. -/
import Derived.Laws.BitsAllLaws
import Derived.Lib.BitFns
import Derived.RowKit
import Derived.Test.YtokmildjniploaaDoorWWords
import Derived.Test.YtokmildjniploaaDoorWMore
namespace Go.Proofs.YtokmildjniploaaDoor.MBits
open Go.RowKit Go.Proofs.YtokmildjniploaaDoorW.PrintWords Go.Proofs.YtokmildjniploaaDoorW.PrintMore
set_option linter.unusedVariables false

theorem u64_wrap (n : Int) : IntKind.u64.wrap n = n % 18446744073709551616 := by simp [IntKind.wrap, IntKind.bits, IntKind.signed]
theorem u8_wrap (n : Int) : IntKind.u8.wrap n = n % 256 := by simp [IntKind.wrap, IntKind.bits, IntKind.signed]

/-! ### how many bits -/
theorem bitLenAux_le (f : Nat) : ∀ x w : Nat, x < 2 ^ f → (Lib.bitLenAux f x ≤ w ↔ x < 2 ^ w) := by
  induction f with
  | zero => intro x w h; simp at h; subst h; simp [Lib.bitLenAux, Nat.pow_pos]
  | succ f ih =>
    intro x w h
    simp only [Lib.bitLenAux]
    split
    · rename_i h0; subst h0; simp [Nat.pow_pos]
    · rename_i h0
      cases w with
      | zero => simp; omega
      | succ w =>
        have := ih (x / 2) w (by rw [Nat.pow_succ] at h; omega)
        rw [Nat.pow_succ]
        omega
theorem bitLen_le (x w : Nat) (h : x < 18446744073709551616) : Lib.bitLen x ≤ w ↔ x < 2 ^ w := bitLenAux_le 64 x w h
theorem bitLenAux_max (f : Nat) : ∀ x, Lib.bitLenAux f x ≤ f := by
  induction f with
  | zero => intro x; simp [Lib.bitLenAux]
  | succ f ih => intro x; simp only [Lib.bitLenAux]; split; · omega
                 · have := ih (x / 2); omega
/-- The greatest width. -/
def W (l : List Int) : Nat := l.foldl (fun a x => max a (Lib.bitLen x.toNat)) 0
theorem foldl_max (l : List Int) : ∀ a w : Nat, l.foldl (fun a x => max a (Lib.bitLen x.toNat)) a ≤ w ↔ a ≤ w ∧ ∀ x, x ∈ l → Lib.bitLen x.toNat ≤ w := by
  induction l with
  | nil => intro a w; simp
  | cons c r ih =>
    intro a w
    simp only [List.foldl_cons, ih, List.mem_cons, forall_eq_or_imp]
    constructor
    · rintro ⟨h1, h2⟩; exact ⟨by omega, by omega, h2⟩
    · rintro ⟨h1, h2, h3⟩; exact ⟨by omega, h3⟩
theorem W_le (l : List Int) (hl : ∀ x, x ∈ l → 0 ≤ x ∧ x < 18446744073709551616) (w : Nat) : W l ≤ w ↔ ∀ x, x ∈ l → x.toNat < 2 ^ w := by
  unfold W
  rw [foldl_max]
  constructor
  · intro h x hx; have := hl x hx; exact (bitLen_le _ _ (by omega)).1 (h.2 x hx)
  · intro h; exact ⟨Nat.zero_le _, fun x hx => by have := hl x hx; exact (bitLen_le _ _ (by omega)).2 (h x hx)⟩
theorem W_max (l : List Int) : W l ≤ 64 := by
  unfold W
  rw [foldl_max]
  exact ⟨by omega, fun x _ => bitLenAux_max 64 _⟩

/-! ### bytes of bits -/
def term (f : Nat → Nat) (t q r : Nat) : Nat := if 8 * q + r < t then f (8 * q + r) * 2 ^ r else 0
def pb (f : Nat → Nat) (t q : Nat) : Nat := term f t q 0 + term f t q 1 + term f t q 2 + term f t q 3 + term f t q 4 + term f t q 5 + term f t q 6 + term f t q 7
theorem pb_zero (f : Nat → Nat) (q : Nat) : pb f 0 q = 0 := by simp [pb, term]
theorem term_ne (f : Nat → Nat) (t q r : Nat) (hr : r < 8) (h : q ≠ t / 8) : term f (t + 1) q r = term f t q r := by
  unfold term
  by_cases h1 : 8 * q + r < t
  · rw [if_pos h1, if_pos (by omega)]
  · rw [if_neg h1, if_neg (by omega)]
theorem pb_ne (f : Nat → Nat) (t q : Nat) (h : q ≠ t / 8) : pb f (t + 1) q = pb f t q := by
  simp only [pb, term_ne f t q 0 (by decide) h, term_ne f t q 1 (by decide) h, term_ne f t q 2 (by decide) h, term_ne f t q 3 (by decide) h, term_ne f t q 4 (by decide) h, term_ne f t q 5 (by decide) h, term_ne f t q 6 (by decide) h, term_ne f t q 7 (by decide) h]
theorem term_on (f : Nat → Nat) (t q r : Nat) (h : 8 * q + r < t) : term f t q r = f (8 * q + r) * 2 ^ r := if_pos h
theorem term_off (f : Nat → Nat) (t q r : Nat) (h : t ≤ 8 * q + r) : term f t q r = 0 := if_neg (by omega)
theorem pb_eq (f : Nat → Nat) (t : Nat) : pb f (t + 1) (t / 8) = pb f t (t / 8) + f t * 2 ^ (t % 8) := by
  obtain ⟨q, s, hs, rfl⟩ : ∃ q s, s < 8 ∧ t = 8 * q + s := ⟨t / 8, t % 8, by omega, by omega⟩
  rw [show (8 * q + s) / 8 = q by omega, show (8 * q + s) % 8 = s by omega]
  have e : ∀ r, r < 8 → term f (8 * q + s + 1) q r = term f (8 * q + s) q r + (if r = s then f (8 * q + s) * 2 ^ s else 0) := by
    intro r hr
    by_cases h1 : r < s
    · rw [term_on _ _ _ _ (by omega), term_on _ _ _ _ (by omega), if_neg (by omega), Nat.add_zero]
    · by_cases h2 : r = s
      · subst h2; rw [term_on _ _ _ _ (by omega), term_off _ _ _ _ (by omega), if_pos rfl, Nat.zero_add]
      · rw [term_off _ _ _ _ (by omega), term_off _ _ _ _ (by omega), if_neg h2]
  simp only [pb, e 0 (by decide), e 1 (by decide), e 2 (by decide), e 3 (by decide), e 4 (by decide), e 5 (by decide), e 6 (by decide), e 7 (by decide)]
  generalize f (8 * q + s) * 2 ^ s = y
  have : s = 0 ∨ s = 1 ∨ s = 2 ∨ s = 3 ∨ s = 4 ∨ s = 5 ∨ s = 6 ∨ s = 7 := by omega
  rcases this with rfl | rfl | rfl | rfl | rfl | rfl | rfl | rfl <;> simp <;> omega
theorem pb_lt (f : Nat → Nat) (hf : ∀ j, f j ≤ 1) (t : Nat) : pb f t (t / 8) < 2 ^ (t % 8) := by
  obtain ⟨q, s, hs, rfl⟩ : ∃ q s, s < 8 ∧ t = 8 * q + s := ⟨t / 8, t % 8, by omega, by omega⟩
  rw [show (8 * q + s) / 8 = q by omega, show (8 * q + s) % 8 = s by omega]
  have on : ∀ r, r < s → term f (8 * q + s) q r ≤ 2 ^ r := fun r hr => by
    rw [term_on _ _ _ _ (by omega)]
    have := hf (8 * q + r)
    exact Nat.le_trans (Nat.mul_le_mul_right _ this) (by omega)
  have off : ∀ r, s ≤ r → term f (8 * q + s) q r = 0 := fun r hr => term_off _ _ _ _ (by omega)
  unfold pb
  have : s = 0 ∨ s = 1 ∨ s = 2 ∨ s = 3 ∨ s = 4 ∨ s = 5 ∨ s = 6 ∨ s = 7 := by omega
  rcases this with rfl | rfl | rfl | rfl | rfl | rfl | rfl | rfl
  · simp only [off 0 (by omega), off 1 (by omega), off 2 (by omega), off 3 (by omega), off 4 (by omega), off 5 (by omega), off 6 (by omega), off 7 (by omega)]; decide
  · have h0 := on 0 (by omega)
    simp only [off 1 (by omega), off 2 (by omega), off 3 (by omega), off 4 (by omega), off 5 (by omega), off 6 (by omega), off 7 (by omega)]; omega
  · have h0 := on 0 (by omega); have h1 := on 1 (by omega)
    simp only [off 2 (by omega), off 3 (by omega), off 4 (by omega), off 5 (by omega), off 6 (by omega), off 7 (by omega)]; omega
  · have h0 := on 0 (by omega); have h1 := on 1 (by omega); have h2 := on 2 (by omega)
    simp only [off 3 (by omega), off 4 (by omega), off 5 (by omega), off 6 (by omega), off 7 (by omega)]; omega
  · have h0 := on 0 (by omega); have h1 := on 1 (by omega); have h2 := on 2 (by omega); have h3 := on 3 (by omega)
    simp only [off 4 (by omega), off 5 (by omega), off 6 (by omega), off 7 (by omega)]; omega
  · have h0 := on 0 (by omega); have h1 := on 1 (by omega); have h2 := on 2 (by omega); have h3 := on 3 (by omega); have h4 := on 4 (by omega)
    simp only [off 5 (by omega), off 6 (by omega), off 7 (by omega)]; omega
  · have h0 := on 0 (by omega); have h1 := on 1 (by omega); have h2 := on 2 (by omega); have h3 := on 3 (by omega); have h4 := on 4 (by omega); have h5 := on 5 (by omega)
    simp only [off 6 (by omega), off 7 (by omega)]; omega
  · have h0 := on 0 (by omega); have h1 := on 1 (by omega); have h2 := on 2 (by omega); have h3 := on 3 (by omega); have h4 := on 4 (by omega); have h5 := on 5 (by omega); have h6 := on 6 (by omega)
    simp only [off 7 (by omega)]; omega
theorem term_le (f : Nat → Nat) (hf : ∀ j, f j ≤ 1) (t q r : Nat) : term f t q r = 0 ∨ term f t q r = 2 ^ r := by
  unfold term
  split
  · have := hf (8 * q + r)
    have : f (8 * q + r) = 0 ∨ f (8 * q + r) = 1 := by omega
    rcases this with h | h <;> simp [h]
  · exact .inl rfl
theorem pb_byte (f : Nat → Nat) (hf : ∀ j, f j ≤ 1) (t q : Nat) : pb f t q < 256 := by
  unfold pb
  have h0 := term_le f hf t q 0; have h1 := term_le f hf t q 1; have h2 := term_le f hf t q 2; have h3 := term_le f hf t q 3
  have h4 := term_le f hf t q 4; have h5 := term_le f hf t q 5; have h6 := term_le f hf t q 6; have h7 := term_le f hf t q 7
  omega
/-- A bit of a byte of bits. -/
theorem pb_bit (f : Nat → Nat) (hf : ∀ j, f j ≤ 1) (t q r : Nat) (hr : r < 8) : pb f t q / 2 ^ r % 2 = if 8 * q + r < t then f (8 * q + r) else 0 := by
  have hb : ∀ s, ∃ x, (if 8 * q + s < t then f (8 * q + s) else 0) = x ∧ term f t q s = x * 2 ^ s ∧ x ≤ 1 := fun s => by
    unfold term
    split
    · exact ⟨_, rfl, rfl, hf _⟩
    · exact ⟨0, rfl, by simp, by omega⟩
  obtain ⟨x0, a0, b0, c0⟩ := hb 0; obtain ⟨x1, a1, b1, c1⟩ := hb 1; obtain ⟨x2, a2, b2, c2⟩ := hb 2; obtain ⟨x3, a3, b3, c3⟩ := hb 3
  obtain ⟨x4, a4, b4, c4⟩ := hb 4; obtain ⟨x5, a5, b5, c5⟩ := hb 5; obtain ⟨x6, a6, b6, c6⟩ := hb 6; obtain ⟨x7, a7, b7, c7⟩ := hb 7
  unfold pb
  rw [b0, b1, b2, b3, b4, b5, b6, b7]
  clear b0 b1 b2 b3 b4 b5 b6 b7 hb
  have : r = 0 ∨ r = 1 ∨ r = 2 ∨ r = 3 ∨ r = 4 ∨ r = 5 ∨ r = 6 ∨ r = 7 := by omega
  rcases this with rfl | rfl | rfl | rfl | rfl | rfl | rfl | rfl
  · rw [a0]; omega
  · rw [a1]; omega
  · rw [a2]; omega
  · rw [a3]; omega
  · rw [a4]; omega
  · rw [a5]; omega
  · rw [a6]; omega
  · rw [a7]; omega
def bytesT (f : Nat → Nat) (t n : Nat) : List Int := (List.range n).map fun q => ((pb f t q : Nat) : Int)
theorem bytesT_length (f : Nat → Nat) (t n : Nat) : (bytesT f t n).length = n := by simp [bytesT]
theorem bytesT_zero (f : Nat → Nat) (n : Nat) : bytesT f 0 n = List.replicate n 0 := by
  apply List.ext_getElem
  · simp [bytesT]
  · intro i h1 h2; simp [bytesT, pb_zero]
theorem rd_bytesT (f : Nat → Nat) (t n q : Nat) (h : q < n) : rd (bytesT f t n) (q : Int) = ((pb f t q : Nat) : Int) := by
  simp [rd, bytesT, List.getD_eq_getElem?_getD, h]
theorem bytesT_set (f : Nat → Nat) (t n : Nat) (h : t / 8 < n) : (bytesT f t n).set (t / 8) ((pb f t (t / 8) + f t * 2 ^ (t % 8) : Nat) : Int) = bytesT f (t + 1) n := by
  apply List.ext_getElem
  · simp [bytesT]
  · intro i h1 h2
    by_cases hi : t / 8 = i
    · subst hi; rw [List.getElem_set_self]; simp [bytesT, pb_eq]
    · rw [List.getElem_set_ne hi]; simp [bytesT, pb_ne f t i (by omega)]
theorem bytesT_same (f : Nat → Nat) (t n : Nat) (h : t / 8 < n) (h0 : f t = 0) : bytesT f (t + 1) n = bytesT f t n := by
  have := bytesT_set f t n h
  rw [h0, Nat.zero_mul, Nat.add_zero] at this
  rw [← this]
  apply List.ext_getElem
  · simp
  · intro i h1 h2
    by_cases hi : t / 8 = i
    · subst hi; rw [List.getElem_set_self]; simp [bytesT]
    · rw [List.getElem_set_ne hi]
theorem bytesT_wf (f : Nat → Nat) (hf : ∀ j, f j ≤ 1) (t n : Nat) : ∀ x, x ∈ bytesT f t n → 0 ≤ x ∧ x < 256 := by
  intro x hx
  simp only [bytesT, List.mem_map, List.mem_range] at hx
  obtain ⟨q, _, rfl⟩ := hx
  have := pb_byte f hf t q
  omega
theorem bytesT_congr (f g : Nat → Nat) (t n : Nat) (h : ∀ j, j < t → f j = g j) : bytesT f t n = bytesT g t n := by
  have e : ∀ q r, term f t q r = term g t q r := fun q r => by
    unfold term
    by_cases h1 : 8 * q + r < t
    · rw [if_pos h1, if_pos h1, h _ h1]
    · rw [if_neg h1, if_neg h1]
  unfold bytesT pb
  simp only [e]
/-- 'b | c << s' of bytes, where b has no more than s bits. -/
theorem or8 (b c s : Nat) (hb : b < 2 ^ s) (hs : s < 8) (hc : c ≤ 1) : bits .or .u8 (b : Int) (shl .u8 (c : Int) (s : Int)) = ((b + c * 2 ^ s : Nat) : Int) := by
  have h8 : (2 : Nat) ^ s ≤ 128 := by
    have := Nat.pow_le_pow_right (show 0 < 2 by decide) (show s ≤ 7 by omega)
    simpa using this
  have hm : c * 2 ^ s < 256 := by
    have : c * 2 ^ s ≤ 1 * 128 := Nat.mul_le_mul hc h8
    omega
  have e : shl .u8 (c : Int) (s : Int) = ((c * 2 ^ s : Nat) : Int) := by
    unfold shl
    rw [u8_wrap, show min (Int.toNat (s : Int)) IntKind.u8.bits = s from by
      show min s 8 = s
      omega]
    rw [show (2 : Int) ^ s = ((2 ^ s : Nat) : Int) from (Int.natCast_pow 2 s).symm, ← Int.natCast_mul]
    omega
  rw [e, u8_or_nat b (c * 2 ^ s) (by omega) hm]
  congr 1
  have := Nat.two_pow_add_eq_or_of_lt hb c
  rw [Nat.mul_comm c, Nat.or_comm, ← this]
  omega
/-- A bit of a number. -/
theorem bit64 (x k : Nat) (hx : x < 18446744073709551616) (hk : k ≤ 64) : bits .and .u64 (shr .u64 (x : Int) (k : Int)) 1 = ((x / 2 ^ k % 2 : Nat) : Int) := by
  have e : shr .u64 (x : Int) (k : Int) = ((x / 2 ^ k : Nat) : Int) := by
    unfold shr
    rw [show min (Int.toNat (k : Int)) IntKind.u64.bits = k from by
      show min k 64 = k
      omega]
    rw [show (2 : Int) ^ k = ((2 ^ k : Nat) : Int) from (Int.natCast_pow 2 k).symm]
    exact (Int.natCast_ediv _ _).symm
  have hlt : x / 2 ^ k < 18446744073709551616 := Nat.lt_of_le_of_lt (Nat.div_le_self _ _) hx
  rw [e]
  have h := u64_and_nat (x / 2 ^ k) 1 hlt (by omega)
  rw [show ((1 : Nat) : Int) = 1 from rfl] at h
  rw [h, Nat.and_one_is_mod]
theorem bit8 (x k : Nat) (hx : x < 256) (hk : k ≤ 8) : bits .and .u8 (shr .u8 (x : Int) (k : Int)) 1 = ((x / 2 ^ k % 2 : Nat) : Int) := by
  have e : shr .u8 (x : Int) (k : Int) = ((x / 2 ^ k : Nat) : Int) := by
    unfold shr
    rw [show min (Int.toNat (k : Int)) IntKind.u8.bits = k from by
      show min k 8 = k
      omega]
    rw [show (2 : Int) ^ k = ((2 ^ k : Nat) : Int) from (Int.natCast_pow 2 k).symm]
    exact (Int.natCast_ediv _ _).symm
  have hlt : x / 2 ^ k < 256 := Nat.lt_of_le_of_lt (Nat.div_le_self _ _) hx
  rw [e]
  have h := u8_and_nat (x / 2 ^ k) 1 hlt (by omega)
  rw [show ((1 : Nat) : Int) = 1 from rfl] at h
  rw [h, Nat.and_one_is_mod]

/-! ### numbers of bits -/
def nbk (g : Nat → Nat) (t b : Nat) : Nat → Nat
  | 0 => 0
  | k + 1 => nbk g t b k + (if b + k < t then g (b + k) * 2 ^ k else 0)
theorem nbk_lt (g : Nat → Nat) (hg : ∀ j, g j ≤ 1) (t b : Nat) : ∀ k, nbk g t b k < 2 ^ k := by
  intro k
  induction k with
  | zero => simp [nbk]
  | succ k ih =>
    simp only [nbk]
    rw [Nat.pow_succ]
    split
    · have := Nat.mul_le_mul_right (2 ^ k) (hg (b + k))
      omega
    · omega
theorem nbk_stop (g : Nat → Nat) (t b s : Nat) (h : b + s = t) : ∀ k, s ≤ k → nbk g t b k = nbk g t b s := by
  intro k hk
  induction k with
  | zero => obtain rfl : s = 0 := by omega
            rfl
  | succ k ih =>
    by_cases h1 : s = k + 1
    · rw [h1]
    · simp only [nbk]
      rw [if_neg (by omega), Nat.add_zero, ih (by omega)]
theorem nbk_full (g : Nat → Nat) (t t' b : Nat) : ∀ k, b + k ≤ t → b + k ≤ t' → nbk g t b k = nbk g t' b k := by
  intro k
  induction k with
  | zero => intro _ _; rfl
  | succ k ih =>
    intro h1 h2
    simp only [nbk]
    rw [if_pos (by omega), if_pos (by omega), ih (by omega) (by omega)]
theorem nbk_none (g : Nat → Nat) (t b : Nat) (h : t ≤ b) : ∀ k, nbk g t b k = 0 := by
  intro k
  induction k with
  | zero => rfl
  | succ k ih => simp only [nbk]; rw [ih, if_neg (by omega)]
theorem nbk_step (g : Nat → Nat) (b s w : Nat) (hs : s < w) : nbk g (b + s + 1) b w = nbk g (b + s) b w + g (b + s) * 2 ^ s := by
  rw [nbk_stop g (b + s + 1) b (s + 1) (by omega) w (by omega), nbk_stop g (b + s) b s rfl w (by omega)]
  simp only [nbk]
  rw [if_pos (by omega), nbk_full g (b + s + 1) (b + s) b s (by omega) (by omega)]
theorem nbk_before (g : Nat → Nat) (hg : ∀ j, g j ≤ 1) (b s w : Nat) (hs : s < w) : nbk g (b + s) b w < 2 ^ s := by
  rw [nbk_stop g (b + s) b s rfl w (by omega)]
  exact nbk_lt g hg _ _ _
/-- A bit of a number of bits. -/
theorem nbk_bit (g : Nat → Nat) (hg : ∀ j, g j ≤ 1) (t b : Nat) : ∀ w k, k < w → nbk g t b w / 2 ^ k % 2 = if b + k < t then g (b + k) else 0 := by
  intro w
  induction w with
  | zero => intro k hk; omega
  | succ w ih =>
    intro k hk
    simp only [nbk]
    have hlt := nbk_lt g hg t b w
    by_cases h1 : k < w
    · rw [← ih k h1]
      obtain ⟨d, rfl⟩ : ∃ d, w = k + 1 + d := ⟨w - k - 1, by omega⟩
      obtain ⟨y, hy⟩ : ∃ y, (if b + (k + 1 + d) < t then g (b + (k + 1 + d)) * 2 ^ (k + 1 + d) else 0) = y * (2 * 2 ^ k) := by
        split
        · exact ⟨g (b + (k + 1 + d)) * 2 ^ d, by rw [show k + 1 + d = d + (k + 1) by omega, Nat.pow_add, Nat.pow_succ, Nat.mul_assoc, Nat.mul_comm (2 ^ k) 2]⟩
        · exact ⟨0, by simp⟩
      rw [hy]
      have hp : 0 < 2 ^ k := Nat.pow_pos (by decide)
      rw [show y * (2 * 2 ^ k) = 2 ^ k * (2 * y) by rw [Nat.mul_comm y, Nat.mul_assoc, Nat.mul_left_comm], Nat.add_mul_div_left _ _ hp]
      omega
    · obtain rfl : k = w := by omega
      have hp : 0 < 2 ^ k := Nat.pow_pos (by decide)
      split
      · have := hg (b + k)
        rw [Nat.add_mul_div_right _ _ hp, Nat.div_eq_of_lt hlt]
        omega
      · rw [Nat.add_zero, Nat.div_eq_of_lt hlt]
theorem bits_sum (x : Nat) : ∀ w, nbk (fun k => x / 2 ^ k % 2) w 0 w = x % 2 ^ w := by
  intro w
  induction w with
  | zero => simp [nbk, Nat.mod_one]
  | succ w ih =>
    simp only [nbk]
    rw [if_pos (by omega), nbk_full _ (w + 1) w 0 w (by omega) (by omega), ih, Nat.zero_add]
    have := Nat.mod_add_div x (2 ^ w)
    have h2 := Nat.mod_add_div (x / 2 ^ w) 2
    rw [Nat.pow_succ, Nat.mod_mul]
    rw [Nat.mul_comm (x / 2 ^ w % 2)]
theorem nbk_shift (g : Nat → Nat) (t b : Nat) : ∀ k, nbk g (b + t) b k = nbk (fun j => g (b + j)) t 0 k := by
  intro k
  induction k with
  | zero => rfl
  | succ k ih =>
    simp only [nbk, Nat.zero_add]
    rw [ih]
    by_cases h : k < t
    · rw [if_pos (by omega), if_pos h]
    · rw [if_neg (by omega), if_neg h]
theorem nbk_congr (g h : Nat → Nat) (t b : Nat) : ∀ k, (∀ j, j < k → b + j < t → g (b + j) = h (b + j)) → nbk g t b k = nbk h t b k := by
  intro k
  induction k with
  | zero => intro _; rfl
  | succ k ih =>
    intro e
    simp only [nbk]
    rw [ih (fun j hj => e j (by omega))]
    by_cases hb : b + k < t
    · rw [if_pos hb, if_pos hb, e k (by omega) hb]
    · rw [if_neg hb, if_neg hb]
def numsT (g : Nat → Nat) (t n w : Nat) : List Int := (List.range n).map fun i => ((nbk g t (i * w) w : Nat) : Int)
theorem numsT_length (g : Nat → Nat) (t n w : Nat) : (numsT g t n w).length = n := by simp [numsT]
theorem numsT_zero (g : Nat → Nat) (n w : Nat) : numsT g 0 n w = List.replicate n 0 := by
  apply List.ext_getElem
  · simp [numsT]
  · intro i h1 h2; simp [numsT, nbk_none]
theorem rd_numsT (g : Nat → Nat) (t n w i : Nat) (h : i < n) : rd (numsT g t n w) (i : Int) = ((nbk g t (i * w) w : Nat) : Int) := by
  simp [rd, numsT, List.getD_eq_getElem?_getD, h]
theorem numsT_set (g : Nat → Nat) (t n w : Nat) (hw : 0 < w) (h : t / w < n) :
    (numsT g t n w).set (t / w) ((nbk g t (t / w * w) w + g t * 2 ^ (t % w) : Nat) : Int) = numsT g (t + 1) n w := by
  have hdm : t / w * w + t % w = t := by rw [Nat.mul_comm]; exact Nat.div_add_mod t w
  have hml : t % w < w := Nat.mod_lt _ hw
  apply List.ext_getElem
  · simp [numsT]
  · intro i h1 h2
    by_cases hi : t / w = i
    · subst hi
      rw [List.getElem_set_self]
      simp only [numsT, List.getElem_map, List.getElem_range]
      have := nbk_step g (t / w * w) (t % w) w hml
      rw [hdm] at this
      rw [this]
    · rw [List.getElem_set_ne hi]
      simp only [numsT, List.getElem_map, List.getElem_range]
      congr 1
      rcases Nat.lt_or_gt_of_ne hi with h3 | h3
      · have : t + 1 ≤ i * w := by
          have : (t / w + 1) * w ≤ i * w := Nat.mul_le_mul_right _ h3
          rw [Nat.add_mul] at this
          omega
        rw [nbk_none g t _ (by omega), nbk_none g (t + 1) _ this]
      · have : i * w + w ≤ t := by
          have : (i + 1) * w ≤ t / w * w := Nat.mul_le_mul_right _ h3
          rw [Nat.add_mul] at this
          omega
        exact nbk_full g t (t + 1) _ _ (by omega) (by omega)
/-- 'x | c << s' of numbers of 64 bits, where x has no more than s bits. -/
theorem or64 (x c s : Nat) (hx : x < 2 ^ s) (hs : s < 64) (hc : c ≤ 1) : bits .or .u64 (x : Int) (shl .u64 (IntKind.u64.wrap (c : Int)) (s : Int)) = ((x + c * 2 ^ s : Nat) : Int) := by
  have h8 : (2 : Nat) ^ s ≤ 2 ^ 63 := Nat.pow_le_pow_right (show 0 < 2 by decide) (show s ≤ 63 by omega)
  have h9 : (2 : Nat) ^ 63 = 9223372036854775808 := by decide
  have hm : c * 2 ^ s ≤ 1 * 9223372036854775808 := Nat.mul_le_mul hc (by rw [← h9]; exact h8)
  have e : shl .u64 (IntKind.u64.wrap (c : Int)) (s : Int) = ((c * 2 ^ s : Nat) : Int) := by
    unfold shl
    rw [u64_wrap, u64_wrap, show min (Int.toNat (s : Int)) IntKind.u64.bits = s from by
      show min s 64 = s
      omega]
    rw [show ((c : Int) % 18446744073709551616) = (c : Int) by omega]
    rw [show (2 : Int) ^ s = ((2 ^ s : Nat) : Int) from (Int.natCast_pow 2 s).symm, ← Int.natCast_mul]
    obtain ⟨q, hq⟩ : ∃ q, q = c * 2 ^ s := ⟨_, rfl⟩
    rw [← hq] at hm ⊢
    omega
  have hx' : x < 18446744073709551616 := by omega
  rw [e, u64_or_nat x (c * 2 ^ s) hx' (by omega)]
  congr 1
  have := Nat.two_pow_add_eq_or_of_lt hx c
  rw [Nat.mul_comm c, Nat.or_comm, ← this]
  omega
/-- The bits of numbers of w bits each, one behind the other. -/
def bitf (l : List Int) (w j : Nat) : Nat := ((l.getD (j / w) 0).toNat / 2 ^ (j % w)) % 2
theorem bitf_le (l : List Int) (w j : Nat) : bitf l w j ≤ 1 := by unfold bitf; omega
/-- The bits of bytes. -/
def bitb (b : List Int) (j : Nat) : Nat := ((b.getD (j / 8) 0).toNat / 2 ^ (j % 8)) % 2
theorem bitb_le (b : List Int) (j : Nat) : bitb b j ≤ 1 := by unfold bitb; omega
theorem bitb_bytesT (f : Nat → Nat) (hf : ∀ j, f j ≤ 1) (t n j : Nat) (h : j / 8 < n) : bitb (bytesT f t n) j = if j < t then f j else 0 := by
  unfold bitb
  have e : (bytesT f t n).getD (j / 8) 0 = ((pb f t (j / 8) : Nat) : Int) := by simp [bytesT, List.getD_eq_getElem?_getD, h]
  rw [e, Int.toNat_natCast, pb_bit f hf t (j / 8) (j % 8) (by omega), show 8 * (j / 8) + j % 8 = j by omega]
theorem bitf_numsT (g : Nat → Nat) (hg : ∀ j, g j ≤ 1) (t n w j : Nat) (hw : 0 < w) (h : j / w < n) : bitf (numsT g t n w) w j = if j < t then g j else 0 := by
  unfold bitf
  have e : (numsT g t n w).getD (j / w) 0 = ((nbk g t (j / w * w) w : Nat) : Int) := by simp [numsT, List.getD_eq_getElem?_getD, h]
  have hdm : j / w * w + j % w = j := by rw [Nat.mul_comm]; exact Nat.div_add_mod j w
  rw [e, Int.toNat_natCast, nbk_bit g hg t (j / w * w) w (j % w) (Nat.mod_lt _ hw), hdm]
/-- Numbers come back out of their bits. -/
theorem numsT_bitf (l : List Int) (w : Nat) (hl : ∀ x, x ∈ l → 0 ≤ x ∧ x.toNat < 2 ^ w) (g : Nat → Nat) (hg : ∀ j, j < l.length * w → g j = bitf l w j) : numsT g (l.length * w) l.length w = l := by
  apply List.ext_getElem
  · simp [numsT]
  · intro i h1 h2
    simp only [numsT, List.getElem_map, List.getElem_range]
    obtain ⟨h3, h4⟩ := hl l[i] (List.getElem_mem h2)
    have hle : i * w + w ≤ l.length * w := by
      have : (i + 1) * w ≤ l.length * w := Nat.mul_le_mul_right _ h2
      rw [Nat.add_mul] at this
      omega
    rw [nbk_full g (l.length * w) (i * w + w) (i * w) w hle (Nat.le_refl _), nbk_shift]
    rw [nbk_congr (fun j => g (i * w + j)) (fun k => l[i].toNat / 2 ^ k % 2) w 0 w (fun j hj _ => ?_), bits_sum, Nat.mod_eq_of_lt h4]
    · omega
    · rw [Nat.zero_add, hg _ (by omega)]
      unfold bitf
      have hw : 0 < w := by omega
      have e1 : (i * w + j) / w = i := by rw [Nat.mul_comm, Nat.mul_add_div hw, Nat.div_eq_of_lt hj, Nat.add_zero]
      have e2 : (i * w + j) % w = j := by rw [Nat.mul_comm, Nat.mul_add_mod, Nat.mod_eq_of_lt hj]
      rw [e1, e2]
      simp [List.getD_eq_getElem?_getD, List.getElem?_eq_getElem h2]
/-- The bytes of numbers of w bits each. -/
def putS (l : List Int) (w : Nat) : List Int := bytesT (bitf l w) (l.length * w) ((l.length * w + 7) / 8)
/-- The numbers of bytes. -/
def takeS (b : List Int) (n w : Nat) : List Int := numsT (bitb b) (n * w) n w
theorem takeS_putS (l : List Int) (w : Nat) (hl : ∀ x, x ∈ l → 0 ≤ x ∧ x.toNat < 2 ^ w) : takeS (putS l w) l.length w = l := by
  refine numsT_bitf l w hl _ (fun j hj => ?_)
  unfold putS
  rw [bitb_bytesT _ (bitf_le l w) _ _ _ (by omega), if_pos hj]
theorem takeS_lt (b : List Int) (n w : Nat) : ∀ x, x ∈ takeS b n w → 0 ≤ x ∧ x.toNat < 2 ^ w := by
  intro x hx
  simp only [takeS, numsT, List.mem_map, List.mem_range] at hx
  obtain ⟨i, _, rfl⟩ := hx
  exact ⟨by omega, by rw [Int.toNat_natCast]; exact nbk_lt _ (bitb_le b) _ _ _⟩
end Go.Proofs.YtokmildjniploaaDoor.MBits
