/- num's printed functions and the plain ones. Conditions: none. -/
import Derived.Test.YtigldipjkejalaaDoorMNum
import Derived.Test.YtigldipjkejalaaDoorPRleAllx13
namespace Go.Proofs.YtigldipjkejalaaDoor.BRleAll
open Go.RowKit Go.Proofs.YtigldipjkejalaaDoor.PRleAll Go.Proofs.YtigldipjkejalaaDoorW.PrintWords Go.Proofs.YtigldipjkejalaaDoorW.PrintLast Go.Proofs.YtigldipjkejalaaDoorW.PrintMore Go.Proofs.YtigldipjkejalaaDoor.MNum
set_option linter.unusedVariables false

theorem put_loop (f : Nat) : ∀ (v : Nat) (x : List Int), v < 128 ^ (f + 1) → x.length + f < 1000 → Ev (fun k => num_Put.l0 k (v : Int) x) (x ++ E f v) := by
  induction f with
  | zero =>
    intro v x h hx
    have h' : v < 128 := by simpa using h
    refine Ev.step (f := fun _ => some (x ++ E 0 v)) (fun k => ?_) (Ev.now _)
    simp only [num_Put.l0]
    rw [if_neg (by omega), if_pos (by omega)]
    simp only [E]
    rw [Int.emod_eq_of_lt (by omega) (by omega)]
  | succ f ih =>
    intro v x h hx
    by_cases h1 : v < 128
    · refine Ev.step (f := fun _ => some (x ++ E (f + 1) v)) (fun k => ?_) (Ev.now _)
      simp only [num_Put.l0]
      rw [if_neg (by omega), if_pos (by omega)]
      simp only [E]
      rw [if_pos h1, Int.emod_eq_of_lt (by omega) (by omega)]
    · have hih := ih (v / 128) (x ++ [((v % 128 + 128 : Nat) : Int)]) (by rw [Nat.pow_succ] at h; omega) (by simp; omega)
      refine Ev.step (f := fun k => num_Put.l0 k ((v / 128 : Nat) : Int) (x ++ [((v % 128 + 128 : Nat) : Int)])) (fun k => ?_) ?_
      · simp only [num_Put.l0]
        rw [if_pos (by omega), if_pos (by omega), or128 _ (by omega)]
        rw [show ((v % 128 + 128 : Nat) : Int) = (v : Int) % 128 + 128 by omega, show ((v / 128 : Nat) : Int) = (v : Int) / 128 by omega]
      · have e : x ++ E (f + 1) v = (x ++ [((v % 128 + 128 : Nat) : Int)]) ++ E f (v / 128) := by simp [E, if_neg h1]
        rw [e]; exact hih
theorem put_ev (v : Nat) (h : v < 18446744073709551616) : Ev (fun k => num_Put.f k (v : Int)) (E 9 v) := by
  have h2 := put_loop 9 v [] (Nat.lt_trans h (by decide)) (by decide)
  exact Ev.congr (fun k => by simp only [num_Put.f]) h2

theorem read_end (l : List Int) (x : Int) : ∃ c, (errG c = 3 ∨ errG c = 2) ∧ Ev (fun k => num_read.l0 k l x 10) (0, 0, some c) := by
  refine ⟨0, by decide, Ev.step (f := fun _ => some (0, 0, some 0)) (fun k => ?_) (Ev.now _)⟩
  simp only [num_read.l0]
  rw [if_neg (by decide)]
theorem drop_cons (l : List Int) (i : Nat) (h : i < l.length) : l.drop i = rd l (i : Int) :: l.drop (i + 1) := by
  rw [List.drop_eq_getElem_cons h]
  simp [rd, List.getD_eq_getElem?_getD, List.getElem?_eq_getElem h]
theorem rd_mem (l : List Int) (i : Nat) (h : i < l.length) : rd l (i : Int) ∈ l := by
  have : rd l (i : Int) = l[i] := by simp [rd, List.getD_eq_getElem?_getD, List.getElem?_eq_getElem h]
  rw [this]; exact List.getElem_mem h
theorem read_loop (l : List Int) (hl : ∀ x, x ∈ l → 0 ≤ x ∧ x < 256) (m : Nat) : ∀ (i v : Nat), i + m = 10 → i ≤ l.length → v < 128 ^ i →
    (D m (decide (i = 0)) (l.drop i) = none ∧ ∃ c, (errG c = 3 ∨ errG c = 2) ∧ Ev (fun k => num_read.l0 k l (v : Int) (i : Int)) (0, 0, some c)) ∨
    ∃ (v' n' : Nat), D m (decide (i = 0)) (l.drop i) = some (v', n') ∧ Ev (fun k => num_read.l0 k l (v : Int) (i : Int)) (((v + 128 ^ i * v' : Nat) : Int), ((i + n' : Nat) : Int), none) := by
  induction m with
  | zero =>
    intro i v hm _ _
    obtain rfl : i = 10 := by omega
    exact .inl ⟨rfl, read_end l v⟩
  | succ m ih =>
    intro i v hm hi hv
    by_cases hlen : i = l.length
    · refine .inl ⟨by rw [hlen, List.drop_length]; rfl, 1, by decide, Ev.step (f := fun _ => some (0, 0, some 1)) (fun k => ?_) (Ev.now _)⟩
      simp only [num_read.l0]
      rw [if_pos (by omega), if_pos (by omega)]
    have hlt : i < l.length := by omega
    obtain ⟨hc0, hc1⟩ := hl _ (rd_mem l i hlt)
    have h7 : wrap64 (7 * (i : Int)) = ((7 * i : Nat) : Int) := by unfold wrap64; omega
    have hi1 : wrap64 ((i : Int) + 1) = ((i + 1 : Nat) : Int) := by unfold wrap64; omega
    have hpow : (128 : Nat) ^ i = 2 ^ (7 * i) := by rw [show (128 : Nat) = 2 ^ 7 from rfl, ← Nat.pow_mul]
    rw [drop_cons l i hlt]
    obtain ⟨c, hc⟩ := Int.eq_ofNat_of_zero_le hc0
    have hD : D (m + 1) (decide (i = 0)) ((c : Int) :: l.drop (i + 1)) = if (c : Int) < 128 then (if decide (i = 0) = false ∧ (c : Int) = 0 then none else if m = 0 ∧ 1 < (c : Int) then none else some ((c : Int).toNat, 1))
      else match D m false (l.drop (i + 1)) with | none => none | some (v, n) => some ((c : Int).toNat - 128 + 128 * v, n + 1) := rfl
    rw [hc, hD]
    rw [hc] at hc1
    by_cases h1 : c < 128
    · rw [if_pos (by omega)]
      by_cases h2 : i ≠ 0 ∧ c = 0
      · refine .inl ⟨by rw [if_pos ⟨by simpa using h2.1, by omega⟩], 0, by decide, Ev.step (f := fun _ => some (0, 0, some 0)) (fun k => ?_) (Ev.now _)⟩
        simp only [num_read.l0]
        rw [if_pos (by omega), if_neg (by omega), if_pos (by omega), if_pos (by omega), h7, if_pos (by omega), hc, if_pos ((and128 _ (by omega) (by omega)).2 (by omega)), if_pos (by omega), if_pos (by omega)]
      rw [if_neg (by intro h; apply h2; exact ⟨by simpa using h.1, by omega⟩)]
      by_cases h3 : m = 0 ∧ 1 < c
      · refine .inl ⟨by rw [if_pos ⟨h3.1, by omega⟩], 0, by decide, Ev.step (f := fun _ => some (0, 0, some 0)) (fun k => ?_) (Ev.now _)⟩
        simp only [num_read.l0]
        rw [if_pos (by omega), if_neg (by omega), if_pos (by omega), if_pos (by omega), h7, if_pos (by omega), hc, if_pos ((and128 _ (by omega) (by omega)).2 (by omega)), if_pos (by omega), if_neg (by omega), if_pos (by omega), if_pos (by omega)]
      · refine .inr ⟨c, 1, by rw [if_neg (by omega)]; simp, ?_⟩
        have hval : bits .or .u64 (v : Int) (shl .u64 (IntKind.u64.wrap (bits .and .u8 (c : Int) 127)) ((7 * i : Nat) : Int)) = ((v + 128 ^ i * c : Nat) : Int) := by
          rw [and127 _ (by omega) (by omega), show ((c : Int) % 128) = (c : Int) by omega, or_shl v c (7 * i) (by rw [← hpow]; exact hv) (by omega) h1 ?_]
          · rw [hpow, Nat.mul_comm c]
          · by_cases h9 : m = 0
            · have : c ≤ 1 := by omega
              obtain rfl : i = 9 := by omega
              have : c = 0 ∨ c = 1 := by omega
              rcases this with rfl | rfl <;> decide
            · have h8 : 7 * i ≤ 56 := by omega
              have hp := Nat.pow_le_pow_right (show 0 < 2 by decide) h8
              calc c * 2 ^ (7 * i) ≤ 127 * 2 ^ 56 := Nat.mul_le_mul (by omega) hp
                _ < 18446744073709551616 := by decide
        refine Ev.step (f := fun _ => some (((v + 128 ^ i * c : Nat) : Int), ((i + 1 : Nat) : Int), none)) (fun k => ?_) (Ev.now _)
        simp only [num_read.l0]
        rw [if_pos (by omega), if_neg (by omega), if_pos (by omega), if_pos (by omega), h7, if_pos (by omega), hc, if_pos ((and128 _ (by omega) (by omega)).2 (by omega)), hi1, hval]
        by_cases h0 : i = 0
        · subst h0
          rw [if_neg (by omega), if_neg (by omega)]
        · rw [if_pos (by omega), if_neg (by omega)]
          by_cases h9 : i = 9
          · rw [if_pos (by omega), if_neg (by omega)]
          · rw [if_neg (by omega)]
    · rw [if_neg (by omega)]
      have hstep : ∀ k, num_read.l0 (k + 1) l (v : Int) (i : Int) = num_read.l0 k l (bits .or .u64 (v : Int) (shl .u64 (IntKind.u64.wrap (bits .and .u8 (c : Int) 127)) ((7 * i : Nat) : Int))) ((i + 1 : Nat) : Int) := by
        intro k
        simp only [num_read.l0]
        rw [if_pos (by omega), if_neg (by omega), if_pos (by omega), if_pos (by omega), h7, if_pos (by omega), hc, if_neg (fun h => by have := (and128 _ (by omega) (by omega)).1 h; omega), hi1]
      by_cases h9 : m = 0
      · subst h9
        obtain rfl : i = 9 := by omega
        obtain ⟨e, he, hev⟩ := read_end l (bits .or .u64 (v : Int) (shl .u64 (IntKind.u64.wrap (bits .and .u8 (c : Int) 127)) ((7 * 9 : Nat) : Int)))
        exact .inl ⟨rfl, e, he, Ev.step hstep hev⟩
      · have hval : bits .or .u64 (v : Int) (shl .u64 (IntKind.u64.wrap (bits .and .u8 (c : Int) 127)) ((7 * i : Nat) : Int)) = ((v + 128 ^ i * (c - 128) : Nat) : Int) := by
          rw [and127 _ (by omega) (by omega), show ((c : Int) % 128) = ((c - 128 : Nat) : Int) by omega, or_shl v (c - 128) (7 * i) (by rw [← hpow]; exact hv) (by omega) (by omega) ?_]
          · rw [hpow, Nat.mul_comm (c - 128)]
          · have h8 : 7 * i ≤ 56 := by omega
            have hp := Nat.pow_le_pow_right (show 0 < 2 by decide) h8
            calc (c - 128) * 2 ^ (7 * i) ≤ 127 * 2 ^ 56 := Nat.mul_le_mul (by omega) hp
              _ < 18446744073709551616 := by decide
        rw [hval] at hstep
        have hb : v + 128 ^ i * (c - 128) < 128 ^ (i + 1) := by
          rw [Nat.pow_succ]
          have : 128 ^ i * (c - 128) ≤ 128 ^ i * 127 := Nat.mul_le_mul_left _ (by omega)
          omega
        have := ih (i + 1) (v + 128 ^ i * (c - 128)) (by omega) (by omega) hb
        rw [show decide (i + 1 = 0) = false by simp] at this
        rcases this with ⟨hd, e, he, hev⟩ | ⟨v', n', hd, hev⟩
        · exact .inl ⟨by rw [hd], e, he, Ev.step hstep hev⟩
        · refine .inr ⟨c - 128 + 128 * v', n' + 1, by rw [hd]; simp, ?_⟩
          have e1 : v + 128 ^ i * (c - 128 + 128 * v') = v + 128 ^ i * (c - 128) + 128 ^ (i + 1) * v' := by rw [Nat.pow_succ, Nat.mul_add, Nat.mul_assoc, Nat.add_assoc]
          rw [e1, show i + (n' + 1) = i + 1 + n' by omega]
          exact Ev.step hstep hev
/-- Take: the number, how many bytes, and whether there is one. -/
def takeR (l : List Int) : Int × Int × Bool := match D 10 true l with | none => (0, 0, false) | some (v, n) => ((v : Int), (n : Int), true)
theorem take_ev (l : List Int) (hl : ∀ x, x ∈ l → 0 ≤ x ∧ x < 256) : Ev (fun k => num_Take.f k l) (takeR l) := by
  have h := read_loop l hl 10 0 0 rfl (Nat.zero_le _) (by decide)
  simp only [List.drop_zero, decide_true] at h
  rcases h with ⟨hd, c, hc, hev⟩ | ⟨v', n', hd, hev⟩
  · have e : takeR l = (0, 0, false) := by unfold takeR; rw [hd]
    rw [e]
    refine Ev.congr (f := fun k => (num_read.f k l).bind _) (fun k => by simp only [num_Take.f]; rfl) (Ev.bind (Ev.congr (fun k => by simp only [num_read.f]; rfl) hev) (Ev.congr (f := fun _ => some (0, 0, false)) (fun k => ?_) (Ev.now _)))
    simp only [Option.isNone, Bool.false_eq_true, if_false, Option.getD_some, errors_IsS.f, Option.bind_some]
    rcases hc with hc | hc
    · simp [hc]
    · simp [hc]
  · have e : takeR l = ((v' : Int), (n' : Int), true) := by unfold takeR; rw [hd]
    rw [e]
    refine Ev.congr (f := fun k => (num_read.f k l).bind _) (fun k => by simp only [num_Take.f]; rfl) (Ev.bind (Ev.congr (fun k => by simp only [num_read.f]; rfl) hev) (Ev.congr (f := fun _ => some ((v' : Int), (n' : Int), true)) (fun k => ?_) (Ev.now _)))
    simp [errors_IsN.f]
end Go.Proofs.YtigldipjkejalaaDoor.BRleAll
