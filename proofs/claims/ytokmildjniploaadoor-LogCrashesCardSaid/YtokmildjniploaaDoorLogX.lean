/- LogAnew: what was made anew is all that there is: the walk. Conditions: none. -/
import Derived.Test.YtokmildjniploaaDoorLogF
import Derived.Test.YtokmildjniploaaDoorPLogx2
namespace Go.Proofs.YtokmildjniploaaDoor.PLog
open Go.RowKit Go.Proofs.YtokmildjniploaaDoorW.PrintWords Go.Proofs.YtokmildjniploaaDoorW.PrintLast Go.Proofs.YtokmildjniploaaDoorW.PrintMore Go.Proofs.YtokmildjniploaaDoor.BGLog Go.Proofs.YtokmildjniploaaDoor.MStr
open Go.Extern.Stop Go.Stop Go.Extern
attribute [local go_sem] max2_int min2_int max_two min_two   -- for this text's walks alone
set_option linter.unusedVariables false
set_option linter.unusedSimpArgs false
/-! ### Rows by where they lie -/
def RowC (W : World) (x : Rx) (r : List Int) : Prop := x.2.1 = r.length ∧ x.2.1 ≤ x.2.2 ∧ Kd.C (Kd.int .u8) W x.1 x.2.1 r
theorem RowC.below {W W1 : World} {x : Rx} {r : List Int} (h : RowC W x r) (hb : Below W.heap.size W W1) : RowC W1 x r := ⟨h.1, h.2.1, Kd.C_below h.2.2 hb⟩
theorem RowX.c {W : World} {x : Rx} {r : List Int} (h : RowX W x r) : RowC W x r := ⟨h.1, h.2.1, h.2.2.C⟩
theorem each_drop {α β : Type} {P : α → β → Prop} {xs : List α} {ys : List β} (h : Each P xs ys) (k : Nat) : Each P (xs.drop k) (ys.drop k) := by
  refine ⟨by rw [List.length_drop, List.length_drop, h.1], fun i x y h1 h2 => ?_⟩
  rw [List.getElem?_drop] at h1 h2
  exact h.2 _ _ _ h1 h2
theorem rows_deep {W : World} {A : Option Addr} {n : Nat} {xs : List Rx} {recs : List (List Int)} (h : Kd.C kQ W A n xs) (he : Each (RowC W) xs recs) : Kd.C (Kd.slice 5 (Kd.int .u8)) W A n recs := by
  obtain ⟨h1, h2, h3⟩ := h
  refine ⟨he.1.symm.trans h1, h2, fun hp => ?_⟩
  obtain ⟨ad, e, hh⟩ := h3 hp
  refine ⟨ad, e, fun j p hj => ?_⟩
  have hjl : j < recs.length := by
    rcases Nat.lt_or_ge j recs.length with c | c
    · exact c
    · rw [List.getElem?_eq_none c] at hj; cases hj
  obtain ⟨x, hx, hX⟩ := he.at_ j hjl
  have hp2 : recs[j] = p := by rw [List.getElem?_eq_getElem hjl] at hj; exact Option.some.inj hj
  rw [hp2] at hX
  obtain ⟨cs, hlen, hK, hcell⟩ := hh j x hx
  refine ⟨cs, hlen, ⟨x.1, x.2.2, ?_, ?_, ?_⟩, hcell⟩
  · rw [← hX.1]; exact hK
  · rw [← hX.1]; exact hX.2.1
  · rw [← hX.1]; exact hX.2.2
def rxOf : Option Value → Rx
  | some (.slice A n c) => (A, n, c)
  | _ => (none, 0, 0)
theorem rows_shallow {W : World} {A : Option Addr} {n : Nat} {recs : List (List Int)} (h : Kd.C (Kd.slice 5 (Kd.int .u8)) W A n recs) : ∃ xs, Kd.C kQ W A n xs ∧ Each (RowC W) xs recs := by
  have hl : recs.length = n := h.1
  have h0 := h
  obtain ⟨_, h2, h3⟩ := h
  by_cases hz : n = 0
  · subst hz
    obtain rfl := List.eq_nil_of_length_eq_zero hl
    exact ⟨[], ⟨rfl, h2, fun hp => absurd hp (by omega)⟩, Each.nil⟩
  obtain ⟨ad, rfl, _⟩ := h3 (by omega)
  have hall : ∀ j (hj : j < n), ∃ A1 c1, W.cell? (ad.add j) = some (.slice A1 (recs[j]'(by omega)).length c1) ∧ (recs[j]'(by omega)).length ≤ c1 ∧ Kd.C (Kd.int .u8) W A1 (recs[j]'(by omega)).length (recs[j]'(by omega)) := fun j hj => by
    obtain ⟨ad2, A1, c1, e, hx, hc, hC⟩ := at_rows h0 j hj _ (List.getElem?_eq_getElem (by omega))
    cases e
    exact ⟨A1, c1, hx, hc, hC⟩
  have hlx : ((List.range n).map fun j => rxOf (W.cell? (ad.add j))).length = n := by rw [List.length_map, List.length_range]
  have hgx : ∀ j p, ((List.range n).map fun j => rxOf (W.cell? (ad.add j)))[j]? = some p → j < n ∧ p = rxOf (W.cell? (ad.add j)) := fun j p hj => by
    rw [List.getElem?_map] at hj
    rcases Nat.lt_or_ge j n with c | c
    · rw [List.getElem?_range c] at hj
      exact ⟨c, (Option.some.inj hj).symm⟩
    · rw [List.getElem?_eq_none (by rw [List.length_range]; exact c)] at hj
      cases hj
  refine ⟨(List.range n).map fun j => rxOf (W.cell? (ad.add j)), ⟨hlx, h2, fun _ => ⟨ad, rfl, fun j p hj => ?_⟩⟩, ⟨by rw [hlx, hl], fun j p r hj hr => ?_⟩⟩
  · obtain ⟨hjn, rfl⟩ := hgx j p hj
    obtain ⟨A1, c1, hx, _, _⟩ := hall j hjn
    rw [hx]
    refine ⟨[.slice A1 (recs[j]'(by omega)).length c1], rfl, rfl, fun i u hu => ?_⟩
    match i, hu with
    | 0, hu =>
      have e : kQ.sz = 1 := rfl
      rw [e, Nat.mul_one, Nat.add_zero, hx]
      exact hu
  · obtain ⟨hjn, rfl⟩ := hgx j p hj
    obtain ⟨A1, c1, hx, hc, hC⟩ := hall j hjn
    rw [List.getElem?_eq_getElem (by omega)] at hr
    obtain rfl := Option.some.inj hr
    rw [hx]
    exact ⟨rfl, hc, hC⟩
/-- Where a row of rows is cut. -/
theorem cutRows (A : Option Addr) (n c k : Nat) (hk : k ≤ n) : ∀ W : World, (Instr.slice 31 (.slice A n c) (some (.int .i64 (k : Int))) none none).run Tryd.prog W = .ok (.slice (if c = k then A else A.map (·.add (k * 1))) (n - k) (c - k)) W := by
  intro W
  obtain ⟨i0, hi0, hz⟩ := Option.map_eq_some_iff.1 infoB
  simp only [Prod.mk.injEq] at hz
  have h := cut_from (P := Tryd.prog) 31 35 .i64 Tryd.underlying31 hi0 1 hz.2.1 A n c (k : Int) (by omega) (by omega) W
  rw [h, Int.toNat_natCast]
/-- One deed of noughts. -/
theorem deed_lit (W : World) : Kd.C k46 (W.alloc (.cells #[.int .i64 0, .slice none 0 0, .slice none 0 0, .slice none 0 0, .int .i64 0, .int .i64 0] 46)) (some ⟨W.heap.size, 0, none⟩) 1 [z46] := by
  have hb := heap_alloc_new W (.cells #[.int .i64 0, .slice none 0 0, .slice none 0 0, .slice none 0 0, .int .i64 0, .int .i64 0] 46)
  refine ⟨rfl, by decide, fun _ => ⟨_, rfl, fun j p hj => ?_⟩⟩
  match j, hj with
  | 0, hj =>
    obtain rfl := Option.some.inj hj
    refine ⟨[.int .i64 0, .slice none 0 0, .slice none 0 0, .slice none 0 0, .int .i64 0, .int .i64 0], rfl, k46_mk _ z46 (A1 := none) (c1 := 0) (Nat.le_refl _) (Kd.C_nil _ _) (A2 := none) (c2 := 0) (Nat.le_refl _) (Kd.C_nil _ _) (A3 := none) (c3 := 0) (Nat.le_refl _) (Kd.C_nil _ _), fun i u hu => ?_⟩
    rw [add_plain]
    have := blk_cell hb i
    rw [Nat.zero_mul, Nat.zero_add]
    rw [this]
    simpa using hu
theorem light_one : rabbetlaw21_light.f 10 [z46] = some true := by decide +kernel
theorem sum300 : ∀ l : List (List Int), (∀ r, r ∈ l → r.length ≤ 300) → sumS l ≤ 3 * l.length
  | [], _ => Nat.le_refl _
  | r :: l, h => by
    have e := sumS_cons r l
    have h1 := h r List.mem_cons_self
    have h2 := sum300 l (fun x hx => h x (List.mem_cons_of_mem _ hx))
    rw [e, List.length_cons]
    have : chN (4 + r.length) ≤ 3 := by unfold chN; omega
    omega
end Go.Proofs.YtokmildjniploaaDoor.PLog
