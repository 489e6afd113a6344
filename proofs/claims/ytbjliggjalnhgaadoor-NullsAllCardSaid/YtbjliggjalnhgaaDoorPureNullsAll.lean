/- NullsAll's plain law: bits' bytes and bytes' bits are the document's. Conditions: none. -/
import Derived.Test.YtbjliggjalnhgaaDoorBRNNullsAll
import Derived.Test.YtbjliggjalnhgaaDoorPNullsAllx6
import Derived.OpenShut
namespace Go.Proofs.YtbjliggjalnhgaaDoor.Pure
open Go.RowKit Go.Proofs.YtbjliggjalnhgaaDoor.PNullsAll Go.Proofs.YtbjliggjalnhgaaDoorW.PrintWords Go.Proofs.YtbjliggjalnhgaaDoorW.PrintLast Go.Proofs.YtbjliggjalnhgaaDoorW.PrintMore Go.Proofs.YtbjliggjalnhgaaDoor.MBits Go.Proofs.YtbjliggjalnhgaaDoor.BNNullsAll
set_option linter.unusedVariables false
theorem nulls_begun : Ev rabbetlaw4_begun.f true := Ev.of rabbetlaw4_begun.mono (k := 30) (by decide +kernel)
theorem tally_loop (l : List Bool) (hn : l.length ≤ 100000) (d : Nat) : ∀ (i a : Nat), i + d = l.length → a ≤ i → a + (l.drop i).count true = l.count true → Ev (fun k => rabbetlaw4_NullsAll.l1 k l (a : Int) (i : Int)) true := by
  induction d with
  | zero =>
    intro i a hi ha hc
    have e : a = l.count true := by rw [← hc, List.drop_eq_nil_of_le (by omega)]; rfl
    refine Ev.step (f := fun k => (nulls_Count.f k l).bind fun t => some (t == (a : Int))) (fun k => ?_) (Ev.bind (count_ev l hn) (Ev.congr (f := fun _ => some true) (fun k => ?_) (Ev.now _)))
    · simp only [rabbetlaw4_NullsAll.l1]
      rw [if_neg (by omega)]
    · rw [e, beq_self_eq_true]
  | succ d ih =>
    intro i a hi ha hc
    have hlt : i < l.length := by omega
    have hr : rdOf false l (i : Int) = l[i] := by rw [rdOf_eq, List.getD_eq_getElem?_getD, List.getElem?_eq_getElem hlt, Option.getD_some]
    rw [List.drop_eq_getElem_cons hlt] at hc
    by_cases hb : l[i] = true
    · refine Ev.step (fun k => ?_) (ih (i + 1) (a + 1) (by omega) (by omega) (by rw [hb, List.count_cons_self] at hc; omega))
      simp only [rabbetlaw4_NullsAll.l1]
      rw [if_pos (by omega), if_pos (by omega), hr, if_pos hb, show wrap64 ((i : Int) + 1) = ((i + 1 : Nat) : Int) by unfold wrap64; omega, show wrap64 ((a : Int) + 1) = ((a + 1 : Nat) : Int) by unfold wrap64; omega]
    · refine Ev.step (fun k => ?_) (ih (i + 1) a (by omega) (by omega) (by rw [List.count_cons_of_ne (by intro h; exact hb h)] at hc; exact hc))
      simp only [rabbetlaw4_NullsAll.l1]
      rw [if_pos (by omega), if_pos (by omega), hr, if_neg hb, show wrap64 ((i : Int) + 1) = ((i + 1 : Nat) : Int) by unfold wrap64; omega]
theorem compare_loop (l t : List Bool) (hl : t.length ≤ 100000) (hend : Ev (fun k => rabbetlaw4_NullsAll.l1 k l 0 0) true) (d : Nat) : ∀ i, i + d = t.length → Ev (fun k => rabbetlaw4_NullsAll.l0 k l t t (i : Int)) true := by
  induction d with
  | zero =>
    intro i hi
    refine Ev.step (fun k => ?_) hend
    simp only [rabbetlaw4_NullsAll.l0]
    rw [if_neg (by omega)]
  | succ d ih =>
    intro i hi
    refine Ev.step (fun k => ?_) (ih (i + 1) (by omega))
    simp only [rabbetlaw4_NullsAll.l0]
    rw [if_pos (by omega), if_pos (by omega), if_pos (by omega), bne_self_eq_false, if_neg (by decide), show wrap64 ((i : Int) + 1) = ((i + 1 : Nat) : Int) by unfold wrap64; omega]
theorem takeR_len (b : List Int) (n : Int) : (takeR b n).1.length ≤ 1000 := by
  unfold takeR
  split
  · simp
  · split
    · simp only [takeL_length]; omega
    · simp
theorem take_any (b : List Int) (hb : wf8 b) (n : Int) : Ev (fun k => nulls_Take.f k b n) (takeR b n) := by
  have hno : Ev (fun k => nulls_read.j0 k b n true) ([], some 0) := by
    refine Ev.step (f := fun _ => some ([], some 0)) (fun k => ?_) (Ev.now _)
    simp only [nulls_read.j0, if_true]
  by_cases h1 : n < 0
  · unfold takeR
    rw [if_pos (.inl h1)]
    exact take_some b n 0 (Ev.congr (fun k => by simp only [nulls_read.f]; rw [if_pos h1]) hno)
  by_cases h2 : 1000 < n
  · unfold takeR
    rw [if_pos (.inr (.inl h2))]
    exact take_some b n 0 (Ev.congr (fun k => by simp only [nulls_read.f]; rw [if_neg h1, if_pos h2]) hno)
  exact take_ev b hb n (by omega) (by omega)
theorem NullsAll : ∀ (l0 : List Bool) (l1 : List Int) (a2 : Int), l0.length ≤ maxLen → l0.length * 1 ≤ 140737488351232 → (∀ y, y ∈ l0 → (fun _ => True) y) → l1.length ≤ maxLen → l1.length * 1 ≤ 140737488351232 → (∀ x ∈ l1, (Lit.int .u8 x).wf = true) → (Lit.int .i64 a2).wf = true → ∃ k, rabbetlaw4_NullsAll.f k l0 l1 a2 = some true := by
  intro l b n _ _ _ _ _ hb _
  have hbf : wf8 b := fun x hx => by have := bounds_u8 (hb x hx); omega
  obtain ⟨K0, e0⟩ := nulls_begun
  have skip : rabbetlaw4_NullsAll.j0 (K0 + 1) l b n true = some true := by simp only [rabbetlaw4_NullsAll.j0, if_true]
  by_cases hlen : (l.length : Int) > 60
  · refine ⟨K0 + 1, ?_⟩
    unfold rabbetlaw4_NullsAll.f
    rw [e0 _ (by omega), Option.bind_some, if_pos rfl, if_pos hlen, skip]
  by_cases hlen2 : (b.length : Int) > 20
  · refine ⟨K0 + 1, ?_⟩
    unfold rabbetlaw4_NullsAll.f
    rw [e0 _ (by omega), Option.bind_some, if_pos rfl, if_neg hlen, decide_eq_true hlen2, skip]
  have hH : rabbetlaw0_Handed.f b = some b := by unfold rabbetlaw0_Handed.f; rw [if_pos (by omega)]
  have hS : rabbetlaw0_Same.f b b = some true := by unfold rabbetlaw0_Same.f; rw [if_pos rfl]
  obtain ⟨K1, e1⟩ := take_any b hbf n
  obtain ⟨K2, e2⟩ := BRNNullsAll.rtaken_ev b hbf n
  obtain ⟨K3, e3⟩ := put_ev l (by omega)
  obtain ⟨K4, e4⟩ := BRNNullsAll.rputn_ev l (by omega)
  have ht := takeR_len b n
  obtain ⟨K5, e5⟩ := compare_loop l (takeR b n).1 (by omega) (tally_loop l (by omega) l.length 0 0 (by omega) (by omega) (by rw [List.drop_zero, Nat.zero_add])) _ 0 (Nat.zero_add _)
  generalize takeR b n = t at *
  generalize putL l = p at *
  obtain ⟨K, hK⟩ : ∃ K, K = K0 + K1 + K2 + K3 + K4 + K5 := ⟨_, rfl⟩
  dsimp only at e1 e2 e3 e4 e5
  refine ⟨K + 2, ?_⟩
  unfold rabbetlaw4_NullsAll.f
  rw [e0 _ (by omega), Option.bind_some, if_pos rfl, if_neg hlen, decide_eq_false hlen2]
  simp only [rabbetlaw4_NullsAll.j0, Bool.false_eq_true, if_false]
  rw [hH, Option.bind_some, e1 _ (by omega), Option.bind_some, e2 _ (by omega), Option.bind_some, e3 _ (by omega), Option.bind_some, e4 _ (by omega), Option.bind_some, if_pos rfl, if_neg (by simp), if_pos rfl, hS, Option.bind_some]
  simp only [rabbetlaw4_NullsAll.j1, Bool.not_true, Bool.false_eq_true, if_false]
  exact e5 _ (by omega)
end Go.Proofs.YtbjliggjalnhgaaDoor.Pure
