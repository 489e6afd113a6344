/- Opening of arguments for the rows: a slice of whatever elements as a list, by its kind. Conditions: none. -/
import Derived.ProofKit
import Derived.WalkKit
import Derived.OpenShut
import Derived.SizedLaws
import Derived.Deep.Slices
import Derived.LaidLaws
import Derived.RowKitTokens
import Derived.Test.YtokmildjniploaaDoorWWords
import Derived.Test.YtokmildjniploaaDoorWLast
import Derived.Test.YtokmildjniploaaDoorWMore
namespace Go.Proofs.YtokmildjniploaaDoor.XLib
open Go.RowKit Go.ChangeShapes Go.WideShapes Go.Proofs.YtokmildjniploaaDoorW.PrintWords Go.Proofs.YtokmildjniploaaDoorW.PrintLast
set_option linter.unusedVariables false

theorem slice_open {H α : Type} {enc : TypeId × Value → H} {P : Program} {w : World} {sp : Nat → Bool} {held : Bool} (d : Kd α) (Pok : α → Prop) {t e : TypeId}
    (ht : P.underlying t = some (.slice e)) (hc : P.cellsOf e = d.sz)
    (hel : ∀ {n : Nat} {cs : List Value} {x : DataW H × List MemPlace}, DataW.trod enc P w 0 sp held n e cs = some x → ∃ y : α, d.K w y cs ∧ Pok y)
    {A : Option Addr} {n c : Nat} {dd : DataW H} {p : List MemPlace} (h : DataW.Trod enc P w 0 sp held t (.slice A n c) dd p) :
    ∃ l : List α, l.length = n ∧ d.C w A n l ∧ (∀ y, y ∈ l → Pok y) ∧ n ≤ c ∧ n ≤ maxLen ∧
      (∀ {ts : List TypeId} {ds : List (DataW H)} {j : Nat}, (DataW.weightsEach P ts ds).all (· ≤ reachBytes) = true → ts[j]? = some t → ds[j]? = some dd → n * P.bytesOf e ≤ 140737488351232) := by
  obtain ⟨fuel, hf⟩ := h
  have hf' : DataW.trod enc P w 0 sp held fuel t [.slice A n c] = some (dd, p) := by simpa [Value.cells] using hf
  rcases Go.Deep.open_slice ht hf' with ⟨hcs, hx⟩ | ⟨a, len, cap, m, k, D, Pl, hcs, hb, hl, hm, hmm, hx, hall⟩
  · simp only [List.cons.injEq, Value.slice.injEq, and_true] at hcs
    obtain ⟨rfl, rfl, rfl⟩ := hcs
    refine ⟨[], rfl, ⟨rfl, Nat.zero_le _, fun h => absurd h (by omega)⟩, fun y hy => (by cases hy), Nat.le_refl _, Nat.zero_le _, fun _ _ _ => ?_⟩
    simp
  · simp only [List.cons.injEq, Value.slice.injEq, and_true] at hcs
    obtain ⟨rfl, rfl, rfl⟩ := hcs
    have hle : n ≤ m := by rw [hmm]; split <;> omega
    have hY : ∀ i, i < n → ∃ y : α, ∃ cs' : List Value, w.cells? 0 (a.add (i * P.cellsOf e)) (P.cellsOf e) = some cs' ∧ d.K w y cs' ∧ Pok y := fun i hi => by
      obtain ⟨cs', h1, h2⟩ := hall i (by omega)
      obtain ⟨y, hy, hp⟩ := hel h2
      exact ⟨y, cs', h1, hy, hp⟩
    have hl2 : ∃ l : List α, l.length = n ∧ ∀ i (hi : i < l.length), ∃ cs' : List Value, w.cells? 0 (a.add (i * P.cellsOf e)) (P.cellsOf e) = some cs' ∧ d.K w l[i] cs' ∧ Pok l[i] := by
      clear hall hx hmm hle hl hm
      have key : ∀ q, q ≤ n → ∃ l : List α, l.length = q ∧ ∀ i (hi : i < l.length), ∃ cs' : List Value, w.cells? 0 (a.add (i * P.cellsOf e)) (P.cellsOf e) = some cs' ∧ d.K w l[i] cs' ∧ Pok l[i] := by
        intro q
        induction q with
        | zero => intro _; exact ⟨[], rfl, fun i hi => absurd hi (by simp)⟩
        | succ q ih =>
          intro hq
          obtain ⟨l, hll, hh⟩ := ih (by omega)
          obtain ⟨y, cs', h1, h2, h3⟩ := hY q (by omega)
          refine ⟨l ++ [y], by simp [hll], fun i hi => ?_⟩
          by_cases hi' : i < l.length
          · obtain ⟨cs'', g1, g2, g3⟩ := hh i hi'
            exact ⟨cs'', g1, by rw [List.getElem_append_left hi']; exact g2, by rw [List.getElem_append_left hi']; exact g3⟩
          · have : i = q := by simp at hi; omega
            subst this
            refine ⟨cs', h1, ?_, ?_⟩
            · rw [List.getElem_append_right (by omega)]; simpa [hll] using h2
            · rw [List.getElem_append_right (by omega)]; simpa [hll] using h3
      exact key n (Nat.le_refl _)
    obtain ⟨l, hll, hh⟩ := hl2
    refine ⟨l, hll, ⟨hll, by unfold maxLen at hm; omega, fun hn => ⟨a, rfl, fun j y hj => ?_⟩⟩, fun y hy => ?_, hl, by omega, fun {ts ds j} hsz h1 h2 => ?_⟩
    · obtain ⟨hj1, rfl⟩ := List.getElem?_eq_some_iff.1 hj
      obtain ⟨cs', g1, g2, g3⟩ := hh j hj1
      obtain ⟨_, g5, g6⟩ := World.cells?_some g1
      refine ⟨cs', d.K_len g2, g2, fun i u hu => ?_⟩
      have hi : i < P.cellsOf e := by
        have := (List.getElem?_eq_some_iff.1 hu).1
        omega
      have := g6 i hi
      rw [hu] at this
      rw [← hc]
      have ha : (a.add (j * P.cellsOf e)).add i = a.add (j * P.cellsOf e + i) := Go.Deep.add_add _ _ _
      rw [← ha]
      exact this
    · obtain ⟨i, hi, rfl⟩ := List.getElem_of_mem hy
      obtain ⟨cs', g1, g2, g3⟩ := hh i hi
      exact g3
    · simp only [Prod.mk.injEq] at hx
      obtain ⟨rfl, rfl⟩ := hx
      have := sized_slice hsz h1 h2 ht
      simp only [List.length_map, List.length_range] at this
      have h3 : n * P.bytesOf e ≤ (n + (m - n)) * P.bytesOf e := Nat.mul_le_mul_right _ (by omega)
      exact Nat.le_trans h3 this
/-- A slice of whole numbers that lies in a struct. -/
theorem slice_el {H : Type} {enc : TypeId × Value → H} {P : Program} {w : World} {sp : Nat → Bool} {held : Bool} {t e : TypeId} {k : IntKind}
    (ht : P.underlying t = some (.slice e)) (hc : P.cellsOf e = 1)
    (hel : ∀ {n : Nat} {cs : List Value} {x : DataW H × List MemPlace}, DataW.trod enc P w 0 sp held n e cs = some x → ∃ z : Int, cs = [.int k z] ∧ (Lit.int k z).wf = true)
    {n : Nat} {cs : List Value} {x : DataW H × List MemPlace} (h : DataW.trod enc P w 0 sp held n t cs = some x) :
    ∃ (l : List Int) (A : Option Addr) (_ : Nat) (c : Nat), cs = [.slice A l.length c] ∧ l.length ≤ c ∧ (Kd.int k).C w A l.length l ∧ l.length ≤ maxLen ∧ ∀ y, y ∈ l → (Lit.int k y).wf = true := by
  have hsh : ∃ A m c, cs = [.slice A m c] := by
    rcases Go.Deep.open_slice ht h with ⟨hcs, hx⟩ | ⟨a, len, cap, m, k', D, Pl, hcs, _⟩
    · exact ⟨_, _, _, hcs⟩
    · exact ⟨_, _, _, hcs⟩
  obtain ⟨A, m, c, rfl⟩ := hsh
  obtain ⟨dd, p⟩ := x
  obtain ⟨l, hl, hC, hP, hle, hmx, _⟩ := slice_open (Kd.int k) (fun y => (Lit.int k y).wf = true) ht hc (fun h => by obtain ⟨z, rfl, hz⟩ := hel h; exact ⟨z, rfl, hz⟩) (show DataW.Trod enc P w 0 sp held t (.slice A m c) dd p from ⟨n, by simpa [Value.cells] using h⟩)
  subst hl
  exact ⟨l, A, 0, c, rfl, hle, hC, hmx, hP⟩
/-- A slice of whatever elements that lies in a struct. -/
theorem slice_el_of {H α : Type} {enc : TypeId × Value → H} {P : Program} {w : World} {sp : Nat → Bool} {held : Bool} (d : Kd α) (Pok : α → Prop) {t e : TypeId}
    (ht : P.underlying t = some (.slice e)) (hc : P.cellsOf e = d.sz)
    (hel : ∀ {n : Nat} {cs : List Value} {x : DataW H × List MemPlace}, DataW.trod enc P w 0 sp held n e cs = some x → ∃ y : α, d.K w y cs ∧ Pok y)
    {n : Nat} {cs : List Value} {x : DataW H × List MemPlace} (h : DataW.trod enc P w 0 sp held n t cs = some x) :
    ∃ (l : List α) (A : Option Addr) (_ : Nat) (c : Nat), cs = [.slice A l.length c] ∧ l.length ≤ c ∧ d.C w A l.length l ∧ l.length ≤ maxLen ∧ ∀ y, y ∈ l → Pok y := by
  have hsh : ∃ A m c, cs = [.slice A m c] := by
    rcases Go.Deep.open_slice ht h with ⟨hcs, hx⟩ | ⟨a, len, cap, m, k', D, Pl, hcs, _⟩
    · exact ⟨_, _, _, hcs⟩
    · exact ⟨_, _, _, hcs⟩
  obtain ⟨A, m, c, rfl⟩ := hsh
  obtain ⟨dd, p⟩ := x
  obtain ⟨l, hl, hC, hP, hle, hmx, _⟩ := slice_open d Pok ht hc hel (show DataW.Trod enc P w 0 sp held t (.slice A m c) dd p from ⟨n, by simpa [Value.cells] using h⟩)
  subst hl
  exact ⟨l, A, 0, c, rfl, hle, hC, hmx, hP⟩
/-- An array of three whole numbers, by value. -/
theorem open_arr3 {H : Type} {enc : TypeId × Value → H} {P : Program} {w : World} {sp : Nat → Bool} {held : Bool} {r : Reach} {base : Nat} {t e : TypeId} {k : IntKind} {v : Value} {d : DataW H} {p : List MemPlace}
    (ht : P.underlying t = some (.array 3 e)) (he : P.underlying e = some (.int k)) (hce : P.cellsOf e = 1) (hct : P.cellsOf t = 3) (hv : Value.okWide P w r base t v) (h : DataW.Trod enc P w 0 sp held t v d p) :
    ∃ a0 a1 a2 : Int, v = .agg #[.int k a0, .int k a1, .int k a2] ∧ (Lit.int k a0).wf = true ∧ (Lit.int k a1).wf = true ∧ (Lit.int k a2).wf = true := by
  obtain ⟨cs, rfl, hs, _⟩ : ∃ cs, v = .agg cs ∧ cs.size = P.cellsOf t ∧ Row.okWide P w r base t cs := by
    unfold Value.okWide at hv
    rw [ht] at hv
    exact hv
  obtain ⟨fuel, hf⟩ := h
  obtain ⟨xs, m, rfl, hx, hl, hxs, hall⟩ := DataW.trod_array ht hf
  rw [hct] at hs
  obtain ⟨l⟩ := cs
  match l, hs with
  | [c0, c1, c2], _ =>
    have e0 := hall 0 (by decide)
    have e1 := hall 1 (by decide)
    have e2 := hall 2 (by decide)
    rw [hce, List.getElem?_eq_getElem (by omega)] at e0 e1 e2
    obtain ⟨a0, g0, _, w0⟩ := DataW.trod_int he e0
    obtain ⟨a1, g1, _, w1⟩ := DataW.trod_int he e1
    obtain ⟨a2, g2, _, w2⟩ := DataW.trod_int he e2
    have f0 : [c0] = [.int k a0] := g0
    have f1 : [c1] = [.int k a1] := g1
    have f2 : [c2] = [.int k a2] := g2
    injection f0 with f0 _
    injection f1 with f1 _
    injection f2 with f2 _
    subst f0 f1 f2
    exact ⟨a0, a1, a2, rfl, w0, w1, w2⟩
end Go.Proofs.YtokmildjniploaaDoor.XLib
