/- TagForms' plain law: which blocks are tagged, and how. Conditions: none. -/
import Derived.Test.YtaoegbebeogkbaaDoorBGTagForms
import Derived.Test.YtaoegbebeogkbaaDoorPTagFormsx2
namespace Go.Proofs.YtaoegbebeogkbaaDoor.Pure
open Go.RowKit Go.Proofs.YtaoegbebeogkbaaDoor.PTagForms Go.Proofs.YtaoegbebeogkbaaDoorW.PrintWords Go.Proofs.YtaoegbebeogkbaaDoorW.PrintLast Go.Proofs.YtaoegbebeogkbaaDoorW.PrintMore Go.Proofs.YtaoegbebeogkbaaDoor.BGTagForms
set_option linter.unusedVariables false
set_option maxRecDepth 1000000 in
theorem tag_begun : Ev rabbetlaw20_begun.f true := Ev.of rabbetlaw20_begun.mono (k := 6) (by decide +kernel)
def B : List Int := putT 16909060 84281096 (List.replicate 110 0)
def C (i : Nat) : List Int := B.set i (Go.bits .xor .u8 (rd B (i : Int)) 1)
theorem B_wf : wfb B := putT_wf _ _ _ (fun x hx => by rw [(List.mem_replicate.1 hx).2]; omega)
theorem B_len : B.length = 128 := putT_len _ _ _ (by rw [List.length_replicate]; omega)
set_option maxRecDepth 1000000 in
theorem C_all : ∀ i : Nat, i < 128 → (0 ≤ Go.bits .xor .u8 (rd B (i : Int)) 1 ∧ Go.bits .xor .u8 (rd B (i : Int)) 1 < 256) ∧ (takeT 16909060 84281096 (C i)).2 = decide (9 ≤ i ∧ i < 119) ∧ (9 ≤ i ∧ i < 119 → (takeT 16909060 84281096 (C i)).1.length = 110 ∧ rd (takeT 16909060 84281096 (C i)).1 ((i - 9 : Nat) : Int) = 1) := by decide +kernel
theorem zeros_wf (n : Nat) : wfb (List.replicate n 0) := fun x hx => by rw [(List.mem_replicate.1 hx).2]; omega
set_option maxRecDepth 1000000 in
theorem form_loop (d : Nat) : ∀ i : Nat, i + d = 128 → Ev (fun k => rabbetlaw20_TagForms.l0 k B (i : Int)) true := by
  induction d with
  | zero =>
    intro i hi
    obtain rfl : i = 128 := by omega
    have t1 := take_ev 0 0 (List.replicate 128 0) (zeros_wf _)
    have t2 := take_ev 0 0 (List.replicate 127 0) (zeros_wf _)
    have t3 := take_ev 1 0 (List.replicate 128 0) (zeros_wf _)
    have e1 : (takeT 0 0 (List.replicate 128 0)).2 = true := by decide +kernel
    have e2 : (takeT 0 0 (List.replicate 127 0)).2 = false := by decide +kernel
    have e3 : (takeT 1 0 (List.replicate 128 0)).2 = false := by decide +kernel
    generalize takeT 0 0 (List.replicate 128 0) = r1 at *
    generalize takeT 0 0 (List.replicate 127 0) = r2 at *
    generalize takeT 1 0 (List.replicate 128 0) = r3 at *
    refine Ev.step (f := fun k => (tag_Take.f k 0 0 (List.replicate 128 0)).bind _) (fun k => by simp only [rabbetlaw20_TagForms.l0, -List.reduceReplicate]; rw [if_neg (by omega)]; exact if_pos (by omega)) (Ev.bind t1 ?_)
    refine Ev.congr (f := fun k => (tag_Take.f k 0 0 (List.replicate 127 0)).bind _) (fun k => by exact if_pos (by omega)) (Ev.bind t2 (Ev.bind t3 (Ev.congr (f := fun _ => some true) (fun k => ?_) (Ev.now _))))
    rw [e1, e2, e3, if_pos rfl, if_neg (by decide)]
    rfl
  | succ d ih =>
    intro i hi
    have hih := ih (i + 1) (by omega)
    obtain ⟨h1, h2, h3⟩ := C_all i (by omega)
    have hw : wfb (C i) := fun y hy => by
      rcases List.mem_or_eq_of_mem_set hy with h | h
      · exact B_wf y h
      · rw [h]; exact h1
    have t := take_ev 16909060 84281096 (C i) hw
    have hw1 : wrap64 ((i : Int) + 1) = ((i + 1 : Nat) : Int) := by unfold wrap64; omega
    generalize takeT 16909060 84281096 (C i) = r at *
    have hB := B_len
    refine Ev.step (f := fun k => (tag_Take.f k 16909060 84281096 (C i)).bind _) (fun k => by simp only [rabbetlaw20_TagForms.l0, -List.reduceReplicate]; rw [if_pos (by omega), Option.bind_some, if_pos (by rw [List.length_nil, hB]; omega), Option.bind_some, List.nil_append, if_pos (by omega), if_pos (by rw [hB]; omega), Int.toNat_natCast]; rfl) (Ev.bind t (Ev.congr (fun k => ?_) hih))
    by_cases h9 : 9 ≤ i ∧ i < 119
    · obtain ⟨h4, h5⟩ := h3 h9
      have hw2 : wrap64 ((i : Int) - 9) = ((i - 9 : Nat) : Int) := by unfold wrap64; omega
      rw [h2, decide_eq_true h9, if_pos (by omega), decide_eq_true (show (i : Int) < 119 by omega), if_neg (by decide), if_pos rfl, if_pos (by omega), hw2, if_pos (by omega), if_pos (by omega), if_pos h5, hw1]
    · rw [h2, decide_eq_false h9, hw1]
      by_cases h10 : (i : Int) ≥ 9
      · rw [if_pos h10, decide_eq_false (show ¬ (i : Int) < 119 by omega), if_neg (by decide), if_neg (by decide)]
      · rw [if_neg h10, if_neg (by decide), if_neg (by decide)]
set_option maxRecDepth 1000000 in
theorem B_facts : (B.length : Int) = 128 ∧ (strOfNums (B.take 9)).toList = ([1, 2, 3, 4, 5, 6, 7, 8, 110] : List UInt8) ∧ (strOfNums (B.drop 120)).toList = ([1, 2, 3, 4, 5, 6, 7, 8] : List UInt8) ∧ ((rd B 119) != 0) = false := by decide +kernel
set_option maxRecDepth 1000000 in
theorem TagForms : rabbetlaw20_TagForms.Pure := by
  refine Ev.rounds (g := fun k => rabbetlaw20_TagForms.f k) ?_
  refine Ev.congr (f := fun k => (rabbetlaw20_begun.f k).bind _) (fun k => by unfold rabbetlaw20_TagForms.f; rfl) (Ev.bind tag_begun ?_)
  have hj : Ev (fun k => rabbetlaw20_TagForms.j0 k B false) true := by
    refine Ev.step (fun k => ?_) (form_loop 128 0 rfl)
    simp only [rabbetlaw20_TagForms.j0, -List.reduceReplicate, Bool.false_eq_true, if_false]
    rfl
  obtain ⟨f1, f2, f3, f4⟩ := B_facts
  have p1 : tag_Put.f 16909060 84281096 (List.replicate 110 0) = some (B, true) := put_eq _ _ _ (by rw [List.length_replicate]; omega)
  have p2 : tag_Put.f 1 1 (List.replicate 111 0) = some ([], false) := put_no _ _ _ (by rw [List.length_replicate]; omega)
  refine Ev.congr (fun k => ?_) hj
  rw [if_pos rfl, if_pos (by omega), p1, Option.bind_some, if_pos (by omega), p2, Option.bind_some]
  dsimp only
  rw [if_pos rfl, if_neg (by decide), if_pos f1, if_pos (by omega), if_pos f2, if_pos (by omega), if_pos f3, if_pos (by omega), f4]
end Go.Proofs.YtaoegbebeogkbaaDoor.Pure
