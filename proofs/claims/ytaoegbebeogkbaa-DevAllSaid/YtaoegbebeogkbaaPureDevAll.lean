/- DevAll's plain part: its arguments are as the walk wants them. Conditions: none. -/
import Derived.Test.YtaoegbebeogkbaaDevAW
import Derived.OpenShut
namespace Go.Proofs.Ytaoegbebeogkbaa.Pure
open Go.RowKit Go.Proofs.Ytaoegbebeogkbaa.PDev
set_option linter.unusedVariables false
theorem DevAll (a0 : Int) (l1 : List S34) (h0 : (Lit.int .i64 a0).wf = true) (h1 : l1.length ≤ maxLen) (hl1 : l1.length * 88 ≤ 140737488351232) (hb1 : ∀ y, y ∈ l1 → (Lit.int .i64 y.f0).wf = true ∧ (Lit.int .i64 y.f1).wf = true ∧ (Lit.int .i64 y.f2).wf = true ∧ (Lit.int .i64 y.f3).wf = true ∧ (Lit.int .i64 y.f4).wf = true ∧ ((fun y => y.length ≤ maxLen ∧ ∀ z, z ∈ y → (fun y => (Lit.int .u8 y).wf = true) z)) y.f5 ∧ ((fun y => y.length ≤ maxLen ∧ ∀ z, z ∈ y → (fun y => (Lit.int .u8 y).wf = true) z)) y.f6) : rabbetlaw18_DevAll.f a0 l1 = some true := by
  unfold rabbetlaw18_DevAll.f
  rw [if_pos]
  refine List.all_eq_true.2 (fun o ho => ?_)
  obtain ⟨_, _, g2, _, _, _, g6⟩ := hb1 o ho
  rw [Bool.and_eq_true, decide_eq_true_iff, List.all_eq_true]
  have b2 := bounds_i64 g2
  refine ⟨by omega, fun x hx => ?_⟩
  have := bounds_u8 (g6.2 x hx)
  rw [decide_eq_true_iff]
  omega
end Go.Proofs.Ytaoegbebeogkbaa.Pure
