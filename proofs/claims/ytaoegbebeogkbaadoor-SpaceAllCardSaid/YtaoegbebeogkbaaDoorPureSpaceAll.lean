/- SpaceAll's plain part: its arguments are as the walk wants them. Conditions: none. -/
import Derived.Test.YtaoegbebeogkbaaDoorSpaceAW
import Derived.OpenShut
namespace Go.Proofs.YtaoegbebeogkbaaDoor.Pure
open Go.RowKit Go.Proofs.YtaoegbebeogkbaaDoor.PSpace
set_option linter.unusedVariables false
theorem SpaceAll (a0 a1 : Int) (l2 : List S41) (h0 : (Lit.int .i64 a0).wf = true) (h1 : (Lit.int .i64 a1).wf = true) (h2 : l2.length ≤ maxLen) (hl : l2.length * 32 ≤ 140737488351232) (hb : ∀ y, y ∈ l2 → (Lit.int .i64 y.f0).wf = true ∧ (Lit.int .i64 y.f1).wf = true ∧ (Lit.int .i64 y.f2.f0).wf = true ∧ (Lit.int .i64 y.f2.f1).wf = true) : rabbetlaw19_SpaceAll.f a0 a1 l2 = some true := by
  have b0 := bounds_i64 h0
  have b1 := bounds_i64 h1
  unfold rabbetlaw19_SpaceAll.f
  rw [if_pos]
  refine ⟨by omega, by omega, List.all_eq_true.2 (fun x hx => ?_)⟩
  obtain ⟨g0, g1, g2, g3⟩ := hb x hx
  have c0 := bounds_i64 g0
  have c1 := bounds_i64 g1
  have c2 := bounds_i64 g2
  have c3 := bounds_i64 g3
  rw [decide_eq_true_iff]
  omega
end Go.Proofs.YtaoegbebeogkbaaDoor.Pure
