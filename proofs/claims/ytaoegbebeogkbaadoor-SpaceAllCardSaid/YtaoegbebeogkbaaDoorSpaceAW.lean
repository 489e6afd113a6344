/- SpaceAll's call, as the row wants it. Conditions: none. -/
import Derived.Test.YtaoegbebeogkbaaDoorSpaceA
namespace Go.Proofs.YtaoegbebeogkbaaDoor.PSpace
open Go.RowKit Go.Proofs.YtaoegbebeogkbaaDoorW.PrintWords Go.Proofs.YtaoegbebeogkbaaDoorW.PrintLast Go.Proofs.YtaoegbebeogkbaaDoorW.PrintMore
set_option linter.unusedVariables false
def rabbetlaw19_SpaceAll.f (a0 a1 : Int) (l2 : List S41) : Option Bool := if (-9223372036854775808 ≤ a0 ∧ a0 ≤ 9223372036854775807) ∧ (-9223372036854775808 ≤ a1 ∧ a1 ≤ 9223372036854775807) ∧ (l2.all fun x => decide ((-9223372036854775808 ≤ x.f0 ∧ x.f0 ≤ 9223372036854775807) ∧ (-9223372036854775808 ≤ x.f1 ∧ x.f1 ≤ 9223372036854775807) ∧ (-9223372036854775808 ≤ x.f2.f0 ∧ x.f2.f0 ≤ 9223372036854775807) ∧ (-9223372036854775808 ≤ x.f2.f1 ∧ x.f2.f1 ≤ 9223372036854775807))) = true then some true else none
theorem rabbetlaw19_SpaceAll.calls (GA : Nat → Addr) (a0 a1 : Int) (A2 : Option Addr) (c2 : Nat) (l2 : List S41) (r : Bool) (w : World) (hr2 : Kd.C k41 w A2 l2.length l2) (hc2 : l2.length ≤ c2) (hG : Glob GA w) (h : rabbetlaw19_SpaceAll.f a0 a1 l2 = some r) :
    Calls Tryd.prog 7 #[.int .i64 a0, .int .i64 a1, .slice A2 l2.length c2] w fun e w' => e = .returned (.bool r) ∧ Below w.heap.size w w' := by
  unfold rabbetlaw19_SpaceAll.f at h
  split at h
  · rename_i c
    obtain rfl := Option.some.inj h
    refine all_walk GA a0 a1 A2 c2 l2 w hr2 hc2 hG c.1 c.2.1 (fun x hx => ?_)
    have h3 := List.all_eq_true.1 c.2.2 x hx
    rw [decide_eq_true_iff] at h3
    exact h3
  · cases h
end Go.Proofs.YtaoegbebeogkbaaDoor.PSpace
