/- SpaceApart's call, as the row wants it. Conditions: none. -/
import Derived.Test.YtaoegbebeogkbaaDoorSpaceP
namespace Go.Proofs.YtaoegbebeogkbaaDoor.PSpace
open Go.RowKit Go.Proofs.YtaoegbebeogkbaaDoorW.PrintWords Go.Proofs.YtaoegbebeogkbaaDoorW.PrintLast Go.Proofs.YtaoegbebeogkbaaDoorW.PrintMore
set_option linter.unusedVariables false
def rabbetlaw19_SpaceApart.f (l0 : List Int) (l1 : List Bool) : Option Bool := if (l0.all fun x => decide (0 ≤ x ∧ x < 256)) = true then some true else none
theorem rabbetlaw19_SpaceApart.calls (GA : Nat → Addr) (A0 : Option Addr) (c0 : Nat) (l0 : List Int) (A1 : Option Addr) (c1 : Nat) (l1 : List Bool) (r : Bool) (w : World) (hr0 : Kd.C (Kd.int .u8) w A0 l0.length l0) (hc0 : l0.length ≤ c0) (hr1 : Kd.C Kd.bool w A1 l1.length l1) (hc1 : l1.length ≤ c1) (hG : Glob GA w) (h : rabbetlaw19_SpaceApart.f l0 l1 = some r) :
    Calls Tryd.prog 8 #[.slice A0 l0.length c0, .slice A1 l1.length c1] w fun e w' => e = .returned (.bool r) ∧ Below w.heap.size w w' := by
  unfold rabbetlaw19_SpaceApart.f at h
  split at h
  · rename_i c
    obtain rfl := Option.some.inj h
    refine apart_walk GA A0 c0 l0 A1 c1 l1 w hr0 hc0 hr1 hc1 hG (fun x hx => ?_)
    have h3 := List.all_eq_true.1 c x hx
    rw [decide_eq_true_iff] at h3
    exact h3
  · cases h
end Go.Proofs.YtaoegbebeogkbaaDoor.PSpace
