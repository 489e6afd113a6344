/- DevSure's call, as the row wants it. Conditions: none. -/
import Derived.Test.YtaoegbebeogkbaaDevV
namespace Go.Proofs.Ytaoegbebeogkbaa.PDev
open Go.RowKit Go.Proofs.YtaoegbebeogkbaaW.PrintWords Go.Proofs.YtaoegbebeogkbaaW.PrintLast Go.Proofs.YtaoegbebeogkbaaW.PrintMore
set_option linter.unusedVariables false
def rabbetlaw18_DevSure.f (l0 l1 : List S34) (l2 : List Int) (a3 a4 : Int) : Option Bool := if (l2.all fun x => decide (0 ≤ x ∧ x < 256)) = true then some true else none
theorem rabbetlaw18_DevSure.calls (A0 : Option Addr) (c0 : Nat) (l0 : List S34) (A1 : Option Addr) (c1 : Nat) (l1 : List S34) (A2 : Option Addr) (c2 : Nat) (l2 : List Int) (a3 a4 : Int) (r : Bool) (w : World) (hr0 : Kd.C k34 w A0 l0.length l0) (hc0 : l0.length ≤ c0) (hr1 : Kd.C k34 w A1 l1.length l1) (hc1 : l1.length ≤ c1) (hr2 : Kd.C (Kd.int .u8) w A2 l2.length l2) (hc2 : l2.length ≤ c2) (h : rabbetlaw18_DevSure.f l0 l1 l2 a3 a4 = some r) :
    Calls Try.prog 3 #[.slice A0 l0.length c0, .slice A1 l1.length c1, .slice A2 l2.length c2, .int .i64 a3, .int .i64 a4] w fun e w' => e = .returned (.bool r) ∧ Below w.heap.size w w' := by
  unfold rabbetlaw18_DevSure.f at h
  split at h
  · rename_i c
    obtain rfl := Option.some.inj h
    refine sure_walk A0 c0 l0 A1 c1 l1 A2 c2 l2 a3 a4 w hr0 hc0 hr1 hc1 hr2 hc2 (fun x hx => ?_)
    have h3 := List.all_eq_true.1 c x hx
    rw [decide_eq_true_iff] at h3
    exact h3
  · cases h
end Go.Proofs.Ytaoegbebeogkbaa.PDev
