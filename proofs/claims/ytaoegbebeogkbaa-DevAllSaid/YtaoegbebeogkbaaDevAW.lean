/- DevAll's call, as the row wants it. Conditions: none. -/
import Derived.Test.YtaoegbebeogkbaaDevA
namespace Go.Proofs.Ytaoegbebeogkbaa.PDev
open Go.RowKit Go.Proofs.YtaoegbebeogkbaaW.PrintWords Go.Proofs.YtaoegbebeogkbaaW.PrintLast Go.Proofs.YtaoegbebeogkbaaW.PrintMore
set_option linter.unusedVariables false
def rabbetlaw18_DevAll.f (a0 : Int) (l1 : List S34) : Option Bool := if (l1.all fun o => decide (o.f2 ≤ 9223372036854775807) && o.f6.all fun x => decide (0 ≤ x ∧ x < 256)) = true then some true else none
theorem rabbetlaw18_DevAll.calls (a0 : Int) (A1 : Option Addr) (c1 : Nat) (l1 : List S34) (r : Bool) (w : World) (hr1 : Kd.C k34 w A1 l1.length l1) (hc1 : l1.length ≤ c1) (h : rabbetlaw18_DevAll.f a0 l1 = some r) :
    Calls Try.prog 5 #[.int .i64 a0, .slice A1 l1.length c1] w fun e w' => e = .returned (.bool r) ∧ Below w.heap.size w w' := by
  unfold rabbetlaw18_DevAll.f at h
  split at h
  · rename_i c
    obtain rfl := Option.some.inj h
    refine all_walk a0 A1 c1 l1 w hr1 hc1 (fun o ho => ?_)
    have h3 := List.all_eq_true.1 c o ho
    rw [Bool.and_eq_true, decide_eq_true_iff, List.all_eq_true] at h3
    exact ⟨h3.1, fun x hx => decide_eq_true_iff.1 (h3.2 x hx)⟩
  · cases h
end Go.Proofs.Ytaoegbebeogkbaa.PDev
