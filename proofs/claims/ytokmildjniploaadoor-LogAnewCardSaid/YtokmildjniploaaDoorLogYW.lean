/- LogAnew's call, as the row wants it. Conditions: none. -/
import Derived.Test.YtokmildjniploaaDoorLogY
namespace Go.Proofs.YtokmildjniploaaDoor.PLog
open Go.RowKit Go.Proofs.YtokmildjniploaaDoorW.PrintWords Go.Proofs.YtokmildjniploaaDoorW.PrintLast Go.Proofs.YtokmildjniploaaDoorW.PrintMore Go.Proofs.YtokmildjniploaaDoor.BGLog
set_option linter.unusedVariables false
def rabbetlaw21_LogAnew.f (l0 : List (List Int)) (a1 a2 : Int) : Option Bool := if ((0 ≤ a1 ∧ a1 < 256) ∧ 0 ≤ a2 ∧ a2 < 256) ∧ (l0.all fun r => r.all fun x => decide (0 ≤ x ∧ x < 256)) = true then some true else none
theorem rabbetlaw21_LogAnew.calls (GA : Nat → Addr) (A0 : Option Addr) (c0 : Nat) (l0 : List (List Int)) (a1 a2 : Int) (r : Bool) (w : World) (hr0 : Kd.C (Kd.slice 5 (Kd.int .u8)) w A0 l0.length l0) (hc0 : l0.length ≤ c0) (hG : Glob GA w) (h : rabbetlaw21_LogAnew.f l0 a1 a2 = some r) :
    Calls Tryd.prog 5 #[.slice A0 l0.length c0, .int .u8 a1, .int .u8 a2] w fun e w' => e = .returned (.bool r) ∧ Below w.heap.size w w' := by
  unfold rabbetlaw21_LogAnew.f at h
  split at h
  · rename_i c
    obtain rfl := Option.some.inj h
    obtain ⟨a, rfl⟩ := Int.eq_ofNat_of_zero_le c.1.1.1
    obtain ⟨b, rfl⟩ := Int.eq_ofNat_of_zero_le c.1.2.1
    refine anew_walk GA A0 l0.length c0 l0 a b w hG hr0 hc0 (fun r hr x hx => ?_) (by omega) (by omega)
    have h3 := List.all_eq_true.1 (List.all_eq_true.1 c.2 r hr) x hx
    rw [decide_eq_true_iff] at h3
    exact h3
  · cases h
end Go.Proofs.YtokmildjniploaaDoor.PLog
