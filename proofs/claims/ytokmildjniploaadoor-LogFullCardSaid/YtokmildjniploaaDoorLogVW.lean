/- LogFull's call, as the row wants it. Conditions: none. -/
import Derived.Test.YtokmildjniploaaDoorLogV
namespace Go.Proofs.YtokmildjniploaaDoor.PLog
open Go.RowKit Go.Proofs.YtokmildjniploaaDoorW.PrintWords Go.Proofs.YtokmildjniploaaDoorW.PrintLast Go.Proofs.YtokmildjniploaaDoorW.PrintMore
set_option linter.unusedVariables false
def rabbetlaw21_LogFull.f (a0 : Int) (l1 : List Int) : Option Bool := if (0 ≤ a0 ∧ a0 < 256) ∧ (l1.all fun x => decide (0 ≤ x ∧ x < 65536)) = true then some true else none
theorem rabbetlaw21_LogFull.calls (GA : Nat → Addr) (a0 : Int) (A1 : Option Addr) (c1 : Nat) (l1 : List Int) (r : Bool) (w : World) (hr1 : Kd.C (Kd.int .u16) w A1 l1.length l1) (hc1 : l1.length ≤ c1) (hG : Glob GA w) (h : rabbetlaw21_LogFull.f a0 l1 = some r) :
    Calls Tryd.prog 3 #[.int .u8 a0, .slice A1 l1.length c1] w fun e w' => e = .returned (.bool r) ∧ Below w.heap.size w w' := by
  unfold rabbetlaw21_LogFull.f at h
  split at h
  · rename_i c
    obtain rfl := Option.some.inj h
    obtain ⟨a, rfl⟩ := Int.eq_ofNat_of_zero_le c.1.1
    refine full_walk GA a A1 l1.length c1 l1 w hG (by omega) hr1 hc1 (fun x hx => ?_)
    have h3 := List.all_eq_true.1 c.2 x hx
    rw [decide_eq_true_iff] at h3
    exact h3
  · cases h
end Go.Proofs.YtokmildjniploaaDoor.PLog
