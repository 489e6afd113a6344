/- LogCrashes' plain part: its arguments are as the walk wants them. Conditions: none. -/
import Derived.Test.YtokmildjniploaaDoorLogTA
import Derived.OpenShut
namespace Go.Proofs.YtokmildjniploaaDoor.Pure
open Go.RowKit Go.Proofs.YtokmildjniploaaDoor.PLog
set_option linter.unusedVariables false
theorem LogCrashes (a0 : Int) (l1 : List S46) (a2 : Int) (l3 : List Int) (a4 a5 a6 : Int) (l7 : List Int) (a8 a9 : Int) (h0 : (Lit.int .u8 a0).wf = true) (h1 : l1.length ≤ maxLen) (hl1 : l1.length * 96 ≤ 140737488351232) (hb1 : ∀ y, y ∈ l1 → (Lit.int .i64 y.f0).wf = true ∧ (y.f1.length ≤ maxLen ∧ ∀ z, z ∈ y.f1 → (Lit.int .u8 z).wf = true) ∧ (y.f2.length ≤ maxLen ∧ ∀ z, z ∈ y.f2 → z.length ≤ maxLen ∧ ∀ u, u ∈ z → (Lit.int .u8 u).wf = true) ∧ (y.f3.length ≤ maxLen ∧ ∀ z, z ∈ y.f3 → (Lit.int .u8 z).wf = true) ∧ (Lit.int .i64 y.f4).wf = true ∧ (Lit.int .i64 y.f5).wf = true) (h2 : (Lit.int .u16 a2).wf = true) (h3 : l3.length ≤ maxLen) (hl3 : l3.length * 1 ≤ 140737488351232) (hb3 : ∀ y, y ∈ l3 → (Lit.int .u8 y).wf = true) (h4 : (Lit.int .i64 a4).wf = true) (h5 : (Lit.int .i64 a5).wf = true) (h6 : (Lit.int .u8 a6).wf = true) (h7 : l7.length ≤ maxLen) (hl7 : l7.length * 1 ≤ 140737488351232) (hb7 : ∀ y, y ∈ l7 → (Lit.int .u8 y).wf = true) (h8 : (Lit.int .i64 a8).wf = true) (h9 : (Lit.int .i64 a9).wf = true) : rabbetlaw21_LogCrashes.f a0 l1 a2 l3 a4 a5 a6 l7 a8 a9 = some true := by
  have b0 := bounds_u8 h0
  have b2 := bounds_u16 h2
  have b6 := bounds_u8 h6
  have w8 : ∀ x : Int, (Lit.int .u8 x).wf = true → 0 ≤ x ∧ x < 256 := fun x hx => by have := bounds_u8 hx; omega
  unfold rabbetlaw21_LogCrashes.f
  rw [if_pos]
  exact ⟨by omega, isB_of fun x hx => w8 x (hb3 x hx), isB_of fun x hx => w8 x (hb7 x hx), fun o ho => ⟨isB_of fun x hx => w8 x ((hb1 o ho).2.1.2 x hx), fun r hr => isB_of fun x hx => w8 x (((hb1 o ho).2.2.1.2 r hr).2 x hx), isB_of fun x hx => w8 x ((hb1 o ho).2.2.2.1.2 x hx)⟩⟩
end Go.Proofs.YtokmildjniploaaDoor.Pure
