/- RleTurned's plain law: bytes of values with some turned are just what the document has. Conditions: none. -/
import Derived.Test.YtigldipjkejalaaDoorBDRleTurned
import Derived.Test.YtigldipjkejalaaDoorBTRleTurned
import Derived.Test.YtigldipjkejalaaDoorPRleTurnedx13
import Derived.OpenShut
namespace Go.Proofs.YtigldipjkejalaaDoor.Pure
open Go.RowKit Go.Proofs.YtigldipjkejalaaDoor.PRleTurned Go.Proofs.YtigldipjkejalaaDoorW.PrintWords Go.Proofs.YtigldipjkejalaaDoorW.PrintLast Go.Proofs.YtigldipjkejalaaDoorW.PrintMore Go.Proofs.YtigldipjkejalaaDoor.BWRleTurned
set_option linter.unusedVariables false
theorem rle_begun : Ev rabbetlaw6_begun.f true := Ev.of rabbetlaw6_begun.mono (k := 40) (by decide +kernel)
theorem RleTurned : ∀ (t : Int) (p : List Int) (p0 p1 p2 q0 q1 q2 : Int), (Lit.int .u8 t).wf = true → p.length ≤ maxLen → p.length * 1 ≤ 140737488351232 → (∀ x, x ∈ p → (Lit.int .u8 x).wf = true) → (Lit.int .u8 p0).wf = true → (Lit.int .u8 p1).wf = true → (Lit.int .u8 p2).wf = true → (Lit.int .u8 q0).wf = true → (Lit.int .u8 q1).wf = true → (Lit.int .u8 q2).wf = true → ∃ k, rabbetlaw6_RleTurned.f k t p p0 p1 p2 q0 q1 q2 = some true := by
  intro t p p0 p1 p2 q0 q1 q2 ht _ _ hp h0 h1 h2 h3 h4 h5
  have by8 : ∀ x : Int, (Lit.int .u8 x).wf = true → BTRleTurned.byte x := fun x hx => by have := bounds_u8 hx; unfold BTRleTurned.byte; omega
  exact BTRleTurned.law rle_begun BDRleTurned.encW BDRleTurned.takesW t (by8 t ht) p (fun x hx => by have := bounds_u8 (hp x hx); omega) p0 p1 p2 q0 q1 q2 (by8 _ h0) (by8 _ h1) (by8 _ h2) (by8 _ h3) (by8 _ h4) (by8 _ h5)
end Go.Proofs.YtigldipjkejalaaDoor.Pure
