/- RleAll's plain law: values' bytes and bytes' values are the document's. Conditions: none. -/
import Derived.Test.YtigldipjkejalaaDoorBDRleAll
import Derived.Test.YtigldipjkejalaaDoorPRleAllx13
import Derived.OpenShut
namespace Go.Proofs.YtigldipjkejalaaDoor.Pure
open Go.RowKit Go.Proofs.YtigldipjkejalaaDoor.PRleAll Go.Proofs.YtigldipjkejalaaDoorW.PrintWords Go.Proofs.YtigldipjkejalaaDoorW.PrintLast Go.Proofs.YtigldipjkejalaaDoorW.PrintMore Go.Proofs.YtigldipjkejalaaDoor.BWRleAll
set_option linter.unusedVariables false
theorem rle_begun : Ev rabbetlaw6_begun.f true := Ev.of rabbetlaw6_begun.mono (k := 40) (by decide +kernel)
theorem RleAll : ∀ (t : Int) (p : List Int) (l : List S26) (n : Int) (b : List Int), (Lit.int .i64 t).wf = true → p.length ≤ maxLen → p.length * 1 ≤ 140737488351232 → (∀ x, x ∈ p → (Lit.int .u8 x).wf = true) → l.length ≤ maxLen → l.length * 32 ≤ 140737488351232 → (∀ y, y ∈ l → (Lit.int .i64 y.f0).wf = true ∧ (Lit.int .i64 y.f1).wf = true ∧ y.f2.size ≤ maxLen) → (Lit.int .i64 n).wf = true → b.length ≤ maxLen → b.length * 1 ≤ 140737488351232 → (∀ x, x ∈ b → (Lit.int .u8 x).wf = true) → ∃ k, rabbetlaw6_RleAll.f k t p l n b = some true := by
  intro t p l n b _ _ _ hp _ _ hl _ _ _ hb
  exact BLRleAll.law rle_begun BDRleAll.puts BDRleAll.takes t p (fun x hx => by have := bounds_u8 (hp x hx); omega) l (fun v hv => by have := bounds_i64 (hl v hv).2.1; exact this) n b (fun x hx => by have := bounds_u8 (hb x hx); omega)
end Go.Proofs.YtigldipjkejalaaDoor.Pure
