/- The law DevTorn, for every input: the Go function returns true and its arguments read as before. Conditions: none beyond the given statement's own. -/
import Derived.Test.YtaoegbebeogkbaaRows
import Derived.Test.YtaoegbebeogkbaaDevT
import Derived.Test.YtaoegbebeogkbaaPureDevTorn
import Derived.Test.YtaoegbebeogkbaaXLib
import Derived.WalkKit
import Derived.ProofKit
import Derived.OpenShut
import Derived.ShutString
import Derived.ChangeOld
import Derived.Below
import Derived.SizedLaws
import Derived.LaidLaws
import Derived.RowKitTokens
import Derived.ChangeSame
import Derived.ChangeVars
import Derived.JoinedOf
import Derived.Stop.Joined
import Derived.Test.YtaoegbebeogkbaaWSized
namespace Go.Proofs.Ytaoegbebeogkbaa.devTorn
open Go.ChangeShapes Go.WideShapes Go.ChangeAt Go.RowKit Go.Proofs.YtaoegbebeogkbaaW.PrintWords Go.Proofs.YtaoegbebeogkbaaW.PrintLast Go.Proofs.Ytaoegbebeogkbaa.PDev Go.Proofs.Ytaoegbebeogkbaa.XLib
open Go.ChangeMaps (open_string shut_string)
set_option linter.unusedVariables false
set_option linter.unusedSimpArgs false
theorem own : ownKnob Try.prog.godebug = none := by kernel_rfl
theorem laidOut : laidOutB Try.prog = true := by kernel_rfl
set_option maxRecDepth 100000 in
theorem lifted (os : Os) (started : os.Started) (H : Type) (enc : TypeId × Value → H) :
    ReturnsInHanded {} Try.checked os 4 .any (Rows.devTornSpec.pre6 enc Try.prog Try.f4 Rows.devTornRow.domain false) (Rows.devTornSpec.post enc Try.prog Try.f4 false true false false) := by
  refine returnsInHanded_of_change_sized (C := Try.checked) own started (by kernel_rfl) Try.func4
    (ChangeSpec.witness6 (enc := enc) (C := Try.checked) false ⟨#[], #[.slice none 0 0, .slice none 0 0, .int .i64 0], []⟩ 8 (by kernel_rfl) (by kernel_rfl) (by kernel_rfl) (by kernel_rfl)) ?_
  intro W base args ds gs before hval0 hW hcnd hsz0 _
  have hsz : (DataW.weightsEach Try.prog (Try.f4.params.toList ++ Rows.devTornSpec.plain.varTypes Try.prog) (ds ++ gs)).all (· ≤ reachBytes) = true := hsz0
  have hval : ∀ (j : Nat) t v, Try.f4.params[j]? = some t → args[j]? = some v → Value.okWide Try.prog W .any base t v := hval0
  have hW' := hW
  obtain ⟨p, q, hA0, hV, rfl, hfz, hnd⟩ := hW
  have hA : DataW.TrodAll enc Try.prog W 0 (fun _ => true) true Try.f4.params.toList args.toList ds p := hA0
  rw [Try.params4] at hA hval hsz
  obtain ⟨v0, vs0, d0, ds0, p0, q0, hargs, rfl, rfl, h0, r0⟩ := trodAll_cons hA
  obtain ⟨v1, vs1, d1, ds1, p1, q1, rfl, rfl, rfl, h1, r1⟩ := trodAll_cons r0
  obtain ⟨v2, vs2, d2, ds2, p2, q2, rfl, rfl, rfl, h2, r2⟩ := trodAll_cons r1
  obtain ⟨rfl, rfl, rfl⟩ := trodAll_nil r2
  obtain rfl : args = #[v0, v1, v2] := by cases args; simp_all
  obtain ⟨rfl, rfl⟩ := trodVars_none hV
  obtain ⟨A0, n0, c0, rfl⟩ := okWide_slice Try.underlying23 (hval 0 23 v0 rfl rfl)
  have k0_ := h0
  have lt0 : ∀ x ∈ p0, x.block < W.heap.size := by obtain ⟨m, hm⟩ := k0_; exact DataW.trod_lt m _ _ _ hm
  obtain ⟨l0, hn0, hr0, hw0, hc0, hm0, hy0⟩ := slice_open (Kd.int .u8) (fun y => (Lit.int .u8 y).wf = true) Try.underlying23 (by kernel_rfl) (fun h => by obtain ⟨n, rfl, rfl, hw⟩ := DataW.trod_int Try.underlying5 h; exact ⟨n, rfl, hw⟩) h0
  have y0 := hy0 hsz (j := 0) rfl rfl
  subst hn0
  obtain ⟨A1, n1, c1, rfl⟩ := okWide_slice Try.underlying23 (hval 1 23 v1 rfl rfl)
  have k1_ := h1
  have lt1 : ∀ x ∈ p1, x.block < W.heap.size := by obtain ⟨m, hm⟩ := k1_; exact DataW.trod_lt m _ _ _ hm
  obtain ⟨l1, hn1, hr1, hw1, hc1, hm1, hy1⟩ := slice_open (Kd.int .u8) (fun y => (Lit.int .u8 y).wf = true) Try.underlying23 (by kernel_rfl) (fun h => by obtain ⟨n, rfl, rfl, hw⟩ := DataW.trod_int Try.underlying5 h; exact ⟨n, rfl, hw⟩) h1
  have y1 := hy1 hsz (j := 1) rfl rfl
  subst hn1
  obtain ⟨a2, rfl, rfl, rfl, w2⟩ := open_int Try.underlying3 (hval 2 3 v2 rfl rfl) h2
  clear hA0 hval0 hsz0 hsz
  have hk := Pure.DevTorn l0 l1 a2 hm0 (by have y_ := y0; rw [show Try.prog.bytesOf 5 = 1 from by kernel_rfl] at y_; exact y_) hw0 hm1 (by have y_ := y1; rw [show Try.prog.bytesOf 5 = 1 from by kernel_rfl] at y_; exact y_) hw1 w2
  refine (PDev.rabbetlaw18_DevTorn.calls _ _ l0 _ _ l1 a2 true W hr0 hc0 hr1 hc1 hk).mono fun e W' ⟨he, bel0⟩ => ?_
  have bel : Below W.heap.size W W' := bel0
  subst he
  exact ⟨_, rfl, _, _, _, [], _, [], hW', trodAll_mk1 (shut_bool Try.underlying4 _), (trodAll_cons_mk (Below.trod laidOut (by kernel_rfl) (of_decide_eq_true (by kernel_rfl)) k0_ bel lt0) (trodAll_cons_mk (Below.trod laidOut (by kernel_rfl) (of_decide_eq_true (by kernel_rfl)) k1_ bel lt1) (trodAll_cons_mk (shut_int Try.underlying3 w2) trodAll_mk0))), rfl, bel.frame _, fun h => by cases h⟩
theorem over : Rows.devTornRow.holds Try.pinned (OpenSpec.ofChange Rows.devTornSpec) :=
  OpenClaim.holds_of_wide 4 Try.f4 rfl rfl rfl rfl rfl rfl rfl ⟨rfl, rfl, rfl, rfl, rfl⟩ rfl rfl rfl rfl rfl (by kernel_rfl) Try.func4 (by kernel_rfl)
    (of_decide_eq_true (by kernel_rfl)) (by unfold Func.isWrapper; first | (rw [if_pos (by decide +kernel)]; kernel_rfl) | (rw [if_neg (by decide +kernel)]; exact ⟨rfl, rfl⟩))
    (fun os started H enc _ => lifted os started H enc)
theorem proved : Rows.DevTornSaid := over
#print axioms proved
end Go.Proofs.Ytaoegbebeogkbaa.devTorn
namespace Go.Proofs.Ytaoegbebeogkbaa
/-- The row, under a short name, for the claim. -/
theorem devTorn_holds : Rows.DevTornSaid := devTorn.proved
end Go.Proofs.Ytaoegbebeogkbaa
