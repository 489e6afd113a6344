/- The law DevAll, for every input: the Go function returns true and its arguments read as before. Conditions: none beyond the given statement's own. -/
import Derived.Test.YtaoegbebeogkbaaRows
import Derived.Test.YtaoegbebeogkbaaDevAW
import Derived.Test.YtaoegbebeogkbaaPureDevAll
import Derived.Test.YtaoegbebeogkbaaXLib
import Derived.WalkKit
import Derived.ProofKit
import Derived.OpenShut
import Derived.ShutString
import Derived.ChangeOld
import Derived.Below
import Derived.SizedLaws
import Derived.LaidLaws
import Derived.RowKitTokens
import Derived.ChangeSame
import Derived.ChangeVars
import Derived.JoinedOf
import Derived.Stop.Joined
import Derived.Test.YtaoegbebeogkbaaWSized
namespace Go.Proofs.Ytaoegbebeogkbaa.devAll
open Go.ChangeShapes Go.WideShapes Go.ChangeAt Go.RowKit Go.Proofs.YtaoegbebeogkbaaW.PrintWords Go.Proofs.YtaoegbebeogkbaaW.PrintLast Go.Proofs.Ytaoegbebeogkbaa.PDev Go.Proofs.Ytaoegbebeogkbaa.XLib
open Go.ChangeMaps (open_string shut_string)
set_option linter.unusedVariables false
set_option linter.unusedSimpArgs false
theorem own : ownKnob Try.prog.godebug = none := by kernel_rfl
theorem laidOut : laidOutB Try.prog = true := by kernel_rfl
def k34_ok (y : S34) : Prop := (Lit.int .i64 y.f0).wf = true ∧ (Lit.int .i64 y.f1).wf = true ∧ (Lit.int .i64 y.f2).wf = true ∧ (Lit.int .i64 y.f3).wf = true ∧ (Lit.int .i64 y.f4).wf = true ∧ ((fun y => y.length ≤ maxLen ∧ ∀ z, z ∈ y → (fun y => (Lit.int .u8 y).wf = true) z)) y.f5 ∧ ((fun y => y.length ≤ maxLen ∧ ∀ z, z ∈ y → (fun y => (Lit.int .u8 y).wf = true) z)) y.f6
set_option maxRecDepth 100000 in
theorem k34_el {H : Type} {enc : TypeId × Value → H} {w : World} {sp : Nat → Bool} {held : Bool} {n : Nat} {cs : List Value} {x : DataW H × List MemPlace} (h : DataW.trod enc Try.prog w 0 sp held n 34 cs = some x) : ∃ y : S34, k34.K w y cs ∧ k34_ok y := by
  obtain ⟨xs, m, rfl, hx, hl, hxs, hall⟩ := DataW.trod_struct Try.underlying34 h
  have hl' : cs.length = 7 := hl.trans (by kernel_rfl)
  match cs, hl' with
  | [c0, c1, c2, c3, c4, c5, c6], _ =>
  have hxs' : xs.length = 7 := hxs
  have e0 := hall 0 _ rfl
  have e0' : DataW.trod enc Try.prog w 0 sp held m 3 [c0] = xs[0]? := by rw [← e0]; show _ = DataW.trod enc Try.prog w 0 sp held m 3 (List.take (Try.prog.cellsOf 3) (List.drop 0 _)); rw [show Try.prog.cellsOf 3 = 1 by kernel_rfl]; rfl
  rw [List.getElem?_eq_getElem (by omega)] at e0'
  obtain ⟨a0, g0, _, w0⟩ := DataW.trod_int Try.underlying3 e0'
  injection g0 with g0 _
  subst g0
  have e1 := hall 1 _ rfl
  have e1' : DataW.trod enc Try.prog w 0 sp held m 3 [c1] = xs[1]? := by rw [← e1]; show _ = DataW.trod enc Try.prog w 0 sp held m 3 (List.take (Try.prog.cellsOf 3) (List.drop 1 _)); rw [show Try.prog.cellsOf 3 = 1 by kernel_rfl]; rfl
  rw [List.getElem?_eq_getElem (by omega)] at e1'
  obtain ⟨a1, g1, _, w1⟩ := DataW.trod_int Try.underlying3 e1'
  injection g1 with g1 _
  subst g1
  have e2 := hall 2 _ rfl
  have e2' : DataW.trod enc Try.prog w 0 sp held m 3 [c2] = xs[2]? := by rw [← e2]; show _ = DataW.trod enc Try.prog w 0 sp held m 3 (List.take (Try.prog.cellsOf 3) (List.drop 2 _)); rw [show Try.prog.cellsOf 3 = 1 by kernel_rfl]; rfl
  rw [List.getElem?_eq_getElem (by omega)] at e2'
  obtain ⟨a2, g2, _, w2⟩ := DataW.trod_int Try.underlying3 e2'
  injection g2 with g2 _
  subst g2
  have e3 := hall 3 _ rfl
  have e3' : DataW.trod enc Try.prog w 0 sp held m 3 [c3] = xs[3]? := by rw [← e3]; show _ = DataW.trod enc Try.prog w 0 sp held m 3 (List.take (Try.prog.cellsOf 3) (List.drop 3 _)); rw [show Try.prog.cellsOf 3 = 1 by kernel_rfl]; rfl
  rw [List.getElem?_eq_getElem (by omega)] at e3'
  obtain ⟨a3, g3, _, w3⟩ := DataW.trod_int Try.underlying3 e3'
  injection g3 with g3 _
  subst g3
  have e4 := hall 4 _ rfl
  have e4' : DataW.trod enc Try.prog w 0 sp held m 3 [c4] = xs[4]? := by rw [← e4]; show _ = DataW.trod enc Try.prog w 0 sp held m 3 (List.take (Try.prog.cellsOf 3) (List.drop 4 _)); rw [show Try.prog.cellsOf 3 = 1 by kernel_rfl]; rfl
  rw [List.getElem?_eq_getElem (by omega)] at e4'
  obtain ⟨a4, g4, _, w4⟩ := DataW.trod_int Try.underlying3 e4'
  injection g4 with g4 _
  subst g4
  have e5 := hall 5 _ rfl
  have e5' : DataW.trod enc Try.prog w 0 sp held m 23 [c5] = xs[5]? := by rw [← e5]; show _ = DataW.trod enc Try.prog w 0 sp held m 23 (List.take (Try.prog.cellsOf 23) (List.drop 5 _)); rw [show Try.prog.cellsOf 23 = 1 by kernel_rfl]; rfl
  rw [List.getElem?_eq_getElem (by omega)] at e5'
  obtain ⟨a5, A5, n5, cc5, g5, hsl5, hwc5, w5⟩ := slice_el Try.underlying23 (by kernel_rfl) (fun h => by obtain ⟨n, rfl, rfl, hw⟩ := DataW.trod_int Try.underlying5 h; exact ⟨n, rfl, hw⟩) e5'
  injection g5 with g5 _
  subst g5
  have e6 := hall 6 _ rfl
  have e6' : DataW.trod enc Try.prog w 0 sp held m 23 [c6] = xs[6]? := by rw [← e6]; show _ = DataW.trod enc Try.prog w 0 sp held m 23 (List.take (Try.prog.cellsOf 23) (List.drop 6 _)); rw [show Try.prog.cellsOf 23 = 1 by kernel_rfl]; rfl
  rw [List.getElem?_eq_getElem (by omega)] at e6'
  obtain ⟨a6, A6, n6, cc6, g6, hsl6, hwc6, w6⟩ := slice_el Try.underlying23 (by kernel_rfl) (fun h => by obtain ⟨n, rfl, rfl, hw⟩ := DataW.trod_int Try.underlying5 h; exact ⟨n, rfl, hw⟩) e6'
  injection g6 with g6 _
  subst g6
  exact ⟨⟨a0, a1, a2, a3, a4, a5, a6⟩, k34_mk _ _ hsl5 hwc5 hsl6 hwc6, ⟨w0, w1, w2, w3, w4, w5, w6⟩⟩
set_option maxRecDepth 100000 in
theorem lifted (os : Os) (started : os.Started) (H : Type) (enc : TypeId × Value → H) :
    ReturnsInHanded {} Try.checked os 5 .any (Rows.devAllSpec.pre6 enc Try.prog Try.f5 Rows.devAllRow.domain false) (Rows.devAllSpec.post enc Try.prog Try.f5 false true false false) := by
  refine returnsInHanded_of_change_sized (C := Try.checked) own started (by kernel_rfl) Try.func5
    (ChangeSpec.witness6 (enc := enc) (C := Try.checked) false ⟨#[], #[.int .i64 0, .slice none 0 0], []⟩ 8 (by kernel_rfl) (by kernel_rfl) (by kernel_rfl) (by kernel_rfl)) ?_
  intro W base args ds gs before hval0 hW hcnd hsz0 _
  have hsz : (DataW.weightsEach Try.prog (Try.f5.params.toList ++ Rows.devAllSpec.plain.varTypes Try.prog) (ds ++ gs)).all (· ≤ reachBytes) = true := hsz0
  have hval : ∀ (j : Nat) t v, Try.f5.params[j]? = some t → args[j]? = some v → Value.okWide Try.prog W .any base t v := hval0
  have hW' := hW
  obtain ⟨p, q, hA0, hV, rfl, hfz, hnd⟩ := hW
  have hA : DataW.TrodAll enc Try.prog W 0 (fun _ => true) true Try.f5.params.toList args.toList ds p := hA0
  rw [Try.params5] at hA hval hsz
  obtain ⟨v0, vs0, d0, ds0, p0, q0, hargs, rfl, rfl, h0, r0⟩ := trodAll_cons hA
  obtain ⟨v1, vs1, d1, ds1, p1, q1, rfl, rfl, rfl, h1, r1⟩ := trodAll_cons r0
  obtain ⟨rfl, rfl, rfl⟩ := trodAll_nil r1
  obtain rfl : args = #[v0, v1] := by cases args; simp_all
  obtain ⟨rfl, rfl⟩ := trodVars_none hV
  obtain ⟨a0, rfl, rfl, rfl, w0⟩ := open_int Try.underlying3 (hval 0 3 v0 rfl rfl) h0
  obtain ⟨A1, n1, c1, rfl⟩ := okWide_slice Try.underlying22 (hval 1 22 v1 rfl rfl)
  have k1_ := h1
  have lt1 : ∀ x ∈ p1, x.block < W.heap.size := by obtain ⟨m, hm⟩ := k1_; exact DataW.trod_lt m _ _ _ hm
  obtain ⟨l1, hn1, hr1, hw1, hc1, hm1, hy1⟩ := slice_open k34 k34_ok Try.underlying22 (by kernel_rfl) k34_el h1
  have y1 := hy1 hsz (j := 1) rfl rfl
  subst hn1
  clear hA0 hval0 hsz0 hsz
  have hk := Pure.DevAll a0 l1 w0 hm1 (by have y_ := y1; rw [show Try.prog.bytesOf 34 = 88 from by kernel_rfl] at y_; exact y_) hw1
  refine (PDev.rabbetlaw18_DevAll.calls a0 _ _ l1 true W hr1 hc1 hk).mono fun e W' ⟨he, bel0⟩ => ?_
  have bel : Below W.heap.size W W' := bel0
  subst he
  exact ⟨_, rfl, _, _, _, [], _, [], hW', trodAll_mk1 (shut_bool Try.underlying4 _), (trodAll_cons_mk (shut_int Try.underlying3 w0) (trodAll_cons_mk (Below.trod laidOut (by kernel_rfl) (of_decide_eq_true (by kernel_rfl)) k1_ bel lt1) trodAll_mk0)), rfl, bel.frame _, fun h => by cases h⟩
theorem over : Rows.devAllRow.holds Try.pinned (OpenSpec.ofChange Rows.devAllSpec) :=
  OpenClaim.holds_of_wide 5 Try.f5 rfl rfl rfl rfl rfl rfl rfl ⟨rfl, rfl, rfl, rfl, rfl⟩ rfl rfl rfl rfl rfl (by kernel_rfl) Try.func5 (by kernel_rfl)
    (of_decide_eq_true (by kernel_rfl)) (by unfold Func.isWrapper; first | (rw [if_pos (by decide +kernel)]; kernel_rfl) | (rw [if_neg (by decide +kernel)]; exact ⟨rfl, rfl⟩))
    (fun os started H enc _ => lifted os started H enc)
theorem proved : Rows.DevAllSaid := over
#print axioms proved
end Go.Proofs.Ytaoegbebeogkbaa.devAll
namespace Go.Proofs.Ytaoegbebeogkbaa
/-- The row, under a short name, for the claim. -/
theorem devAll_holds : Rows.DevAllSaid := devAll.proved
end Go.Proofs.Ytaoegbebeogkbaa
