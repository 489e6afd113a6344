/- BitsJoin: eight numbers and eight more, one behind the other, are the bits of both: the given statement, out of the walk and the plain law. Conditions: none. -/
import Derived.Test.YtbjliggjalnhgaaRows
import Derived.Test.YtbjliggjalnhgaaPureBitsJoin
import Derived.WalkKit
import Derived.ProofKit
import Derived.OpenShut
import Derived.ShutString
import Derived.ChangeOld
import Derived.Below
import Derived.SizedLaws
namespace Go.Proofs.Ytbjliggjalnhgaa.bitsJoin
open Go.ChangeShapes Go.WideShapes Go.ChangeAt Go.RowKit Go.Proofs.YtbjliggjalnhgaaW.PrintWords
set_option linter.unusedVariables false
theorem open_arr8 {H : Type} {enc : TypeId × Value → H} {P : Program} {w : World} {sp : Nat → Bool} {held : Bool} {r : Reach} {base : Nat} {t e : TypeId} {k : IntKind} {v : Value} {d : DataW H} {p : List MemPlace}
    (ht : P.underlying t = some (.array 8 e)) (he : P.underlying e = some (.int k)) (hce : P.cellsOf e = 1) (hct : P.cellsOf t = 8) (hv : Value.okWide P w r base t v) (h : DataW.Trod enc P w 0 sp held t v d p) :
    ∃ a : List Int, v = .agg (nums k a).toArray ∧ a.length = 8 ∧ ∀ x, x ∈ a → (Lit.int k x).wf = true := by
  obtain ⟨cs, rfl, hs, _⟩ : ∃ cs, v = .agg cs ∧ cs.size = P.cellsOf t ∧ Row.okWide P w r base t cs := by
    unfold Value.okWide at hv
    rw [ht] at hv
    exact hv
  obtain ⟨fuel, hf⟩ := h
  obtain ⟨xs, m, rfl, hx, hl, hxs, hall⟩ := DataW.trod_array ht hf
  rw [hct] at hs
  obtain ⟨l⟩ := cs
  match l, hs with
  | [c0, c1, c2, c3, c4, c5, c6, c7], _ =>
    have e0 := hall 0 (by decide)
    have e1 := hall 1 (by decide)
    have e2 := hall 2 (by decide)
    have e3 := hall 3 (by decide)
    have e4 := hall 4 (by decide)
    have e5 := hall 5 (by decide)
    have e6 := hall 6 (by decide)
    have e7 := hall 7 (by decide)
    rw [hce, List.getElem?_eq_getElem (by omega)] at e0 e1 e2 e3 e4 e5 e6 e7
    obtain ⟨a0, g0, _, w0⟩ := DataW.trod_int he e0
    obtain ⟨a1, g1, _, w1⟩ := DataW.trod_int he e1
    obtain ⟨a2, g2, _, w2⟩ := DataW.trod_int he e2
    obtain ⟨a3, g3, _, w3⟩ := DataW.trod_int he e3
    obtain ⟨a4, g4, _, w4⟩ := DataW.trod_int he e4
    obtain ⟨a5, g5, _, w5⟩ := DataW.trod_int he e5
    obtain ⟨a6, g6, _, w6⟩ := DataW.trod_int he e6
    obtain ⟨a7, g7, _, w7⟩ := DataW.trod_int he e7
    have f0 : [c0] = [.int k a0] := g0
    injection f0 with f0 _
    have f1 : [c1] = [.int k a1] := g1
    injection f1 with f1 _
    have f2 : [c2] = [.int k a2] := g2
    injection f2 with f2 _
    have f3 : [c3] = [.int k a3] := g3
    injection f3 with f3 _
    have f4 : [c4] = [.int k a4] := g4
    injection f4 with f4 _
    have f5 : [c5] = [.int k a5] := g5
    injection f5 with f5 _
    have f6 : [c6] = [.int k a6] := g6
    injection f6 with f6 _
    have f7 : [c7] = [.int k a7] := g7
    injection f7 with f7 _
    subst f0 f1 f2 f3 f4 f5 f6 f7
    refine ⟨[a0, a1, a2, a3, a4, a5, a6, a7], rfl, rfl, fun x hx => ?_⟩
    simp only [List.mem_cons, List.not_mem_nil, or_false] at hx
    rcases hx with rfl | rfl | rfl | rfl | rfl | rfl | rfl | rfl <;> assumption
theorem own : ownKnob Try.prog.godebug = none := by kernel_rfl
theorem laidOut : laidOutB Try.prog = true := by kernel_rfl
set_option maxRecDepth 100000 in
theorem lifted (os : Os) (started : os.Started) (H : Type) (enc : TypeId × Value → H) :
    ReturnsInHanded {} Try.checked os 6 .any (Rows.bitsJoinSpec.pre6 enc Try.prog Try.f6 Rows.bitsJoinRow.domain false) (Rows.bitsJoinSpec.post enc Try.prog Try.f6 false true false false) := by
  refine returnsInHanded_of_change_sized (C := Try.checked) own started (by kernel_rfl) Try.func6
    (ChangeSpec.witness6 (enc := enc) (C := Try.checked) false ⟨#[], #[.agg #[.int .u64 0, .int .u64 0, .int .u64 0, .int .u64 0, .int .u64 0, .int .u64 0, .int .u64 0, .int .u64 0], .agg #[.int .u64 0, .int .u64 0, .int .u64 0, .int .u64 0, .int .u64 0, .int .u64 0, .int .u64 0, .int .u64 0], .int .u8 0], []⟩ 12 (by kernel_rfl) (by kernel_rfl) (by kernel_rfl) (by kernel_rfl)) ?_
  intro W base args ds gs before hval0 hW hcnd hsz0 _
  have hval : ∀ (j : Nat) t v, Try.f6.params[j]? = some t → args[j]? = some v → Value.okWide Try.prog W .any base t v := hval0
  have hW' := hW
  obtain ⟨p, q, hA0, hV, rfl, hfz, hnd⟩ := hW
  have hA : DataW.TrodAll enc Try.prog W 0 (fun _ => true) true Try.f6.params.toList args.toList ds p := hA0
  rw [Try.params6] at hA hval
  obtain ⟨v0, vs0, d0, ds0, p0, q0, hargs, rfl, rfl, h0, r0⟩ := trodAll_cons hA
  obtain ⟨v1, vs1, d1, ds1, p1, q1, rfl, rfl, rfl, h1, r1⟩ := trodAll_cons r0
  obtain ⟨v2, vs2, d2, ds2, p2, q2, rfl, rfl, rfl, h2, r2⟩ := trodAll_cons r1
  obtain ⟨rfl, rfl, rfl⟩ := trodAll_nil r2
  obtain rfl : args = #[v0, v1, v2] := by cases args; simp_all
  obtain ⟨rfl, rfl⟩ := trodVars_none hV
  have k0 := h0
  have lt0 : ∀ x ∈ p0, x.block < W.heap.size := by obtain ⟨m, hm⟩ := k0; exact DataW.trod_lt m _ _ _ hm
  have k1 := h1
  have lt1 : ∀ x ∈ p1, x.block < W.heap.size := by obtain ⟨m, hm⟩ := k1; exact DataW.trod_lt m _ _ _ hm
  obtain ⟨a, rfl, hla, hwa⟩ := open_arr8 Try.underlying35 Try.underlying32 (by kernel_rfl) (by kernel_rfl) (hval 0 35 v0 rfl rfl) h0
  obtain ⟨b, rfl, hlb, hwb⟩ := open_arr8 Try.underlying35 Try.underlying32 (by kernel_rfl) (by kernel_rfl) (hval 1 35 v1 rfl rfl) h1
  obtain ⟨c, rfl, rfl, rfl, wc⟩ := open_int Try.underlying5 (hval 2 5 v2 rfl rfl) h2
  clear hA0 hval0 hsz0
  refine (Pure.join_holds a b c W hla hlb hwa hwb wc).mono fun e W' ⟨he, bel⟩ => ?_
  subst he
  exact ⟨_, rfl, _, _, _, [], _, [], hW', trodAll_mk1 (shut_bool Try.underlying4 _), (trodAll_cons_mk (Below.trod laidOut (by kernel_rfl) (of_decide_eq_true (by kernel_rfl)) k0 bel lt0) (trodAll_cons_mk (Below.trod laidOut (by kernel_rfl) (of_decide_eq_true (by kernel_rfl)) k1 bel lt1) (trodAll_cons_mk (shut_int Try.underlying5 wc) trodAll_mk0))), rfl, bel.frame _, fun h => by cases h⟩
theorem over : Rows.bitsJoinRow.holds Try.pinned (OpenSpec.ofChange Rows.bitsJoinSpec) :=
  OpenClaim.holds_of_wide 6 Try.f6 rfl rfl rfl rfl rfl rfl rfl ⟨rfl, rfl, rfl, rfl, rfl⟩ rfl rfl rfl rfl rfl (by kernel_rfl) Try.func6 (by kernel_rfl)
    (of_decide_eq_true (by kernel_rfl)) (by unfold Func.isWrapper; first | (rw [if_pos (by decide +kernel)]; kernel_rfl) | (rw [if_neg (by decide +kernel)]; exact ⟨rfl, rfl⟩))
    (fun os started H enc _ => lifted os started H enc)
theorem proved : Rows.BitsJoinSaid := over
#print axioms proved
end Go.Proofs.Ytbjliggjalnhgaa.bitsJoin
namespace Go.Proofs.Ytbjliggjalnhgaa
/-- The row, under a short name, for the claim. -/
theorem bitsJoin_holds : Rows.BitsJoinSaid := bitsJoin.proved
end Go.Proofs.Ytbjliggjalnhgaa

