/- The law NullsBack, for every input: the Go function returns true and its arguments read as before (the package-level errors as the program's text lays them: the tied card). Conditions: none beyond the given statement's own. -/
import Derived.Test.YtbjliggjalnhgaaDoorRows
import Derived.Test.YtbjliggjalnhgaaDoorTie
import Derived.Test.YtbjliggjalnhgaaDoorCards
import Derived.Test.YtbjliggjalnhgaaDoorPNullsBackx2
import Derived.Test.YtbjliggjalnhgaaDoorPureNullsBack
import Derived.Test.YtbjliggjalnhgaaDoorXLib
import Derived.WalkKit
import Derived.ProofKit
import Derived.OpenShut
import Derived.ShutString
import Derived.ChangeOld
import Derived.Below
import Derived.SizedLaws
import Derived.LaidLaws
import Derived.RowKitTokens
import Derived.ChangeSame
import Derived.ChangeVars
import Derived.JoinedOf
import Derived.Stop.Joined
import Derived.Test.YtbjliggjalnhgaaDoorWSized
import Derived.SevenTiedAt
namespace Go.Proofs.YtbjliggjalnhgaaDoor.nullsBack
open Go.ChangeShapes Go.WideShapes Go.ChangeAt Go.RowKit Go.Proofs.YtbjliggjalnhgaaDoorW.PrintWords Go.Proofs.YtbjliggjalnhgaaDoorW.PrintLast Go.Proofs.YtbjliggjalnhgaaDoor.PNullsBack Go.Proofs.YtbjliggjalnhgaaDoor.XLib
open Go.ChangeMaps (open_string shut_string)
set_option linter.unusedVariables false
set_option linter.unusedSimpArgs false
theorem own : ownKnob Tryd.prog.godebug = none := by kernel_rfl
theorem laidOut : laidOutB Tryd.prog = true := by kernel_rfl
theorem gn0 : Tryd.prog.globalNamed "rabbet/nulls.errForm" = some 2 := by kernel_rfl
theorem gt0 : (Tryd.prog.globals[2]?).map (·.type) = some 44 := by kernel_rfl
theorem nameP : Tryd.prog.typeName? 3 76 = some "*errors.errorString" := by kernel_rfl
theorem cellsE : Tryd.prog.cellsOf 102 = 1 := by kernel_rfl
theorem cellsS : Tryd.prog.cellsOf 9 = 1 := by kernel_rfl
theorem star : "*" ++ "errors.errorString" = "*errors.errorString" := by decide
theorem rowP (u : TypeId) (h : Tryd.prog.typeName? 3 u = some "*errors.errorString") : u = 76 :=
  typeName_ptr_named (nm := "errors.errorString") (by rw [star]; kernel_rfl) (by kernel_rfl) (by decide) u (by rw [star]; exact h)
def laidList : List (String × DataW Unit) := [("rabbet/nulls.errForm", Rows.laid_rabbet_nulls_errForm)]
theorem glob_of_laid {W : World} (h : laidMet Tryd.prog laidList W) : ∃ GA : Nat → Addr, Glob GA W := by
  obtain ⟨ps, ⟨g0, t0, cs0, f0, p0, q0, hg0, ht0, hv0, hd0, hq, e0⟩, hnd, hrows⟩ := h
  obtain rfl := Option.some.inj (gn0.symm.trans hg0)
  obtain rfl := Option.some.inj (gt0.symm.trans ht0)
  have hq' : q0 = [] := hq
  subst hq'
  subst e0
  obtain ⟨l0⟩ := cs0
  have ok0 : ∀ u v, l0 = [.iface u v] → Value.okWide Tryd.prog W .any 0 u v := fun u v e => by
    subst e
    exact (hrows 2 0 (by simp [MemPlace.row])).2 u v (by simpa using World.var?_cell hg0 hv0 0)
  obtain ⟨a0, s0, rfl, hc0, hs0, hz0, rfl⟩ := errorString_of_trod Tryd.underlying44 rowP Tryd.underlying76 Tryd.underlying102 rfl rfl Tryd.underlying9 cellsE cellsS hd0 ok0
  obtain ⟨c0, t0, hb0⟩ := (hrows a0.block a0.off (by simp [MemPlace.row])).1
  have hn := trivial
  refine ⟨fun j => a0, { c2 := ?c2, b2 := ?b2, ne := ?_ }⟩
  case c2 => simpa using World.var?_cell gn0 hv0 0
  case b2 => exact ⟨c0, t0, by simpa using hb0⟩
  · intro i j hi hj hij
    simp only [List.mem_cons, List.not_mem_nil, or_false] at hi hj
    exact absurd (hi.trans hj.symm) hij
noncomputable def low : Nat := (World.holding Tryd.prog default ⟨#[], #[], []⟩).heap.size
noncomputable def laidWorld (os : Os) : World :=
  let w0 := World.holding Tryd.prog os ⟨#[.cells #[.string { data := #[105, 115, 32, 110, 111, 116, 32, 111, 102, 32, 115, 111, 32, 109, 97, 110, 121] }] 102], #[], []⟩
  { w0 with heap := (w0.heap.modify 2 fun
      | .cells _ t frozen => .cells #[.iface 76 (.pointer (some ⟨low + 0, 0, none⟩))] t frozen
      | o => o) }
theorem laidWorld_met (os : Os) (args : Array Value) : laidMet Tryd.prog laidList ((laidWorld os).forCall (fun _ _ => 0) ⟨#[], args, []⟩).memory :=
  laidMet_of_run (ps := [.cell 2 0, .cell (low + 0) 0]) 8 (by kernel_rfl) (by kernel_rfl) (by kernel_rfl)
set_option maxRecDepth 100000 in
theorem lifted (os : Os) (started : os.Started) (H : Type) (enc : TypeId × Value → H) :
    ReturnsInHanded {} Tryd.checked os 7 .any (fun w args => (Rows.nullsBackSpec.pre enc Tryd.prog Tryd.f7 [] false w args ∧ laidMet Tryd.prog laidList w) ∧ sizedMet enc Tryd.prog Tryd.f7 (OpenSpec.ofChange Rows.nullsBackSpec) false w args)
      (Rows.nullsBackSpec.post enc Tryd.prog Tryd.f7 false true false false) := by
  refine returnsInHanded_of_change_and (C := Tryd.checked) (X := fun w _ => laidMet Tryd.prog laidList w) (fun _ _ _ hh h => h.of_heap hh) own started (by kernel_rfl) Tryd.func7
    (ChangeSpec.witness_at (enc := enc) (C := Tryd.checked) (os := os) (X := fun w _ => laidMet Tryd.prog laidList w) false (laidWorld os) #[.slice none 0 0, .int .u8 0] 8 rfl (by kernel_rfl) (by kernel_rfl) (by kernel_rfl) (by kernel_rfl) (by kernel_rfl) (laidWorld_met os _)) ?_
  intro W base args ds gs before hval0 hW hcnd hsz0 hL _
  have hsz : (DataW.weightsEach Tryd.prog (Tryd.f7.params.toList ++ Rows.nullsBackSpec.plain.varTypes Tryd.prog) (ds ++ gs)).all (· ≤ reachBytes) = true := hsz0
  have hval : ∀ (j : Nat) t v, Tryd.f7.params[j]? = some t → args[j]? = some v → Value.okWide Tryd.prog W .any base t v := hval0
  have hW' := hW
  obtain ⟨p, q, hA0, hV, rfl, hfz, hnd⟩ := hW
  have hA : DataW.TrodAll enc Tryd.prog W 0 (fun _ => true) true Tryd.f7.params.toList args.toList ds p := hA0
  rw [Tryd.params7] at hA hval hsz
  obtain ⟨v0, vs0, d0, ds0, p0, q0, hargs, rfl, rfl, h0, r0⟩ := trodAll_cons hA
  obtain ⟨v1, vs1, d1, ds1, p1, q1, rfl, rfl, rfl, h1, r1⟩ := trodAll_cons r0
  obtain ⟨rfl, rfl, rfl⟩ := trodAll_nil r1
  obtain rfl : args = #[v0, v1] := by cases args; simp_all
  obtain ⟨rfl, rfl⟩ := trodVars_none hV
  obtain ⟨A0, n0, c0, rfl⟩ := okWide_slice Tryd.underlying36 (hval 0 36 v0 rfl rfl)
  have k0_ := h0
  have lt0 : ∀ x ∈ p0, x.block < W.heap.size := by obtain ⟨m, hm⟩ := k0_; exact DataW.trod_lt m _ _ _ hm
  obtain ⟨l0, hn0, hr0, hw0, hc0, hm0, hy0⟩ := slice_open Kd.bool (fun _ => True) Tryd.underlying36 (by kernel_rfl) (fun h => by obtain ⟨b, rfl, rfl⟩ := DataW.trod_bool Tryd.underlying4 h; exact ⟨b, rfl, trivial⟩) h0
  have y0 := hy0 hsz (j := 0) rfl rfl
  subst hn0
  obtain ⟨a1, rfl, rfl, rfl, w1⟩ := open_int Tryd.underlying5 (hval 1 5 v1 rfl rfl) h1
  obtain ⟨GA, hG⟩ := glob_of_laid hL
  clear hA0 hval0 hsz0 hsz
  obtain ⟨k, hk⟩ := Pure.NullsBack l0 a1 hm0 (by have y_ := y0; rw [show Tryd.prog.bytesOf 4 = 1 from by kernel_rfl] at y_; exact y_) hw0 w1
  refine (PNullsBack.rabbetlaw4_NullsBack.calls GA k _ _ l0 a1 true W hr0 hc0 hG hk).mono fun e W' ⟨he, bel0⟩ => ?_
  have bel : Below W.heap.size W W' := bel0
  subst he
  exact ⟨_, rfl, _, _, _, [], _, [], hW', trodAll_mk1 (shut_bool Tryd.underlying4 _), (trodAll_cons_mk (Below.trod laidOut (by kernel_rfl) (of_decide_eq_true (by kernel_rfl)) k0_ bel lt0) (trodAll_cons_mk (shut_int Tryd.underlying5 w1) trodAll_mk0)), rfl, bel.frame _, fun h => by cases h⟩
theorem over : Rows.nullsBackRow.holds Tryd.pinned (OpenSpec.ofChange Rows.nullsBackSpec) :=
  OpenClaim.holds_of_wide 7 Tryd.f7 rfl rfl rfl rfl rfl rfl rfl ⟨rfl, rfl, rfl, rfl, rfl⟩ rfl rfl rfl rfl rfl (by kernel_rfl) Tryd.func7 (by kernel_rfl)
    (of_decide_eq_true (by kernel_rfl)) (by unfold Func.isWrapper; first | (rw [if_pos (by decide +kernel)]; kernel_rfl) | (rw [if_neg (by decide +kernel)]; exact ⟨rfl, rfl⟩))
    (fun os started H enc _ => lifted os started H enc)
theorem card : Rows.NullsBackCardSaid :=
  Claim7.holds_tied_plain_at .later [] [.sentinel] true (true, "4216ae31533ec40652b8fa65c40f0c71d15e6fd42839531e4acd2b994b3cc3dd") true
    over (fun _ h => by cases h) (by kernel_rfl) (fun _ h => by cases h) nullsBack_row_tie rfl ⟨rfl, rfl⟩ (by kernel_rfl) rfl
    (fun f fn hf hfn => by
      obtain rfl : f = 7 := Option.some.inj (hf.symm.trans (show Tryd.prog.funcNamed "rabbet/rabbetlaw4.NullsBack" = some 7 by kernel_rfl))
      obtain rfl : fn = Tryd.f7 := Option.some.inj (hfn.symm.trans Tryd.func7)
      refine ⟨by kernel_rfl, fun j t ht => ?_⟩
      rw [Tryd.params7] at ht
      exact match j, ht with
      | 0, ht => by
        have ht' : some 36 = some t := ht
        obtain rfl := Option.some.inj ht'
        exact (show Tryd.prog.wantsStandIn 36 = false by kernel_rfl)
      | 1, ht => by
        have ht' : some 5 = some t := ht
        obtain rfl := Option.some.inj ht'
        exact (show Tryd.prog.wantsStandIn 5 = false by kernel_rfl)
      | j + 2, ht => by simp at ht)
    (by kernel_rfl)
#print axioms card
end Go.Proofs.YtbjliggjalnhgaaDoor.nullsBack
namespace Go.Proofs.YtbjliggjalnhgaaDoor
/-- The row, under a short name, for the claim. -/
theorem nullsBack_holds : Rows.NullsBackCardSaid := nullsBack.card
end Go.Proofs.YtbjliggjalnhgaaDoor
