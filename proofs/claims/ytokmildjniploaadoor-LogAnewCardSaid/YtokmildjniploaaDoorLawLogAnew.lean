/- The law LogAnew, for every input: the Go function returns true and its arguments read as before (the package-level errors as the program's text lays them: the tied card). Conditions: none beyond the given statement's own. -/
import Derived.Test.YtokmildjniploaaDoorRows
import Derived.Test.YtokmildjniploaaDoorTie
import Derived.Test.YtokmildjniploaaDoorCards
import Derived.Test.YtokmildjniploaaDoorLogYW
import Derived.Test.YtokmildjniploaaDoorPureLogAnew
import Derived.Test.YtokmildjniploaaDoorXLib
import Derived.WalkKit
import Derived.ProofKit
import Derived.OpenShut
import Derived.ShutString
import Derived.ChangeOld
import Derived.Below
import Derived.SizedLaws
import Derived.LaidLaws
import Derived.RowKitTokens
import Derived.ChangeSame
import Derived.ChangeVars
import Derived.JoinedOf
import Derived.Stop.Joined
import Derived.Test.YtokmildjniploaaDoorWSized
import Derived.SevenTiedAt
namespace Go.Proofs.YtokmildjniploaaDoor.logAnew
open Go.ChangeShapes Go.WideShapes Go.ChangeAt Go.RowKit Go.Proofs.YtokmildjniploaaDoorW.PrintWords Go.Proofs.YtokmildjniploaaDoorW.PrintLast Go.Proofs.YtokmildjniploaaDoor.PLog Go.Proofs.YtokmildjniploaaDoor.XLib
open Go.ChangeMaps (open_string shut_string)
set_option linter.unusedVariables false
set_option linter.unusedSimpArgs false
theorem own : ownKnob Tryd.prog.godebug = none := by kernel_rfl
theorem laidOut : laidOutB Tryd.prog = true := by kernel_rfl
theorem gn0 : Tryd.prog.globalNamed "rabbet/tag.errForm" = some 1 := by kernel_rfl
theorem gt0 : (Tryd.prog.globals[1]?).map (·.type) = some 62 := by kernel_rfl
theorem gn1 : Tryd.prog.globalNamed "rabbet/log.errForm" = some 0 := by kernel_rfl
theorem gt1 : (Tryd.prog.globals[0]?).map (·.type) = some 62 := by kernel_rfl
theorem nameP : Tryd.prog.typeName? 3 108 = some "*errors.errorString" := by kernel_rfl
theorem cellsE : Tryd.prog.cellsOf 132 = 1 := by kernel_rfl
theorem cellsS : Tryd.prog.cellsOf 9 = 1 := by kernel_rfl
theorem star : "*" ++ "errors.errorString" = "*errors.errorString" := by decide
theorem rowP (u : TypeId) (h : Tryd.prog.typeName? 3 u = some "*errors.errorString") : u = 108 :=
  typeName_ptr_named (nm := "errors.errorString") (by rw [star]; kernel_rfl) (by kernel_rfl) (by decide) u (by rw [star]; exact h)
def laidList : List (String × DataW Unit) := [("rabbet/tag.errForm", Rows.laid_rabbet_tag_errForm), ("rabbet/log.errForm", Rows.laid_rabbet_log_errForm)]
set_option maxRecDepth 100000 in
theorem glob_of_laid {W : World} (h : laidMet Tryd.prog laidList W) : ∃ GA : Nat → Addr, Glob GA W := by
  obtain ⟨ps, ⟨g0, t0, cs0, f0, p0, q0, hg0, ht0, hv0, hd0, ⟨g1, t1, cs1, f1, p1, q1, hg1, ht1, hv1, hd1, hq, e1⟩, e0⟩, hnd, hrows⟩ := h
  obtain rfl := Option.some.inj (gn0.symm.trans hg0)
  obtain rfl := Option.some.inj (gt0.symm.trans ht0)
  obtain rfl := Option.some.inj (gn1.symm.trans hg1)
  obtain rfl := Option.some.inj (gt1.symm.trans ht1)
  have hq' : q1 = [] := hq
  subst hq'
  subst e1
  subst e0
  obtain ⟨l0⟩ := cs0
  obtain ⟨l1⟩ := cs1
  have ok0 : ∀ u v, l0 = [.iface u v] → Value.okWide Tryd.prog W .any 0 u v := fun u v e => by
    subst e
    exact (hrows 1 0 (by simp [MemPlace.row])).2 u v (by simpa using World.var?_cell hg0 hv0 0)
  have ok1 : ∀ u v, l1 = [.iface u v] → Value.okWide Tryd.prog W .any 0 u v := fun u v e => by
    subst e
    exact (hrows 0 0 (by simp [MemPlace.row])).2 u v (by simpa using World.var?_cell hg1 hv1 0)
  obtain ⟨a0, s0, rfl, hc0, hs0, hz0, rfl⟩ := errorString_of_trod Tryd.underlying62 rowP Tryd.underlying108 Tryd.underlying132 rfl rfl Tryd.underlying9 cellsE cellsS hd0 ok0
  obtain ⟨a1, s1, rfl, hc1, hs1, hz1, rfl⟩ := errorString_of_trod Tryd.underlying62 rowP Tryd.underlying108 Tryd.underlying132 rfl rfl Tryd.underlying9 cellsE cellsS hd1 ok1
  obtain ⟨c0, t0, hb0⟩ := (hrows a0.block a0.off (by simp [MemPlace.row])).1
  obtain ⟨c1, t1, hb1⟩ := (hrows a1.block a1.off (by simp [MemPlace.row])).1
  have hn : a0 ≠ a1 := by
    skip <;> (intro e_; subst e_; simp [MemPlace.row] at hnd)
  refine ⟨fun j => if j = 1 then a0 else a1, { c0 := ?c0, c1 := ?c1, b0 := ?b0, b1 := ?b1, ne := ?_ }⟩
  case c0 => simpa using World.var?_cell gn1 hv1 0
  case c1 => simpa using World.var?_cell gn0 hv0 0
  case b0 => exact ⟨c1, t1, by simpa using hb1⟩
  case b1 => exact ⟨c0, t0, by simpa using hb0⟩
  · intro i j hi hj hij
    simp only [List.mem_cons, List.not_mem_nil, or_false] at hi hj
    rcases hi with rfl | rfl <;> rcases hj with rfl | rfl <;> first | exact absurd rfl hij | (simp only [show True from trivial, if_true, reduceIte, Nat.reduceEqDiff]; first | exact hn | exact Ne.symm (hn))
noncomputable def low : Nat := (World.holding Tryd.prog default ⟨#[], #[], []⟩).heap.size
noncomputable def laidWorld (os : Os) : World :=
  let w0 := World.holding Tryd.prog os ⟨#[.cells #[.string { data := #[105, 115, 32, 110, 111, 116, 32, 119, 104, 111, 108, 101] }] 132, .cells #[.string { data := #[105, 115, 32, 110, 111, 32, 114, 101, 99, 111, 114, 100] }] 132], #[], []⟩
  { w0 with heap := ((w0.heap.modify 1 fun
      | .cells _ t frozen => .cells #[.iface 108 (.pointer (some ⟨low + 0, 0, none⟩))] t frozen
      | o => o).modify 0 fun
      | .cells _ t frozen => .cells #[.iface 108 (.pointer (some ⟨low + 1, 0, none⟩))] t frozen
      | o => o) }
theorem laidWorld_met (os : Os) (args : Array Value) : laidMet Tryd.prog laidList ((laidWorld os).forCall (fun _ _ => 0) ⟨#[], args, []⟩).memory :=
  laidMet_of_run (ps := [.cell 1 0, .cell (low + 0) 0, .cell 0 0, .cell (low + 1) 0]) 8 (by kernel_rfl) (by kernel_rfl) (by kernel_rfl)
set_option maxRecDepth 100000 in
theorem lifted (os : Os) (started : os.Started) (H : Type) (enc : TypeId × Value → H) :
    ReturnsInHanded {} Tryd.checked os 5 .any (fun w args => (Rows.logAnewSpec.pre enc Tryd.prog Tryd.f5 [] false w args ∧ laidMet Tryd.prog laidList w) ∧ sizedMet enc Tryd.prog Tryd.f5 (OpenSpec.ofChange Rows.logAnewSpec) false w args)
      (Rows.logAnewSpec.post enc Tryd.prog Tryd.f5 false true false false) := by
  refine returnsInHanded_of_change_and (C := Tryd.checked) (X := fun w _ => laidMet Tryd.prog laidList w) (fun _ _ _ hh h => h.of_heap hh) own started (by kernel_rfl) Tryd.func5
    (ChangeSpec.witness_at (enc := enc) (C := Tryd.checked) (os := os) (X := fun w _ => laidMet Tryd.prog laidList w) false (laidWorld os) #[.slice none 0 0, .int .u8 0, .int .u8 0] 8 rfl (by kernel_rfl) (by kernel_rfl) (by kernel_rfl) (by kernel_rfl) (by kernel_rfl) (laidWorld_met os _)) ?_
  intro W base args ds gs before hval0 hW hcnd hsz0 hL _
  have hsz : (DataW.weightsEach Tryd.prog (Tryd.f5.params.toList ++ Rows.logAnewSpec.plain.varTypes Tryd.prog) (ds ++ gs)).all (· ≤ reachBytes) = true := hsz0
  have hval : ∀ (j : Nat) t v, Tryd.f5.params[j]? = some t → args[j]? = some v → Value.okWide Tryd.prog W .any base t v := hval0
  have hW' := hW
  obtain ⟨p, q, hA0, hV, rfl, hfz, hnd⟩ := hW
  have hA : DataW.TrodAll enc Tryd.prog W 0 (fun _ => true) true Tryd.f5.params.toList args.toList ds p := hA0
  rw [Tryd.params5] at hA hval hsz
  obtain ⟨v0, vs0, d0, ds0, p0, q0, hargs, rfl, rfl, h0, r0⟩ := trodAll_cons hA
  obtain ⟨v1, vs1, d1, ds1, p1, q1, rfl, rfl, rfl, h1, r1⟩ := trodAll_cons r0
  obtain ⟨v2, vs2, d2, ds2, p2, q2, rfl, rfl, rfl, h2, r2⟩ := trodAll_cons r1
  obtain ⟨rfl, rfl, rfl⟩ := trodAll_nil r2
  obtain rfl : args = #[v0, v1, v2] := by cases args; simp_all
  obtain ⟨rfl, rfl⟩ := trodVars_none hV
  obtain ⟨A0, n0, c0, rfl⟩ := okWide_slice Tryd.underlying31 (hval 0 31 v0 rfl rfl)
  have k0_ := h0
  have lt0 : ∀ x ∈ p0, x.block < W.heap.size := by obtain ⟨m, hm⟩ := k0_; exact DataW.trod_lt m _ _ _ hm
  obtain ⟨l0, hn0, hr0, hw0, hc0, hm0, hy0⟩ := slice_open (Kd.slice 5 (Kd.int .u8)) (fun y => y.length ≤ maxLen ∧ ∀ z, z ∈ y → (fun y => (Lit.int .u8 y).wf = true) z) Tryd.underlying31 (by kernel_rfl) (fun h => by obtain ⟨l_, A_, _, c_, e_, hc_, hC_, hm_, ha_⟩ := slice_el Tryd.underlying35 (by kernel_rfl) (fun h => by obtain ⟨n, rfl, rfl, hw⟩ := DataW.trod_int Tryd.underlying5 h; exact ⟨n, rfl, hw⟩) h; exact ⟨l_, ⟨A_, c_, e_, hc_, hC_⟩, hm_, ha_⟩) h0
  have y0 := hy0 hsz (j := 0) rfl rfl
  subst hn0
  obtain ⟨a1, rfl, rfl, rfl, w1⟩ := open_int Tryd.underlying5 (hval 1 5 v1 rfl rfl) h1
  obtain ⟨a2, rfl, rfl, rfl, w2⟩ := open_int Tryd.underlying5 (hval 2 5 v2 rfl rfl) h2
  obtain ⟨GA, hG⟩ := glob_of_laid hL
  clear hA0 hval0 hsz0 hsz
  have hk := Pure.LogAnew l0 a1 a2 hm0 (by have y_ := y0; rw [show Tryd.prog.bytesOf 35 = 24 from by kernel_rfl] at y_; exact y_) hw0 w1 w2
  refine (PLog.rabbetlaw21_LogAnew.calls GA _ _ l0 a1 a2 true W hr0 hc0 hG hk).mono fun e W' ⟨he, bel0⟩ => ?_
  have bel : Below W.heap.size W W' := bel0
  subst he
  exact ⟨_, rfl, _, _, _, [], _, [], hW', trodAll_mk1 (shut_bool Tryd.underlying4 _), (trodAll_cons_mk (Below.trod laidOut (by kernel_rfl) (of_decide_eq_true (by kernel_rfl)) k0_ bel lt0) (trodAll_cons_mk (shut_int Tryd.underlying5 w1) (trodAll_cons_mk (shut_int Tryd.underlying5 w2) trodAll_mk0))), rfl, bel.frame _, fun h => by cases h⟩
theorem over : Rows.logAnewRow.holds Tryd.pinned (OpenSpec.ofChange Rows.logAnewSpec) :=
  OpenClaim.holds_of_wide 5 Tryd.f5 rfl rfl rfl rfl rfl rfl rfl ⟨rfl, rfl, rfl, rfl, rfl⟩ rfl rfl rfl rfl rfl (by kernel_rfl) Tryd.func5 (by kernel_rfl)
    (of_decide_eq_true (by kernel_rfl)) (by unfold Func.isWrapper; first | (rw [if_pos (by decide +kernel)]; kernel_rfl) | (rw [if_neg (by decide +kernel)]; exact ⟨rfl, rfl⟩))
    (fun os started H enc _ => lifted os started H enc)
theorem card : Rows.LogAnewCardSaid :=
  Claim7.holds_tied_plain_at .later [] [.sentinel, .sentinel] true (true, "8793e91391fb81c36d7cd91cb9fe943d552dee08a18a07185cc2557640e264a9") true
    over (fun _ h => by cases h) (by kernel_rfl) (fun _ h => by cases h) logAnew_row_tie rfl ⟨rfl, rfl⟩ (by kernel_rfl) rfl
    (fun f fn hf hfn => by
      obtain rfl : f = 5 := Option.some.inj (hf.symm.trans (show Tryd.prog.funcNamed "rabbet/rabbetlaw21.LogAnew" = some 5 by kernel_rfl))
      obtain rfl : fn = Tryd.f5 := Option.some.inj (hfn.symm.trans Tryd.func5)
      refine ⟨by kernel_rfl, fun j t ht => ?_⟩
      rw [Tryd.params5] at ht
      exact match j, ht with
      | 0, ht => by
        have ht' : some 31 = some t := ht
        obtain rfl := Option.some.inj ht'
        exact (show Tryd.prog.wantsStandIn 31 = false by kernel_rfl)
      | 1, ht => by
        have ht' : some 5 = some t := ht
        obtain rfl := Option.some.inj ht'
        exact (show Tryd.prog.wantsStandIn 5 = false by kernel_rfl)
      | 2, ht => by
        have ht' : some 5 = some t := ht
        obtain rfl := Option.some.inj ht'
        exact (show Tryd.prog.wantsStandIn 5 = false by kernel_rfl)
      | j + 3, ht => by simp at ht)
    (by kernel_rfl)
#print axioms card
end Go.Proofs.YtokmildjniploaaDoor.logAnew
namespace Go.Proofs.YtokmildjniploaaDoor
/-- The row, under a short name, for the claim. -/
theorem logAnew_holds : Rows.LogAnewCardSaid := logAnew.card
end Go.Proofs.YtokmildjniploaaDoor
