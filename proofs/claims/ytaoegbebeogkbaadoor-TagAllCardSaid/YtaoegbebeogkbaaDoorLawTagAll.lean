/- The law TagAll, for every input: the Go function returns true and its arguments read as before (the package-level errors as the program's text lays them: the tied card). Conditions: none beyond the given statement's own. -/
import Derived.Test.YtaoegbebeogkbaaDoorRows
import Derived.Test.YtaoegbebeogkbaaDoorTie
import Derived.Test.YtaoegbebeogkbaaDoorCards
import Derived.Test.YtaoegbebeogkbaaDoorPTagAllx3
import Derived.Test.YtaoegbebeogkbaaDoorPureTagAll
import Derived.Test.YtaoegbebeogkbaaDoorXLib
import Derived.WalkKit
import Derived.ProofKit
import Derived.OpenShut
import Derived.ShutString
import Derived.ChangeOld
import Derived.Below
import Derived.SizedLaws
import Derived.LaidLaws
import Derived.RowKitTokens
import Derived.ChangeSame
import Derived.ChangeVars
import Derived.JoinedOf
import Derived.Stop.Joined
import Derived.Test.YtaoegbebeogkbaaDoorWSized
import Derived.SevenTiedAt
namespace Go.Proofs.YtaoegbebeogkbaaDoor.tagAll
open Go.ChangeShapes Go.WideShapes Go.ChangeAt Go.RowKit Go.Proofs.YtaoegbebeogkbaaDoorW.PrintWords Go.Proofs.YtaoegbebeogkbaaDoorW.PrintLast Go.Proofs.YtaoegbebeogkbaaDoor.PTagAll Go.Proofs.YtaoegbebeogkbaaDoor.XLib
open Go.ChangeMaps (open_string shut_string)
set_option linter.unusedVariables false
set_option linter.unusedSimpArgs false
theorem own : ownKnob Tryd.prog.godebug = none := by kernel_rfl
theorem laidOut : laidOutB Tryd.prog = true := by kernel_rfl
theorem gn0 : Tryd.prog.globalNamed "rabbet/tag.errForm" = some 0 := by kernel_rfl
theorem gt0 : (Tryd.prog.globals[0]?).map (·.type) = some 57 := by kernel_rfl
theorem nameP : Tryd.prog.typeName? 3 93 = some "*errors.errorString" := by kernel_rfl
theorem cellsE : Tryd.prog.cellsOf 117 = 1 := by kernel_rfl
theorem cellsS : Tryd.prog.cellsOf 9 = 1 := by kernel_rfl
theorem star : "*" ++ "errors.errorString" = "*errors.errorString" := by decide
theorem rowP (u : TypeId) (h : Tryd.prog.typeName? 3 u = some "*errors.errorString") : u = 93 :=
  typeName_ptr_named (nm := "errors.errorString") (by rw [star]; kernel_rfl) (by kernel_rfl) (by decide) u (by rw [star]; exact h)
def laidList : List (String × DataW Unit) := [("rabbet/tag.errForm", Rows.laid_rabbet_tag_errForm)]
set_option maxRecDepth 100000 in
theorem glob_of_laid {W : World} (h : laidMet Tryd.prog laidList W) : ∃ GA : Nat → Addr, Glob GA W := by
  obtain ⟨ps, ⟨g0, t0, cs0, f0, p0, q0, hg0, ht0, hv0, hd0, hq, e0⟩, hnd, hrows⟩ := h
  obtain rfl := Option.some.inj (gn0.symm.trans hg0)
  obtain rfl := Option.some.inj (gt0.symm.trans ht0)
  have hq' : q0 = [] := hq
  subst hq'
  subst e0
  obtain ⟨l0⟩ := cs0
  have ok0 : ∀ u v, l0 = [.iface u v] → Value.okWide Tryd.prog W .any 0 u v := fun u v e => by
    subst e
    exact (hrows 0 0 (by simp [MemPlace.row])).2 u v (by simpa using World.var?_cell hg0 hv0 0)
  obtain ⟨a0, s0, rfl, hc0, hs0, hz0, rfl⟩ := errorString_of_trod Tryd.underlying57 rowP Tryd.underlying93 Tryd.underlying117 rfl rfl Tryd.underlying9 cellsE cellsS hd0 ok0
  obtain ⟨c0, t0, hb0⟩ := (hrows a0.block a0.off (by simp [MemPlace.row])).1
  have hn := trivial
  refine ⟨fun j => a0, { c0 := ?c0, b0 := ?b0, ne := ?_ }⟩
  case c0 => simpa using World.var?_cell gn0 hv0 0
  case b0 => exact ⟨c0, t0, by simpa using hb0⟩
  · intro i j hi hj hij
    simp only [List.mem_cons, List.not_mem_nil, or_false] at hi hj
    exact absurd (hi.trans hj.symm) hij
noncomputable def low : Nat := (World.holding Tryd.prog default ⟨#[], #[], []⟩).heap.size
noncomputable def laidWorld (os : Os) : World :=
  let w0 := World.holding Tryd.prog os ⟨#[.cells #[.string { data := #[105, 115, 32, 110, 111, 116, 32, 119, 104, 111, 108, 101] }] 117], #[], []⟩
  { w0 with heap := (w0.heap.modify 0 fun
      | .cells _ t frozen => .cells #[.iface 93 (.pointer (some ⟨low + 0, 0, none⟩))] t frozen
      | o => o) }
theorem laidWorld_met (os : Os) (args : Array Value) : laidMet Tryd.prog laidList ((laidWorld os).forCall (fun _ _ => 0) ⟨#[], args, []⟩).memory :=
  laidMet_of_run (ps := [.cell 0 0, .cell (low + 0) 0]) 8 (by kernel_rfl) (by kernel_rfl) (by kernel_rfl)
set_option maxRecDepth 100000 in
theorem lifted (os : Os) (started : os.Started) (H : Type) (enc : TypeId × Value → H) :
    ReturnsInHanded {} Tryd.checked os 3 .any (fun w args => (Rows.tagAllSpec.pre enc Tryd.prog Tryd.f3 [] false w args ∧ laidMet Tryd.prog laidList w) ∧ sizedMet enc Tryd.prog Tryd.f3 (OpenSpec.ofChange Rows.tagAllSpec) false w args)
      (Rows.tagAllSpec.post enc Tryd.prog Tryd.f3 false true false false) := by
  refine returnsInHanded_of_change_and (C := Tryd.checked) (X := fun w _ => laidMet Tryd.prog laidList w) (fun _ _ _ hh h => h.of_heap hh) own started (by kernel_rfl) Tryd.func3
    (ChangeSpec.witness_at (enc := enc) (C := Tryd.checked) (os := os) (X := fun w _ => laidMet Tryd.prog laidList w) false (laidWorld os) #[.int .u32 0, .int .u32 0, .slice none 0 0, .slice none 0 0] 8 rfl (by kernel_rfl) (by kernel_rfl) (by kernel_rfl) (by kernel_rfl) (by kernel_rfl) (laidWorld_met os _)) ?_
  intro W base args ds gs before hval0 hW hcnd hsz0 hL _
  have hsz : (DataW.weightsEach Tryd.prog (Tryd.f3.params.toList ++ Rows.tagAllSpec.plain.varTypes Tryd.prog) (ds ++ gs)).all (· ≤ reachBytes) = true := hsz0
  have hval : ∀ (j : Nat) t v, Tryd.f3.params[j]? = some t → args[j]? = some v → Value.okWide Tryd.prog W .any base t v := hval0
  have hW' := hW
  obtain ⟨p, q, hA0, hV, rfl, hfz, hnd⟩ := hW
  have hA : DataW.TrodAll enc Tryd.prog W 0 (fun _ => true) true Tryd.f3.params.toList args.toList ds p := hA0
  rw [Tryd.params3] at hA hval hsz
  obtain ⟨v0, vs0, d0, ds0, p0, q0, hargs, rfl, rfl, h0, r0⟩ := trodAll_cons hA
  obtain ⟨v1, vs1, d1, ds1, p1, q1, rfl, rfl, rfl, h1, r1⟩ := trodAll_cons r0
  obtain ⟨v2, vs2, d2, ds2, p2, q2, rfl, rfl, rfl, h2, r2⟩ := trodAll_cons r1
  obtain ⟨v3, vs3, d3, ds3, p3, q3, rfl, rfl, rfl, h3, r3⟩ := trodAll_cons r2
  obtain ⟨rfl, rfl, rfl⟩ := trodAll_nil r3
  obtain rfl : args = #[v0, v1, v2, v3] := by cases args; simp_all
  obtain ⟨rfl, rfl⟩ := trodVars_none hV
  obtain ⟨a0, rfl, rfl, rfl, w0⟩ := open_int Tryd.underlying22 (hval 0 22 v0 rfl rfl) h0
  obtain ⟨a1, rfl, rfl, rfl, w1⟩ := open_int Tryd.underlying22 (hval 1 22 v1 rfl rfl) h1
  obtain ⟨A2, n2, c2, rfl⟩ := okWide_slice Tryd.underlying23 (hval 2 23 v2 rfl rfl)
  have k2_ := h2
  have lt2 : ∀ x ∈ p2, x.block < W.heap.size := by obtain ⟨m, hm⟩ := k2_; exact DataW.trod_lt m _ _ _ hm
  obtain ⟨l2, hn2, hr2, hw2, hc2, hm2, hy2⟩ := slice_open (Kd.int .u8) (fun y => (Lit.int .u8 y).wf = true) Tryd.underlying23 (by kernel_rfl) (fun h => by obtain ⟨n, rfl, rfl, hw⟩ := DataW.trod_int Tryd.underlying5 h; exact ⟨n, rfl, hw⟩) h2
  have y2 := hy2 hsz (j := 2) rfl rfl
  subst hn2
  obtain ⟨A3, n3, c3, rfl⟩ := okWide_slice Tryd.underlying23 (hval 3 23 v3 rfl rfl)
  have k3_ := h3
  have lt3 : ∀ x ∈ p3, x.block < W.heap.size := by obtain ⟨m, hm⟩ := k3_; exact DataW.trod_lt m _ _ _ hm
  obtain ⟨l3, hn3, hr3, hw3, hc3, hm3, hy3⟩ := slice_open (Kd.int .u8) (fun y => (Lit.int .u8 y).wf = true) Tryd.underlying23 (by kernel_rfl) (fun h => by obtain ⟨n, rfl, rfl, hw⟩ := DataW.trod_int Tryd.underlying5 h; exact ⟨n, rfl, hw⟩) h3
  have y3 := hy3 hsz (j := 3) rfl rfl
  subst hn3
  obtain ⟨GA, hG⟩ := glob_of_laid hL
  clear hA0 hval0 hsz0 hsz
  obtain ⟨k, hk⟩ := Pure.TagAll a0 a1 l2 l3 w0 w1 hm2 (by have y_ := y2; rw [show Tryd.prog.bytesOf 5 = 1 from by kernel_rfl] at y_; exact y_) hw2 hm3 (by have y_ := y3; rw [show Tryd.prog.bytesOf 5 = 1 from by kernel_rfl] at y_; exact y_) hw3
  refine (PTagAll.rabbetlaw20_TagAll.calls GA k a0 a1 _ _ l2 _ _ l3 true W hr2 hc2 hr3 hc3 hG hk).mono fun e W' ⟨he, bel0⟩ => ?_
  have bel : Below W.heap.size W W' := bel0
  subst he
  exact ⟨_, rfl, _, _, _, [], _, [], hW', trodAll_mk1 (shut_bool Tryd.underlying4 _), (trodAll_cons_mk (shut_int Tryd.underlying22 w0) (trodAll_cons_mk (shut_int Tryd.underlying22 w1) (trodAll_cons_mk (Below.trod laidOut (by kernel_rfl) (of_decide_eq_true (by kernel_rfl)) k2_ bel lt2) (trodAll_cons_mk (Below.trod laidOut (by kernel_rfl) (of_decide_eq_true (by kernel_rfl)) k3_ bel lt3) trodAll_mk0)))), rfl, bel.frame _, fun h => by cases h⟩
theorem over : Rows.tagAllRow.holds Tryd.pinned (OpenSpec.ofChange Rows.tagAllSpec) :=
  OpenClaim.holds_of_wide 3 Tryd.f3 rfl rfl rfl rfl rfl rfl rfl ⟨rfl, rfl, rfl, rfl, rfl⟩ rfl rfl rfl rfl rfl (by kernel_rfl) Tryd.func3 (by kernel_rfl)
    (of_decide_eq_true (by kernel_rfl)) (by unfold Func.isWrapper; first | (rw [if_pos (by decide +kernel)]; kernel_rfl) | (rw [if_neg (by decide +kernel)]; exact ⟨rfl, rfl⟩))
    (fun os started H enc _ => lifted os started H enc)
theorem card : Rows.TagAllCardSaid :=
  Claim7.holds_tied_plain_at .later [] [.sentinel] true (true, "29bbe03d11dc6a7ca7dbb5c5b365bcb89e06aa4e4b2f8cd187a6a9139fa32008") true
    over (fun _ h => by cases h) (by kernel_rfl) (fun _ h => by cases h) tagAll_row_tie rfl ⟨rfl, rfl⟩ (by kernel_rfl) rfl
    (fun f fn hf hfn => by
      obtain rfl : f = 3 := Option.some.inj (hf.symm.trans (show Tryd.prog.funcNamed "rabbet/rabbetlaw20.TagAll" = some 3 by kernel_rfl))
      obtain rfl : fn = Tryd.f3 := Option.some.inj (hfn.symm.trans Tryd.func3)
      refine ⟨by kernel_rfl, fun j t ht => ?_⟩
      rw [Tryd.params3] at ht
      exact match j, ht with
      | 0, ht => by
        have ht' : some 22 = some t := ht
        obtain rfl := Option.some.inj ht'
        exact (show Tryd.prog.wantsStandIn 22 = false by kernel_rfl)
      | 1, ht => by
        have ht' : some 22 = some t := ht
        obtain rfl := Option.some.inj ht'
        exact (show Tryd.prog.wantsStandIn 22 = false by kernel_rfl)
      | 2, ht => by
        have ht' : some 23 = some t := ht
        obtain rfl := Option.some.inj ht'
        exact (show Tryd.prog.wantsStandIn 23 = false by kernel_rfl)
      | 3, ht => by
        have ht' : some 23 = some t := ht
        obtain rfl := Option.some.inj ht'
        exact (show Tryd.prog.wantsStandIn 23 = false by kernel_rfl)
      | j + 4, ht => by simp at ht)
    (by kernel_rfl)
#print axioms card
end Go.Proofs.YtaoegbebeogkbaaDoor.tagAll
namespace Go.Proofs.YtaoegbebeogkbaaDoor
/-- The row, under a short name, for the claim. -/
theorem tagAll_holds : Rows.TagAllCardSaid := tagAll.card
end Go.Proofs.YtaoegbebeogkbaaDoor
