/- The law RleAll, for every input: the Go function returns true and its arguments read as before (the package-level errors as the program's text lays them: the tied card). Conditions: none beyond the given statement's own. -/
import Derived.Test.YtigldipjkejalaaDoorRows
import Derived.Test.YtigldipjkejalaaDoorTie
import Derived.Test.YtigldipjkejalaaDoorCards
import Derived.Test.YtigldipjkejalaaDoorPRleAllx13
import Derived.Test.YtigldipjkejalaaDoorPureRleAll
import Derived.Test.YtigldipjkejalaaDoorXLib
import Derived.WalkKit
import Derived.ProofKit
import Derived.OpenShut
import Derived.ShutString
import Derived.ChangeOld
import Derived.Below
import Derived.SizedLaws
import Derived.LaidLaws
import Derived.RowKitTokens
import Derived.ChangeSame
import Derived.ChangeVars
import Derived.JoinedOf
import Derived.Stop.Joined
import Derived.Test.YtigldipjkejalaaDoorWSized
import Derived.SevenTiedAt
namespace Go.Proofs.YtigldipjkejalaaDoor.rleAll
open Go.ChangeShapes Go.WideShapes Go.ChangeAt Go.RowKit Go.Proofs.YtigldipjkejalaaDoorW.PrintWords Go.Proofs.YtigldipjkejalaaDoorW.PrintLast Go.Proofs.YtigldipjkejalaaDoor.PRleAll Go.Proofs.YtigldipjkejalaaDoor.XLib
open Go.ChangeMaps (open_string shut_string)
set_option linter.unusedVariables false
set_option linter.unusedSimpArgs false
theorem own : ownKnob Tryd.prog.godebug = none := by kernel_rfl
theorem laidOut : laidOutB Tryd.prog = true := by kernel_rfl
def k26_ok (y : S26) : Prop := (Lit.int .i64 y.f0).wf = true ∧ (Lit.int .i64 y.f1).wf = true ∧ y.f2.size ≤ maxLen
set_option maxRecDepth 100000 in
theorem k26_el {H : Type} {enc : TypeId × Value → H} {w : World} {sp : Nat → Bool} {held : Bool} {n : Nat} {cs : List Value} {x : DataW H × List MemPlace} (h : DataW.trod enc Tryd.prog w 0 sp held n 26 cs = some x) : ∃ y : S26, k26.K w y cs ∧ k26_ok y := by
  obtain ⟨xs, m, rfl, hx, hl, hxs, hall⟩ := DataW.trod_struct Tryd.underlying26 h
  have hl' : cs.length = 3 := hl.trans (by kernel_rfl)
  match cs, hl' with
  | [c0, c1, c2], _ =>
  have hxs' : xs.length = 3 := hxs
  have e0 := hall 0 _ rfl
  have e0' : DataW.trod enc Tryd.prog w 0 sp held m 3 [c0] = xs[0]? := by rw [← e0]; show _ = DataW.trod enc Tryd.prog w 0 sp held m 3 (List.take (Tryd.prog.cellsOf 3) (List.drop 0 _)); rw [show Tryd.prog.cellsOf 3 = 1 by kernel_rfl]; rfl
  rw [List.getElem?_eq_getElem (by omega)] at e0'
  obtain ⟨a0, g0, _, w0⟩ := DataW.trod_int Tryd.underlying3 e0'
  injection g0 with g0 _
  subst g0
  have e1 := hall 1 _ rfl
  have e1' : DataW.trod enc Tryd.prog w 0 sp held m 2 [c1] = xs[1]? := by rw [← e1]; show _ = DataW.trod enc Tryd.prog w 0 sp held m 2 (List.take (Tryd.prog.cellsOf 2) (List.drop 1 _)); rw [show Tryd.prog.cellsOf 2 = 1 by kernel_rfl]; rfl
  rw [List.getElem?_eq_getElem (by omega)] at e1'
  obtain ⟨a1, g1, _, w1⟩ := DataW.trod_int Tryd.underlying2 e1'
  injection g1 with g1 _
  subst g1
  have e2 := hall 2 _ rfl
  have e2' : DataW.trod enc Tryd.prog w 0 sp held m 9 [c2] = xs[2]? := by rw [← e2]; show _ = DataW.trod enc Tryd.prog w 0 sp held m 9 (List.take (Tryd.prog.cellsOf 9) (List.drop 2 _)); rw [show Tryd.prog.cellsOf 9 = 1 by kernel_rfl]; rfl
  rw [List.getElem?_eq_getElem (by omega)] at e2'
  obtain ⟨a2, g2, _, w2⟩ := DataW.trod_string Tryd.underlying9 e2'
  injection g2 with g2 _
  subst g2
  exact ⟨⟨a0, a1, a2⟩, k26_mk _ _, ⟨w0, w1, w2⟩⟩
theorem gn0 : Tryd.prog.globalNamed "rabbet/num.errShort" = some 2 := by kernel_rfl
theorem gt0 : (Tryd.prog.globals[2]?).map (·.type) = some 60 := by kernel_rfl
theorem gn1 : Tryd.prog.globalNamed "rabbet/num.errLong" = some 3 := by kernel_rfl
theorem gt1 : (Tryd.prog.globals[3]?).map (·.type) = some 60 := by kernel_rfl
theorem gn2 : Tryd.prog.globalNamed "rabbet/rle.errForm" = some 1 := by kernel_rfl
theorem gt2 : (Tryd.prog.globals[1]?).map (·.type) = some 60 := by kernel_rfl
theorem nameP : Tryd.prog.typeName? 3 117 = some "*errors.errorString" := by kernel_rfl
theorem cellsE : Tryd.prog.cellsOf 142 = 1 := by kernel_rfl
theorem cellsS : Tryd.prog.cellsOf 9 = 1 := by kernel_rfl
theorem star : "*" ++ "errors.errorString" = "*errors.errorString" := by decide
theorem rowP (u : TypeId) (h : Tryd.prog.typeName? 3 u = some "*errors.errorString") : u = 117 :=
  typeName_ptr_named (nm := "errors.errorString") (by rw [star]; kernel_rfl) (by kernel_rfl) (by decide) u (by rw [star]; exact h)
def laidList : List (String × DataW Unit) := [("rabbet/num.errShort", Rows.laid_rabbet_num_errShort), ("rabbet/num.errLong", Rows.laid_rabbet_num_errLong), ("rabbet/rle.errForm", Rows.laid_rabbet_rle_errForm)]
set_option maxRecDepth 100000 in
theorem glob_of_laid {W : World} (h : laidMet Tryd.prog laidList W) : ∃ GA : Nat → Addr, Glob GA W := by
  obtain ⟨ps, ⟨g0, t0, cs0, f0, p0, q0, hg0, ht0, hv0, hd0, ⟨g1, t1, cs1, f1, p1, q1, hg1, ht1, hv1, hd1, ⟨g2, t2, cs2, f2, p2, q2, hg2, ht2, hv2, hd2, hq, e2⟩, e1⟩, e0⟩, hnd, hrows⟩ := h
  obtain rfl := Option.some.inj (gn0.symm.trans hg0)
  obtain rfl := Option.some.inj (gt0.symm.trans ht0)
  obtain rfl := Option.some.inj (gn1.symm.trans hg1)
  obtain rfl := Option.some.inj (gt1.symm.trans ht1)
  obtain rfl := Option.some.inj (gn2.symm.trans hg2)
  obtain rfl := Option.some.inj (gt2.symm.trans ht2)
  have hq' : q2 = [] := hq
  subst hq'
  subst e2
  subst e1
  subst e0
  obtain ⟨l0⟩ := cs0
  obtain ⟨l1⟩ := cs1
  obtain ⟨l2⟩ := cs2
  have ok0 : ∀ u v, l0 = [.iface u v] → Value.okWide Tryd.prog W .any 0 u v := fun u v e => by
    subst e
    exact (hrows 2 0 (by simp [MemPlace.row])).2 u v (by simpa using World.var?_cell hg0 hv0 0)
  have ok1 : ∀ u v, l1 = [.iface u v] → Value.okWide Tryd.prog W .any 0 u v := fun u v e => by
    subst e
    exact (hrows 3 0 (by simp [MemPlace.row])).2 u v (by simpa using World.var?_cell hg1 hv1 0)
  have ok2 : ∀ u v, l2 = [.iface u v] → Value.okWide Tryd.prog W .any 0 u v := fun u v e => by
    subst e
    exact (hrows 1 0 (by simp [MemPlace.row])).2 u v (by simpa using World.var?_cell hg2 hv2 0)
  obtain ⟨a0, s0, rfl, hc0, hs0, hz0, rfl⟩ := errorString_of_trod Tryd.underlying60 rowP Tryd.underlying117 Tryd.underlying142 rfl rfl Tryd.underlying9 cellsE cellsS hd0 ok0
  obtain ⟨a1, s1, rfl, hc1, hs1, hz1, rfl⟩ := errorString_of_trod Tryd.underlying60 rowP Tryd.underlying117 Tryd.underlying142 rfl rfl Tryd.underlying9 cellsE cellsS hd1 ok1
  obtain ⟨a2, s2, rfl, hc2, hs2, hz2, rfl⟩ := errorString_of_trod Tryd.underlying60 rowP Tryd.underlying117 Tryd.underlying142 rfl rfl Tryd.underlying9 cellsE cellsS hd2 ok2
  obtain ⟨c0, t0, hb0⟩ := (hrows a0.block a0.off (by simp [MemPlace.row])).1
  obtain ⟨c1, t1, hb1⟩ := (hrows a1.block a1.off (by simp [MemPlace.row])).1
  obtain ⟨c2, t2, hb2⟩ := (hrows a2.block a2.off (by simp [MemPlace.row])).1
  have hn : a0 ≠ a1 ∧ a0 ≠ a2 ∧ a1 ≠ a2 := by
    refine ⟨?_, ?_, ?_⟩ <;> (intro e_; subst e_; simp [MemPlace.row] at hnd)
  refine ⟨fun j => if j = 2 then a0 else if j = 3 then a1 else a2, { c1 := ?c1, c2 := ?c2, c3 := ?c3, b1 := ?b1, b2 := ?b2, b3 := ?b3, ne := ?_ }⟩
  case c1 => simpa using World.var?_cell gn2 hv2 0
  case c2 => simpa using World.var?_cell gn0 hv0 0
  case c3 => simpa using World.var?_cell gn1 hv1 0
  case b1 => exact ⟨c2, t2, by simpa using hb2⟩
  case b2 => exact ⟨c0, t0, by simpa using hb0⟩
  case b3 => exact ⟨c1, t1, by simpa using hb1⟩
  · intro i j hi hj hij
    simp only [List.mem_cons, List.not_mem_nil, or_false] at hi hj
    rcases hi with rfl | rfl | rfl <;> rcases hj with rfl | rfl | rfl <;> first | exact absurd rfl hij | (simp only [show True from trivial, if_true, reduceIte, Nat.reduceEqDiff]; first | exact hn.1 | exact Ne.symm (hn.1) | exact hn.2.1 | exact Ne.symm (hn.2.1) | exact hn.2.2 | exact Ne.symm (hn.2.2))
noncomputable def low : Nat := (World.holding Tryd.prog default ⟨#[], #[], []⟩).heap.size
noncomputable def laidWorld (os : Os) : World :=
  let w0 := World.holding Tryd.prog os ⟨#[.cells #[.string { data := #[101, 110, 100, 115, 32, 116, 111, 111, 32, 115, 111, 111, 110] }] 142, .cells #[.string { data := #[105, 115, 32, 110, 111, 116, 32, 97, 115, 32, 115, 104, 111, 114, 116, 32, 97, 115, 32, 109, 97, 121, 32, 98, 101] }] 142, .cells #[.string { data := #[115, 97, 121, 115, 32, 110, 111, 32, 99, 111, 108, 117, 109, 110] }] 142], #[], []⟩
  { w0 with heap := (((w0.heap.modify 2 fun
      | .cells _ t frozen => .cells #[.iface 117 (.pointer (some ⟨low + 0, 0, none⟩))] t frozen
      | o => o).modify 3 fun
      | .cells _ t frozen => .cells #[.iface 117 (.pointer (some ⟨low + 1, 0, none⟩))] t frozen
      | o => o).modify 1 fun
      | .cells _ t frozen => .cells #[.iface 117 (.pointer (some ⟨low + 2, 0, none⟩))] t frozen
      | o => o) }
theorem laidWorld_met (os : Os) (args : Array Value) : laidMet Tryd.prog laidList ((laidWorld os).forCall (fun _ _ => 0) ⟨#[], args, []⟩).memory :=
  laidMet_of_run (ps := [.cell 2 0, .cell (low + 0) 0, .cell 3 0, .cell (low + 1) 0, .cell 1 0, .cell (low + 2) 0]) 8 (by kernel_rfl) (by kernel_rfl) (by kernel_rfl)
set_option maxRecDepth 100000 in
theorem lifted (os : Os) (started : os.Started) (H : Type) (enc : TypeId × Value → H) :
    ReturnsInHanded {} Tryd.checked os 8 .any (fun w args => (Rows.rleAllSpec.pre enc Tryd.prog Tryd.f8 [] false w args ∧ laidMet Tryd.prog laidList w) ∧ sizedMet enc Tryd.prog Tryd.f8 (OpenSpec.ofChange Rows.rleAllSpec) false w args)
      (Rows.rleAllSpec.post enc Tryd.prog Tryd.f8 false true false false) := by
  refine returnsInHanded_of_change_and (C := Tryd.checked) (X := fun w _ => laidMet Tryd.prog laidList w) (fun _ _ _ hh h => h.of_heap hh) own started (by kernel_rfl) Tryd.func8
    (ChangeSpec.witness_at (enc := enc) (C := Tryd.checked) (os := os) (X := fun w _ => laidMet Tryd.prog laidList w) false (laidWorld os) #[.int .i64 0, .slice none 0 0, .slice none 0 0, .int .i64 0, .slice none 0 0] 8 rfl (by kernel_rfl) (by kernel_rfl) (by kernel_rfl) (by kernel_rfl) (by kernel_rfl) (laidWorld_met os _)) ?_
  intro W base args ds gs before hval0 hW hcnd hsz0 hL _
  have hsz : (DataW.weightsEach Tryd.prog (Tryd.f8.params.toList ++ Rows.rleAllSpec.plain.varTypes Tryd.prog) (ds ++ gs)).all (· ≤ reachBytes) = true := hsz0
  have hval : ∀ (j : Nat) t v, Tryd.f8.params[j]? = some t → args[j]? = some v → Value.okWide Tryd.prog W .any base t v := hval0
  have hW' := hW
  obtain ⟨p, q, hA0, hV, rfl, hfz, hnd⟩ := hW
  have hA : DataW.TrodAll enc Tryd.prog W 0 (fun _ => true) true Tryd.f8.params.toList args.toList ds p := hA0
  rw [Tryd.params8] at hA hval hsz
  obtain ⟨v0, vs0, d0, ds0, p0, q0, hargs, rfl, rfl, h0, r0⟩ := trodAll_cons hA
  obtain ⟨v1, vs1, d1, ds1, p1, q1, rfl, rfl, rfl, h1, r1⟩ := trodAll_cons r0
  obtain ⟨v2, vs2, d2, ds2, p2, q2, rfl, rfl, rfl, h2, r2⟩ := trodAll_cons r1
  obtain ⟨v3, vs3, d3, ds3, p3, q3, rfl, rfl, rfl, h3, r3⟩ := trodAll_cons r2
  obtain ⟨v4, vs4, d4, ds4, p4, q4, rfl, rfl, rfl, h4, r4⟩ := trodAll_cons r3
  obtain ⟨rfl, rfl, rfl⟩ := trodAll_nil r4
  obtain rfl : args = #[v0, v1, v2, v3, v4] := by cases args; simp_all
  obtain ⟨rfl, rfl⟩ := trodVars_none hV
  obtain ⟨a0, rfl, rfl, rfl, w0⟩ := open_int Tryd.underlying3 (hval 0 3 v0 rfl rfl) h0
  obtain ⟨A1, n1, c1, rfl⟩ := okWide_slice Tryd.underlying22 (hval 1 22 v1 rfl rfl)
  have k1_ := h1
  have lt1 : ∀ x ∈ p1, x.block < W.heap.size := by obtain ⟨m, hm⟩ := k1_; exact DataW.trod_lt m _ _ _ hm
  obtain ⟨l1, hn1, hr1, hw1, hc1, hm1, hy1⟩ := slice_open (Kd.int .u8) (fun y => (Lit.int .u8 y).wf = true) Tryd.underlying22 (by kernel_rfl) (fun h => by obtain ⟨n, rfl, rfl, hw⟩ := DataW.trod_int Tryd.underlying5 h; exact ⟨n, rfl, hw⟩) h1
  have y1 := hy1 hsz (j := 1) rfl rfl
  subst hn1
  obtain ⟨A2, n2, c2, rfl⟩ := okWide_slice Tryd.underlying23 (hval 2 23 v2 rfl rfl)
  have k2_ := h2
  have lt2 : ∀ x ∈ p2, x.block < W.heap.size := by obtain ⟨m, hm⟩ := k2_; exact DataW.trod_lt m _ _ _ hm
  obtain ⟨l2, hn2, hr2, hw2, hc2, hm2, hy2⟩ := slice_open k26 k26_ok Tryd.underlying23 (by kernel_rfl) k26_el h2
  have y2 := hy2 hsz (j := 2) rfl rfl
  subst hn2
  obtain ⟨a3, rfl, rfl, rfl, w3⟩ := open_int Tryd.underlying3 (hval 3 3 v3 rfl rfl) h3
  obtain ⟨A4, n4, c4, rfl⟩ := okWide_slice Tryd.underlying22 (hval 4 22 v4 rfl rfl)
  have k4_ := h4
  have lt4 : ∀ x ∈ p4, x.block < W.heap.size := by obtain ⟨m, hm⟩ := k4_; exact DataW.trod_lt m _ _ _ hm
  obtain ⟨l4, hn4, hr4, hw4, hc4, hm4, hy4⟩ := slice_open (Kd.int .u8) (fun y => (Lit.int .u8 y).wf = true) Tryd.underlying22 (by kernel_rfl) (fun h => by obtain ⟨n, rfl, rfl, hw⟩ := DataW.trod_int Tryd.underlying5 h; exact ⟨n, rfl, hw⟩) h4
  have y4 := hy4 hsz (j := 4) rfl rfl
  subst hn4
  obtain ⟨GA, hG⟩ := glob_of_laid hL
  clear hA0 hval0 hsz0 hsz
  obtain ⟨k, hk⟩ := Pure.RleAll a0 l1 l2 a3 l4 w0 hm1 (by have y_ := y1; rw [show Tryd.prog.bytesOf 5 = 1 from by kernel_rfl] at y_; exact y_) hw1 hm2 (by have y_ := y2; rw [show Tryd.prog.bytesOf 26 = 32 from by kernel_rfl] at y_; exact y_) hw2 w3 hm4 (by have y_ := y4; rw [show Tryd.prog.bytesOf 5 = 1 from by kernel_rfl] at y_; exact y_) hw4
  refine (PRleAll.rabbetlaw6_RleAll.calls GA k a0 _ _ l1 (fun k => k < W.heap.size) _ _ l2 a3 _ _ l4 true W hr1 hc1 (Kd.V_mk hc2 (Kd.C_F (Kd.heap_iso _ (Kd.heap_pair (Kd.heap_int .i64) (Kd.heap_pair (Kd.heap_int .i64) Kd.heap_string))) hr2)) hr4 hc4 hG hk).mono fun e W' ⟨he, bel0⟩ => ?_
  have bel : Below W.heap.size W W' := bel0
  subst he
  exact ⟨_, rfl, _, _, _, [], _, [], hW', trodAll_mk1 (shut_bool Tryd.underlying4 _), (trodAll_cons_mk (shut_int Tryd.underlying3 w0) (trodAll_cons_mk (Below.trod laidOut (by kernel_rfl) (of_decide_eq_true (by kernel_rfl)) k1_ bel lt1) (trodAll_cons_mk (Below.trod laidOut (by kernel_rfl) (of_decide_eq_true (by kernel_rfl)) k2_ bel lt2) (trodAll_cons_mk (shut_int Tryd.underlying3 w3) (trodAll_cons_mk (Below.trod laidOut (by kernel_rfl) (of_decide_eq_true (by kernel_rfl)) k4_ bel lt4) trodAll_mk0))))), rfl, bel.frame _, fun h => by cases h⟩
theorem over : Rows.rleAllRow.holds Tryd.pinned (OpenSpec.ofChange Rows.rleAllSpec) :=
  OpenClaim.holds_of_wide 8 Tryd.f8 rfl rfl rfl rfl rfl rfl rfl ⟨rfl, rfl, rfl, rfl, rfl⟩ rfl rfl rfl rfl rfl (by kernel_rfl) Tryd.func8 (by kernel_rfl)
    (of_decide_eq_true (by kernel_rfl)) (by unfold Func.isWrapper; first | (rw [if_pos (by decide +kernel)]; kernel_rfl) | (rw [if_neg (by decide +kernel)]; exact ⟨rfl, rfl⟩))
    (fun os started H enc _ => lifted os started H enc)
theorem card : Rows.RleAllCardSaid :=
  Claim7.holds_tied_plain_at .later [] [.sentinel, .sentinel, .sentinel] true (true, "46257fa51a405771af7d578b4e00b9714ae15292c905cfd0b9c4df6de6c94b8e") true
    over (fun _ h => by cases h) (by kernel_rfl) (fun _ h => by cases h) rleAll_row_tie rfl ⟨rfl, rfl⟩ (by kernel_rfl) rfl
    (fun f fn hf hfn => by
      obtain rfl : f = 8 := Option.some.inj (hf.symm.trans (show Tryd.prog.funcNamed "rabbet/rabbetlaw6.RleAll" = some 8 by kernel_rfl))
      obtain rfl : fn = Tryd.f8 := Option.some.inj (hfn.symm.trans Tryd.func8)
      refine ⟨by kernel_rfl, fun j t ht => ?_⟩
      rw [Tryd.params8] at ht
      exact match j, ht with
      | 0, ht => by
        have ht' : some 3 = some t := ht
        obtain rfl := Option.some.inj ht'
        exact (show Tryd.prog.wantsStandIn 3 = false by kernel_rfl)
      | 1, ht => by
        have ht' : some 22 = some t := ht
        obtain rfl := Option.some.inj ht'
        exact (show Tryd.prog.wantsStandIn 22 = false by kernel_rfl)
      | 2, ht => by
        have ht' : some 23 = some t := ht
        obtain rfl := Option.some.inj ht'
        exact (show Tryd.prog.wantsStandIn 23 = false by kernel_rfl)
      | 3, ht => by
        have ht' : some 3 = some t := ht
        obtain rfl := Option.some.inj ht'
        exact (show Tryd.prog.wantsStandIn 3 = false by kernel_rfl)
      | 4, ht => by
        have ht' : some 22 = some t := ht
        obtain rfl := Option.some.inj ht'
        exact (show Tryd.prog.wantsStandIn 22 = false by kernel_rfl)
      | j + 5, ht => by simp at ht)
    (by kernel_rfl)
#print axioms card
end Go.Proofs.YtigldipjkejalaaDoor.rleAll
namespace Go.Proofs.YtigldipjkejalaaDoor
/-- The row, under a short name, for the claim. -/
theorem rleAll_holds : Rows.RleAllCardSaid := rleAll.card
end Go.Proofs.YtigldipjkejalaaDoor
