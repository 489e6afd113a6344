/- The law LogCrashes, for every input: the Go function returns true and its arguments read as before (the package-level errors as the program's text lays them: the tied card). Conditions: none beyond the given statement's own. -/
import Derived.Test.YtokmildjniploaaDoorRows
import Derived.Test.YtokmildjniploaaDoorTie
import Derived.Test.YtokmildjniploaaDoorCards
import Derived.Test.YtokmildjniploaaDoorLogTA
import Derived.Test.YtokmildjniploaaDoorPureLogCrashes
import Derived.Test.YtokmildjniploaaDoorXLib
import Derived.WalkKit
import Derived.ProofKit
import Derived.OpenShut
import Derived.ShutString
import Derived.ChangeOld
import Derived.Below
import Derived.SizedLaws
import Derived.LaidLaws
import Derived.RowKitTokens
import Derived.ChangeSame
import Derived.ChangeVars
import Derived.JoinedOf
import Derived.Stop.Joined
import Derived.Test.YtokmildjniploaaDoorWSized
import Derived.SevenTiedAt
namespace Go.Proofs.YtokmildjniploaaDoor.logCrashes
open Go.ChangeShapes Go.WideShapes Go.ChangeAt Go.RowKit Go.Proofs.YtokmildjniploaaDoorW.PrintWords Go.Proofs.YtokmildjniploaaDoorW.PrintLast Go.Proofs.YtokmildjniploaaDoor.PLog Go.Proofs.YtokmildjniploaaDoor.XLib
open Go.ChangeMaps (open_string shut_string)
set_option linter.unusedVariables false
set_option linter.unusedSimpArgs false
theorem own : ownKnob Tryd.prog.godebug = none := by kernel_rfl
theorem laidOut : laidOutB Tryd.prog = true := by kernel_rfl
def k46_ok (y : S46) : Prop := (Lit.int .i64 y.f0).wf = true ∧ ((fun y => y.length ≤ maxLen ∧ ∀ z, z ∈ y → (fun y => (Lit.int .u8 y).wf = true) z)) y.f1 ∧ ((fun y => y.length ≤ maxLen ∧ ∀ z, z ∈ y → (fun y => y.length ≤ maxLen ∧ ∀ z, z ∈ y → (fun y => (Lit.int .u8 y).wf = true) z) z)) y.f2 ∧ ((fun y => y.length ≤ maxLen ∧ ∀ z, z ∈ y → (fun y => (Lit.int .u8 y).wf = true) z)) y.f3 ∧ (Lit.int .i64 y.f4).wf = true ∧ (Lit.int .i64 y.f5).wf = true
set_option maxRecDepth 100000 in
theorem k46_el {H : Type} {enc : TypeId × Value → H} {w : World} {sp : Nat → Bool} {held : Bool} {n : Nat} {cs : List Value} {x : DataW H × List MemPlace} (h : DataW.trod enc Tryd.prog w 0 sp held n 46 cs = some x) : ∃ y : S46, k46.K w y cs ∧ k46_ok y := by
  obtain ⟨xs, m, rfl, hx, hl, hxs, hall⟩ := DataW.trod_struct Tryd.underlying46 h
  have hl' : cs.length = 6 := hl.trans (by kernel_rfl)
  match cs, hl' with
  | [c0, c1, c2, c3, c4, c5], _ =>
  have hxs' : xs.length = 6 := hxs
  have e0 := hall 0 _ rfl
  have e0' : DataW.trod enc Tryd.prog w 0 sp held m 3 [c0] = xs[0]? := by rw [← e0]; show _ = DataW.trod enc Tryd.prog w 0 sp held m 3 (List.take (Tryd.prog.cellsOf 3) (List.drop 0 _)); rw [show Tryd.prog.cellsOf 3 = 1 by kernel_rfl]; rfl
  rw [List.getElem?_eq_getElem (by omega)] at e0'
  obtain ⟨a0, g0, _, w0⟩ := DataW.trod_int Tryd.underlying3 e0'
  injection g0 with g0 _
  subst g0
  have e1 := hall 1 _ rfl
  have e1' : DataW.trod enc Tryd.prog w 0 sp held m 35 [c1] = xs[1]? := by rw [← e1]; show _ = DataW.trod enc Tryd.prog w 0 sp held m 35 (List.take (Tryd.prog.cellsOf 35) (List.drop 1 _)); rw [show Tryd.prog.cellsOf 35 = 1 by kernel_rfl]; rfl
  rw [List.getElem?_eq_getElem (by omega)] at e1'
  obtain ⟨a1, A1, n1, cc1, g1, hsl1, hwc1, w1⟩ := slice_el Tryd.underlying35 (by kernel_rfl) (fun h => by obtain ⟨n, rfl, rfl, hw⟩ := DataW.trod_int Tryd.underlying5 h; exact ⟨n, rfl, hw⟩) e1'
  injection g1 with g1 _
  subst g1
  have e2 := hall 2 _ rfl
  have e2' : DataW.trod enc Tryd.prog w 0 sp held m 31 [c2] = xs[2]? := by rw [← e2]; show _ = DataW.trod enc Tryd.prog w 0 sp held m 31 (List.take (Tryd.prog.cellsOf 31) (List.drop 2 _)); rw [show Tryd.prog.cellsOf 31 = 1 by kernel_rfl]; rfl
  rw [List.getElem?_eq_getElem (by omega)] at e2'
  obtain ⟨a2, A2, n2, cc2, g2, hsl2, hwc2, w2⟩ := slice_el_of (Kd.slice 5 (Kd.int .u8)) (fun y => y.length ≤ maxLen ∧ ∀ z, z ∈ y → (fun y => (Lit.int .u8 y).wf = true) z) Tryd.underlying31 (by kernel_rfl) (fun h => by obtain ⟨l_, A_, _, c_, e_, hc_, hC_, hm_, ha_⟩ := slice_el Tryd.underlying35 (by kernel_rfl) (fun h => by obtain ⟨n, rfl, rfl, hw⟩ := DataW.trod_int Tryd.underlying5 h; exact ⟨n, rfl, hw⟩) h; exact ⟨l_, ⟨A_, c_, e_, hc_, hC_⟩, hm_, ha_⟩) e2'
  injection g2 with g2 _
  subst g2
  have e3 := hall 3 _ rfl
  have e3' : DataW.trod enc Tryd.prog w 0 sp held m 35 [c3] = xs[3]? := by rw [← e3]; show _ = DataW.trod enc Tryd.prog w 0 sp held m 35 (List.take (Tryd.prog.cellsOf 35) (List.drop 3 _)); rw [show Tryd.prog.cellsOf 35 = 1 by kernel_rfl]; rfl
  rw [List.getElem?_eq_getElem (by omega)] at e3'
  obtain ⟨a3, A3, n3, cc3, g3, hsl3, hwc3, w3⟩ := slice_el Tryd.underlying35 (by kernel_rfl) (fun h => by obtain ⟨n, rfl, rfl, hw⟩ := DataW.trod_int Tryd.underlying5 h; exact ⟨n, rfl, hw⟩) e3'
  injection g3 with g3 _
  subst g3
  have e4 := hall 4 _ rfl
  have e4' : DataW.trod enc Tryd.prog w 0 sp held m 3 [c4] = xs[4]? := by rw [← e4]; show _ = DataW.trod enc Tryd.prog w 0 sp held m 3 (List.take (Tryd.prog.cellsOf 3) (List.drop 4 _)); rw [show Tryd.prog.cellsOf 3 = 1 by kernel_rfl]; rfl
  rw [List.getElem?_eq_getElem (by omega)] at e4'
  obtain ⟨a4, g4, _, w4⟩ := DataW.trod_int Tryd.underlying3 e4'
  injection g4 with g4 _
  subst g4
  have e5 := hall 5 _ rfl
  have e5' : DataW.trod enc Tryd.prog w 0 sp held m 3 [c5] = xs[5]? := by rw [← e5]; show _ = DataW.trod enc Tryd.prog w 0 sp held m 3 (List.take (Tryd.prog.cellsOf 3) (List.drop 5 _)); rw [show Tryd.prog.cellsOf 3 = 1 by kernel_rfl]; rfl
  rw [List.getElem?_eq_getElem (by omega)] at e5'
  obtain ⟨a5, g5, _, w5⟩ := DataW.trod_int Tryd.underlying3 e5'
  injection g5 with g5 _
  subst g5
  exact ⟨⟨a0, a1, a2, a3, a4, a5⟩, k46_mk _ _ hsl1 hwc1 hsl2 hwc2 hsl3 hwc3, ⟨w0, w1, w2, w3, w4, w5⟩⟩
theorem gn0 : Tryd.prog.globalNamed "rabbet/tag.errForm" = some 1 := by kernel_rfl
theorem gt0 : (Tryd.prog.globals[1]?).map (·.type) = some 62 := by kernel_rfl
theorem gn1 : Tryd.prog.globalNamed "rabbet/log.errForm" = some 0 := by kernel_rfl
theorem gt1 : (Tryd.prog.globals[0]?).map (·.type) = some 62 := by kernel_rfl
theorem nameP : Tryd.prog.typeName? 3 108 = some "*errors.errorString" := by kernel_rfl
theorem cellsE : Tryd.prog.cellsOf 132 = 1 := by kernel_rfl
theorem cellsS : Tryd.prog.cellsOf 9 = 1 := by kernel_rfl
theorem star : "*" ++ "errors.errorString" = "*errors.errorString" := by decide
theorem rowP (u : TypeId) (h : Tryd.prog.typeName? 3 u = some "*errors.errorString") : u = 108 :=
  typeName_ptr_named (nm := "errors.errorString") (by rw [star]; kernel_rfl) (by kernel_rfl) (by decide) u (by rw [star]; exact h)
def laidList : List (String × DataW Unit) := [("rabbet/tag.errForm", Rows.laid_rabbet_tag_errForm), ("rabbet/log.errForm", Rows.laid_rabbet_log_errForm)]
set_option maxRecDepth 100000 in
theorem glob_of_laid {W : World} (h : laidMet Tryd.prog laidList W) : ∃ GA : Nat → Addr, Glob GA W := by
  obtain ⟨ps, ⟨g0, t0, cs0, f0, p0, q0, hg0, ht0, hv0, hd0, ⟨g1, t1, cs1, f1, p1, q1, hg1, ht1, hv1, hd1, hq, e1⟩, e0⟩, hnd, hrows⟩ := h
  obtain rfl := Option.some.inj (gn0.symm.trans hg0)
  obtain rfl := Option.some.inj (gt0.symm.trans ht0)
  obtain rfl := Option.some.inj (gn1.symm.trans hg1)
  obtain rfl := Option.some.inj (gt1.symm.trans ht1)
  have hq' : q1 = [] := hq
  subst hq'
  subst e1
  subst e0
  obtain ⟨l0⟩ := cs0
  obtain ⟨l1⟩ := cs1
  have ok0 : ∀ u v, l0 = [.iface u v] → Value.okWide Tryd.prog W .any 0 u v := fun u v e => by
    subst e
    exact (hrows 1 0 (by simp [MemPlace.row])).2 u v (by simpa using World.var?_cell hg0 hv0 0)
  have ok1 : ∀ u v, l1 = [.iface u v] → Value.okWide Tryd.prog W .any 0 u v := fun u v e => by
    subst e
    exact (hrows 0 0 (by simp [MemPlace.row])).2 u v (by simpa using World.var?_cell hg1 hv1 0)
  obtain ⟨a0, s0, rfl, hc0, hs0, hz0, rfl⟩ := errorString_of_trod Tryd.underlying62 rowP Tryd.underlying108 Tryd.underlying132 rfl rfl Tryd.underlying9 cellsE cellsS hd0 ok0
  obtain ⟨a1, s1, rfl, hc1, hs1, hz1, rfl⟩ := errorString_of_trod Tryd.underlying62 rowP Tryd.underlying108 Tryd.underlying132 rfl rfl Tryd.underlying9 cellsE cellsS hd1 ok1
  obtain ⟨c0, t0, hb0⟩ := (hrows a0.block a0.off (by simp [MemPlace.row])).1
  obtain ⟨c1, t1, hb1⟩ := (hrows a1.block a1.off (by simp [MemPlace.row])).1
  have hn : a0 ≠ a1 := by
    skip <;> (intro e_; subst e_; simp [MemPlace.row] at hnd)
  refine ⟨fun j => if j = 1 then a0 else a1, { c0 := ?c0, c1 := ?c1, b0 := ?b0, b1 := ?b1, ne := ?_ }⟩
  case c0 => simpa using World.var?_cell gn1 hv1 0
  case c1 => simpa using World.var?_cell gn0 hv0 0
  case b0 => exact ⟨c1, t1, by simpa using hb1⟩
  case b1 => exact ⟨c0, t0, by simpa using hb0⟩
  · intro i j hi hj hij
    simp only [List.mem_cons, List.not_mem_nil, or_false] at hi hj
    rcases hi with rfl | rfl <;> rcases hj with rfl | rfl <;> first | exact absurd rfl hij | (simp only [show True from trivial, if_true, reduceIte, Nat.reduceEqDiff]; first | exact hn | exact Ne.symm (hn))
noncomputable def low : Nat := (World.holding Tryd.prog default ⟨#[], #[], []⟩).heap.size
noncomputable def laidWorld (os : Os) : World :=
  let w0 := World.holding Tryd.prog os ⟨#[.cells #[.string { data := #[105, 115, 32, 110, 111, 116, 32, 119, 104, 111, 108, 101] }] 132, .cells #[.string { data := #[105, 115, 32, 110, 111, 32, 114, 101, 99, 111, 114, 100] }] 132], #[], []⟩
  { w0 with heap := ((w0.heap.modify 1 fun
      | .cells _ t frozen => .cells #[.iface 108 (.pointer (some ⟨low + 0, 0, none⟩))] t frozen
      | o => o).modify 0 fun
      | .cells _ t frozen => .cells #[.iface 108 (.pointer (some ⟨low + 1, 0, none⟩))] t frozen
      | o => o) }
theorem laidWorld_met (os : Os) (args : Array Value) : laidMet Tryd.prog laidList ((laidWorld os).forCall (fun _ _ => 0) ⟨#[], args, []⟩).memory :=
  laidMet_of_run (ps := [.cell 1 0, .cell (low + 0) 0, .cell 0 0, .cell (low + 1) 0]) 8 (by kernel_rfl) (by kernel_rfl) (by kernel_rfl)
set_option maxRecDepth 100000 in
theorem lifted (os : Os) (started : os.Started) (H : Type) (enc : TypeId × Value → H) :
    ReturnsInHanded {} Tryd.checked os 6 .any (fun w args => (Rows.logCrashesSpec.pre enc Tryd.prog Tryd.f6 [] false w args ∧ laidMet Tryd.prog laidList w) ∧ sizedMet enc Tryd.prog Tryd.f6 (OpenSpec.ofChange Rows.logCrashesSpec) false w args)
      (Rows.logCrashesSpec.post enc Tryd.prog Tryd.f6 false true false false) := by
  refine returnsInHanded_of_change_and (C := Tryd.checked) (X := fun w _ => laidMet Tryd.prog laidList w) (fun _ _ _ hh h => h.of_heap hh) own started (by kernel_rfl) Tryd.func6
    (ChangeSpec.witness_at (enc := enc) (C := Tryd.checked) (os := os) (X := fun w _ => laidMet Tryd.prog laidList w) false (laidWorld os) #[.int .u8 0, .slice none 0 0, .int .u16 0, .slice none 0 0, .int .i64 0, .int .i64 0, .int .u8 0, .slice none 0 0, .int .i64 0, .int .i64 0] 8 rfl (by kernel_rfl) (by kernel_rfl) (by kernel_rfl) (by kernel_rfl) (by kernel_rfl) (laidWorld_met os _)) ?_
  intro W base args ds gs before hval0 hW hcnd hsz0 hL _
  have hsz : (DataW.weightsEach Tryd.prog (Tryd.f6.params.toList ++ Rows.logCrashesSpec.plain.varTypes Tryd.prog) (ds ++ gs)).all (· ≤ reachBytes) = true := hsz0
  have hval : ∀ (j : Nat) t v, Tryd.f6.params[j]? = some t → args[j]? = some v → Value.okWide Tryd.prog W .any base t v := hval0
  have hW' := hW
  obtain ⟨p, q, hA0, hV, rfl, hfz, hnd⟩ := hW
  have hA : DataW.TrodAll enc Tryd.prog W 0 (fun _ => true) true Tryd.f6.params.toList args.toList ds p := hA0
  rw [Tryd.params6] at hA hval hsz
  obtain ⟨v0, vs0, d0, ds0, p0, q0, hargs, rfl, rfl, h0, r0⟩ := trodAll_cons hA
  obtain ⟨v1, vs1, d1, ds1, p1, q1, rfl, rfl, rfl, h1, r1⟩ := trodAll_cons r0
  obtain ⟨v2, vs2, d2, ds2, p2, q2, rfl, rfl, rfl, h2, r2⟩ := trodAll_cons r1
  obtain ⟨v3, vs3, d3, ds3, p3, q3, rfl, rfl, rfl, h3, r3⟩ := trodAll_cons r2
  obtain ⟨v4, vs4, d4, ds4, p4, q4, rfl, rfl, rfl, h4, r4⟩ := trodAll_cons r3
  obtain ⟨v5, vs5, d5, ds5, p5, q5, rfl, rfl, rfl, h5, r5⟩ := trodAll_cons r4
  obtain ⟨v6, vs6, d6, ds6, p6, q6, rfl, rfl, rfl, h6, r6⟩ := trodAll_cons r5
  obtain ⟨v7, vs7, d7, ds7, p7, q7, rfl, rfl, rfl, h7, r7⟩ := trodAll_cons r6
  obtain ⟨v8, vs8, d8, ds8, p8, q8, rfl, rfl, rfl, h8, r8⟩ := trodAll_cons r7
  obtain ⟨v9, vs9, d9, ds9, p9, q9, rfl, rfl, rfl, h9, r9⟩ := trodAll_cons r8
  obtain ⟨rfl, rfl, rfl⟩ := trodAll_nil r9
  obtain rfl : args = #[v0, v1, v2, v3, v4, v5, v6, v7, v8, v9] := by cases args; simp_all
  obtain ⟨rfl, rfl⟩ := trodVars_none hV
  obtain ⟨a0, rfl, rfl, rfl, w0⟩ := open_int Tryd.underlying5 (hval 0 5 v0 rfl rfl) h0
  obtain ⟨A1, n1, c1, rfl⟩ := okWide_slice Tryd.underlying47 (hval 1 47 v1 rfl rfl)
  have k1_ := h1
  have lt1 : ∀ x ∈ p1, x.block < W.heap.size := by obtain ⟨m, hm⟩ := k1_; exact DataW.trod_lt m _ _ _ hm
  obtain ⟨l1, hn1, hr1, hw1, hc1, hm1, hy1⟩ := slice_open k46 k46_ok Tryd.underlying47 (by kernel_rfl) k46_el h1
  have y1 := hy1 hsz (j := 1) rfl rfl
  subst hn1
  obtain ⟨a2, rfl, rfl, rfl, w2⟩ := open_int Tryd.underlying36 (hval 2 36 v2 rfl rfl) h2
  obtain ⟨A3, n3, c3, rfl⟩ := okWide_slice Tryd.underlying35 (hval 3 35 v3 rfl rfl)
  have k3_ := h3
  have lt3 : ∀ x ∈ p3, x.block < W.heap.size := by obtain ⟨m, hm⟩ := k3_; exact DataW.trod_lt m _ _ _ hm
  obtain ⟨l3, hn3, hr3, hw3, hc3, hm3, hy3⟩ := slice_open (Kd.int .u8) (fun y => (Lit.int .u8 y).wf = true) Tryd.underlying35 (by kernel_rfl) (fun h => by obtain ⟨n, rfl, rfl, hw⟩ := DataW.trod_int Tryd.underlying5 h; exact ⟨n, rfl, hw⟩) h3
  have y3 := hy3 hsz (j := 3) rfl rfl
  subst hn3
  obtain ⟨a4, rfl, rfl, rfl, w4⟩ := open_int Tryd.underlying3 (hval 4 3 v4 rfl rfl) h4
  obtain ⟨a5, rfl, rfl, rfl, w5⟩ := open_int Tryd.underlying3 (hval 5 3 v5 rfl rfl) h5
  obtain ⟨a6, rfl, rfl, rfl, w6⟩ := open_int Tryd.underlying5 (hval 6 5 v6 rfl rfl) h6
  obtain ⟨A7, n7, c7, rfl⟩ := okWide_slice Tryd.underlying35 (hval 7 35 v7 rfl rfl)
  have k7_ := h7
  have lt7 : ∀ x ∈ p7, x.block < W.heap.size := by obtain ⟨m, hm⟩ := k7_; exact DataW.trod_lt m _ _ _ hm
  obtain ⟨l7, hn7, hr7, hw7, hc7, hm7, hy7⟩ := slice_open (Kd.int .u8) (fun y => (Lit.int .u8 y).wf = true) Tryd.underlying35 (by kernel_rfl) (fun h => by obtain ⟨n, rfl, rfl, hw⟩ := DataW.trod_int Tryd.underlying5 h; exact ⟨n, rfl, hw⟩) h7
  have y7 := hy7 hsz (j := 7) rfl rfl
  subst hn7
  obtain ⟨a8, rfl, rfl, rfl, w8⟩ := open_int Tryd.underlying3 (hval 8 3 v8 rfl rfl) h8
  obtain ⟨a9, rfl, rfl, rfl, w9⟩ := open_int Tryd.underlying3 (hval 9 3 v9 rfl rfl) h9
  obtain ⟨GA, hG⟩ := glob_of_laid hL
  clear hA0 hval0 hsz0 hsz
  have hk := Pure.LogCrashes a0 l1 a2 l3 a4 a5 a6 l7 a8 a9 w0 hm1 (by have y_ := y1; rw [show Tryd.prog.bytesOf 46 = 96 from by kernel_rfl] at y_; exact y_) hw1 w2 hm3 (by have y_ := y3; rw [show Tryd.prog.bytesOf 5 = 1 from by kernel_rfl] at y_; exact y_) hw3 w4 w5 w6 hm7 (by have y_ := y7; rw [show Tryd.prog.bytesOf 5 = 1 from by kernel_rfl] at y_; exact y_) hw7 w8 w9
  refine (PLog.rabbetlaw21_LogCrashes.calls GA a0 _ _ l1 a2 _ _ l3 a4 a5 a6 _ _ l7 a8 a9 true W hr1 hc1 hr3 hc3 hr7 hc7 hG hk).mono fun e W' ⟨he, bel0⟩ => ?_
  have bel : Below W.heap.size W W' := bel0
  subst he
  exact ⟨_, rfl, _, _, _, [], _, [], hW', trodAll_mk1 (shut_bool Tryd.underlying4 _), (trodAll_cons_mk (shut_int Tryd.underlying5 w0) (trodAll_cons_mk (Below.trod laidOut (by kernel_rfl) (of_decide_eq_true (by kernel_rfl)) k1_ bel lt1) (trodAll_cons_mk (shut_int Tryd.underlying36 w2) (trodAll_cons_mk (Below.trod laidOut (by kernel_rfl) (of_decide_eq_true (by kernel_rfl)) k3_ bel lt3) (trodAll_cons_mk (shut_int Tryd.underlying3 w4) (trodAll_cons_mk (shut_int Tryd.underlying3 w5) (trodAll_cons_mk (shut_int Tryd.underlying5 w6) (trodAll_cons_mk (Below.trod laidOut (by kernel_rfl) (of_decide_eq_true (by kernel_rfl)) k7_ bel lt7) (trodAll_cons_mk (shut_int Tryd.underlying3 w8) (trodAll_cons_mk (shut_int Tryd.underlying3 w9) trodAll_mk0)))))))))), rfl, bel.frame _, fun h => by cases h⟩
theorem over : Rows.logCrashesRow.holds Tryd.pinned (OpenSpec.ofChange Rows.logCrashesSpec) :=
  OpenClaim.holds_of_wide 6 Tryd.f6 rfl rfl rfl rfl rfl rfl rfl ⟨rfl, rfl, rfl, rfl, rfl⟩ rfl rfl rfl rfl rfl (by kernel_rfl) Tryd.func6 (by kernel_rfl)
    (of_decide_eq_true (by kernel_rfl)) (by unfold Func.isWrapper; first | (rw [if_pos (by decide +kernel)]; kernel_rfl) | (rw [if_neg (by decide +kernel)]; exact ⟨rfl, rfl⟩))
    (fun os started H enc _ => lifted os started H enc)
theorem card : Rows.LogCrashesCardSaid :=
  Claim7.holds_tied_plain_at .later [] [.sentinel, .sentinel] true (true, "8793e91391fb81c36d7cd91cb9fe943d552dee08a18a07185cc2557640e264a9") true
    over (fun _ h => by cases h) (by kernel_rfl) (fun _ h => by cases h) logCrashes_row_tie rfl ⟨rfl, rfl⟩ (by kernel_rfl) rfl
    (fun f fn hf hfn => by
      obtain rfl : f = 6 := Option.some.inj (hf.symm.trans (show Tryd.prog.funcNamed "rabbet/rabbetlaw21.LogCrashes" = some 6 by kernel_rfl))
      obtain rfl : fn = Tryd.f6 := Option.some.inj (hfn.symm.trans Tryd.func6)
      refine ⟨by kernel_rfl, fun j t ht => ?_⟩
      rw [Tryd.params6] at ht
      exact match j, ht with
      | 0, ht => by
        have ht' : some 5 = some t := ht
        obtain rfl := Option.some.inj ht'
        exact (show Tryd.prog.wantsStandIn 5 = false by kernel_rfl)
      | 1, ht => by
        have ht' : some 47 = some t := ht
        obtain rfl := Option.some.inj ht'
        exact (show Tryd.prog.wantsStandIn 47 = false by kernel_rfl)
      | 2, ht => by
        have ht' : some 36 = some t := ht
        obtain rfl := Option.some.inj ht'
        exact (show Tryd.prog.wantsStandIn 36 = false by kernel_rfl)
      | 3, ht => by
        have ht' : some 35 = some t := ht
        obtain rfl := Option.some.inj ht'
        exact (show Tryd.prog.wantsStandIn 35 = false by kernel_rfl)
      | 4, ht => by
        have ht' : some 3 = some t := ht
        obtain rfl := Option.some.inj ht'
        exact (show Tryd.prog.wantsStandIn 3 = false by kernel_rfl)
      | 5, ht => by
        have ht' : some 3 = some t := ht
        obtain rfl := Option.some.inj ht'
        exact (show Tryd.prog.wantsStandIn 3 = false by kernel_rfl)
      | 6, ht => by
        have ht' : some 5 = some t := ht
        obtain rfl := Option.some.inj ht'
        exact (show Tryd.prog.wantsStandIn 5 = false by kernel_rfl)
      | 7, ht => by
        have ht' : some 35 = some t := ht
        obtain rfl := Option.some.inj ht'
        exact (show Tryd.prog.wantsStandIn 35 = false by kernel_rfl)
      | 8, ht => by
        have ht' : some 3 = some t := ht
        obtain rfl := Option.some.inj ht'
        exact (show Tryd.prog.wantsStandIn 3 = false by kernel_rfl)
      | 9, ht => by
        have ht' : some 3 = some t := ht
        obtain rfl := Option.some.inj ht'
        exact (show Tryd.prog.wantsStandIn 3 = false by kernel_rfl)
      | j + 10, ht => by simp at ht)
    (by kernel_rfl)
#print axioms card
end Go.Proofs.YtokmildjniploaaDoor.logCrashes
namespace Go.Proofs.YtokmildjniploaaDoor
/-- The row, under a short name, for the claim. -/
theorem logCrashes_holds : Rows.LogCrashesCardSaid := logCrashes.card
end Go.Proofs.YtokmildjniploaaDoor
