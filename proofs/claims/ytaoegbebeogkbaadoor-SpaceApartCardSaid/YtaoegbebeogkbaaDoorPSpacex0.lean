-- Written by xprint.py (a program of this project) out of the translation. Not trusted: Lean checks it.
import Derived.Test.YtaoegbebeogkbaaDoorProg
import Derived.Below
import Derived.Deep.Draws
import Derived.Deep.AppendLies
import Derived.Maps.AppendAt
import Derived.OwnWalk
import Derived.Laws.BytesArg
import Derived.Laws.MakeOwn
import Derived.Laws.OwnMore
import Derived.Deep.OwnRows
import Derived.Tactics
import Derived.Lib.ConvBytes
import Derived.Laws.Slices
import Derived.WalkKit
import Derived.KernelRfl
import Derived.RowKit3
import Derived.Deep.LoopGhost
import Derived.Deep.QuietTactic
import Derived.BigQuiet
import Derived.WideLaws
import Derived.Deep.DeepCutAuto
import Derived.Deep.CutBlock
import Derived.Deep.RegionHeld3
import Derived.Laws.Rows
import Derived.Lib.AppendStr
import Derived.ArgAppend
import Derived.Laws.IdiomCopy
import Derived.OrdersHeld
import Derived.Laws.BitsLemmas
import Derived.RowKit
import Derived.Test.YtaoegbebeogkbaaDoorWWords
import Derived.Test.YtaoegbebeogkbaaDoorWLast
import Derived.Test.YtaoegbebeogkbaaDoorWTab
import Derived.Test.YtaoegbebeogkbaaDoorWFour
import Derived.Test.YtaoegbebeogkbaaDoorWQPut
import Derived.Test.YtaoegbebeogkbaaDoorWApart
import Derived.Test.YtaoegbebeogkbaaDoorWArr
import Derived.Test.YtaoegbebeogkbaaDoorWZeros
import Derived.Test.YtaoegbebeogkbaaDoorWFoot
import Derived.Test.YtaoegbebeogkbaaDoorWKept
import Derived.Test.YtaoegbebeogkbaaDoorWShare
import Derived.Test.YtaoegbebeogkbaaDoorWN
import Derived.Test.YtaoegbebeogkbaaDoorWFootNe
import Derived.Test.YtaoegbebeogkbaaDoorWAt
import Derived.Test.YtaoegbebeogkbaaDoorWEqStruct
import Derived.Test.YtaoegbebeogkbaaDoorWRepsOne
import Derived.Test.YtaoegbebeogkbaaDoorWInv
import Derived.Test.YtaoegbebeogkbaaDoorWInvWords
import Derived.Test.YtaoegbebeogkbaaDoorWGuard
import Derived.Test.YtaoegbebeogkbaaDoorWNEv
import Derived.Test.YtaoegbebeogkbaaDoorWMore
import Derived.Test.YtaoegbebeogkbaaDoorXB
import Derived.LaidEql
import Derived.Stop.Asserts
import Derived.RowKitTokens
namespace Go.Proofs.YtaoegbebeogkbaaDoor.PSpace
open Go.RowKit Go.Proofs.YtaoegbebeogkbaaDoorW.PrintWords Go.Proofs.YtaoegbebeogkbaaDoorW.PrintLast Go.Proofs.YtaoegbebeogkbaaDoorW.PrintMore
attribute [local go_sem] max2_int min2_int max_two min_two max_three min_three max_four min_four   -- for this text's walks alone
set_option linter.unusedVariables false
set_option linter.unusedSimpArgs false



open Go.Extern.Stop Go.Stop Go.Extern
def errT (c : Int) : TypeId := if c = 0 then 90 else if c = 1 then 90 else 90
def errS (c : Int) : ByteArray := if c = 0 then (⟨#[116, 104, 101, 32, 114, 117, 110]⟩ : ByteArray) else if c = 1 then (⟨#[97, 32, 98, 108, 111, 99, 107]⟩ : ByteArray) else (⟨#[]⟩ : ByteArray)
def errG (c : Int) : Nat := if c = 0 then 1 else if c = 1 then 2 else 1
def errA (GA : Nat → Addr) (c : Int) : Value := .agg #[.string (errS c), .iface 93 (.pointer (some (GA (errG c))))]
def errW (GA : Nat → Addr) : Option Int → Value
  | none => .nilIface
  | some c => .iface (errT c) (errA GA c)
theorem errW_none (GA : Nat → Addr) : errW GA none = .nilIface := rfl
theorem errW_some (GA : Nat → Addr) (c : Int) : errW GA (some c) = .iface (errT c) (errA GA c) := rfl
/-- What is known of the package-level sentinels. -/
structure Glob (GA : Nat → Addr) (w : World) : Prop where
  c1 : w.cell? ⟨1, 0, none⟩ = some (.iface 93 (.pointer (some (GA 1))))
  c2 : w.cell? ⟨2, 0, none⟩ = some (.iface 93 (.pointer (some (GA 2))))
  b1 : ∃ cs t, w.heap[(GA 1).block]? = some (.cells cs t (0, 0))
  b2 : ∃ cs t, w.heap[(GA 2).block]? = some (.cells cs t (0, 0))
  ne : ∀ i j : Nat, i ∈ ([1, 2] : List Nat) → j ∈ ([1, 2] : List Nat) → i ≠ j → GA i ≠ GA j
theorem heap_of_below {B : Nat} {w w1 : World} (h : Below B w w1) {i : Nat} {ob : Obj} (hi : i < B) (hh : w.heap[i]? = some ob) : w1.heap[i]? = some ob := by rw [h.block i hi]; exact hh
theorem lt_of_heap {w : World} {i : Nat} {ob : Obj} (hh : w.heap[i]? = some ob) : i < w.heap.size := (Array.getElem?_eq_some_iff.1 hh).1
theorem Glob.below {GA : Nat → Addr} {w w1 : World} (g : Glob GA w) (h : Below w.heap.size w w1) : Glob GA w1 where
  c1 := (h.cell (World.block_lt_of_cell? w _ g.c1)).trans g.c1
  c2 := (h.cell (World.block_lt_of_cell? w _ g.c2)).trans g.c2
  b1 := by obtain ⟨cs, t, hh⟩ := g.b1; exact ⟨cs, t, heap_of_below h (lt_of_heap hh) hh⟩
  b2 := by obtain ⟨cs, t, hh⟩ := g.b2; exact ⟨cs, t, heap_of_below h (lt_of_heap hh) hh⟩
  ne := g.ne
theorem Glob.drawn {GA : Nat → Addr} {w w1 : World} (g : Glob GA w) (h : Drawn0 w w1) : Glob GA w1 := g.below h.below
theorem isTypeOf (v : Value) (w : World) : (Extern.ReflectliteType.typeOf #[.iface 93 v]).run Tryd.prog w = .ok (.iface 79 (.agg #[.pointer (some ⟨3, 93, none⟩)])) w := by kernel_rfl
theorem isComparable (w : World) : ((Extern.ReflectliteType.method fun t => do Extern.Rtype.noPackHeld "Comparable" t; pure (.bool (← typeInfo t).comparable)) #[.agg #[.pointer (some ⟨3, 93, none⟩)]]).run Tryd.prog w = .ok (.bool true) w := by kernel_rfl
theorem callTypeOf (v : Value) (w : World) : (callFunc 40 #[.iface 93 v]).run Tryd.prog w = .ok (.value (.iface 79 (.agg #[.pointer (some ⟨3, 93, none⟩)]))) w := by
  rw [@run_callFunc_extern Tryd.prog 40 _ Extern.ReflectliteType.typeOf Tryd.func40 (by kernel_rfl) (by kernel_rfl) (by kernel_rfl) (by kernel_rfl), isTypeOf]
  rfl
theorem callComparable (w : World) : (callFunc 66 #[.agg #[.pointer (some ⟨3, 93, none⟩)]]).run Tryd.prog w = .ok (.value (.bool true)) w := by
  rw [@run_callFunc_extern Tryd.prog 66 _ (Extern.ReflectliteType.method fun t => do Extern.Rtype.noPackHeld "Comparable" t; pure (.bool (← typeInfo t).comparable)) Tryd.func66 (by kernel_rfl) (by kernel_rfl) (by kernel_rfl) (by kernel_rfl), isComparable]
  rfl
theorem isMethodComparable (v : Value) (w : World) : (Go.method 229 79 v "Comparable").run Tryd.prog w = .ok (66, v) w := by kernel_rfl
theorem isComp : (Tryd.prog.info? 93).map (·.comparable) = some true := by kernel_rfl
theorem isSize : (Tryd.prog.info? 117).map (·.size) = some 1 := by kernel_rfl
theorem noIsE (v : Value) (xT : TypeId) (w : World) : (Instr.typeAssert (.iface 93 v) xT 81 true).run Tryd.prog w = .ok (.tuple #[.nilIface, .bool false]) w := run_typeAssert_lacksB Tryd.underlying81 (by kernel_rfl) (by kernel_rfl) v xT w
theorem noUnwrapE (v : Value) (xT : TypeId) (w : World) : (Instr.typeAssert (.iface 93 v) xT 84 true).run Tryd.prog w = .ok (.tuple #[.nilIface, .bool false]) w := run_typeAssert_lacksB Tryd.underlying84 (by kernel_rfl) (by kernel_rfl) v xT w
theorem noUnwrapsE (v : Value) (xT : TypeId) (w : World) : (Instr.typeAssert (.iface 93 v) xT 86 true).run Tryd.prog w = .ok (.tuple #[.nilIface, .bool false]) w := run_typeAssert_lacksB Tryd.underlying86 (by kernel_rfl) (by kernel_rfl) v xT w
theorem noIsW90 (v : Value) (xT : TypeId) (w : World) : (Instr.typeAssert (.iface 90 v) xT 81 true).run Tryd.prog w = .ok (.tuple #[.nilIface, .bool false]) w := run_typeAssert_lacksB Tryd.underlying81 (by kernel_rfl) (by kernel_rfl) v xT w
theorem hasUnwrapW90 (v : Value) (xT : TypeId) (w : World) : (Instr.typeAssert (.iface 90 v) xT 84 true).run Tryd.prog w = .ok (.tuple #[.iface 90 v, .bool true]) w := run_typeAssert_hasB Tryd.underlying84 (by kernel_rfl) v xT w
theorem methodUnwrap90 (v : Value) (w : World) : (Go.method 229 90 v "Unwrap").run Tryd.prog w = .ok (76, v) w := by kernel_rfl
def errors_IsN.f (_ : Unit) (_ : Nat) : Option Bool := some false
def errors_IsS.f (c : Int) (j : Nat) : Option Bool := some (decide (errG c = j))
theorem isNil (b : Addr) (w : World) :
    Calls Tryd.prog 33 #[.nilIface, .iface 93 (.pointer (some b))] w fun e w' => e = .returned (.bool false) ∧ w' = w := by
  have hn := run_eql_iface_nil_left (P := Tryd.prog) w 93 (.pointer (some b)) Tryd.underlying57
  go_enter Tryd.func33, Tryd.ntmps33
  go_wp2
  go_ret
  exact ⟨rfl, rfl⟩
theorem unwrap90 (s : ByteArray) (a : Addr) (w : World) :
    Calls Tryd.prog 76 #[.agg #[.string s, .iface 93 (.pointer (some a))]] w fun e w' => e = .returned (.iface 93 (.pointer (some a))) ∧ w' = w.alloc (.cells #[.string s, .iface 93 (.pointer (some a))] 90) := by
  go_enter Tryd.func76, Tryd.ntmps76
  go_wp2
  go_ret
  exact ⟨rfl, rfl⟩
set_option maxHeartbeats 2000000 in
set_option maxRecDepth 100000 in
theorem isSame90 (s : ByteArray) (b : Addr) (w : World) :
    Calls Tryd.prog 33 #[.iface 90 (.agg #[.string s, .iface 93 (.pointer (some b))]), .iface 93 (.pointer (some b))] w fun e w' => e = .returned (.bool true) ∧ Below w.heap.size w w' := by
  obtain ⟨i, hi, hcmp⟩ := Option.map_eq_some_iff.1 isComp
  obtain ⟨j, hj, hjs⟩ := Option.map_eq_some_iff.1 isSize
  have tT := callTypeOf
  have cT := callComparable
  have mR := isMethodComparable
  have nE := noIsE
  have uE := noUnwrapE
  have vE := noUnwrapsE
  have nW := noIsW90
  have uW := hasUnwrapW90
  have mU := methodUnwrap90
  have heq := fun w => run_eql_iface_ptr_same (P := Tryd.prog) w b Tryd.underlying57 Tryd.underlying93 hi hcmp hj
  have hty := run_eql_iface_types (P := Tryd.prog) 90 93 (.agg #[.string s, .iface 93 (.pointer (some b))]) (.pointer (some b)) Tryd.underlying57 (by decide)
  go_enter Tryd.func33, Tryd.ntmps33
  go_wp2
  refine wp_loop_rounds 2 ?_
  rw [rounds_succ]
  go_wp2_with (first | (go_at_call 76; refine (unwrap90 _ _ _).mono ?_; rintro e w' ⟨rfl, rfl⟩) | go_in)
  rw [rounds_succ]
  go_wp2_with (first | (go_at_call 76; refine (unwrap90 _ _ _).mono ?_; rintro e w' ⟨rfl, rfl⟩) | go_in)
  go_ret
  exact ⟨rfl, (Below.refl _ _).alloc (Nat.le_refl _) _⟩
set_option maxHeartbeats 2000000 in
set_option maxRecDepth 100000 in
theorem isOther90 (s : ByteArray) (a b : Addr) (ca cb : Array Value) (ta tb : TypeId) (w : World) (hne : a ≠ b) (ha : w.heap[a.block]? = some (.cells ca ta (0, 0))) (hb : w.heap[b.block]? = some (.cells cb tb (0, 0))) :
    Calls Tryd.prog 33 #[.iface 90 (.agg #[.string s, .iface 93 (.pointer (some a))]), .iface 93 (.pointer (some b))] w fun e w' => e = .returned (.bool false) ∧ Below w.heap.size w w' := by
  obtain ⟨i, hi, hcmp⟩ := Option.map_eq_some_iff.1 isComp
  obtain ⟨j, hj, hjs⟩ := Option.map_eq_some_iff.1 isSize
  have tT := callTypeOf
  have cT := callComparable
  have mR := isMethodComparable
  have nE := noIsE
  have uE := noUnwrapE
  have vE := noUnwrapsE
  have nW := noIsW90
  have uW := hasUnwrapW90
  have mU := methodUnwrap90
  have heq := run_eql_iface_ptr_other (P := Tryd.prog) (w.alloc (.cells #[.string s, .iface 93 (.pointer (some a))] 90)) Tryd.underlying57 Tryd.underlying93 hi hcmp hj (by rw [hjs]; decide) hne (heap_of_below ((Below.refl _ _).alloc (Nat.le_refl _) _) (lt_of_heap ha) ha) (heap_of_below ((Below.refl _ _).alloc (Nat.le_refl _) _) (lt_of_heap hb) hb)
  have hty := run_eql_iface_types (P := Tryd.prog) 90 93 (.agg #[.string s, .iface 93 (.pointer (some a))]) (.pointer (some b)) Tryd.underlying57 (by decide)
  go_enter Tryd.func33, Tryd.ntmps33
  go_wp2
  refine wp_loop_rounds 2 ?_
  rw [rounds_succ]
  go_wp2_with (first | (go_at_call 76; refine (unwrap90 _ _ _).mono ?_; rintro e w' ⟨rfl, rfl⟩) | go_in)
  rw [rounds_succ]
  go_wp2_with (first | (go_at_call 76; refine (unwrap90 _ _ _).mono ?_; rintro e w' ⟨rfl, rfl⟩) | go_in)
  go_ret
  exact ⟨rfl, (Below.refl _ _).alloc (Nat.le_refl _) _⟩
theorem errG_mem (c : Int) : errG c ∈ ([1, 2] : List Nat) := by
  unfold errG
  repeat' split
  all_goals decide
theorem errT_mem (c : Int) : errT c = 90 := by
  unfold errT
  repeat' split
  all_goals decide
theorem Glob.blk {GA : Nat → Addr} {w : World} (g : Glob GA w) (i : Nat) (hi : i ∈ ([1, 2] : List Nat)) : ∃ cs t, w.heap[(GA i).block]? = some (.cells cs t (0, 0)) := by
  simp only [List.mem_cons, List.not_mem_nil, or_false] at hi
  rcases hi with rfl | rfl
  · exact g.b1
  · exact g.b2
theorem errors_IsN.calls (GA : Nat → Addr) (u : Unit) (j : Nat) (r : Bool) (w : World) (hG : Glob GA w) (h : errors_IsN.f u j = some r) :
    Calls Tryd.prog 33 #[.nilIface, .iface 93 (.pointer (some (GA j)))] w fun e w' => e = .returned (.bool r) ∧ Drawn0 w w' := by
  obtain rfl := Option.some.inj h
  exact (isNil (GA j) w).mono fun e w' ⟨he, hw⟩ => ⟨he, by rw [hw]; exact Drawn0.refl _⟩
theorem errors_IsS.callsJ (GA : Nat → Addr) (c : Int) (j : Nat) (w : World) (hG : Glob GA w) (hj : j ∈ ([1, 2] : List Nat)) :
    Calls Tryd.prog 33 #[.iface (errT c) (errA GA c), .iface 93 (.pointer (some (GA j)))] w fun e w' => e = .returned (.bool (decide (errG c = j))) ∧ Below w.heap.size w w' := by
  obtain hT := errT_mem c
  · rw [hT]; unfold errA
    by_cases e : errG c = j
    · rw [decide_eq_true e, e]; exact (isSame90 (errS c) (GA j) w).mono fun e w' ⟨he, hw⟩ => ⟨he, hw⟩
    · rw [decide_eq_false e]
      obtain ⟨ca, ta, ha⟩ := hG.blk (errG c) (errG_mem c)
      obtain ⟨cb, tb, hb⟩ := hG.blk j hj
      exact (isOther90 (errS c) (GA (errG c)) (GA j) ca cb ta tb w (hG.ne _ _ (errG_mem c) hj e) ha hb).mono fun e w' ⟨he, hw⟩ => ⟨he, hw⟩
theorem errors_IsS.calls (GA : Nat → Addr) (c : Int) (j : Nat) (r : Bool) (w : World) (hG : Glob GA w) (h : errors_IsS.f c j = some r) (hj : j ∈ ([1, 2] : List Nat) := by decide) :
    Calls Tryd.prog 33 #[.iface (errT c) (errA GA c), .iface 93 (.pointer (some (GA j)))] w fun e w' => e = .returned (.bool r) ∧ Below w.heap.size w w' := by
  obtain rfl := Option.some.inj h
  exact errors_IsS.callsJ GA c j w hG hj

theorem info4 : (Tryd.prog.info? 4).map (fun i => (i.zero, i.size, i.bytes)) = some (some (.bool false), 1, 1) := by kernel_rfl
-- the values' own types
/-! #### struct type 39 -/
structure S39 where
  f0 : Int
  f1 : Int
def z39 : S39 := ⟨(0 : Int), (0 : Int)⟩
def k39 : Kd S39 := Kd.iso (Kd.pair (Kd.int .i64) (Kd.int .i64)) (fun x : S39 => (x.f0, x.f1))
theorem k39_open {w : World} {x : S39} {cs : List Value} (h : k39.K w x cs) : cs = [.int .i64 x.f0, .int .i64 x.f1] := by
  obtain ⟨_, _, rfl, rfl, rfl⟩ := h
  exact rfl
theorem k39_openM {w : World} {base : Nat} {ok : Nat → Prop} {x : S39} {cs : List Value} (h : k39.M w base ok x cs) : cs = [.int .i64 x.f0, .int .i64 x.f1] := by
  obtain ⟨_, _, rfl, rfl, rfl⟩ := h
  exact rfl
theorem k39_mk (w : World) (x : S39)  : k39.K w x [.int .i64 x.f0, .int .i64 x.f1] := ⟨[.int .i64 x.f0], [.int .i64 x.f1], rfl, rfl, rfl⟩
theorem k39_mkM (w : World) (base : Nat) (ok : Nat → Prop) (x : S39)  : k39.M w base ok x [.int .i64 x.f0, .int .i64 x.f1] := ⟨[.int .i64 x.f0], [.int .i64 x.f1], rfl, rfl, rfl⟩
def rd_T39 (xs : List S39) (i : Int) : S39 := xs.getD i.toNat z39
theorem at_T39 {w : World} {A : Option Addr} {n : Nat} {xs : List S39} (h : Kd.C k39 w A n xs) (i : Int) (h0 : 0 ≤ i) (h1 : i < n) : ∃ ad , A = some ad ∧ w.cell? (ad.add (i.toNat * 2)) = some (.int .i64 (rd_T39 xs i).f0) ∧ w.cell? ⟨(ad.add (i.toNat * 2)).block, (ad.add (i.toNat * 2)).off + 1, none⟩ = some (.int .i64 (rd_T39 xs i).f1) := by
  obtain ⟨ad, c, e, _, hK, hc0⟩ := Kd.C_get h z39 i h0 h1
  have hc : ∀ j u, c[j]? = some u → w.cell? (ad.add (i.toNat * 2 + j)) = some u := hc0
  obtain rfl := k39_open hK
  exact ⟨ad, e, hc 0 _ rfl, by rw [← add_field _ _ 1 (by omega)]; exact hc 1 _ rfl⟩

/-! #### struct type 41 -/
structure S41 where
  f0 : Int
  f1 : Int
  f2 : S39
def z41 : S41 := ⟨(0 : Int), (0 : Int), z39⟩
def k41 : Kd S41 := Kd.iso (Kd.pair (Kd.int .i64) (Kd.pair (Kd.int .i64) k39)) (fun x : S41 => (x.f0, x.f1, x.f2))
theorem k41_open {w : World} {x : S41} {cs : List Value} (h : k41.K w x cs) : cs = [.int .i64 x.f0, .int .i64 x.f1, .int .i64 x.f2.f0, .int .i64 x.f2.f1] := by
  obtain ⟨_, _, rfl, rfl, ⟨_, _, rfl, rfl, s2⟩⟩ := h
  obtain rfl := k39_open s2
  exact rfl
theorem k41_openM {w : World} {base : Nat} {ok : Nat → Prop} {x : S41} {cs : List Value} (h : k41.M w base ok x cs) : cs = [.int .i64 x.f0, .int .i64 x.f1, .int .i64 x.f2.f0, .int .i64 x.f2.f1] := by
  obtain ⟨_, _, rfl, rfl, ⟨_, _, rfl, rfl, s2⟩⟩ := h
  obtain rfl := k39_openM s2
  exact rfl
theorem k41_mk (w : World) (x : S41)  : k41.K w x [.int .i64 x.f0, .int .i64 x.f1, .int .i64 x.f2.f0, .int .i64 x.f2.f1] := ⟨[.int .i64 x.f0], [.int .i64 x.f1, .int .i64 x.f2.f0, .int .i64 x.f2.f1], rfl, rfl, ⟨[.int .i64 x.f1], [.int .i64 x.f2.f0, .int .i64 x.f2.f1], rfl, rfl, (k39_mk w x.f2 )⟩⟩
theorem k41_mkM (w : World) (base : Nat) (ok : Nat → Prop) (x : S41)  : k41.M w base ok x [.int .i64 x.f0, .int .i64 x.f1, .int .i64 x.f2.f0, .int .i64 x.f2.f1] := ⟨[.int .i64 x.f0], [.int .i64 x.f1, .int .i64 x.f2.f0, .int .i64 x.f2.f1], rfl, rfl, ⟨[.int .i64 x.f1], [.int .i64 x.f2.f0, .int .i64 x.f2.f1], rfl, rfl, (k39_mkM w base ok x.f2 )⟩⟩
def rd_T41 (xs : List S41) (i : Int) : S41 := xs.getD i.toNat z41
theorem at_T41 {w : World} {A : Option Addr} {n : Nat} {xs : List S41} (h : Kd.C k41 w A n xs) (i : Int) (h0 : 0 ≤ i) (h1 : i < n) : ∃ ad , A = some ad ∧ w.cell? (ad.add (i.toNat * 4)) = some (.int .i64 (rd_T41 xs i).f0) ∧ w.cell? ⟨(ad.add (i.toNat * 4)).block, (ad.add (i.toNat * 4)).off + 1, none⟩ = some (.int .i64 (rd_T41 xs i).f1) ∧ w.cell? ⟨(ad.add (i.toNat * 4)).block, (ad.add (i.toNat * 4)).off + 2, none⟩ = some (.int .i64 (rd_T41 xs i).f2.f0) ∧ w.cell? ⟨(ad.add (i.toNat * 4)).block, (ad.add (i.toNat * 4)).off + 3, none⟩ = some (.int .i64 (rd_T41 xs i).f2.f1) := by
  obtain ⟨ad, c, e, _, hK, hc0⟩ := Kd.C_get h z41 i h0 h1
  have hc : ∀ j u, c[j]? = some u → w.cell? (ad.add (i.toNat * 4 + j)) = some u := hc0
  obtain rfl := k41_open hK
  exact ⟨ad, e, hc 0 _ rfl, by rw [← add_field _ _ 1 (by omega)]; exact hc 1 _ rfl, by rw [← add_field _ _ 2 (by omega)]; exact hc 2 _ rfl, by rw [← add_field _ _ 3 (by omega)]; exact hc 3 _ rfl⟩

end Go.Proofs.YtaoegbebeogkbaaDoor.PSpace
