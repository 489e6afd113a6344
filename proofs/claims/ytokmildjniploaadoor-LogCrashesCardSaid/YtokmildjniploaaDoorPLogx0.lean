-- Written by xprint.py (a program of this project) out of the translation. Not trusted: Lean checks it.
import Derived.Test.YtokmildjniploaaDoorProg
import Derived.Below
import Derived.Deep.Draws
import Derived.Deep.AppendLies
import Derived.Maps.AppendAt
import Derived.OwnWalk
import Derived.Laws.BytesArg
import Derived.Laws.MakeOwn
import Derived.Laws.OwnMore
import Derived.Deep.OwnRows
import Derived.Tactics
import Derived.Lib.ConvBytes
import Derived.Laws.Slices
import Derived.WalkKit
import Derived.KernelRfl
import Derived.RowKit3
import Derived.Deep.LoopGhost
import Derived.Deep.QuietTactic
import Derived.BigQuiet
import Derived.WideLaws
import Derived.Deep.DeepCutAuto
import Derived.Deep.CutBlock
import Derived.Deep.RegionHeld3
import Derived.Laws.Rows
import Derived.Lib.AppendStr
import Derived.ArgAppend
import Derived.Laws.IdiomCopy
import Derived.OrdersHeld
import Derived.Laws.BitsLemmas
import Derived.RowKit
import Derived.Test.YtokmildjniploaaDoorWWords
import Derived.Test.YtokmildjniploaaDoorWLast
import Derived.Test.YtokmildjniploaaDoorWTab
import Derived.Test.YtokmildjniploaaDoorWFour
import Derived.Test.YtokmildjniploaaDoorWQPut
import Derived.Test.YtokmildjniploaaDoorWApart
import Derived.Test.YtokmildjniploaaDoorWArr
import Derived.Test.YtokmildjniploaaDoorWZeros
import Derived.Test.YtokmildjniploaaDoorWFoot
import Derived.Test.YtokmildjniploaaDoorWKept
import Derived.Test.YtokmildjniploaaDoorWShare
import Derived.Test.YtokmildjniploaaDoorWN
import Derived.Test.YtokmildjniploaaDoorWFootNe
import Derived.Test.YtokmildjniploaaDoorWAt
import Derived.Test.YtokmildjniploaaDoorWEqStruct
import Derived.Test.YtokmildjniploaaDoorWRepsOne
import Derived.Test.YtokmildjniploaaDoorWInv
import Derived.Test.YtokmildjniploaaDoorWInvWords
import Derived.Test.YtokmildjniploaaDoorWGuard
import Derived.Test.YtokmildjniploaaDoorWNEv
import Derived.Test.YtokmildjniploaaDoorWMore
import Derived.Test.YtokmildjniploaaDoorXB
import Derived.LaidEql
import Derived.Stop.Asserts
import Derived.RowKitTokens
namespace Go.Proofs.YtokmildjniploaaDoor.PLog
open Go.RowKit Go.Proofs.YtokmildjniploaaDoorW.PrintWords Go.Proofs.YtokmildjniploaaDoorW.PrintLast Go.Proofs.YtokmildjniploaaDoorW.PrintMore
attribute [local go_sem] max2_int min2_int max_two min_two max_three min_three max_four min_four   -- for this text's walks alone
set_option linter.unusedVariables false
set_option linter.unusedSimpArgs false



open Go.Extern.Stop Go.Stop Go.Extern
def errT (c : Int) : TypeId := if c = 0 then 106 else if c = 1 then 106 else if c = 2 then 80 else if c = 3 then 80 else 106
def errS (c : Int) : ByteArray := if c = 0 then (⟨#[116, 104, 101, 32, 108, 111, 97, 100]⟩ : ByteArray) else if c = 1 then (⟨#[116, 104, 101, 32, 116, 97, 103, 115]⟩ : ByteArray) else if c = 2 then (⟨#[97, 32, 98, 108, 111, 99, 107]⟩ : ByteArray) else if c = 3 then (⟨#[116, 104, 101, 32, 108, 101, 110, 103, 116, 104]⟩ : ByteArray) else (⟨#[]⟩ : ByteArray)
def errG (c : Int) : Nat := if c = 0 then 1 else if c = 1 then 1 else if c = 2 then 0 else if c = 3 then 0 else 1
def errA (GA : Nat → Addr) (c : Int) : Value := .agg #[.string (errS c), .iface 108 (.pointer (some (GA (errG c))))]
def errW (GA : Nat → Addr) : Option Int → Value
  | none => .nilIface
  | some c => .iface (errT c) (errA GA c)
theorem errW_none (GA : Nat → Addr) : errW GA none = .nilIface := rfl
theorem errW_some (GA : Nat → Addr) (c : Int) : errW GA (some c) = .iface (errT c) (errA GA c) := rfl
/-- What is known of the package-level sentinels. -/
structure Glob (GA : Nat → Addr) (w : World) : Prop where
  c0 : w.cell? ⟨0, 0, none⟩ = some (.iface 108 (.pointer (some (GA 0))))
  c1 : w.cell? ⟨1, 0, none⟩ = some (.iface 108 (.pointer (some (GA 1))))
  b0 : ∃ cs t, w.heap[(GA 0).block]? = some (.cells cs t (0, 0))
  b1 : ∃ cs t, w.heap[(GA 1).block]? = some (.cells cs t (0, 0))
  ne : ∀ i j : Nat, i ∈ ([0, 1] : List Nat) → j ∈ ([0, 1] : List Nat) → i ≠ j → GA i ≠ GA j
theorem heap_of_below {B : Nat} {w w1 : World} (h : Below B w w1) {i : Nat} {ob : Obj} (hi : i < B) (hh : w.heap[i]? = some ob) : w1.heap[i]? = some ob := by rw [h.block i hi]; exact hh
theorem lt_of_heap {w : World} {i : Nat} {ob : Obj} (hh : w.heap[i]? = some ob) : i < w.heap.size := (Array.getElem?_eq_some_iff.1 hh).1
theorem Glob.below {GA : Nat → Addr} {w w1 : World} (g : Glob GA w) (h : Below w.heap.size w w1) : Glob GA w1 where
  c0 := (h.cell (World.block_lt_of_cell? w _ g.c0)).trans g.c0
  c1 := (h.cell (World.block_lt_of_cell? w _ g.c1)).trans g.c1
  b0 := by obtain ⟨cs, t, hh⟩ := g.b0; exact ⟨cs, t, heap_of_below h (lt_of_heap hh) hh⟩
  b1 := by obtain ⟨cs, t, hh⟩ := g.b1; exact ⟨cs, t, heap_of_below h (lt_of_heap hh) hh⟩
  ne := g.ne
theorem Glob.drawn {GA : Nat → Addr} {w w1 : World} (g : Glob GA w) (h : Drawn0 w w1) : Glob GA w1 := g.below h.below
theorem isTypeOf (v : Value) (w : World) : (Extern.ReflectliteType.typeOf #[.iface 108 v]).run Tryd.prog w = .ok (.iface 95 (.agg #[.pointer (some ⟨2, 108, none⟩)])) w := by kernel_rfl
theorem isComparable (w : World) : ((Extern.ReflectliteType.method fun t => do Extern.Rtype.noPackHeld "Comparable" t; pure (.bool (← typeInfo t).comparable)) #[.agg #[.pointer (some ⟨2, 108, none⟩)]]).run Tryd.prog w = .ok (.bool true) w := by kernel_rfl
theorem callTypeOf (v : Value) (w : World) : (callFunc 40 #[.iface 108 v]).run Tryd.prog w = .ok (.value (.iface 95 (.agg #[.pointer (some ⟨2, 108, none⟩)]))) w := by
  rw [@run_callFunc_extern Tryd.prog 40 _ Extern.ReflectliteType.typeOf Tryd.func40 (by kernel_rfl) (by kernel_rfl) (by kernel_rfl) (by kernel_rfl), isTypeOf]
  rfl
theorem callComparable (w : World) : (callFunc 70 #[.agg #[.pointer (some ⟨2, 108, none⟩)]]).run Tryd.prog w = .ok (.value (.bool true)) w := by
  rw [@run_callFunc_extern Tryd.prog 70 _ (Extern.ReflectliteType.method fun t => do Extern.Rtype.noPackHeld "Comparable" t; pure (.bool (← typeInfo t).comparable)) Tryd.func70 (by kernel_rfl) (by kernel_rfl) (by kernel_rfl) (by kernel_rfl), isComparable]
  rfl
theorem isMethodComparable (v : Value) (w : World) : (Go.method 243 95 v "Comparable").run Tryd.prog w = .ok (70, v) w := by kernel_rfl
theorem isComp : (Tryd.prog.info? 108).map (·.comparable) = some true := by kernel_rfl
theorem isSize : (Tryd.prog.info? 132).map (·.size) = some 1 := by kernel_rfl
theorem noIsE (v : Value) (xT : TypeId) (w : World) : (Instr.typeAssert (.iface 108 v) xT 97 true).run Tryd.prog w = .ok (.tuple #[.nilIface, .bool false]) w := run_typeAssert_lacksB Tryd.underlying97 (by kernel_rfl) (by kernel_rfl) v xT w
theorem noUnwrapE (v : Value) (xT : TypeId) (w : World) : (Instr.typeAssert (.iface 108 v) xT 100 true).run Tryd.prog w = .ok (.tuple #[.nilIface, .bool false]) w := run_typeAssert_lacksB Tryd.underlying100 (by kernel_rfl) (by kernel_rfl) v xT w
theorem noUnwrapsE (v : Value) (xT : TypeId) (w : World) : (Instr.typeAssert (.iface 108 v) xT 102 true).run Tryd.prog w = .ok (.tuple #[.nilIface, .bool false]) w := run_typeAssert_lacksB Tryd.underlying102 (by kernel_rfl) (by kernel_rfl) v xT w
theorem noIsW80 (v : Value) (xT : TypeId) (w : World) : (Instr.typeAssert (.iface 80 v) xT 97 true).run Tryd.prog w = .ok (.tuple #[.nilIface, .bool false]) w := run_typeAssert_lacksB Tryd.underlying97 (by kernel_rfl) (by kernel_rfl) v xT w
theorem hasUnwrapW80 (v : Value) (xT : TypeId) (w : World) : (Instr.typeAssert (.iface 80 v) xT 100 true).run Tryd.prog w = .ok (.tuple #[.iface 80 v, .bool true]) w := run_typeAssert_hasB Tryd.underlying100 (by kernel_rfl) v xT w
theorem methodUnwrap80 (v : Value) (w : World) : (Go.method 243 80 v "Unwrap").run Tryd.prog w = .ok (66, v) w := by kernel_rfl
theorem noIsW106 (v : Value) (xT : TypeId) (w : World) : (Instr.typeAssert (.iface 106 v) xT 97 true).run Tryd.prog w = .ok (.tuple #[.nilIface, .bool false]) w := run_typeAssert_lacksB Tryd.underlying97 (by kernel_rfl) (by kernel_rfl) v xT w
theorem hasUnwrapW106 (v : Value) (xT : TypeId) (w : World) : (Instr.typeAssert (.iface 106 v) xT 100 true).run Tryd.prog w = .ok (.tuple #[.iface 106 v, .bool true]) w := run_typeAssert_hasB Tryd.underlying100 (by kernel_rfl) v xT w
theorem methodUnwrap106 (v : Value) (w : World) : (Go.method 243 106 v "Unwrap").run Tryd.prog w = .ok (80, v) w := by kernel_rfl
def errors_IsN.f (_ : Unit) (_ : Nat) : Option Bool := some false
def errors_IsS.f (c : Int) (j : Nat) : Option Bool := some (decide (errG c = j))
theorem isNil (b : Addr) (w : World) :
    Calls Tryd.prog 25 #[.nilIface, .iface 108 (.pointer (some b))] w fun e w' => e = .returned (.bool false) ∧ w' = w := by
  have hn := run_eql_iface_nil_left (P := Tryd.prog) w 108 (.pointer (some b)) Tryd.underlying62
  go_enter Tryd.func25, Tryd.ntmps25
  go_wp2
  go_ret
  exact ⟨rfl, rfl⟩
theorem unwrap80 (s : ByteArray) (a : Addr) (w : World) :
    Calls Tryd.prog 66 #[.agg #[.string s, .iface 108 (.pointer (some a))]] w fun e w' => e = .returned (.iface 108 (.pointer (some a))) ∧ w' = w.alloc (.cells #[.string s, .iface 108 (.pointer (some a))] 80) := by
  go_enter Tryd.func66, Tryd.ntmps66
  go_wp2
  go_ret
  exact ⟨rfl, rfl⟩
set_option maxHeartbeats 2000000 in
set_option maxRecDepth 100000 in
theorem isSame80 (s : ByteArray) (b : Addr) (w : World) :
    Calls Tryd.prog 25 #[.iface 80 (.agg #[.string s, .iface 108 (.pointer (some b))]), .iface 108 (.pointer (some b))] w fun e w' => e = .returned (.bool true) ∧ Below w.heap.size w w' := by
  obtain ⟨i, hi, hcmp⟩ := Option.map_eq_some_iff.1 isComp
  obtain ⟨j, hj, hjs⟩ := Option.map_eq_some_iff.1 isSize
  have tT := callTypeOf
  have cT := callComparable
  have mR := isMethodComparable
  have nE := noIsE
  have uE := noUnwrapE
  have vE := noUnwrapsE
  have nW := noIsW80
  have uW := hasUnwrapW80
  have mU := methodUnwrap80
  have heq := fun w => run_eql_iface_ptr_same (P := Tryd.prog) w b Tryd.underlying62 Tryd.underlying108 hi hcmp hj
  have hty := run_eql_iface_types (P := Tryd.prog) 80 108 (.agg #[.string s, .iface 108 (.pointer (some b))]) (.pointer (some b)) Tryd.underlying62 (by decide)
  go_enter Tryd.func25, Tryd.ntmps25
  go_wp2
  refine wp_loop_rounds 2 ?_
  rw [rounds_succ]
  go_wp2_with (first | (go_at_call 66; refine (unwrap80 _ _ _).mono ?_; rintro e w' ⟨rfl, rfl⟩) | go_in)
  rw [rounds_succ]
  go_wp2_with (first | (go_at_call 66; refine (unwrap80 _ _ _).mono ?_; rintro e w' ⟨rfl, rfl⟩) | go_in)
  go_ret
  exact ⟨rfl, (Below.refl _ _).alloc (Nat.le_refl _) _⟩
set_option maxHeartbeats 2000000 in
set_option maxRecDepth 100000 in
theorem isOther80 (s : ByteArray) (a b : Addr) (ca cb : Array Value) (ta tb : TypeId) (w : World) (hne : a ≠ b) (ha : w.heap[a.block]? = some (.cells ca ta (0, 0))) (hb : w.heap[b.block]? = some (.cells cb tb (0, 0))) :
    Calls Tryd.prog 25 #[.iface 80 (.agg #[.string s, .iface 108 (.pointer (some a))]), .iface 108 (.pointer (some b))] w fun e w' => e = .returned (.bool false) ∧ Below w.heap.size w w' := by
  obtain ⟨i, hi, hcmp⟩ := Option.map_eq_some_iff.1 isComp
  obtain ⟨j, hj, hjs⟩ := Option.map_eq_some_iff.1 isSize
  have tT := callTypeOf
  have cT := callComparable
  have mR := isMethodComparable
  have nE := noIsE
  have uE := noUnwrapE
  have vE := noUnwrapsE
  have nW := noIsW80
  have uW := hasUnwrapW80
  have mU := methodUnwrap80
  have heq := run_eql_iface_ptr_other (P := Tryd.prog) (w.alloc (.cells #[.string s, .iface 108 (.pointer (some a))] 80)) Tryd.underlying62 Tryd.underlying108 hi hcmp hj (by rw [hjs]; decide) hne (heap_of_below ((Below.refl _ _).alloc (Nat.le_refl _) _) (lt_of_heap ha) ha) (heap_of_below ((Below.refl _ _).alloc (Nat.le_refl _) _) (lt_of_heap hb) hb)
  have hty := run_eql_iface_types (P := Tryd.prog) 80 108 (.agg #[.string s, .iface 108 (.pointer (some a))]) (.pointer (some b)) Tryd.underlying62 (by decide)
  go_enter Tryd.func25, Tryd.ntmps25
  go_wp2
  refine wp_loop_rounds 2 ?_
  rw [rounds_succ]
  go_wp2_with (first | (go_at_call 66; refine (unwrap80 _ _ _).mono ?_; rintro e w' ⟨rfl, rfl⟩) | go_in)
  rw [rounds_succ]
  go_wp2_with (first | (go_at_call 66; refine (unwrap80 _ _ _).mono ?_; rintro e w' ⟨rfl, rfl⟩) | go_in)
  go_ret
  exact ⟨rfl, (Below.refl _ _).alloc (Nat.le_refl _) _⟩
theorem unwrap106 (s : ByteArray) (a : Addr) (w : World) :
    Calls Tryd.prog 80 #[.agg #[.string s, .iface 108 (.pointer (some a))]] w fun e w' => e = .returned (.iface 108 (.pointer (some a))) ∧ w' = w.alloc (.cells #[.string s, .iface 108 (.pointer (some a))] 106) := by
  go_enter Tryd.func80, Tryd.ntmps80
  go_wp2
  go_ret
  exact ⟨rfl, rfl⟩
set_option maxHeartbeats 2000000 in
set_option maxRecDepth 100000 in
theorem isSame106 (s : ByteArray) (b : Addr) (w : World) :
    Calls Tryd.prog 25 #[.iface 106 (.agg #[.string s, .iface 108 (.pointer (some b))]), .iface 108 (.pointer (some b))] w fun e w' => e = .returned (.bool true) ∧ Below w.heap.size w w' := by
  obtain ⟨i, hi, hcmp⟩ := Option.map_eq_some_iff.1 isComp
  obtain ⟨j, hj, hjs⟩ := Option.map_eq_some_iff.1 isSize
  have tT := callTypeOf
  have cT := callComparable
  have mR := isMethodComparable
  have nE := noIsE
  have uE := noUnwrapE
  have vE := noUnwrapsE
  have nW := noIsW106
  have uW := hasUnwrapW106
  have mU := methodUnwrap106
  have heq := fun w => run_eql_iface_ptr_same (P := Tryd.prog) w b Tryd.underlying62 Tryd.underlying108 hi hcmp hj
  have hty := run_eql_iface_types (P := Tryd.prog) 106 108 (.agg #[.string s, .iface 108 (.pointer (some b))]) (.pointer (some b)) Tryd.underlying62 (by decide)
  go_enter Tryd.func25, Tryd.ntmps25
  go_wp2
  refine wp_loop_rounds 2 ?_
  rw [rounds_succ]
  go_wp2_with (first | (go_at_call 80; refine (unwrap106 _ _ _).mono ?_; rintro e w' ⟨rfl, rfl⟩) | go_in)
  rw [rounds_succ]
  go_wp2_with (first | (go_at_call 80; refine (unwrap106 _ _ _).mono ?_; rintro e w' ⟨rfl, rfl⟩) | go_in)
  go_ret
  exact ⟨rfl, (Below.refl _ _).alloc (Nat.le_refl _) _⟩
set_option maxHeartbeats 2000000 in
set_option maxRecDepth 100000 in
theorem isOther106 (s : ByteArray) (a b : Addr) (ca cb : Array Value) (ta tb : TypeId) (w : World) (hne : a ≠ b) (ha : w.heap[a.block]? = some (.cells ca ta (0, 0))) (hb : w.heap[b.block]? = some (.cells cb tb (0, 0))) :
    Calls Tryd.prog 25 #[.iface 106 (.agg #[.string s, .iface 108 (.pointer (some a))]), .iface 108 (.pointer (some b))] w fun e w' => e = .returned (.bool false) ∧ Below w.heap.size w w' := by
  obtain ⟨i, hi, hcmp⟩ := Option.map_eq_some_iff.1 isComp
  obtain ⟨j, hj, hjs⟩ := Option.map_eq_some_iff.1 isSize
  have tT := callTypeOf
  have cT := callComparable
  have mR := isMethodComparable
  have nE := noIsE
  have uE := noUnwrapE
  have vE := noUnwrapsE
  have nW := noIsW106
  have uW := hasUnwrapW106
  have mU := methodUnwrap106
  have heq := run_eql_iface_ptr_other (P := Tryd.prog) (w.alloc (.cells #[.string s, .iface 108 (.pointer (some a))] 106)) Tryd.underlying62 Tryd.underlying108 hi hcmp hj (by rw [hjs]; decide) hne (heap_of_below ((Below.refl _ _).alloc (Nat.le_refl _) _) (lt_of_heap ha) ha) (heap_of_below ((Below.refl _ _).alloc (Nat.le_refl _) _) (lt_of_heap hb) hb)
  have hty := run_eql_iface_types (P := Tryd.prog) 106 108 (.agg #[.string s, .iface 108 (.pointer (some a))]) (.pointer (some b)) Tryd.underlying62 (by decide)
  go_enter Tryd.func25, Tryd.ntmps25
  go_wp2
  refine wp_loop_rounds 2 ?_
  rw [rounds_succ]
  go_wp2_with (first | (go_at_call 80; refine (unwrap106 _ _ _).mono ?_; rintro e w' ⟨rfl, rfl⟩) | go_in)
  rw [rounds_succ]
  go_wp2_with (first | (go_at_call 80; refine (unwrap106 _ _ _).mono ?_; rintro e w' ⟨rfl, rfl⟩) | go_in)
  go_ret
  exact ⟨rfl, (Below.refl _ _).alloc (Nat.le_refl _) _⟩
theorem errG_mem (c : Int) : errG c ∈ ([0, 1] : List Nat) := by
  unfold errG
  repeat' split
  all_goals decide
theorem errT_mem (c : Int) : errT c = 80 ∨ errT c = 106 := by
  unfold errT
  repeat' split
  all_goals decide
theorem Glob.blk {GA : Nat → Addr} {w : World} (g : Glob GA w) (i : Nat) (hi : i ∈ ([0, 1] : List Nat)) : ∃ cs t, w.heap[(GA i).block]? = some (.cells cs t (0, 0)) := by
  simp only [List.mem_cons, List.not_mem_nil, or_false] at hi
  rcases hi with rfl | rfl
  · exact g.b0
  · exact g.b1
theorem errors_IsN.calls (GA : Nat → Addr) (u : Unit) (j : Nat) (r : Bool) (w : World) (hG : Glob GA w) (h : errors_IsN.f u j = some r) :
    Calls Tryd.prog 25 #[.nilIface, .iface 108 (.pointer (some (GA j)))] w fun e w' => e = .returned (.bool r) ∧ Drawn0 w w' := by
  obtain rfl := Option.some.inj h
  exact (isNil (GA j) w).mono fun e w' ⟨he, hw⟩ => ⟨he, by rw [hw]; exact Drawn0.refl _⟩
theorem errors_IsS.callsJ (GA : Nat → Addr) (c : Int) (j : Nat) (w : World) (hG : Glob GA w) (hj : j ∈ ([0, 1] : List Nat)) :
    Calls Tryd.prog 25 #[.iface (errT c) (errA GA c), .iface 108 (.pointer (some (GA j)))] w fun e w' => e = .returned (.bool (decide (errG c = j))) ∧ Below w.heap.size w w' := by
  rcases errT_mem c with hT | hT
  · rw [hT]; unfold errA
    by_cases e : errG c = j
    · rw [decide_eq_true e, e]; exact (isSame80 (errS c) (GA j) w).mono fun e w' ⟨he, hw⟩ => ⟨he, hw⟩
    · rw [decide_eq_false e]
      obtain ⟨ca, ta, ha⟩ := hG.blk (errG c) (errG_mem c)
      obtain ⟨cb, tb, hb⟩ := hG.blk j hj
      exact (isOther80 (errS c) (GA (errG c)) (GA j) ca cb ta tb w (hG.ne _ _ (errG_mem c) hj e) ha hb).mono fun e w' ⟨he, hw⟩ => ⟨he, hw⟩
  · rw [hT]; unfold errA
    by_cases e : errG c = j
    · rw [decide_eq_true e, e]; exact (isSame106 (errS c) (GA j) w).mono fun e w' ⟨he, hw⟩ => ⟨he, hw⟩
    · rw [decide_eq_false e]
      obtain ⟨ca, ta, ha⟩ := hG.blk (errG c) (errG_mem c)
      obtain ⟨cb, tb, hb⟩ := hG.blk j hj
      exact (isOther106 (errS c) (GA (errG c)) (GA j) ca cb ta tb w (hG.ne _ _ (errG_mem c) hj e) ha hb).mono fun e w' ⟨he, hw⟩ => ⟨he, hw⟩
theorem errors_IsS.calls (GA : Nat → Addr) (c : Int) (j : Nat) (r : Bool) (w : World) (hG : Glob GA w) (h : errors_IsS.f c j = some r) (hj : j ∈ ([0, 1] : List Nat) := by decide) :
    Calls Tryd.prog 25 #[.iface (errT c) (errA GA c), .iface 108 (.pointer (some (GA j)))] w fun e w' => e = .returned (.bool r) ∧ Below w.heap.size w w' := by
  obtain rfl := Option.some.inj h
  exact errors_IsS.callsJ GA c j w hG hj

theorem info5 : (Tryd.prog.info? 5).map (fun i => (i.zero, i.size, i.bytes)) = some (some (.int .u8 0), 1, 1) := by kernel_rfl
theorem info35 : (Tryd.prog.info? 35).map (fun i => (i.zero, i.size, i.bytes)) = some (some (.slice none 0 0), 1, 24) := by kernel_rfl
-- the values' own types
def rd_L1 (xs : List (List Int)) (i : Int) : (List Int) := xs.getD i.toNat ([] : List Int)
theorem at_L1 {w : World} {A : Option Addr} {n : Nat} {xs : List (List Int)} (h : Kd.C (Kd.slice 5 (Kd.int .u8)) w A n xs) (i : Int) (h0 : 0 ≤ i) (h1 : i < n) : ∃ ad A0 c0, A = some ad ∧ w.cell? (ad.add i.toNat) = some (.slice A0 (rd_L1 xs i).length c0) ∧ (rd_L1 xs i).length ≤ c0 ∧ (Kd.int .u8).C w A0 (rd_L1 xs i).length (rd_L1 xs i) := by
  obtain ⟨ad, c, e, _, hK, hc0⟩ := Kd.C_get h ([] : List Int) i h0 h1
  have hc : ∀ j u, c[j]? = some u → w.cell? (ad.add (i.toNat * 1 + j)) = some u := hc0
  obtain ⟨A0, c0, rfl, l0, g0⟩ := hK
  exact ⟨ad, A0, c0, e, by have hq := hc 0 _ rfl; rwa [Nat.mul_one, Nat.add_zero] at hq, l0, g0⟩

end Go.Proofs.YtokmildjniploaaDoor.PLog
