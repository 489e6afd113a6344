-- Written by xprint.py (a program of this project) out of the translation. Not trusted: Lean checks it. -- squeezed
import Derived.Test.YtigldipjkejalaaDoorProg
import Derived.Below
import Derived.Deep.Draws
import Derived.Deep.AppendLies
import Derived.Maps.AppendAt
import Derived.OwnWalk
import Derived.Laws.BytesArg
import Derived.Laws.MakeOwn
import Derived.Laws.OwnMore
import Derived.Deep.OwnRows
import Derived.Tactics
import Derived.Lib.ConvBytes
import Derived.Laws.Slices
import Derived.WalkKit
import Derived.KernelRfl
import Derived.RowKit3
import Derived.Deep.LoopGhost
import Derived.Deep.QuietTactic
import Derived.BigQuiet
import Derived.WideLaws
import Derived.Deep.DeepCutAuto
import Derived.Deep.CutBlock
import Derived.Deep.RegionHeld3
import Derived.Laws.Rows
import Derived.Lib.AppendStr
import Derived.ArgAppend
import Derived.Laws.IdiomCopy
import Derived.OrdersHeld
import Derived.Laws.BitsLemmas
import Derived.RowKit
import Derived.Test.YtigldipjkejalaaDoorWWords
import Derived.Test.YtigldipjkejalaaDoorWLast
import Derived.Test.YtigldipjkejalaaDoorWTab
import Derived.Test.YtigldipjkejalaaDoorWFour
import Derived.Test.YtigldipjkejalaaDoorWQPut
import Derived.Test.YtigldipjkejalaaDoorWApart
import Derived.Test.YtigldipjkejalaaDoorWArr
import Derived.Test.YtigldipjkejalaaDoorWZeros
import Derived.Test.YtigldipjkejalaaDoorWFoot
import Derived.Test.YtigldipjkejalaaDoorWKept
import Derived.Test.YtigldipjkejalaaDoorWShare
import Derived.Test.YtigldipjkejalaaDoorWN
import Derived.Test.YtigldipjkejalaaDoorWFootNe
import Derived.Test.YtigldipjkejalaaDoorWAt
import Derived.Test.YtigldipjkejalaaDoorWEqStruct
import Derived.Test.YtigldipjkejalaaDoorWRepsOne
import Derived.Test.YtigldipjkejalaaDoorWInv
import Derived.Test.YtigldipjkejalaaDoorWInvWords
import Derived.Test.YtigldipjkejalaaDoorWGuard
import Derived.Test.YtigldipjkejalaaDoorWNEv
import Derived.Test.YtigldipjkejalaaDoorWMore
import Derived.Test.YtigldipjkejalaaDoorXB
import Derived.LaidEql
import Derived.Stop.Asserts
import Derived.RowKitTokens
import Derived.Test.YtigldipjkejalaaDoorMul64
namespace Go.Proofs.YtigldipjkejalaaDoor.PRleAll
open Go.RowKit Go.Proofs.YtigldipjkejalaaDoorW.PrintWords Go.Proofs.YtigldipjkejalaaDoorW.PrintLast Go.Proofs.YtigldipjkejalaaDoorW.PrintMore
attribute [local go_sem] max2_int min2_int max_two min_two max_three min_three max_four min_four   -- for this text's walks alone
set_option linter.unusedVariables false
set_option linter.unusedSimpArgs false
open Go.Extern.Stop Go.Stop Go.Extern
def errT (c : Int) : TypeId := if c = 0 then 111 else if c = 1 then 111 else if c = 2 then 89 else if c = 3 then 89 else if c = 4 then 89 else if c = 5 then 89 else if c = 6 then 89 else if c = 7 then 89 else 111
def errS (c : Int) : ByteArray := if c = 0 then (⟨#[98, 121, 116, 101]⟩ : ByteArray) else if c = 1 then (⟨#[98, 121, 116, 101]⟩ : ByteArray) else if c = 2 then (⟨#[110, 111, 32, 110, 117, 109, 98, 101, 114]⟩ : ByteArray) else if c = 3 then (⟨#[110, 111, 32, 98, 121, 116, 101]⟩ : ByteArray) else if c = 4 then (⟨#[111, 102, 32, 98, 121, 116, 101, 115]⟩ : ByteArray) else if c = 5 then (⟨#[118, 97, 108, 117, 101, 115]⟩ : ByteArray) else if c = 6 then (⟨#[97, 32, 114, 117, 110, 32, 111, 102]⟩ : ByteArray) else if c = 7 then (⟨#[110, 111, 116, 32, 106, 117, 115, 116, 32, 116, 104, 101, 115, 101]⟩ : ByteArray) else (⟨#[]⟩ : ByteArray)
def errG (c : Int) : Nat := if c = 0 then 3 else if c = 1 then 2 else if c = 2 then 1 else if c = 3 then 1 else if c = 4 then 1 else if c = 5 then 1 else if c = 6 then 1 else if c = 7 then 1 else 3
def errA (GA : Nat → Addr) (c : Int) : Value := .agg #[.string (errS c), .iface 117 (.pointer (some (GA (errG c))))]
def errW (GA : Nat → Addr) : Option Int → Value
 | none => .nilIface
 | some c => .iface (errT c) (errA GA c)
theorem errW_none (GA : Nat → Addr) : errW GA none = .nilIface := rfl
theorem errW_some (GA : Nat → Addr) (c : Int) : errW GA (some c) = .iface (errT c) (errA GA c) := rfl
/-- What is known of the package-level sentinels. -/
structure Glob (GA : Nat → Addr) (w : World) : Prop where
 c1 : w.cell? ⟨1, 0, none⟩ = some (.iface 117 (.pointer (some (GA 1))))
 c2 : w.cell? ⟨2, 0, none⟩ = some (.iface 117 (.pointer (some (GA 2))))
 c3 : w.cell? ⟨3, 0, none⟩ = some (.iface 117 (.pointer (some (GA 3))))
 b1 : ∃ cs t, w.heap[(GA 1).block]? = some (.cells cs t (0, 0))
 b2 : ∃ cs t, w.heap[(GA 2).block]? = some (.cells cs t (0, 0))
 b3 : ∃ cs t, w.heap[(GA 3).block]? = some (.cells cs t (0, 0))
 ne : ∀ i j : Nat, i ∈ ([1, 2, 3] : List Nat) → j ∈ ([1, 2, 3] : List Nat) → i ≠ j → GA i ≠ GA j
theorem heap_of_below {B : Nat} {w w1 : World} (h : Below B w w1) {i : Nat} {ob : Obj} (hi : i < B) (hh : w.heap[i]? = some ob) : w1.heap[i]? = some ob := by rw [h.block i hi]; exact hh
theorem lt_of_heap {w : World} {i : Nat} {ob : Obj} (hh : w.heap[i]? = some ob) : i < w.heap.size := (Array.getElem?_eq_some_iff.1 hh).1
theorem Glob.below {GA : Nat → Addr} {w w1 : World} (g : Glob GA w) (h : Below w.heap.size w w1) : Glob GA w1 where
 c1 := (h.cell (World.block_lt_of_cell? w _ g.c1)).trans g.c1
 c2 := (h.cell (World.block_lt_of_cell? w _ g.c2)).trans g.c2
 c3 := (h.cell (World.block_lt_of_cell? w _ g.c3)).trans g.c3
 b1 := by obtain ⟨cs, t, hh⟩ := g.b1; exact ⟨cs, t, heap_of_below h (lt_of_heap hh) hh⟩
 b2 := by obtain ⟨cs, t, hh⟩ := g.b2; exact ⟨cs, t, heap_of_below h (lt_of_heap hh) hh⟩
 b3 := by obtain ⟨cs, t, hh⟩ := g.b3; exact ⟨cs, t, heap_of_below h (lt_of_heap hh) hh⟩
 ne := g.ne
theorem Glob.drawn {GA : Nat → Addr} {w w1 : World} (g : Glob GA w) (h : Drawn0 w w1) : Glob GA w1 := g.below h.below
theorem isTypeOf (v : Value) (w : World) : (Extern.ReflectliteType.typeOf #[.iface 117 v]).run Tryd.prog w = .ok (.iface 97 (.agg #[.pointer (some ⟨4, 117, none⟩)])) w := by kernel_rfl
theorem isComparable (w : World) : ((Extern.ReflectliteType.method fun t => do Extern.Rtype.noPackHeld "Comparable" t; pure (.bool (← typeInfo t).comparable)) #[.agg #[.pointer (some ⟨4, 117, none⟩)]]).run Tryd.prog w = .ok (.bool true) w := by kernel_rfl
theorem callTypeOf (v : Value) (w : World) : (callFunc 61 #[.iface 117 v]).run Tryd.prog w = .ok (.value (.iface 97 (.agg #[.pointer (some ⟨4, 117, none⟩)]))) w := by
 rw [@run_callFunc_extern Tryd.prog 61 _ Extern.ReflectliteType.typeOf Tryd.func61 (by kernel_rfl) (by kernel_rfl) (by kernel_rfl) (by kernel_rfl), isTypeOf]
 rfl
theorem callComparable (w : World) : (callFunc 100 #[.agg #[.pointer (some ⟨4, 117, none⟩)]]).run Tryd.prog w = .ok (.value (.bool true)) w := by
 rw [@run_callFunc_extern Tryd.prog 100 _ (Extern.ReflectliteType.method fun t => do Extern.Rtype.noPackHeld "Comparable" t; pure (.bool (← typeInfo t).comparable)) Tryd.func100 (by kernel_rfl) (by kernel_rfl) (by kernel_rfl) (by kernel_rfl), isComparable]
 rfl
theorem isMethodComparable (v : Value) (w : World) : (Go.method 253 97 v "Comparable").run Tryd.prog w = .ok (100, v) w := by kernel_rfl
theorem isComp : (Tryd.prog.info? 117).map (·.comparable) = some true := by kernel_rfl
theorem isSize : (Tryd.prog.info? 142).map (·.size) = some 1 := by kernel_rfl
theorem noIsE (v : Value) (xT : TypeId) (w : World) : (Instr.typeAssert (.iface 117 v) xT 99 true).run Tryd.prog w = .ok (.tuple #[.nilIface, .bool false]) w := run_typeAssert_lacksB Tryd.underlying99 (by kernel_rfl) (by kernel_rfl) v xT w
theorem noUnwrapE (v : Value) (xT : TypeId) (w : World) : (Instr.typeAssert (.iface 117 v) xT 102 true).run Tryd.prog w = .ok (.tuple #[.nilIface, .bool false]) w := run_typeAssert_lacksB Tryd.underlying102 (by kernel_rfl) (by kernel_rfl) v xT w
theorem noUnwrapsE (v : Value) (xT : TypeId) (w : World) : (Instr.typeAssert (.iface 117 v) xT 104 true).run Tryd.prog w = .ok (.tuple #[.nilIface, .bool false]) w := run_typeAssert_lacksB Tryd.underlying104 (by kernel_rfl) (by kernel_rfl) v xT w
theorem noIsW89 (v : Value) (xT : TypeId) (w : World) : (Instr.typeAssert (.iface 89 v) xT 99 true).run Tryd.prog w = .ok (.tuple #[.nilIface, .bool false]) w := run_typeAssert_lacksB Tryd.underlying99 (by kernel_rfl) (by kernel_rfl) v xT w
theorem hasUnwrapW89 (v : Value) (xT : TypeId) (w : World) : (Instr.typeAssert (.iface 89 v) xT 102 true).run Tryd.prog w = .ok (.tuple #[.iface 89 v, .bool true]) w := run_typeAssert_hasB Tryd.underlying102 (by kernel_rfl) v xT w
theorem methodUnwrap89 (v : Value) (w : World) : (Go.method 253 89 v "Unwrap").run Tryd.prog w = .ok (96, v) w := by kernel_rfl
theorem noIsW111 (v : Value) (xT : TypeId) (w : World) : (Instr.typeAssert (.iface 111 v) xT 99 true).run Tryd.prog w = .ok (.tuple #[.nilIface, .bool false]) w := run_typeAssert_lacksB Tryd.underlying99 (by kernel_rfl) (by kernel_rfl) v xT w
theorem hasUnwrapW111 (v : Value) (xT : TypeId) (w : World) : (Instr.typeAssert (.iface 111 v) xT 102 true).run Tryd.prog w = .ok (.tuple #[.iface 111 v, .bool true]) w := run_typeAssert_hasB Tryd.underlying102 (by kernel_rfl) v xT w
theorem methodUnwrap111 (v : Value) (w : World) : (Go.method 253 111 v "Unwrap").run Tryd.prog w = .ok (110, v) w := by kernel_rfl
def errors_IsN.f (_ : Unit) (_ : Nat) : Option Bool := some false
def errors_IsS.f (c : Int) (j : Nat) : Option Bool := some (decide (errG c = j))
theorem isNil (b : Addr) (w : World) :
  Calls Tryd.prog 41 #[.nilIface, .iface 117 (.pointer (some b))] w fun e w' => e = .returned (.bool false) ∧ w' = w := by
 have hn := run_eql_iface_nil_left (P := Tryd.prog) w 117 (.pointer (some b)) Tryd.underlying60
 go_enter Tryd.func41, Tryd.ntmps41
 go_wp2
 go_ret
 exact ⟨rfl, rfl⟩
theorem unwrap89 (s : ByteArray) (a : Addr) (w : World) :
  Calls Tryd.prog 96 #[.agg #[.string s, .iface 117 (.pointer (some a))]] w fun e w' => e = .returned (.iface 117 (.pointer (some a))) ∧ w' = w.alloc (.cells #[.string s, .iface 117 (.pointer (some a))] 89) := by
 go_enter Tryd.func96, Tryd.ntmps96
 go_wp2
 go_ret
 exact ⟨rfl, rfl⟩
set_option maxHeartbeats 2000000 in
set_option maxRecDepth 100000 in
theorem isSame89 (s : ByteArray) (b : Addr) (w : World) :
  Calls Tryd.prog 41 #[.iface 89 (.agg #[.string s, .iface 117 (.pointer (some b))]), .iface 117 (.pointer (some b))] w fun e w' => e = .returned (.bool true) ∧ Below w.heap.size w w' := by
 obtain ⟨i, hi, hcmp⟩ := Option.map_eq_some_iff.1 isComp
 obtain ⟨j, hj, hjs⟩ := Option.map_eq_some_iff.1 isSize
 have tT := callTypeOf
 have cT := callComparable
 have mR := isMethodComparable
 have nE := noIsE
 have uE := noUnwrapE
 have vE := noUnwrapsE
 have nW := noIsW89
 have uW := hasUnwrapW89
 have mU := methodUnwrap89
 have heq := fun w => run_eql_iface_ptr_same (P := Tryd.prog) w b Tryd.underlying60 Tryd.underlying117 hi hcmp hj
 have hty := run_eql_iface_types (P := Tryd.prog) 89 117 (.agg #[.string s, .iface 117 (.pointer (some b))]) (.pointer (some b)) Tryd.underlying60 (by decide)
 go_enter Tryd.func41, Tryd.ntmps41
 go_wp2
 refine wp_loop_rounds 2 ?_
 rw [rounds_succ]
 go_wp2_with (first | (go_at_call 96; refine (unwrap89 _ _ _).mono ?_; rintro e w' ⟨rfl, rfl⟩) | go_in)
 rw [rounds_succ]
 go_wp2_with (first | (go_at_call 96; refine (unwrap89 _ _ _).mono ?_; rintro e w' ⟨rfl, rfl⟩) | go_in)
 go_ret
 exact ⟨rfl, (Below.refl _ _).alloc (Nat.le_refl _) _⟩
set_option maxHeartbeats 2000000 in
set_option maxRecDepth 100000 in
theorem isOther89 (s : ByteArray) (a b : Addr) (ca cb : Array Value) (ta tb : TypeId) (w : World) (hne : a ≠ b) (ha : w.heap[a.block]? = some (.cells ca ta (0, 0))) (hb : w.heap[b.block]? = some (.cells cb tb (0, 0))) :
  Calls Tryd.prog 41 #[.iface 89 (.agg #[.string s, .iface 117 (.pointer (some a))]), .iface 117 (.pointer (some b))] w fun e w' => e = .returned (.bool false) ∧ Below w.heap.size w w' := by
 obtain ⟨i, hi, hcmp⟩ := Option.map_eq_some_iff.1 isComp
 obtain ⟨j, hj, hjs⟩ := Option.map_eq_some_iff.1 isSize
 have tT := callTypeOf
 have cT := callComparable
 have mR := isMethodComparable
 have nE := noIsE
 have uE := noUnwrapE
 have vE := noUnwrapsE
 have nW := noIsW89
 have uW := hasUnwrapW89
 have mU := methodUnwrap89
 have heq := run_eql_iface_ptr_other (P := Tryd.prog) (w.alloc (.cells #[.string s, .iface 117 (.pointer (some a))] 89)) Tryd.underlying60 Tryd.underlying117 hi hcmp hj (by rw [hjs]; decide) hne (heap_of_below ((Below.refl _ _).alloc (Nat.le_refl _) _) (lt_of_heap ha) ha) (heap_of_below ((Below.refl _ _).alloc (Nat.le_refl _) _) (lt_of_heap hb) hb)
 have hty := run_eql_iface_types (P := Tryd.prog) 89 117 (.agg #[.string s, .iface 117 (.pointer (some a))]) (.pointer (some b)) Tryd.underlying60 (by decide)
 go_enter Tryd.func41, Tryd.ntmps41
 go_wp2
 refine wp_loop_rounds 2 ?_
 rw [rounds_succ]
 go_wp2_with (first | (go_at_call 96; refine (unwrap89 _ _ _).mono ?_; rintro e w' ⟨rfl, rfl⟩) | go_in)
 rw [rounds_succ]
 go_wp2_with (first | (go_at_call 96; refine (unwrap89 _ _ _).mono ?_; rintro e w' ⟨rfl, rfl⟩) | go_in)
 go_ret
 exact ⟨rfl, (Below.refl _ _).alloc (Nat.le_refl _) _⟩
theorem unwrap111 (s : ByteArray) (a : Addr) (w : World) :
  Calls Tryd.prog 110 #[.agg #[.string s, .iface 117 (.pointer (some a))]] w fun e w' => e = .returned (.iface 117 (.pointer (some a))) ∧ w' = w.alloc (.cells #[.string s, .iface 117 (.pointer (some a))] 111) := by
 go_enter Tryd.func110, Tryd.ntmps110
 go_wp2
 go_ret
 exact ⟨rfl, rfl⟩
set_option maxHeartbeats 2000000 in
set_option maxRecDepth 100000 in
theorem isSame111 (s : ByteArray) (b : Addr) (w : World) :
  Calls Tryd.prog 41 #[.iface 111 (.agg #[.string s, .iface 117 (.pointer (some b))]), .iface 117 (.pointer (some b))] w fun e w' => e = .returned (.bool true) ∧ Below w.heap.size w w' := by
 obtain ⟨i, hi, hcmp⟩ := Option.map_eq_some_iff.1 isComp
 obtain ⟨j, hj, hjs⟩ := Option.map_eq_some_iff.1 isSize
 have tT := callTypeOf
 have cT := callComparable
 have mR := isMethodComparable
 have nE := noIsE
 have uE := noUnwrapE
 have vE := noUnwrapsE
 have nW := noIsW111
 have uW := hasUnwrapW111
 have mU := methodUnwrap111
 have heq := fun w => run_eql_iface_ptr_same (P := Tryd.prog) w b Tryd.underlying60 Tryd.underlying117 hi hcmp hj
 have hty := run_eql_iface_types (P := Tryd.prog) 111 117 (.agg #[.string s, .iface 117 (.pointer (some b))]) (.pointer (some b)) Tryd.underlying60 (by decide)
 go_enter Tryd.func41, Tryd.ntmps41
 go_wp2
 refine wp_loop_rounds 2 ?_
 rw [rounds_succ]
 go_wp2_with (first | (go_at_call 110; refine (unwrap111 _ _ _).mono ?_; rintro e w' ⟨rfl, rfl⟩) | go_in)
 rw [rounds_succ]
 go_wp2_with (first | (go_at_call 110; refine (unwrap111 _ _ _).mono ?_; rintro e w' ⟨rfl, rfl⟩) | go_in)
 go_ret
 exact ⟨rfl, (Below.refl _ _).alloc (Nat.le_refl _) _⟩
set_option maxHeartbeats 2000000 in
set_option maxRecDepth 100000 in
theorem isOther111 (s : ByteArray) (a b : Addr) (ca cb : Array Value) (ta tb : TypeId) (w : World) (hne : a ≠ b) (ha : w.heap[a.block]? = some (.cells ca ta (0, 0))) (hb : w.heap[b.block]? = some (.cells cb tb (0, 0))) :
  Calls Tryd.prog 41 #[.iface 111 (.agg #[.string s, .iface 117 (.pointer (some a))]), .iface 117 (.pointer (some b))] w fun e w' => e = .returned (.bool false) ∧ Below w.heap.size w w' := by
 obtain ⟨i, hi, hcmp⟩ := Option.map_eq_some_iff.1 isComp
 obtain ⟨j, hj, hjs⟩ := Option.map_eq_some_iff.1 isSize
 have tT := callTypeOf
 have cT := callComparable
 have mR := isMethodComparable
 have nE := noIsE
 have uE := noUnwrapE
 have vE := noUnwrapsE
 have nW := noIsW111
 have uW := hasUnwrapW111
 have mU := methodUnwrap111
 have heq := run_eql_iface_ptr_other (P := Tryd.prog) (w.alloc (.cells #[.string s, .iface 117 (.pointer (some a))] 111)) Tryd.underlying60 Tryd.underlying117 hi hcmp hj (by rw [hjs]; decide) hne (heap_of_below ((Below.refl _ _).alloc (Nat.le_refl _) _) (lt_of_heap ha) ha) (heap_of_below ((Below.refl _ _).alloc (Nat.le_refl _) _) (lt_of_heap hb) hb)
 have hty := run_eql_iface_types (P := Tryd.prog) 111 117 (.agg #[.string s, .iface 117 (.pointer (some a))]) (.pointer (some b)) Tryd.underlying60 (by decide)
 go_enter Tryd.func41, Tryd.ntmps41
 go_wp2
 refine wp_loop_rounds 2 ?_
 rw [rounds_succ]
 go_wp2_with (first | (go_at_call 110; refine (unwrap111 _ _ _).mono ?_; rintro e w' ⟨rfl, rfl⟩) | go_in)
 rw [rounds_succ]
 go_wp2_with (first | (go_at_call 110; refine (unwrap111 _ _ _).mono ?_; rintro e w' ⟨rfl, rfl⟩) | go_in)
 go_ret
 exact ⟨rfl, (Below.refl _ _).alloc (Nat.le_refl _) _⟩
theorem errG_mem (c : Int) : errG c ∈ ([1, 2, 3] : List Nat) := by
 unfold errG
 repeat' split
 all_goals decide
theorem errT_mem (c : Int) : errT c = 89 ∨ errT c = 111 := by
 unfold errT
 repeat' split
 all_goals decide
theorem Glob.blk {GA : Nat → Addr} {w : World} (g : Glob GA w) (i : Nat) (hi : i ∈ ([1, 2, 3] : List Nat)) : ∃ cs t, w.heap[(GA i).block]? = some (.cells cs t (0, 0)) := by
 simp only [List.mem_cons, List.not_mem_nil, or_false] at hi
 rcases hi with rfl | rfl | rfl
 ·
  exact g.b1
 ·
  exact g.b2
 ·
  exact g.b3
theorem errors_IsN.calls (GA : Nat → Addr) (u : Unit) (j : Nat) (r : Bool) (w : World) (hG : Glob GA w) (h : errors_IsN.f u j = some r) :
  Calls Tryd.prog 41 #[.nilIface, .iface 117 (.pointer (some (GA j)))] w fun e w' => e = .returned (.bool r) ∧ Drawn0 w w' := by
 obtain rfl := Option.some.inj h
 exact (isNil (GA j) w).mono fun e w' ⟨he, hw⟩ => ⟨he, by rw [hw]; exact Drawn0.refl _⟩
theorem errors_IsS.callsJ (GA : Nat → Addr) (c : Int) (j : Nat) (w : World) (hG : Glob GA w) (hj : j ∈ ([1, 2, 3] : List Nat)) :
  Calls Tryd.prog 41 #[.iface (errT c) (errA GA c), .iface 117 (.pointer (some (GA j)))] w fun e w' => e = .returned (.bool (decide (errG c = j))) ∧ Below w.heap.size w w' := by
 rcases errT_mem c with hT | hT
 ·
  rw [hT]; unfold errA
  by_cases e : errG c = j
  ·
   rw [decide_eq_true e, e]; exact (isSame89 (errS c) (GA j) w).mono fun e w' ⟨he, hw⟩ => ⟨he, hw⟩
  ·
   rw [decide_eq_false e]
   obtain ⟨ca, ta, ha⟩ := hG.blk (errG c) (errG_mem c)
   obtain ⟨cb, tb, hb⟩ := hG.blk j hj
   exact (isOther89 (errS c) (GA (errG c)) (GA j) ca cb ta tb w (hG.ne _ _ (errG_mem c) hj e) ha hb).mono fun e w' ⟨he, hw⟩ => ⟨he, hw⟩
 ·
  rw [hT]; unfold errA
  by_cases e : errG c = j
  ·
   rw [decide_eq_true e, e]; exact (isSame111 (errS c) (GA j) w).mono fun e w' ⟨he, hw⟩ => ⟨he, hw⟩
  ·
   rw [decide_eq_false e]
   obtain ⟨ca, ta, ha⟩ := hG.blk (errG c) (errG_mem c)
   obtain ⟨cb, tb, hb⟩ := hG.blk j hj
   exact (isOther111 (errS c) (GA (errG c)) (GA j) ca cb ta tb w (hG.ne _ _ (errG_mem c) hj e) ha hb).mono fun e w' ⟨he, hw⟩ => ⟨he, hw⟩
theorem errors_IsS.calls (GA : Nat → Addr) (c : Int) (j : Nat) (r : Bool) (w : World) (hG : Glob GA w) (h : errors_IsS.f c j = some r) (hj : j ∈ ([1, 2, 3] : List Nat) := by decide) :
  Calls Tryd.prog 41 #[.iface (errT c) (errA GA c), .iface 117 (.pointer (some (GA j)))] w fun e w' => e = .returned (.bool r) ∧ Below w.heap.size w w' := by
 obtain rfl := Option.some.inj h
 exact errors_IsS.callsJ GA c j w hG hj
theorem info2 : (Tryd.prog.info? 2).map (fun i => (i.zero, i.size, i.bytes)) = some (some (.int .i64 0), 1, 8) := by kernel_rfl
theorem info3 : (Tryd.prog.info? 3).map (fun i => (i.zero, i.size, i.bytes)) = some (some (.int .i64 0), 1, 8) := by kernel_rfl
theorem info5 : (Tryd.prog.info? 5).map (fun i => (i.zero, i.size, i.bytes)) = some (some (.int .u8 0), 1, 1) := by kernel_rfl
theorem info9 : (Tryd.prog.info? 9).map (fun i => (i.zero, i.size, i.bytes)) = some (some (.string ⟨#[]⟩), 1, 16) := by kernel_rfl
theorem info23 : (Tryd.prog.info? 23).map (fun i => (i.zero, i.size, i.bytes)) = some (some (.slice none 0 0), 1, 24) := by kernel_rfl
theorem info26 : (Tryd.prog.info? 26).map (fun i => (i.zero, i.size, i.bytes)) = some (some (.agg #[(.int .i64 0), (.int .i64 0), (.string ⟨#[]⟩)]), 3, 32) := by kernel_rfl
-- the values' own types
/-! #### struct type 26 -/
structure S26 where
 f0 : Int
 f1 : Int
 f2 : ByteArray
def z26 : S26 := ⟨(0 : Int), (0 : Int), (⟨#[]⟩ : ByteArray)⟩
def k26 : Kd S26 := Kd.iso (Kd.pair (Kd.int .i64) (Kd.pair (Kd.int .i64) Kd.string)) (fun x : S26 => (x.f0, x.f1, x.f2))
theorem k26_heap : Kd.Heap k26 := Kd.heap_iso _ (Kd.heap_pair (Kd.heap_int .i64) (Kd.heap_pair (Kd.heap_int .i64) Kd.heap_string))
theorem k26_open {w : World} {x : S26} {cs : List Value} (h : k26.K w x cs) : cs = [.int .i64 x.f0, .int .i64 x.f1, .string x.f2] := by
 obtain ⟨_, _, rfl, rfl, ⟨_, _, rfl, rfl, rfl⟩⟩ := h
 exact rfl
theorem k26_openM {w : World} {base : Nat} {ok : Nat → Prop} {x : S26} {cs : List Value} (h : k26.M w base ok x cs) : cs = [.int .i64 x.f0, .int .i64 x.f1, .string x.f2] := by
 obtain ⟨_, _, rfl, rfl, ⟨_, _, rfl, rfl, rfl⟩⟩ := h
 exact rfl
theorem k26_mk (w : World) (x : S26)  : k26.K w x [.int .i64 x.f0, .int .i64 x.f1, .string x.f2] := ⟨[.int .i64 x.f0], [.int .i64 x.f1, .string x.f2], rfl, rfl, ⟨[.int .i64 x.f1], [.string x.f2], rfl, rfl, rfl⟩⟩
theorem k26_mkM (w : World) (base : Nat) (ok : Nat → Prop) (x : S26)  : k26.M w base ok x [.int .i64 x.f0, .int .i64 x.f1, .string x.f2] := ⟨[.int .i64 x.f0], [.int .i64 x.f1, .string x.f2], rfl, rfl, ⟨[.int .i64 x.f1], [.string x.f2], rfl, rfl, rfl⟩⟩
theorem k26_mkF (W : World) (ok : Nat → Prop) (x : S26) : Kd.FK k26 W ok x [.int .i64 x.f0, .int .i64 x.f1, .string x.f2] := fun W2 _ => k26_mk W2 x
def rd_T26 (xs : List S26) (i : Int) : S26 := xs.getD i.toNat z26
theorem at_T26 {w : World} {A : Option Addr} {n : Nat} {xs : List S26} (h : Kd.C k26 w A n xs) (i : Int) (h0 : 0 ≤ i) (h1 : i < n) : ∃ ad , A = some ad ∧ w.cell? (ad.add (i.toNat * 3)) = some (.int .i64 (rd_T26 xs i).f0) ∧ w.cell? ⟨(ad.add (i.toNat * 3)).block, (ad.add (i.toNat * 3)).off + 1, none⟩ = some (.int .i64 (rd_T26 xs i).f1) ∧ w.cell? ⟨(ad.add (i.toNat * 3)).block, (ad.add (i.toNat * 3)).off + 2, none⟩ = some (.string (rd_T26 xs i).f2) := by
 obtain ⟨ad, c, e, _, hK, hc0⟩ := Kd.C_get h z26 i h0 h1
 have hc : ∀ j u, c[j]? = some u → w.cell? (ad.add (i.toNat * 3 + j)) = some u := hc0
 obtain rfl := k26_open hK
 exact ⟨ad, e, hc 0 _ rfl, by rw [← add_field _ _ 1 (by omega)]; exact hc 1 _ rfl, by rw [← add_field _ _ 2 (by omega)]; exact hc 2 _ rfl⟩
def rd_L4 (xs : List (List S26)) (i : Int) : (List S26) := xs.getD i.toNat ([] : List S26)
theorem at_L4 {w : World} {A : Option Addr} {n : Nat} {xs : List (List S26)} (h : Kd.C (Kd.slice 26 k26) w A n xs) (i : Int) (h0 : 0 ≤ i) (h1 : i < n) : ∃ ad A0 c0, A = some ad ∧ w.cell? (ad.add i.toNat) = some (.slice A0 (rd_L4 xs i).length c0) ∧ (rd_L4 xs i).length ≤ c0 ∧ k26.C w A0 (rd_L4 xs i).length (rd_L4 xs i) := by
 obtain ⟨ad, c, e, _, hK, hc0⟩ := Kd.C_get h ([] : List S26) i h0 h1
 have hc : ∀ j u, c[j]? = some u → w.cell? (ad.add (i.toNat * 1 + j)) = some u := hc0
 obtain ⟨A0, c0, rfl, l0, g0⟩ := hK
 exact ⟨ad, A0, c0, e, by have hq := hc 0 _ rfl; rwa [Nat.mul_one, Nat.add_zero] at hq, l0, g0⟩
theorem ak_ {p : Prop} (h : p) : Aside0 p := ⟨h⟩
theorem bl_a {w W : World} (h : Below w.heap.size w W) (o : Obj) : Below w.heap.size w (W.alloc o) := below_alloc h o
theorem bl_n {B : Nat} {w W : World} (h : Below B w W) (n : Nat) : Below B w (W.drewN n) := pw_below_drewN h n
theorem bl_d {B : Nat} {w W : World} (h : Below B w W) : Below B w W.drew := below_drew1 h
theorem bk_n {W : World} {g : Nat} {o : Obj} (hh : W.heap[g]? = some o) (n : Nat) : (W.drewN n).heap[g]? = some o := blk_drewN hh n
theorem bk_d {W : World} {g : Nat} {o : Obj} (hh : W.heap[g]? = some o) : W.drew.heap[g]? = some o := blk_drew hh
theorem bk_a {W : World} {g : Nat} {o : Obj} (hh : W.heap[g]? = some o) (p : Obj) : (W.alloc p).heap[g]? = some o := blk_alloc hh p

end Go.Proofs.YtigldipjkejalaaDoor.PRleAll