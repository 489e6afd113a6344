-- Written by xprint.py (a program of this project) out of the translation. Not trusted: Lean checks it. -- squeezed
import Derived.Test.YtigldipjkejalaaDoorPRleAllx0
import Derived.Test.YtigldipjkejalaaDoorPRleAllx2
import Derived.Test.YtigldipjkejalaaDoorPRleAllx4
namespace Go.Proofs.YtigldipjkejalaaDoor.PRleAll
open Go.RowKit Go.Proofs.YtigldipjkejalaaDoorW.PrintWords Go.Proofs.YtigldipjkejalaaDoorW.PrintLast Go.Proofs.YtigldipjkejalaaDoorW.PrintMore
attribute [local go_sem] max2_int min2_int max_two min_two max_three min_three max_four min_four   -- for this text's walks alone
set_option linter.unusedVariables false
set_option linter.unusedSimpArgs false
def rabbetref1_takeOne.f (k : Nat) (a0 : Int) (l1 : List Int) : Option (Int × Int × ByteArray × Int × Bool) := if (l1.length : Int) = 0 then (some (0, 0, (⟨#[]⟩ : ByteArray), 0, false)) else (if a0 = 3 then (if 0 < (l1.length : Int) then ((rabbetref1_May.f a0 (wrap64 (rd l1 0)) (⟨#[]⟩ : ByteArray)).bind fun t167 => (if t167 = true then ((rabbetref1_isType.f a0).bind fun t168 => (some (a0, wrap64 (rd l1 0), (⟨#[]⟩ : ByteArray), 1, t168))) else (some (a0, wrap64 (rd l1 0), (⟨#[]⟩ : ByteArray), 1, false)))) else (none)) else (if a0 = 4 then (if 0 < (l1.length : Int) then (if (wrap64 (1 + (wrap64 (rd l1 0)))) > (l1.length : Int) then (some (0, 0, (⟨#[]⟩ : ByteArray), 0, false)) else (if 1 ≤ (wrap64 (1 + (wrap64 (rd l1 0)))) then (if (wrap64 (1 + (wrap64 (rd l1 0)))) ≤ (l1.length : Int) then ((rabbetref1_May.f a0 0 (strOfNums ((l1.take ((wrap64 (1 + (wrap64 (rd l1 0)))) : Int).toNat).drop 1))).bind fun t171 => (if t171 = true then ((rabbetref1_isType.f a0).bind fun t172 => (some (a0, 0, strOfNums ((l1.take ((wrap64 (1 + (wrap64 (rd l1 0)))) : Int).toNat).drop 1), wrap64 (1 + (wrap64 (rd l1 0))), t172))) else (some (a0, 0, strOfNums ((l1.take ((wrap64 (1 + (wrap64 (rd l1 0)))) : Int).toNat).drop 1), wrap64 (1 + (wrap64 (rd l1 0))), false)))) else (none)) else (none))) else (none)) else ((rabbetref1_TakeNum.f k l1).bind fun bt173 => (if bt173.2.2 = true then ((rabbetref1_Zag.f bt173.1).bind fun t176 => ((rabbetref1_May.f a0 t176 (⟨#[]⟩ : ByteArray)).bind fun t177 => (if t177 = true then ((rabbetref1_isType.f a0).bind fun t178 => (some (a0, t176, (⟨#[]⟩ : ByteArray), bt173.2.1, t178))) else (some (a0, t176, (⟨#[]⟩ : ByteArray), bt173.2.1, false))))) else (some (0, 0, (⟨#[]⟩ : ByteArray), 0, false))))))
theorem rabbetref1_takeOne.mono : ∀ a0 a1 k, LeO (rabbetref1_takeOne.f k a0 a1) (rabbetref1_takeOne.f (k + 1) a0 a1) := by
 intro a0 a1 k
 unfold rabbetref1_takeOne.f
 repeat' first
   | (with_reducible exact rabbetref1_TakeNum.mono _ _)
   | (with_reducible exact LeO.refl _)
   | (with_reducible exact LeO.none _)
   | (with_reducible refine LeO.ite ?_ ?_)
   | (with_reducible refine LeO.bind ?_ (fun _ => ?_))
   | exact rabbetref1_TakeNum.mono _ _
   | exact LeO.none _
   | refine LeO.ite ?_ ?_
   | refine LeO.bind ?_ (fun _ => ?_)
def rabbetref1_takeOne.T16 : Bool × List (List Nat × List Nat) := (true, [([], []), ([], []), ([], []), ([2], [2]), ([3, 3], [3]), ([4], [4]), ([5, 4, 4], [4, 5]), ([4, 6], [4, 6]), ([0, 6, 0], [0]), ([1, 8, 0, 1, 8], [1]), ([7, 9, 0, 1, 2, 3, 4, 5, 6, 7, 8, 9], [7])])
def rabbetref1_takeOne.B16 : List Nat := [0, 0, 0, 4, 12, 28, 60, 124, 125, 383, 1023]
theorem rabbetref1_takeOne.tab16 : rtab .any (opsOf Tryd.f63 16) = rabbetref1_takeOne.T16 := by kernel_rfl
theorem rabbetref1_takeOne.bits16 : waitsOk rabbetref1_takeOne.T16.2 rabbetref1_takeOne.B16 = true := by kernel_rfl
set_option maxHeartbeats 8000000 in
set_option maxRecDepth 100000 in
theorem rabbetref1_takeOne.calls (k : Nat) (a0 : Int) (A1 : Option Addr) (c1 : Nat) (l1 : List Int) (r1 : Int) (r2 : Int) (r3 : ByteArray) (r4 : Int) (r5 : Bool) (w : World) (hr1 : Kd.C (Kd.int .u8) w A1 l1.length l1) (hc1 : l1.length ≤ c1) (h : rabbetref1_takeOne.f k a0 l1 = some (r1, r2, r3, r4, r5)) :
  Calls Tryd.prog 63 #[.int .i64 a0, .slice A1 l1.length c1] w fun e w' => e = .returned (.tuple #[.agg #[.int .i64 r1, .int .i64 r2, .string r3], .int .i64 r4, .bool r5]) ∧ Below w.heap.size w w' := by
 have hu26 := Tryd.underlying26
 have HR1 := ak_ hr1
 have HC1 := ak_ hc1
 clear hr1 hc1
 have HB := ak_ (Below.refl w.heap.size w)
 have H : (if (l1.length : Int) = 0 then (some (0, 0, (⟨#[]⟩ : ByteArray), 0, false)) else (if a0 = 3 then (if 0 < (l1.length : Int) then ((rabbetref1_May.f a0 (wrap64 (rd l1 0)) (⟨#[]⟩ : ByteArray)).bind fun t167 => (if t167 = true then ((rabbetref1_isType.f a0).bind fun t168 => (some (a0, wrap64 (rd l1 0), (⟨#[]⟩ : ByteArray), 1, t168))) else (some (a0, wrap64 (rd l1 0), (⟨#[]⟩ : ByteArray), 1, false)))) else (none)) else (if a0 = 4 then (if 0 < (l1.length : Int) then (if (wrap64 (1 + (wrap64 (rd l1 0)))) > (l1.length : Int) then (some (0, 0, (⟨#[]⟩ : ByteArray), 0, false)) else (if 1 ≤ (wrap64 (1 + (wrap64 (rd l1 0)))) then (if (wrap64 (1 + (wrap64 (rd l1 0)))) ≤ (l1.length : Int) then ((rabbetref1_May.f a0 0 (strOfNums ((l1.take ((wrap64 (1 + (wrap64 (rd l1 0)))) : Int).toNat).drop 1))).bind fun t171 => (if t171 = true then ((rabbetref1_isType.f a0).bind fun t172 => (some (a0, 0, strOfNums ((l1.take ((wrap64 (1 + (wrap64 (rd l1 0)))) : Int).toNat).drop 1), wrap64 (1 + (wrap64 (rd l1 0))), t172))) else (some (a0, 0, strOfNums ((l1.take ((wrap64 (1 + (wrap64 (rd l1 0)))) : Int).toNat).drop 1), wrap64 (1 + (wrap64 (rd l1 0))), false)))) else (none)) else (none))) else (none)) else ((rabbetref1_TakeNum.f k l1).bind fun bt173 => (if bt173.2.2 = true then ((rabbetref1_Zag.f bt173.1).bind fun t176 => ((rabbetref1_May.f a0 t176 (⟨#[]⟩ : ByteArray)).bind fun t177 => (if t177 = true then ((rabbetref1_isType.f a0).bind fun t178 => (some (a0, t176, (⟨#[]⟩ : ByteArray), bt173.2.1, t178))) else (some (a0, t176, (⟨#[]⟩ : ByteArray), bt173.2.1, false))))) else (some (0, 0, (⟨#[]⟩ : ByteArray), 0, false))))))) = some (r1, r2, r3, r4, r5) := h
 clear h
 by_cases c3 : (l1.length : Int) = 0
 ·
  rw [if_pos c3] at H
  have c3b0 : ((l1.length : Int) == 0) = true := beq_iff_eq.mpr c3
  have c3b1 : ((l1.length : Int) != 0) = false := bne_eq_false_iff_eq.mpr c3
  clear c3
  simp only [Option.some.injEq, Prod.mk.injEq] at H
  obtain ⟨rfl, rfl, rfl, rfl, rfl⟩ := H
  go_enter Tryd.func63, Tryd.ntmps63
  go_wp2_with (first | ((with_reducible refine gate_dst (N := 4) rfl ?_); refine box_event ?hg (N := 4) ?hd (cs := #[.int .i64 0, .int .i64 0, .string (⟨#[]⟩ : ByteArray)]) (t := 26) ?hr ?_; (case hd => rfl); (case hg => rfl); (case hr => first | (go_simp; done) | (go_simp; rfl)); intro gb164 hg w4 hbox hb; have n0_ := ak_ (below_step (by repeat (first | (with_reducible first | exact HB.out | apply bl_a | apply bl_n | apply bl_d) | exact HB.out)) hb); have n1_ := ak_ (hbox); have n2_ := ak_ ((by rw [hg]; exact (below_size (by repeat (first | (with_reducible first | exact HB.out | apply bl_a | apply bl_n | apply bl_d) | exact HB.out))) : w.heap.size ≤ gb164)); have n3_ := ak_ ((by rw [hg]; exact (below_size (by repeat (first | (with_reducible first | exact HB.out | apply bl_a | apply bl_n | apply bl_d) | exact HB.out))) : w.heap.size ≤ gb164)); clear HB; have HB := n0_; have BK164 := n1_; have GW164 := n2_; have GE164 := n3_; clear n0_ n1_ n2_ n3_; clear hb hbox hg) | ((with_reducible refine gate_dst (N := 7) rfl ?_); refine box_event ?hg (N := 7) ?hd (cs := #[.int .i64 0, .int .i64 0, .string (⟨#[]⟩ : ByteArray)]) (t := 26) ?hr ?_; (case hd => rfl); (case hg => rfl); (case hr => first | (go_simp; done) | (go_simp; rfl)); intro gb165 hg w5 hbox hb; have n0_ := ak_ (blk_below (g := gb164) (o := .cells #[.int .i64 0, .int .i64 0, .string (⟨#[]⟩ : ByteArray)] 26 (0, 0)) (by (with_reducible repeat (first | refine bk_n ?_ _ | refine bk_d ?_ | refine bk_a ?_ _)); exact BK164.out) hb); have n1_ := ak_ (below_step (by repeat (first | (with_reducible first | exact HB.out | apply bl_a | apply bl_n | apply bl_d | refine below_set ?_ GE164.out) | exact HB.out)) hb); have n2_ := ak_ (hbox); have n3_ := ak_ ((by rw [hg]; exact (below_size (by repeat (first | (with_reducible first | exact HB.out | apply bl_a | apply bl_n | apply bl_d | refine below_set ?_ GE164.out) | exact HB.out))) : w.heap.size ≤ gb165)); have n4_ := ak_ ((by rw [hg]; exact (below_size (by repeat (first | (with_reducible first | exact HB.out | apply bl_a | apply bl_n | apply bl_d | refine below_set ?_ GE164.out) | exact HB.out))) : w.heap.size ≤ gb165)); have n5_ := ak_ ((by rw [hg]; exact Nat.ne_of_lt (blk_lt (g := gb164) (o := .cells #[.int .i64 0, .int .i64 0, .string (⟨#[]⟩ : ByteArray)] 26 (0, 0)) (by (with_reducible repeat (first | refine bk_n ?_ _ | refine bk_d ?_ | refine bk_a ?_ _)); exact BK164.out)) : gb164 ≠ gb165)); have n6_ := ak_ ((by rw [hg]; exact Nat.ne_of_gt (blk_lt (g := gb164) (o := .cells #[.int .i64 0, .int .i64 0, .string (⟨#[]⟩ : ByteArray)] 26 (0, 0)) (by (with_reducible repeat (first | refine bk_n ?_ _ | refine bk_d ?_ | refine bk_a ?_ _)); exact BK164.out)) : gb165 ≠ gb164)); clear BK164; clear HB; have BK164 := n0_; have HB := n1_; have BK165 := n2_; have GW165 := n3_; have GE165 := n4_; have NB164_165 := n5_; have NB165_164 := n6_; clear n0_ n1_ n2_ n3_ n4_ n5_ n6_; clear hb hbox hg; have hnb6 := NB165_164.out; have hnc6 := NB164_165.out; have hcz7_0 : w5.cell? ⟨gb165, 0, none⟩ = some (.int .i64 0) := (blk_cell BK165.out 0).trans rfl; have hcz7_1 : w5.cell? ⟨gb165, 1, none⟩ = some (.int .i64 0) := (blk_cell BK165.out 1).trans rfl; have hcz7_2 : w5.cell? ⟨gb165, 2, none⟩ = some (.string (⟨#[]⟩ : ByteArray)) := (blk_cell BK165.out 2).trans rfl; have hfz7_0 := blk_frozen BK165.out 0; have hfz7_1 := blk_frozen BK165.out 1; have hfz7_2 := blk_frozen BK165.out 2; have hcz8_0 : w5.cell? ⟨gb164, 0, none⟩ = some (.int .i64 0) := (blk_cell BK164.out 0).trans rfl; have hcz8_1 : w5.cell? ⟨gb164, 1, none⟩ = some (.int .i64 0) := (blk_cell BK164.out 1).trans rfl; have hcz8_2 : w5.cell? ⟨gb164, 2, none⟩ = some (.string (⟨#[]⟩ : ByteArray)) := (blk_cell BK164.out 2).trans rfl; have hfz8_0 := blk_frozen BK164.out 0; have hfz8_1 := blk_frozen BK164.out 1; have hfz8_2 := blk_frozen BK164.out 2))
  refine bodyPost_ret (results_ctt rfl _ _ gb164 26 #[.int .i64 0, .int .i64 0, .string (⟨#[]⟩ : ByteArray)] (0, 0) _ rfl (by (with_reducible repeat (first | refine bk_n ?_ _ | refine bk_d ?_ | refine bk_a ?_ _)); refine blk_put (cs := #[.int .i64 0, .int .i64 0, .string (⟨#[]⟩ : ByteArray)]) ?_ 2 _ rfl; (with_reducible repeat (first | refine bk_n ?_ _ | refine bk_d ?_ | refine bk_a ?_ _)); refine blk_put (cs := #[.int .i64 0, .int .i64 0, .string (⟨#[]⟩ : ByteArray)]) ?_ 1 _ rfl; (with_reducible repeat (first | refine bk_n ?_ _ | refine bk_d ?_ | refine bk_a ?_ _)); refine blk_put (cs := #[.int .i64 0, .int .i64 0, .string (⟨#[]⟩ : ByteArray)]) ?_ 0 _ rfl; (with_reducible repeat (first | refine bk_n ?_ _ | refine bk_d ?_ | refine bk_a ?_ _)); refine blk_far ?_ NB164_165.out _; (with_reducible repeat (first | refine bk_n ?_ _ | refine bk_d ?_ | refine bk_a ?_ _)); refine blk_far ?_ NB164_165.out _; (with_reducible repeat (first | refine bk_n ?_ _ | refine bk_d ?_ | refine bk_a ?_ _)); refine blk_far ?_ NB164_165.out _; (with_reducible repeat (first | refine bk_n ?_ _ | refine bk_d ?_ | refine bk_a ?_ _)); exact BK164.out) Tryd.underlying26 rfl (by kernel_rfl)) rfl ?_
  exact ⟨by first | rfl | (simp [errW_none, errW_some] <;> rfl) | (simp [*, errW_none, errW_some] <;> rfl), by repeat (first | (with_reducible first | exact HB.out | apply bl_a | apply bl_n | apply bl_d | refine below_set ?_ GE164.out | refine below_set ?_ GE165.out) | exact HB.out)⟩
 ·
  rw [if_neg c3] at H
  have c3b0 : ((l1.length : Int) == 0) = false := beq_eq_false_iff_ne.mpr c3
  have c3b1 : ((l1.length : Int) != 0) = true := bne_iff_ne.mpr c3
  have c3b2 : ¬ (l1 = []) := fun h_ => c3 (by rw [h_]; rfl)
  by_cases c9 : a0 = 3
  ·
   rw [if_pos c9] at H
   have c9b0 : (a0 == 3) = true := beq_iff_eq.mpr c9
   have c9b1 : (a0 != 3) = false := bne_eq_false_iff_eq.mpr c9
   clear c9
   by_cases c10 : 0 < (l1.length : Int)
   ·
    rw [if_pos c10] at H
    have c10b0 : decide (0 < (l1.length : Int)) = true := decide_eq_true c10
    have c10b1 : decide (0 < l1.length) = true := decide_eq_true (by omega)
    (try (have c10b1p : (0 < l1.length) = True := eq_true (of_decide_eq_true c10b1)))
    clear c10
    replace H := Option.bind_eq_some_iff.mp H
    obtain ⟨t167, A110, H⟩ := H
    replace H : (if t167 = true then ((rabbetref1_isType.f a0).bind fun t168 => (some (a0, wrap64 (rd l1 0), (⟨#[]⟩ : ByteArray), 1, t168))) else (some (a0, wrap64 (rd l1 0), (⟨#[]⟩ : ByteArray), 1, false))) = some (r1, r2, r3, r4, r5) := H
    have A11 := ak_ A110
    clear A110
    by_cases c12 : t167 = true
    ·
     subst c12
     have H1 : ((rabbetref1_isType.f a0).bind fun t168 => (some (a0, wrap64 (rd l1 0), (⟨#[]⟩ : ByteArray), 1, t168))) = some (r1, r2, r3, r4, r5) := by rw [if_pos rfl] at H; exact H
     clear H
     have H := H1
     clear H1
     replace H := Option.bind_eq_some_iff.mp H
     obtain ⟨t168, A130, H⟩ := H
     replace H : (some (a0, wrap64 (rd l1 0), (⟨#[]⟩ : ByteArray), 1, t168)) = some (r1, r2, r3, r4, r5) := H
     have A13 := ak_ A130
     clear A130
     simp only [Option.some.injEq, Prod.mk.injEq] at H
     obtain ⟨rfl, rfl, rfl, rfl, rfl⟩ := H
     (try (have e_ : t167 = t168 := (by (with_reducible exact Option.some.inj (A11.out.symm.trans A13.out))); subst e_))
     go_enter Tryd.func63, Tryd.ntmps63
     try go_wp2_with (first | ((with_reducible refine gate_dst (N := 4) rfl ?_); refine box_event ?hg (N := 4) ?hd (cs := #[.int .i64 0, .int .i64 0, .string (⟨#[]⟩ : ByteArray)]) (t := 26) ?hr ?_; (case hd => rfl); (case hg => rfl); (case hr => first | (go_simp; done) | (go_simp; rfl)); intro gb164 hg w14 hbox hb; have n0_ := ak_ (below_step (by repeat (first | (with_reducible first | exact HB.out | apply bl_a | apply bl_n | apply bl_d) | exact HB.out)) hb); have n1_ := ak_ (hbox); have n2_ := ak_ ((by rw [hg]; exact (below_size (by repeat (first | (with_reducible first | exact HB.out | apply bl_a | apply bl_n | apply bl_d) | exact HB.out))) : w.heap.size ≤ gb164)); have n3_ := ak_ ((by rw [hg]; exact (below_size (by repeat (first | (with_reducible first | exact HB.out | apply bl_a | apply bl_n | apply bl_d) | exact HB.out))) : w.heap.size ≤ gb164)); clear HB; have HB := n0_; have BK164 := n1_; have GW164 := n2_; have GE164 := n3_; clear n0_ n1_ n2_ n3_; clear hb hbox hg) | ((with_reducible refine gate_dst (N := 7) rfl ?_); refine box_event ?hg (N := 7) ?hd (cs := #[.int .i64 0, .int .i64 0, .string (⟨#[]⟩ : ByteArray)]) (t := 26) ?hr ?_; (case hd => rfl); (case hg => rfl); (case hr => first | (go_simp; done) | (go_simp; rfl)); intro gb165 hg w15 hbox hb; have n0_ := ak_ (blk_below (g := gb164) (o := .cells #[.int .i64 0, .int .i64 0, .string (⟨#[]⟩ : ByteArray)] 26 (0, 0)) (by (with_reducible repeat (first | refine bk_n ?_ _ | refine bk_d ?_ | refine bk_a ?_ _)); exact BK164.out) hb); have n1_ := ak_ (below_step (by repeat (first | (with_reducible first | exact HB.out | apply bl_a | apply bl_n | apply bl_d | refine below_set ?_ GE164.out) | exact HB.out)) hb); have n2_ := ak_ (hbox); have n3_ := ak_ ((by rw [hg]; exact (below_size (by repeat (first | (with_reducible first | exact HB.out | apply bl_a | apply bl_n | apply bl_d | refine below_set ?_ GE164.out) | exact HB.out))) : w.heap.size ≤ gb165)); have n4_ := ak_ ((by rw [hg]; exact (below_size (by repeat (first | (with_reducible first | exact HB.out | apply bl_a | apply bl_n | apply bl_d | refine below_set ?_ GE164.out) | exact HB.out))) : w.heap.size ≤ gb165)); have n5_ := ak_ ((by rw [hg]; exact Nat.ne_of_lt (blk_lt (g := gb164) (o := .cells #[.int .i64 0, .int .i64 0, .string (⟨#[]⟩ : ByteArray)] 26 (0, 0)) (by (with_reducible repeat (first | refine bk_n ?_ _ | refine bk_d ?_ | refine bk_a ?_ _)); exact BK164.out)) : gb164 ≠ gb165)); have n6_ := ak_ ((by rw [hg]; exact Nat.ne_of_gt (blk_lt (g := gb164) (o := .cells #[.int .i64 0, .int .i64 0, .string (⟨#[]⟩ : ByteArray)] 26 (0, 0)) (by (with_reducible repeat (first | refine bk_n ?_ _ | refine bk_d ?_ | refine bk_a ?_ _)); exact BK164.out)) : gb165 ≠ gb164)); clear BK164; clear HB; have BK164 := n0_; have HB := n1_; have BK165 := n2_; have GW165 := n3_; have GE165 := n4_; have NB164_165 := n5_; have NB165_164 := n6_; clear n0_ n1_ n2_ n3_ n4_ n5_ n6_; clear hb hbox hg; have hnb16 := NB165_164.out; have hnc16 := NB164_165.out; have hcz17_0 : w15.cell? ⟨gb165, 0, none⟩ = some (.int .i64 0) := (blk_cell BK165.out 0).trans rfl; have hcz17_1 : w15.cell? ⟨gb165, 1, none⟩ = some (.int .i64 0) := (blk_cell BK165.out 1).trans rfl; have hcz17_2 : w15.cell? ⟨gb165, 2, none⟩ = some (.string (⟨#[]⟩ : ByteArray)) := (blk_cell BK165.out 2).trans rfl; have hfz17_0 := blk_frozen BK165.out 0; have hfz17_1 := blk_frozen BK165.out 1; have hfz17_2 := blk_frozen BK165.out 2; have p166 : 0 ≤ (0 : Int) := (by omega); have q166 : 0 < (l1.length : Int) := of_decide_eq_true (by first | (with_reducible assumption) | assumption); obtain ⟨ad166, e166, hx166_0⟩ := Kd.at_int HR1.out 0 p166 q166; cases e166; have qi166 : (0 < l1.length) = True := eq_true (by omega); (try rw [show ((0 : Int)).toNat = 0 from rfl] at hx166_0); (try rw [Addr.add_zero'] at hx166_0); have hn166_0 : ad166.block ≠ gb165 := Nat.ne_of_lt (Nat.lt_of_lt_of_le (by have := World.block_lt_of_cell? _ _ hx166_0; first | rwa [add_block] at this | exact this) GW165.out); have hn166_1 : ad166.block ≠ gb165 := Nat.ne_of_lt (Nat.lt_of_lt_of_le (by have := World.block_lt_of_cell? _ _ hx166_0; first | rwa [add_block] at this | exact this) GW165.out); have hn166_2 : ad166.block ≠ gb165 := Nat.ne_of_lt (Nat.lt_of_lt_of_le (by have := World.block_lt_of_cell? _ _ hx166_0; first | rwa [add_block] at this | exact this) GW165.out); replace hx166_0 := (HB.out.cell (World.block_lt_of_cell? w _ hx166_0)).trans hx166_0; replace hx166_0 := (cell_far (p := ⟨gb165, 0, none⟩) (by first | (rw [add_block]; exact hn166_0) | (show (Addr.add _ _).block ≠ _; rw [add_block]; exact hn166_0) | exact hn166_0) (.int .i64 a0)).trans hx166_0; replace hx166_0 := (cell_far (p := ⟨gb165, 1, none⟩) (by first | (rw [add_block]; exact hn166_1) | (show (Addr.add _ _).block ≠ _; rw [add_block]; exact hn166_1) | exact hn166_1) (.int .i64 0)).trans hx166_0; replace hx166_0 := (cell_far (p := ⟨gb165, 2, none⟩) (by first | (rw [add_block]; exact hn166_2) | (show (Addr.add _ _).block ≠ _; rw [add_block]; exact hn166_2) | exact hn166_2) (.string (⟨#[]⟩ : ByteArray))).trans hx166_0; clear hn166_0; clear hn166_1; clear hn166_2; replace p166 := eq_true p166; replace q166 := eq_true q166))
     have n0_ : Aside0 (((((w15.setCell ⟨gb165, 0, none⟩ (.int .i64 a0)).setCell ⟨gb165, 1, none⟩ (.int .i64 0)).setCell ⟨gb165, 2, none⟩ (.string (⟨#[]⟩ : ByteArray))).setCell ⟨gb165, 1, none⟩ (.int .i64 (wrap64 (rd l1 0)))).heap[gb164]? = some (.cells #[.int .i64 0, .int .i64 0, .string (⟨#[]⟩ : ByteArray)] 26 (0, 0))) := ⟨by (with_reducible repeat (first | refine bk_n ?_ _ | refine bk_d ?_ | refine bk_a ?_ _)); refine blk_far ?_ NB164_165.out _; (with_reducible repeat (first | refine bk_n ?_ _ | refine bk_d ?_ | refine bk_a ?_ _)); refine blk_far ?_ NB164_165.out _; (with_reducible repeat (first | refine bk_n ?_ _ | refine bk_d ?_ | refine bk_a ?_ _)); refine blk_far ?_ NB164_165.out _; (with_reducible repeat (first | refine bk_n ?_ _ | refine bk_d ?_ | refine bk_a ?_ _)); refine blk_far ?_ NB164_165.out _; (with_reducible repeat (first | refine bk_n ?_ _ | refine bk_d ?_ | refine bk_a ?_ _)); exact BK164.out⟩
     have n1_ : Aside0 (((((w15.setCell ⟨gb165, 0, none⟩ (.int .i64 a0)).setCell ⟨gb165, 1, none⟩ (.int .i64 0)).setCell ⟨gb165, 2, none⟩ (.string (⟨#[]⟩ : ByteArray))).setCell ⟨gb165, 1, none⟩ (.int .i64 (wrap64 (rd l1 0)))).heap[gb165]? = some (.cells #[.int .i64 a0, .int .i64 (wrap64 (rd l1 0)), .string (⟨#[]⟩ : ByteArray)] 26 (0, 0))) := ⟨by (with_reducible repeat (first | refine bk_n ?_ _ | refine bk_d ?_ | refine bk_a ?_ _)); refine blk_put (cs := #[.int .i64 a0, .int .i64 0, .string (⟨#[]⟩ : ByteArray)]) ?_ 1 _ rfl; (with_reducible repeat (first | refine bk_n ?_ _ | refine bk_d ?_ | refine bk_a ?_ _)); refine blk_put (cs := #[.int .i64 a0, .int .i64 0, .string (⟨#[]⟩ : ByteArray)]) ?_ 2 _ rfl; (with_reducible repeat (first | refine bk_n ?_ _ | refine bk_d ?_ | refine bk_a ?_ _)); refine blk_put (cs := #[.int .i64 a0, .int .i64 0, .string (⟨#[]⟩ : ByteArray)]) ?_ 1 _ rfl; (with_reducible repeat (first | refine bk_n ?_ _ | refine bk_d ?_ | refine bk_a ?_ _)); refine blk_put (cs := #[.int .i64 0, .int .i64 0, .string (⟨#[]⟩ : ByteArray)]) ?_ 0 _ rfl; (with_reducible repeat (first | refine bk_n ?_ _ | refine bk_d ?_ | refine bk_a ?_ _)); exact BK165.out⟩
     have n2_ : Aside0 (Below w.heap.size w ((((w15.setCell ⟨gb165, 0, none⟩ (.int .i64 a0)).setCell ⟨gb165, 1, none⟩ (.int .i64 0)).setCell ⟨gb165, 2, none⟩ (.string (⟨#[]⟩ : ByteArray))).setCell ⟨gb165, 1, none⟩ (.int .i64 (wrap64 (rd l1 0))))) := ⟨by repeat (first | (with_reducible first | exact HB.out | apply bl_a | apply bl_n | apply bl_d | refine below_set ?_ GE164.out | refine below_set ?_ GE165.out) | exact HB.out)⟩
     (try clear BK164)
     (try clear BK165)
     (try clear HB)
     generalize ((((w15.setCell ⟨gb165, 0, none⟩ (.int .i64 a0)).setCell ⟨gb165, 1, none⟩ (.int .i64 0)).setCell ⟨gb165, 2, none⟩ (.string (⟨#[]⟩ : ByteArray))).setCell ⟨gb165, 1, none⟩ (.int .i64 (wrap64 (rd l1 0)))) = w18 at n0_ n1_ n2_ ⊢
     have BK164 := n0_
     have BK165 := n1_
     have HB := n2_
     clear n0_ n1_ n2_
     have n0_ := ak_ (bk_d BK164.out)
     have n1_ := ak_ (bk_d BK165.out)
     have n2_ := ak_ (bl_d HB.out)
     clear BK164
     clear BK165
     clear HB
     have BK164 := n0_
     have BK165 := n1_
     have HB := n2_
     clear n0_ n1_ n2_
     refine start_ (n := 11) (S := fun w' => w'.cell? ⟨gb165, 0, none⟩ = some (.int .i64 a0) ∧ w'.cell? ⟨gb165, 1, none⟩ = some (.int .i64 (wrap64 (rd l1 0))) ∧ w'.cell? ⟨gb165, 2, none⟩ = some (.string (⟨#[]⟩ : ByteArray))) (ds := []) #[false, false, false, false, false, false, false, false, false, false, false] (by kernel_rfl) rfl rfl ⟨(blk_cell BK165.out 0).trans rfl, (blk_cell BK165.out 1).trans rfl, (blk_cell BK165.out 2).trans rfl⟩ (fun hHeld => ?_); refine with_tabW rabbetref1_takeOne.tab16 rabbetref1_takeOne.bits16 (fun HT_ HW_ => ?_)
     generalize w18.drew = w19 at BK164 BK165 HB hHeld ⊢
     refine pure_ (i := 1) (N := some 59) (v := ?_) (a' := ?_) #[false, true, false, false, false, false, false, false, false, false, false] rfl rfl (any_of HT_.out (by kernel_rfl)) (fun _ _ _ h => h) (Or.inl ⟨by rfl, ?_⟩) ?_ ?_
     rotate_left
     ·
      intro w'
      go_simp
      with_reducible rfl
     rotate_left
     ·
      simp only [Act.put, List.setIfInBounds_toArray, List.set_cons_zero, List.set_cons_succ, i64_w, i32_w]
      rfl
     refine take_ (i := 0) (N := some 58) (v := ?_) (a' := ?_) #[true, true, false, false, false, false, false, false, false, false, false] rfl rfl (take_ofW HT_.out HW_.out (by kernel_rfl)) (fun _ _ _ h => h) (Or.inl ⟨by rfl, ?_⟩) hHeld ?_ ?_
     rotate_left
     ·
      rintro w' ⟨s0, s1, s2⟩
      go_simp
      with_reducible rfl
     rotate_left
     ·
      simp only [Act.put, List.setIfInBounds_toArray, List.set_cons_zero, List.set_cons_succ, i64_w, i32_w]
      rfl
     refine take_ (i := 2) (N := some 60) (v := ?_) (a' := ?_) #[true, true, true, false, false, false, false, false, false, false, false] rfl rfl (take_ofW HT_.out HW_.out (by kernel_rfl)) (fun _ _ _ h => h) (Or.inl ⟨by rfl, ?_⟩) hHeld ?_ ?_
     rotate_left
     ·
      rintro w' ⟨s0, s1, s2⟩
      go_simp
      with_reducible rfl
     rotate_left
     ·
      simp only [Act.put, List.setIfInBounds_toArray, List.set_cons_zero, List.set_cons_succ, i64_w, i32_w]
      rfl
     refine one_ (i := 3) (N := some 61) #[true, true, true, true, false, false, false, false, false, false, false] rfl rfl (one_of HT_.out (by kernel_rfl)) (by decide) (fun K hK => ?_)
     refine goes_ Tryd.func70 (by kernel_rfl) rfl #[.agg #[.int .i64 a0, .int .i64 (wrap64 (rd l1 0)), .string (⟨#[]⟩ : ByteArray)]] (by rfl) rfl rfl (by (try simp only [List.map_toArray, List.map_cons, List.map_nil]); first | done | rfl | (simp only [List.length_drop, List.length_take]; rfl)) ?_
     with_reducible refine (rabbetref1_May.calls a0 (wrap64 (rd l1 0)) (⟨#[]⟩ : ByteArray) true _ A11.out).mono ?_
     rintro e w20 ⟨rfl, hb⟩
     refine ⟨_, rfl, ?_⟩
     have n0_ := ak_ (blk_below (g := gb164) (o := .cells #[.int .i64 0, .int .i64 0, .string (⟨#[]⟩ : ByteArray)] 26 (0, 0)) (by (with_reducible repeat (first | refine bk_n ?_ _ | refine bk_d ?_ | refine bk_a ?_ _)); exact BK164.out) hb)
     have n1_ := ak_ (blk_below (g := gb165) (o := .cells #[.int .i64 a0, .int .i64 (wrap64 (rd l1 0)), .string (⟨#[]⟩ : ByteArray)] 26 (0, 0)) (by (with_reducible repeat (first | refine bk_n ?_ _ | refine bk_d ?_ | refine bk_a ?_ _)); exact BK165.out) hb)
     have n2_ := ak_ (below_step (by repeat (first | (with_reducible first | exact HB.out | apply bl_a | apply bl_n | apply bl_d | refine below_set ?_ GE164.out | refine below_set ?_ GE165.out) | exact HB.out)) hb)
     clear BK164
     clear BK165
     clear HB
     have BK164 := n0_
     have BK165 := n1_
     have HB := n2_
     clear n0_ n1_ n2_
     (try clear hb)
     (try clear hb2)
     (try clear hk)
     (try clear hi)
     refine hK.out _ _ ⟨(blk_cell BK165.out 0).trans rfl, (blk_cell BK165.out 1).trans rfl, (blk_cell BK165.out 2).trans rfl⟩ (fun hHeld => ?_)
     clear hK K
     refine norm_ (a' := ?_) ?_ ?_
     rotate_left
     ·
      show Act.put _ (some 61) _ = _
      simp only [Act.put, List.setIfInBounds_toArray, List.set_cons_zero, List.set_cons_succ, i64_w, i32_w]
      rfl
     refine pure_ (i := 4) (N := some 62) (v := ?_) (a' := ?_) #[true, true, true, true, true, false, false, false, false, false, false] rfl rfl (any_of HT_.out (by kernel_rfl)) (fun _ _ _ h => h) (Or.inl ⟨by rfl, ?_⟩) ?_ ?_
     rotate_left
     ·
      intro w'
      go_simp
      with_reducible rfl
     rotate_left
     ·
      simp only [Act.put, List.setIfInBounds_toArray, List.set_cons_zero, List.set_cons_succ, i64_w, i32_w]
      rfl
     refine pure_ (i := 5) (N := some 63) (v := ?_) (a' := ?_) #[true, true, true, true, true, true, false, false, false, false, false] rfl rfl (any_of HT_.out (by kernel_rfl)) (fun _ _ _ h => h) (Or.inl ⟨by rfl, ?_⟩) ?_ ?_
     rotate_left
     ·
      intro w'
      go_simp
      with_reducible rfl
     rotate_left
     ·
      simp only [Act.put, List.setIfInBounds_toArray, List.set_cons_zero, List.set_cons_succ, i64_w, i32_w]
      rfl
     refine one_ (i := 6) (N := some 64) #[true, true, true, true, true, true, true, false, false, false, false] rfl rfl (one_of HT_.out (by kernel_rfl)) (by decide) (fun K hK => ?_)
     refine goes_ Tryd.func42 (by kernel_rfl) rfl #[.int .i64 a0] (by rfl) rfl rfl (by (try simp only [List.map_toArray, List.map_cons, List.map_nil]); first | done | rfl | (simp only [List.length_drop, List.length_take]; rfl)) ?_
     with_reducible refine (rabbetref1_isType.calls a0 t168 _ A13.out).mono ?_
     rintro e w' ⟨rfl, ⟨nd, rfl⟩⟩
     refine ⟨_, rfl, ?_⟩
     refine hK.out _ _ ⟨(blk_cell BK165.out 0).trans rfl, (blk_cell BK165.out 1).trans rfl, (blk_cell BK165.out 2).trans rfl⟩ (fun hHeld => ?_)
     clear hK K
     refine norm_ (a' := ?_) ?_ ?_
     rotate_left
     ·
      show Act.put _ (some 64) _ = _
      simp only [Act.put, List.setIfInBounds_toArray, List.set_cons_zero, List.set_cons_succ, i64_w, i32_w]
      rfl
     refine pure_ (i := 7) (N := some 65) (v := ?_) (a' := ?_) #[true, true, true, true, true, true, true, true, false, false, false] rfl rfl (any_of HT_.out (by kernel_rfl)) (fun _ _ _ h => h) (Or.inl ⟨by rfl, ?_⟩) ?_ ?_
     rotate_left
     ·
      intro w'
      go_simp
      with_reducible rfl
     rotate_left
     ·
      simp only [Act.put, List.setIfInBounds_toArray, List.set_cons_zero, List.set_cons_succ, i64_w, i32_w]
      rfl
     refine one_ (i := 8) (N := none) #[true, true, true, true, true, true, true, true, true, false, false] rfl rfl (one_of HT_.out (by kernel_rfl)) (by decide) (fun K hK => ?_)
     have hs21 : w20.cell? ⟨gb164, 0, none⟩ = some (.int .i64 0) := (blk_cell BK164.out 0).trans rfl
     have hfs21 := blk_frozen BK164.out 0
     have hns21_1 := NB165_164.out
     have hms21_1 := NB164_165.out
     have hs22 : w20.cell? ⟨gb164, 1, none⟩ = some (.int .i64 0) := (blk_cell BK164.out 1).trans rfl
     have hfs22 := blk_frozen BK164.out 1
     have hns22_1 := NB165_164.out
     have hms22_1 := NB164_165.out
     have hs23 : w20.cell? ⟨gb164, 2, none⟩ = some (.string (⟨#[]⟩ : ByteArray)) := (blk_cell BK164.out 2).trans rfl
     have hfs23 := blk_frozen BK164.out 2
     have hns23_1 := NB165_164.out
     have hms23_1 := NB164_165.out
     refine skip_ (w1 := ?_) (by rfl) rfl ?_ ?_
     rotate_left
     ·
      go_simp
      rfl
     refine hK.out _ _ ⟨((cell_far (p := ⟨gb164, _, none⟩) NB165_164.out _).trans (((cell_far (p := ⟨gb164, _, none⟩) NB165_164.out _).trans (((cell_far (p := ⟨gb164, _, none⟩) NB165_164.out _).trans (hHeld.1)))))), ((cell_far (p := ⟨gb164, _, none⟩) NB165_164.out _).trans (((cell_far (p := ⟨gb164, _, none⟩) NB165_164.out _).trans (((cell_far (p := ⟨gb164, _, none⟩) NB165_164.out _).trans (hHeld.2.1)))))), ((cell_far (p := ⟨gb164, _, none⟩) NB165_164.out _).trans (((cell_far (p := ⟨gb164, _, none⟩) NB165_164.out _).trans (((cell_far (p := ⟨gb164, _, none⟩) NB165_164.out _).trans (hHeld.2.2))))))⟩ (fun hHeld => ?_)
     clear hK K
     refine pure_ (i := 9) (N := some 5) (v := ?_) (a' := ?_) #[true, true, true, true, true, true, true, true, true, true, false] rfl rfl (any_of HT_.out (by kernel_rfl)) (fun _ _ _ h => h) (Or.inl ⟨by rfl, ?_⟩) ?_ ?_
     rotate_left
     ·
      intro w'
      go_simp
      with_reducible rfl
     rotate_left
     ·
      simp only [Act.put, List.setIfInBounds_toArray, List.set_cons_zero, List.set_cons_succ, i64_w, i32_w]
      rfl
     refine pure_ (i := 10) (N := some 6) (v := ?_) (a' := ?_) #[true, true, true, true, true, true, true, true, true, true, true] rfl rfl (any_of HT_.out (by kernel_rfl)) (fun _ _ _ h => h) (Or.inl ⟨by rfl, ?_⟩) ?_ ?_
     rotate_left
     ·
      intro w'
      go_simp
      with_reducible rfl
     rotate_left
     ·
      simp only [Act.put, List.setIfInBounds_toArray, List.set_cons_zero, List.set_cons_succ, i64_w, i32_w]
      rfl
     refine done_ (done_of HT_.out (by kernel_rfl)) ?_
     try go_wp2
     refine bodyPost_ret (results_ctt rfl _ _ gb164 26 #[.int .i64 a0, .int .i64 (wrap64 (rd l1 0)), .string (⟨#[]⟩ : ByteArray)] (0, 0) _ rfl (by (with_reducible repeat (first | refine bk_n ?_ _ | refine bk_d ?_ | refine bk_a ?_ _)); refine blk_put (cs := #[.int .i64 a0, .int .i64 (wrap64 (rd l1 0)), .string (⟨#[]⟩ : ByteArray)]) ?_ 2 _ rfl; (with_reducible repeat (first | refine bk_n ?_ _ | refine bk_d ?_ | refine bk_a ?_ _)); refine blk_put (cs := #[.int .i64 a0, .int .i64 0, .string (⟨#[]⟩ : ByteArray)]) ?_ 1 _ rfl; (with_reducible repeat (first | refine bk_n ?_ _ | refine bk_d ?_ | refine bk_a ?_ _)); refine blk_put (cs := #[.int .i64 0, .int .i64 0, .string (⟨#[]⟩ : ByteArray)]) ?_ 0 _ rfl; (with_reducible repeat (first | refine bk_n ?_ _ | refine bk_d ?_ | refine bk_a ?_ _)); exact BK164.out) Tryd.underlying26 rfl (by kernel_rfl)) rfl ?_
     exact ⟨by first | rfl | (simp [errW_none, errW_some] <;> rfl) | (simp [*, errW_none, errW_some] <;> rfl), by repeat (first | (with_reducible first | exact HB.out | apply bl_a | apply bl_n | apply bl_d | refine below_set ?_ GE164.out | refine below_set ?_ GE165.out) | exact HB.out)⟩
    ·
     replace c12 := Bool.eq_false_iff.mpr c12
     subst c12
     have H1 : (some (a0, wrap64 (rd l1 0), (⟨#[]⟩ : ByteArray), 1, false)) = some (r1, r2, r3, r4, r5) := by rw [if_neg (show ¬ (false = true) by decide)] at H; exact H
     clear H
     have H := H1
     clear H1
     simp only [Option.some.injEq, Prod.mk.injEq] at H
     obtain ⟨rfl, rfl, rfl, rfl, rfl⟩ := H
     go_enter Tryd.func63, Tryd.ntmps63
     try go_wp2_with (first | ((with_reducible refine gate_dst (N := 4) rfl ?_); refine box_event ?hg (N := 4) ?hd (cs := #[.int .i64 0, .int .i64 0, .string (⟨#[]⟩ : ByteArray)]) (t := 26) ?hr ?_; (case hd => rfl); (case hg => rfl); (case hr => first | (go_simp; done) | (go_simp; rfl)); intro gb164 hg w24 hbox hb; have n0_ := ak_ (below_step (by repeat (first | (with_reducible first | exact HB.out | apply bl_a | apply bl_n | apply bl_d) | exact HB.out)) hb); have n1_ := ak_ (hbox); have n2_ := ak_ ((by rw [hg]; exact (below_size (by repeat (first | (with_reducible first | exact HB.out | apply bl_a | apply bl_n | apply bl_d) | exact HB.out))) : w.heap.size ≤ gb164)); have n3_ := ak_ ((by rw [hg]; exact (below_size (by repeat (first | (with_reducible first | exact HB.out | apply bl_a | apply bl_n | apply bl_d) | exact HB.out))) : w.heap.size ≤ gb164)); clear HB; have HB := n0_; have BK164 := n1_; have GW164 := n2_; have GE164 := n3_; clear n0_ n1_ n2_ n3_; clear hb hbox hg) | ((with_reducible refine gate_dst (N := 7) rfl ?_); refine box_event ?hg (N := 7) ?hd (cs := #[.int .i64 0, .int .i64 0, .string (⟨#[]⟩ : ByteArray)]) (t := 26) ?hr ?_; (case hd => rfl); (case hg => rfl); (case hr => first | (go_simp; done) | (go_simp; rfl)); intro gb165 hg w25 hbox hb; have n0_ := ak_ (blk_below (g := gb164) (o := .cells #[.int .i64 0, .int .i64 0, .string (⟨#[]⟩ : ByteArray)] 26 (0, 0)) (by (with_reducible repeat (first | refine bk_n ?_ _ | refine bk_d ?_ | refine bk_a ?_ _)); exact BK164.out) hb); have n1_ := ak_ (below_step (by repeat (first | (with_reducible first | exact HB.out | apply bl_a | apply bl_n | apply bl_d | refine below_set ?_ GE164.out) | exact HB.out)) hb); have n2_ := ak_ (hbox); have n3_ := ak_ ((by rw [hg]; exact (below_size (by repeat (first | (with_reducible first | exact HB.out | apply bl_a | apply bl_n | apply bl_d | refine below_set ?_ GE164.out) | exact HB.out))) : w.heap.size ≤ gb165)); have n4_ := ak_ ((by rw [hg]; exact (below_size (by repeat (first | (with_reducible first | exact HB.out | apply bl_a | apply bl_n | apply bl_d | refine below_set ?_ GE164.out) | exact HB.out))) : w.heap.size ≤ gb165)); have n5_ := ak_ ((by rw [hg]; exact Nat.ne_of_lt (blk_lt (g := gb164) (o := .cells #[.int .i64 0, .int .i64 0, .string (⟨#[]⟩ : ByteArray)] 26 (0, 0)) (by (with_reducible repeat (first | refine bk_n ?_ _ | refine bk_d ?_ | refine bk_a ?_ _)); exact BK164.out)) : gb164 ≠ gb165)); have n6_ := ak_ ((by rw [hg]; exact Nat.ne_of_gt (blk_lt (g := gb164) (o := .cells #[.int .i64 0, .int .i64 0, .string (⟨#[]⟩ : ByteArray)] 26 (0, 0)) (by (with_reducible repeat (first | refine bk_n ?_ _ | refine bk_d ?_ | refine bk_a ?_ _)); exact BK164.out)) : gb165 ≠ gb164)); clear BK164; clear HB; have BK164 := n0_; have HB := n1_; have BK165 := n2_; have GW165 := n3_; have GE165 := n4_; have NB164_165 := n5_; have NB165_164 := n6_; clear n0_ n1_ n2_ n3_ n4_ n5_ n6_; clear hb hbox hg; have hnb26 := NB165_164.out; have hnc26 := NB164_165.out; have hcz27_0 : w25.cell? ⟨gb165, 0, none⟩ = some (.int .i64 0) := (blk_cell BK165.out 0).trans rfl; have hcz27_1 : w25.cell? ⟨gb165, 1, none⟩ = some (.int .i64 0) := (blk_cell BK165.out 1).trans rfl; have hcz27_2 : w25.cell? ⟨gb165, 2, none⟩ = some (.string (⟨#[]⟩ : ByteArray)) := (blk_cell BK165.out 2).trans rfl; have hfz27_0 := blk_frozen BK165.out 0; have hfz27_1 := blk_frozen BK165.out 1; have hfz27_2 := blk_frozen BK165.out 2; have p166 : 0 ≤ (0 : Int) := (by omega); have q166 : 0 < (l1.length : Int) := of_decide_eq_true (by first | (with_reducible assumption) | assumption); obtain ⟨ad166, e166, hx166_0⟩ := Kd.at_int HR1.out 0 p166 q166; cases e166; have qi166 : (0 < l1.length) = True := eq_true (by omega); (try rw [show ((0 : Int)).toNat = 0 from rfl] at hx166_0); (try rw [Addr.add_zero'] at hx166_0); have hn166_0 : ad166.block ≠ gb165 := Nat.ne_of_lt (Nat.lt_of_lt_of_le (by have := World.block_lt_of_cell? _ _ hx166_0; first | rwa [add_block] at this | exact this) GW165.out); have hn166_1 : ad166.block ≠ gb165 := Nat.ne_of_lt (Nat.lt_of_lt_of_le (by have := World.block_lt_of_cell? _ _ hx166_0; first | rwa [add_block] at this | exact this) GW165.out); have hn166_2 : ad166.block ≠ gb165 := Nat.ne_of_lt (Nat.lt_of_lt_of_le (by have := World.block_lt_of_cell? _ _ hx166_0; first | rwa [add_block] at this | exact this) GW165.out); replace hx166_0 := (HB.out.cell (World.block_lt_of_cell? w _ hx166_0)).trans hx166_0; replace hx166_0 := (cell_far (p := ⟨gb165, 0, none⟩) (by first | (rw [add_block]; exact hn166_0) | (show (Addr.add _ _).block ≠ _; rw [add_block]; exact hn166_0) | exact hn166_0) (.int .i64 a0)).trans hx166_0; replace hx166_0 := (cell_far (p := ⟨gb165, 1, none⟩) (by first | (rw [add_block]; exact hn166_1) | (show (Addr.add _ _).block ≠ _; rw [add_block]; exact hn166_1) | exact hn166_1) (.int .i64 0)).trans hx166_0; replace hx166_0 := (cell_far (p := ⟨gb165, 2, none⟩) (by first | (rw [add_block]; exact hn166_2) | (show (Addr.add _ _).block ≠ _; rw [add_block]; exact hn166_2) | exact hn166_2) (.string (⟨#[]⟩ : ByteArray))).trans hx166_0; clear hn166_0; clear hn166_1; clear hn166_2; replace p166 := eq_true p166; replace q166 := eq_true q166))
     have n0_ : Aside0 (((((w25.setCell ⟨gb165, 0, none⟩ (.int .i64 a0)).setCell ⟨gb165, 1, none⟩ (.int .i64 0)).setCell ⟨gb165, 2, none⟩ (.string (⟨#[]⟩ : ByteArray))).setCell ⟨gb165, 1, none⟩ (.int .i64 (wrap64 (rd l1 0)))).heap[gb164]? = some (.cells #[.int .i64 0, .int .i64 0, .string (⟨#[]⟩ : ByteArray)] 26 (0, 0))) := ⟨by (with_reducible repeat (first | refine bk_n ?_ _ | refine bk_d ?_ | refine bk_a ?_ _)); refine blk_far ?_ NB164_165.out _; (with_reducible repeat (first | refine bk_n ?_ _ | refine bk_d ?_ | refine bk_a ?_ _)); refine blk_far ?_ NB164_165.out _; (with_reducible repeat (first | refine bk_n ?_ _ | refine bk_d ?_ | refine bk_a ?_ _)); refine blk_far ?_ NB164_165.out _; (with_reducible repeat (first | refine bk_n ?_ _ | refine bk_d ?_ | refine bk_a ?_ _)); refine blk_far ?_ NB164_165.out _; (with_reducible repeat (first | refine bk_n ?_ _ | refine bk_d ?_ | refine bk_a ?_ _)); exact BK164.out⟩
     have n1_ : Aside0 (((((w25.setCell ⟨gb165, 0, none⟩ (.int .i64 a0)).setCell ⟨gb165, 1, none⟩ (.int .i64 0)).setCell ⟨gb165, 2, none⟩ (.string (⟨#[]⟩ : ByteArray))).setCell ⟨gb165, 1, none⟩ (.int .i64 (wrap64 (rd l1 0)))).heap[gb165]? = some (.cells #[.int .i64 a0, .int .i64 (wrap64 (rd l1 0)), .string (⟨#[]⟩ : ByteArray)] 26 (0, 0))) := ⟨by (with_reducible repeat (first | refine bk_n ?_ _ | refine bk_d ?_ | refine bk_a ?_ _)); refine blk_put (cs := #[.int .i64 a0, .int .i64 0, .string (⟨#[]⟩ : ByteArray)]) ?_ 1 _ rfl; (with_reducible repeat (first | refine bk_n ?_ _ | refine bk_d ?_ | refine bk_a ?_ _)); refine blk_put (cs := #[.int .i64 a0, .int .i64 0, .string (⟨#[]⟩ : ByteArray)]) ?_ 2 _ rfl; (with_reducible repeat (first | refine bk_n ?_ _ | refine bk_d ?_ | refine bk_a ?_ _)); refine blk_put (cs := #[.int .i64 a0, .int .i64 0, .string (⟨#[]⟩ : ByteArray)]) ?_ 1 _ rfl; (with_reducible repeat (first | refine bk_n ?_ _ | refine bk_d ?_ | refine bk_a ?_ _)); refine blk_put (cs := #[.int .i64 0, .int .i64 0, .string (⟨#[]⟩ : ByteArray)]) ?_ 0 _ rfl; (with_reducible repeat (first | refine bk_n ?_ _ | refine bk_d ?_ | refine bk_a ?_ _)); exact BK165.out⟩
     have n2_ : Aside0 (Below w.heap.size w ((((w25.setCell ⟨gb165, 0, none⟩ (.int .i64 a0)).setCell ⟨gb165, 1, none⟩ (.int .i64 0)).setCell ⟨gb165, 2, none⟩ (.string (⟨#[]⟩ : ByteArray))).setCell ⟨gb165, 1, none⟩ (.int .i64 (wrap64 (rd l1 0))))) := ⟨by repeat (first | (with_reducible first | exact HB.out | apply bl_a | apply bl_n | apply bl_d | refine below_set ?_ GE164.out | refine below_set ?_ GE165.out) | exact HB.out)⟩
     (try clear BK164)
     (try clear BK165)
     (try clear HB)
     generalize ((((w25.setCell ⟨gb165, 0, none⟩ (.int .i64 a0)).setCell ⟨gb165, 1, none⟩ (.int .i64 0)).setCell ⟨gb165, 2, none⟩ (.string (⟨#[]⟩ : ByteArray))).setCell ⟨gb165, 1, none⟩ (.int .i64 (wrap64 (rd l1 0)))) = w28 at n0_ n1_ n2_ ⊢
     have BK164 := n0_
     have BK165 := n1_
     have HB := n2_
     clear n0_ n1_ n2_
     have n0_ := ak_ (bk_d BK164.out)
     have n1_ := ak_ (bk_d BK165.out)
     have n2_ := ak_ (bl_d HB.out)
     clear BK164
     clear BK165
     clear HB
     have BK164 := n0_
     have BK165 := n1_
     have HB := n2_
     clear n0_ n1_ n2_
     refine start_ (n := 11) (S := fun w' => w'.cell? ⟨gb165, 0, none⟩ = some (.int .i64 a0) ∧ w'.cell? ⟨gb165, 1, none⟩ = some (.int .i64 (wrap64 (rd l1 0))) ∧ w'.cell? ⟨gb165, 2, none⟩ = some (.string (⟨#[]⟩ : ByteArray))) (ds := []) #[false, false, false, false, false, false, false, false, false, false, false] (by kernel_rfl) rfl rfl ⟨(blk_cell BK165.out 0).trans rfl, (blk_cell BK165.out 1).trans rfl, (blk_cell BK165.out 2).trans rfl⟩ (fun hHeld => ?_); refine with_tabW rabbetref1_takeOne.tab16 rabbetref1_takeOne.bits16 (fun HT_ HW_ => ?_)
     generalize w28.drew = w29 at BK164 BK165 HB hHeld ⊢
     refine pure_ (i := 1) (N := some 59) (v := ?_) (a' := ?_) #[false, true, false, false, false, false, false, false, false, false, false] rfl rfl (any_of HT_.out (by kernel_rfl)) (fun _ _ _ h => h) (Or.inl ⟨by rfl, ?_⟩) ?_ ?_
     rotate_left
     ·
      intro w'
      go_simp
      with_reducible rfl
     rotate_left
     ·
      simp only [Act.put, List.setIfInBounds_toArray, List.set_cons_zero, List.set_cons_succ, i64_w, i32_w]
      rfl
     refine take_ (i := 0) (N := some 58) (v := ?_) (a' := ?_) #[true, true, false, false, false, false, false, false, false, false, false] rfl rfl (take_ofW HT_.out HW_.out (by kernel_rfl)) (fun _ _ _ h => h) (Or.inl ⟨by rfl, ?_⟩) hHeld ?_ ?_
     rotate_left
     ·
      rintro w' ⟨s0, s1, s2⟩
      go_simp
      with_reducible rfl
     rotate_left
     ·
      simp only [Act.put, List.setIfInBounds_toArray, List.set_cons_zero, List.set_cons_succ, i64_w, i32_w]
      rfl
     refine take_ (i := 2) (N := some 60) (v := ?_) (a' := ?_) #[true, true, true, false, false, false, false, false, false, false, false] rfl rfl (take_ofW HT_.out HW_.out (by kernel_rfl)) (fun _ _ _ h => h) (Or.inl ⟨by rfl, ?_⟩) hHeld ?_ ?_
     rotate_left
     ·
      rintro w' ⟨s0, s1, s2⟩
      go_simp
      with_reducible rfl
     rotate_left
     ·
      simp only [Act.put, List.setIfInBounds_toArray, List.set_cons_zero, List.set_cons_succ, i64_w, i32_w]
      rfl
     refine one_ (i := 3) (N := some 61) #[true, true, true, true, false, false, false, false, false, false, false] rfl rfl (one_of HT_.out (by kernel_rfl)) (by decide) (fun K hK => ?_)
     refine goes_ Tryd.func70 (by kernel_rfl) rfl #[.agg #[.int .i64 a0, .int .i64 (wrap64 (rd l1 0)), .string (⟨#[]⟩ : ByteArray)]] (by rfl) rfl rfl (by (try simp only [List.map_toArray, List.map_cons, List.map_nil]); first | done | rfl | (simp only [List.length_drop, List.length_take]; rfl)) ?_
     with_reducible refine (rabbetref1_May.calls a0 (wrap64 (rd l1 0)) (⟨#[]⟩ : ByteArray) false _ A11.out).mono ?_
     rintro e w30 ⟨rfl, hb⟩
     refine ⟨_, rfl, ?_⟩
     have n0_ := ak_ (blk_below (g := gb164) (o := .cells #[.int .i64 0, .int .i64 0, .string (⟨#[]⟩ : ByteArray)] 26 (0, 0)) (by (with_reducible repeat (first | refine bk_n ?_ _ | refine bk_d ?_ | refine bk_a ?_ _)); exact BK164.out) hb)
     have n1_ := ak_ (blk_below (g := gb165) (o := .cells #[.int .i64 a0, .int .i64 (wrap64 (rd l1 0)), .string (⟨#[]⟩ : ByteArray)] 26 (0, 0)) (by (with_reducible repeat (first | refine bk_n ?_ _ | refine bk_d ?_ | refine bk_a ?_ _)); exact BK165.out) hb)
     have n2_ := ak_ (below_step (by repeat (first | (with_reducible first | exact HB.out | apply bl_a | apply bl_n | apply bl_d | refine below_set ?_ GE164.out | refine below_set ?_ GE165.out) | exact HB.out)) hb)
     clear BK164
     clear BK165
     clear HB
     have BK164 := n0_
     have BK165 := n1_
     have HB := n2_
     clear n0_ n1_ n2_
     (try clear hb)
     (try clear hb2)
     (try clear hk)
     (try clear hi)
     refine hK.out _ _ ⟨(blk_cell BK165.out 0).trans rfl, (blk_cell BK165.out 1).trans rfl, (blk_cell BK165.out 2).trans rfl⟩ (fun hHeld => ?_)
     clear hK K
     refine norm_ (a' := ?_) ?_ ?_
     rotate_left
     ·
      show Act.put _ (some 61) _ = _
      simp only [Act.put, List.setIfInBounds_toArray, List.set_cons_zero, List.set_cons_succ, i64_w, i32_w]
      rfl
     refine pure_ (i := 4) (N := some 62) (v := ?_) (a' := ?_) #[true, true, true, true, true, false, false, false, false, false, false] rfl rfl (any_of HT_.out (by kernel_rfl)) (fun _ _ _ h => h) (Or.inl ⟨by rfl, ?_⟩) ?_ ?_
     rotate_left
     ·
      intro w'
      go_simp
      with_reducible rfl
     rotate_left
     ·
      simp only [Act.put, List.setIfInBounds_toArray, List.set_cons_zero, List.set_cons_succ, i64_w, i32_w]
      rfl
     refine pure_ (i := 5) (N := some 63) (v := undef) (a' := ?_) #[true, true, true, true, true, true, false, false, false, false, false] rfl rfl (any_of HT_.out (by kernel_rfl)) (fun _ _ _ h => h) (Or.inr ⟨by rfl, rfl⟩) ?_ ?_
     rotate_left
     ·
      simp only [Act.put, List.setIfInBounds_toArray, List.set_cons_zero, List.set_cons_succ, i64_w, i32_w]
      rfl
     refine pure_ (i := 6) (N := some 64) (v := undef) (a' := ?_) #[true, true, true, true, true, true, true, false, false, false, false] rfl rfl (any_of HT_.out (by kernel_rfl)) (fun _ _ _ h => h) (Or.inr ⟨by rfl, rfl⟩) ?_ ?_
     rotate_left
     ·
      simp only [Act.put, List.setIfInBounds_toArray, List.set_cons_zero, List.set_cons_succ, i64_w, i32_w]
      rfl
     refine pure_ (i := 7) (N := some 65) (v := ?_) (a' := ?_) #[true, true, true, true, true, true, true, true, false, false, false] rfl rfl (any_of HT_.out (by kernel_rfl)) (fun _ _ _ h => h) (Or.inl ⟨by rfl, ?_⟩) ?_ ?_
     rotate_left
     ·
      intro w'
      go_simp
      with_reducible rfl
     rotate_left
     ·
      simp only [Act.put, List.setIfInBounds_toArray, List.set_cons_zero, List.set_cons_succ, i64_w, i32_w]
      rfl
     refine one_ (i := 8) (N := none) #[true, true, true, true, true, true, true, true, true, false, false] rfl rfl (one_of HT_.out (by kernel_rfl)) (by decide) (fun K hK => ?_)
     have hs31 : w30.cell? ⟨gb164, 0, none⟩ = some (.int .i64 0) := (blk_cell BK164.out 0).trans rfl
     have hfs31 := blk_frozen BK164.out 0
     have hns31_1 := NB165_164.out
     have hms31_1 := NB164_165.out
     have hs32 : w30.cell? ⟨gb164, 1, none⟩ = some (.int .i64 0) := (blk_cell BK164.out 1).trans rfl
     have hfs32 := blk_frozen BK164.out 1
     have hns32_1 := NB165_164.out
     have hms32_1 := NB164_165.out
     have hs33 : w30.cell? ⟨gb164, 2, none⟩ = some (.string (⟨#[]⟩ : ByteArray)) := (blk_cell BK164.out 2).trans rfl
     have hfs33 := blk_frozen BK164.out 2
     have hns33_1 := NB165_164.out
     have hms33_1 := NB164_165.out
     refine skip_ (w1 := ?_) (by rfl) rfl ?_ ?_
     rotate_left
     ·
      go_simp
      rfl
     refine hK.out _ _ ⟨((cell_far (p := ⟨gb164, _, none⟩) NB165_164.out _).trans (((cell_far (p := ⟨gb164, _, none⟩) NB165_164.out _).trans (((cell_far (p := ⟨gb164, _, none⟩) NB165_164.out _).trans (hHeld.1)))))), ((cell_far (p := ⟨gb164, _, none⟩) NB165_164.out _).trans (((cell_far (p := ⟨gb164, _, none⟩) NB165_164.out _).trans (((cell_far (p := ⟨gb164, _, none⟩) NB165_164.out _).trans (hHeld.2.1)))))), ((cell_far (p := ⟨gb164, _, none⟩) NB165_164.out _).trans (((cell_far (p := ⟨gb164, _, none⟩) NB165_164.out _).trans (((cell_far (p := ⟨gb164, _, none⟩) NB165_164.out _).trans (hHeld.2.2))))))⟩ (fun hHeld => ?_)
     clear hK K
     refine pure_ (i := 9) (N := some 5) (v := ?_) (a' := ?_) #[true, true, true, true, true, true, true, true, true, true, false] rfl rfl (any_of HT_.out (by kernel_rfl)) (fun _ _ _ h => h) (Or.inl ⟨by rfl, ?_⟩) ?_ ?_
     rotate_left
     ·
      intro w'
      go_simp
      with_reducible rfl
     rotate_left
     ·
      simp only [Act.put, List.setIfInBounds_toArray, List.set_cons_zero, List.set_cons_succ, i64_w, i32_w]
      rfl
     refine pure_ (i := 10) (N := some 6) (v := ?_) (a' := ?_) #[true, true, true, true, true, true, true, true, true, true, true] rfl rfl (any_of HT_.out (by kernel_rfl)) (fun _ _ _ h => h) (Or.inl ⟨by rfl, ?_⟩) ?_ ?_
     rotate_left
     ·
      intro w'
      go_simp
      with_reducible rfl
     rotate_left
     ·
      simp only [Act.put, List.setIfInBounds_toArray, List.set_cons_zero, List.set_cons_succ, i64_w, i32_w]
      rfl
     refine done_ (done_of HT_.out (by kernel_rfl)) ?_
     try go_wp2
     refine bodyPost_ret (results_ctt rfl _ _ gb164 26 #[.int .i64 a0, .int .i64 (wrap64 (rd l1 0)), .string (⟨#[]⟩ : ByteArray)] (0, 0) _ rfl (by (with_reducible repeat (first | refine bk_n ?_ _ | refine bk_d ?_ | refine bk_a ?_ _)); refine blk_put (cs := #[.int .i64 a0, .int .i64 (wrap64 (rd l1 0)), .string (⟨#[]⟩ : ByteArray)]) ?_ 2 _ rfl; (with_reducible repeat (first | refine bk_n ?_ _ | refine bk_d ?_ | refine bk_a ?_ _)); refine blk_put (cs := #[.int .i64 a0, .int .i64 0, .string (⟨#[]⟩ : ByteArray)]) ?_ 1 _ rfl; (with_reducible repeat (first | refine bk_n ?_ _ | refine bk_d ?_ | refine bk_a ?_ _)); refine blk_put (cs := #[.int .i64 0, .int .i64 0, .string (⟨#[]⟩ : ByteArray)]) ?_ 0 _ rfl; (with_reducible repeat (first | refine bk_n ?_ _ | refine bk_d ?_ | refine bk_a ?_ _)); exact BK164.out) Tryd.underlying26 rfl (by kernel_rfl)) rfl ?_
     exact ⟨by first | rfl | (simp [errW_none, errW_some] <;> rfl) | (simp [*, errW_none, errW_some] <;> rfl), by repeat (first | (with_reducible first | exact HB.out | apply bl_a | apply bl_n | apply bl_d | refine below_set ?_ GE164.out | refine below_set ?_ GE165.out) | exact HB.out)⟩
   ·
    rw [if_neg c10] at H
    exact absurd H (by simp)
  ·
   rw [if_neg c9] at H
   have c9b0 : (a0 == 3) = false := beq_eq_false_iff_ne.mpr c9
   have c9b1 : (a0 != 3) = true := bne_iff_ne.mpr c9
   by_cases c34 : a0 = 4
   ·
    rw [if_pos c34] at H
    have c34b0 : (a0 == 4) = true := beq_iff_eq.mpr c34
    have c34b1 : (a0 != 4) = false := bne_eq_false_iff_eq.mpr c34
    clear c34
    by_cases c35 : 0 < (l1.length : Int)
    ·
     rw [if_pos c35] at H
     have c35b0 : decide (0 < (l1.length : Int)) = true := decide_eq_true c35
     have c35b1 : decide (0 < l1.length) = true := decide_eq_true (by omega)
     (try (have c35b1p : (0 < l1.length) = True := eq_true (of_decide_eq_true c35b1)))
     clear c35
     by_cases c36 : (wrap64 (1 + (wrap64 (rd l1 0)))) > (l1.length : Int)
     ·
      rw [if_pos c36] at H
      have c36b0 : decide ((l1.length : Int) < (wrap64 (1 + (wrap64 (rd l1 0))))) = true := decide_eq_true c36
      clear c36
      simp only [Option.some.injEq, Prod.mk.injEq] at H
      obtain ⟨rfl, rfl, rfl, rfl, rfl⟩ := H
      go_enter Tryd.func63, Tryd.ntmps63
      go_wp2_with (first | ((with_reducible refine gate_dst (N := 4) rfl ?_); refine box_event ?hg (N := 4) ?hd (cs := #[.int .i64 0, .int .i64 0, .string (⟨#[]⟩ : ByteArray)]) (t := 26) ?hr ?_; (case hd => rfl); (case hg => rfl); (case hr => first | (go_simp; done) | (go_simp; rfl)); intro gb164 hg w37 hbox hb; have n0_ := ak_ (below_step (by repeat (first | (with_reducible first | exact HB.out | apply bl_a | apply bl_n | apply bl_d) | exact HB.out)) hb); have n1_ := ak_ (hbox); have n2_ := ak_ ((by rw [hg]; exact (below_size (by repeat (first | (with_reducible first | exact HB.out | apply bl_a | apply bl_n | apply bl_d) | exact HB.out))) : w.heap.size ≤ gb164)); have n3_ := ak_ ((by rw [hg]; exact (below_size (by repeat (first | (with_reducible first | exact HB.out | apply bl_a | apply bl_n | apply bl_d) | exact HB.out))) : w.heap.size ≤ gb164)); clear HB; have HB := n0_; have BK164 := n1_; have GW164 := n2_; have GE164 := n3_; clear n0_ n1_ n2_ n3_; clear hb hbox hg) | ((with_reducible refine gate_dst (N := 7) rfl ?_); refine box_event ?hg (N := 7) ?hd (cs := #[.int .i64 0, .int .i64 0, .string (⟨#[]⟩ : ByteArray)]) (t := 26) ?hr ?_; (case hd => rfl); (case hg => rfl); (case hr => first | (go_simp; done) | (go_simp; rfl)); intro gb165 hg w38 hbox hb; have n0_ := ak_ (blk_below (g := gb164) (o := .cells #[.int .i64 0, .int .i64 0, .string (⟨#[]⟩ : ByteArray)] 26 (0, 0)) (by (with_reducible repeat (first | refine bk_n ?_ _ | refine bk_d ?_ | refine bk_a ?_ _)); exact BK164.out) hb); have n1_ := ak_ (below_step (by repeat (first | (with_reducible first | exact HB.out | apply bl_a | apply bl_n | apply bl_d | refine below_set ?_ GE164.out) | exact HB.out)) hb); have n2_ := ak_ (hbox); have n3_ := ak_ ((by rw [hg]; exact (below_size (by repeat (first | (with_reducible first | exact HB.out | apply bl_a | apply bl_n | apply bl_d | refine below_set ?_ GE164.out) | exact HB.out))) : w.heap.size ≤ gb165)); have n4_ := ak_ ((by rw [hg]; exact (below_size (by repeat (first | (with_reducible first | exact HB.out | apply bl_a | apply bl_n | apply bl_d | refine below_set ?_ GE164.out) | exact HB.out))) : w.heap.size ≤ gb165)); have n5_ := ak_ ((by rw [hg]; exact Nat.ne_of_lt (blk_lt (g := gb164) (o := .cells #[.int .i64 0, .int .i64 0, .string (⟨#[]⟩ : ByteArray)] 26 (0, 0)) (by (with_reducible repeat (first | refine bk_n ?_ _ | refine bk_d ?_ | refine bk_a ?_ _)); exact BK164.out)) : gb164 ≠ gb165)); have n6_ := ak_ ((by rw [hg]; exact Nat.ne_of_gt (blk_lt (g := gb164) (o := .cells #[.int .i64 0, .int .i64 0, .string (⟨#[]⟩ : ByteArray)] 26 (0, 0)) (by (with_reducible repeat (first | refine bk_n ?_ _ | refine bk_d ?_ | refine bk_a ?_ _)); exact BK164.out)) : gb165 ≠ gb164)); clear BK164; clear HB; have BK164 := n0_; have HB := n1_; have BK165 := n2_; have GW165 := n3_; have GE165 := n4_; have NB164_165 := n5_; have NB165_164 := n6_; clear n0_ n1_ n2_ n3_ n4_ n5_ n6_; clear hb hbox hg; have hnb39 := NB165_164.out; have hnc39 := NB164_165.out; have hcz40_0 : w38.cell? ⟨gb165, 0, none⟩ = some (.int .i64 0) := (blk_cell BK165.out 0).trans rfl; have hcz40_1 : w38.cell? ⟨gb165, 1, none⟩ = some (.int .i64 0) := (blk_cell BK165.out 1).trans rfl; have hcz40_2 : w38.cell? ⟨gb165, 2, none⟩ = some (.string (⟨#[]⟩ : ByteArray)) := (blk_cell BK165.out 2).trans rfl; have hfz40_0 := blk_frozen BK165.out 0; have hfz40_1 := blk_frozen BK165.out 1; have hfz40_2 := blk_frozen BK165.out 2; have p169 : 0 ≤ (0 : Int) := (by omega); have q169 : 0 < (l1.length : Int) := of_decide_eq_true (by first | (with_reducible assumption) | assumption); obtain ⟨ad169, e169, hx169_0⟩ := Kd.at_int HR1.out 0 p169 q169; cases e169; have qi169 : (0 < l1.length) = True := eq_true (by omega); (try rw [show ((0 : Int)).toNat = 0 from rfl] at hx169_0); (try rw [Addr.add_zero'] at hx169_0); have hn169_0 : ad169.block ≠ gb165 := Nat.ne_of_lt (Nat.lt_of_lt_of_le (by have := World.block_lt_of_cell? _ _ hx169_0; first | rwa [add_block] at this | exact this) GW165.out); have hn169_1 : ad169.block ≠ gb165 := Nat.ne_of_lt (Nat.lt_of_lt_of_le (by have := World.block_lt_of_cell? _ _ hx169_0; first | rwa [add_block] at this | exact this) GW165.out); have hn169_2 : ad169.block ≠ gb165 := Nat.ne_of_lt (Nat.lt_of_lt_of_le (by have := World.block_lt_of_cell? _ _ hx169_0; first | rwa [add_block] at this | exact this) GW165.out); replace hx169_0 := (HB.out.cell (World.block_lt_of_cell? w _ hx169_0)).trans hx169_0; replace hx169_0 := (cell_far (p := ⟨gb165, 0, none⟩) (by first | (rw [add_block]; exact hn169_0) | (show (Addr.add _ _).block ≠ _; rw [add_block]; exact hn169_0) | exact hn169_0) (.int .i64 a0)).trans hx169_0; replace hx169_0 := (cell_far (p := ⟨gb165, 1, none⟩) (by first | (rw [add_block]; exact hn169_1) | (show (Addr.add _ _).block ≠ _; rw [add_block]; exact hn169_1) | exact hn169_1) (.int .i64 0)).trans hx169_0; replace hx169_0 := (cell_far (p := ⟨gb165, 2, none⟩) (by first | (rw [add_block]; exact hn169_2) | (show (Addr.add _ _).block ≠ _; rw [add_block]; exact hn169_2) | exact hn169_2) (.string (⟨#[]⟩ : ByteArray))).trans hx169_0; clear hn169_0; clear hn169_1; clear hn169_2; replace p169 := eq_true p169; replace q169 := eq_true q169; have hcz41_0 : w38.cell? ⟨gb164, 0, none⟩ = some (.int .i64 0) := (blk_cell BK164.out 0).trans rfl; have hcz41_1 : w38.cell? ⟨gb164, 1, none⟩ = some (.int .i64 0) := (blk_cell BK164.out 1).trans rfl; have hcz41_2 : w38.cell? ⟨gb164, 2, none⟩ = some (.string (⟨#[]⟩ : ByteArray)) := (blk_cell BK164.out 2).trans rfl; have hfz41_0 := blk_frozen BK164.out 0; have hfz41_1 := blk_frozen BK164.out 1; have hfz41_2 := blk_frozen BK164.out 2))
      refine bodyPost_ret (results_ctt rfl _ _ gb164 26 #[.int .i64 0, .int .i64 0, .string (⟨#[]⟩ : ByteArray)] (0, 0) _ rfl (by (with_reducible repeat (first | refine bk_n ?_ _ | refine bk_d ?_ | refine bk_a ?_ _)); refine blk_put (cs := #[.int .i64 0, .int .i64 0, .string (⟨#[]⟩ : ByteArray)]) ?_ 2 _ rfl; (with_reducible repeat (first | refine bk_n ?_ _ | refine bk_d ?_ | refine bk_a ?_ _)); refine blk_put (cs := #[.int .i64 0, .int .i64 0, .string (⟨#[]⟩ : ByteArray)]) ?_ 1 _ rfl; (with_reducible repeat (first | refine bk_n ?_ _ | refine bk_d ?_ | refine bk_a ?_ _)); refine blk_put (cs := #[.int .i64 0, .int .i64 0, .string (⟨#[]⟩ : ByteArray)]) ?_ 0 _ rfl; (with_reducible repeat (first | refine bk_n ?_ _ | refine bk_d ?_ | refine bk_a ?_ _)); refine blk_far ?_ NB164_165.out _; (with_reducible repeat (first | refine bk_n ?_ _ | refine bk_d ?_ | refine bk_a ?_ _)); refine blk_far ?_ NB164_165.out _; (with_reducible repeat (first | refine bk_n ?_ _ | refine bk_d ?_ | refine bk_a ?_ _)); refine blk_far ?_ NB164_165.out _; (with_reducible repeat (first | refine bk_n ?_ _ | refine bk_d ?_ | refine bk_a ?_ _)); exact BK164.out) Tryd.underlying26 rfl (by kernel_rfl)) rfl ?_
      exact ⟨by first | rfl | (simp [errW_none, errW_some] <;> rfl) | (simp [*, errW_none, errW_some] <;> rfl), by repeat (first | (with_reducible first | exact HB.out | apply bl_a | apply bl_n | apply bl_d | refine below_set ?_ GE164.out | refine below_set ?_ GE165.out) | exact HB.out)⟩
     ·
      rw [if_neg c36] at H
      have c36b0 : decide ((l1.length : Int) < (wrap64 (1 + (wrap64 (rd l1 0))))) = false := decide_eq_false c36
      clear c36
      by_cases c42 : 1 ≤ (wrap64 (1 + (wrap64 (rd l1 0))))
      ·
       rw [if_pos c42] at H
       have c42b0 := eq_true c42
       have c42b1 : decide (1 ≤ (wrap64 (1 + (wrap64 (rd l1 0))))) = true := decide_eq_true c42
       by_cases c43 : (wrap64 (1 + (wrap64 (rd l1 0)))) ≤ (l1.length : Int)
       ·
        rw [if_pos c43] at H
        have c43b0 := eq_true c43
        have c43b1 : decide ((wrap64 (1 + (wrap64 (rd l1 0)))) ≤ (l1.length : Int)) = true := decide_eq_true c43
        replace H := Option.bind_eq_some_iff.mp H
        obtain ⟨t171, A440, H⟩ := H
        replace H : (if t171 = true then ((rabbetref1_isType.f a0).bind fun t172 => (some (a0, 0, strOfNums ((l1.take ((wrap64 (1 + (wrap64 (rd l1 0)))) : Int).toNat).drop 1), wrap64 (1 + (wrap64 (rd l1 0))), t172))) else (some (a0, 0, strOfNums ((l1.take ((wrap64 (1 + (wrap64 (rd l1 0)))) : Int).toNat).drop 1), wrap64 (1 + (wrap64 (rd l1 0))), false))) = some (r1, r2, r3, r4, r5) := H
        have A44 := ak_ A440
        clear A440
        by_cases c45 : t171 = true
        ·
         subst c45
         have H1 : ((rabbetref1_isType.f a0).bind fun t172 => (some (a0, 0, strOfNums ((l1.take ((wrap64 (1 + (wrap64 (rd l1 0)))) : Int).toNat).drop 1), wrap64 (1 + (wrap64 (rd l1 0))), t172))) = some (r1, r2, r3, r4, r5) := by rw [if_pos rfl] at H; exact H
         clear H
         have H := H1
         clear H1
         replace H := Option.bind_eq_some_iff.mp H
         obtain ⟨t172, A460, H⟩ := H
         replace H : (some (a0, 0, strOfNums ((l1.take ((wrap64 (1 + (wrap64 (rd l1 0)))) : Int).toNat).drop 1), wrap64 (1 + (wrap64 (rd l1 0))), t172)) = some (r1, r2, r3, r4, r5) := H
         have A46 := ak_ A460
         clear A460
         simp only [Option.some.injEq, Prod.mk.injEq] at H
         obtain ⟨rfl, rfl, rfl, rfl, rfl⟩ := H
         (try (have e_ : t171 = t172 := (by (with_reducible exact Option.some.inj (A44.out.symm.trans A46.out))); subst e_))
         go_enter Tryd.func63, Tryd.ntmps63
         try go_wp2_with (first | ((with_reducible refine gate_dst (N := 4) rfl ?_); refine box_event ?hg (N := 4) ?hd (cs := #[.int .i64 0, .int .i64 0, .string (⟨#[]⟩ : ByteArray)]) (t := 26) ?hr ?_; (case hd => rfl); (case hg => rfl); (case hr => first | (go_simp; done) | (go_simp; rfl)); intro gb164 hg w47 hbox hb; have n0_ := ak_ (below_step (by repeat (first | (with_reducible first | exact HB.out | apply bl_a | apply bl_n | apply bl_d) | exact HB.out)) hb); have n1_ := ak_ (hbox); have n2_ := ak_ ((by rw [hg]; exact (below_size (by repeat (first | (with_reducible first | exact HB.out | apply bl_a | apply bl_n | apply bl_d) | exact HB.out))) : w.heap.size ≤ gb164)); have n3_ := ak_ ((by rw [hg]; exact (below_size (by repeat (first | (with_reducible first | exact HB.out | apply bl_a | apply bl_n | apply bl_d) | exact HB.out))) : w.heap.size ≤ gb164)); clear HB; have HB := n0_; have BK164 := n1_; have GW164 := n2_; have GE164 := n3_; clear n0_ n1_ n2_ n3_; clear hb hbox hg) | ((with_reducible refine gate_dst (N := 7) rfl ?_); refine box_event ?hg (N := 7) ?hd (cs := #[.int .i64 0, .int .i64 0, .string (⟨#[]⟩ : ByteArray)]) (t := 26) ?hr ?_; (case hd => rfl); (case hg => rfl); (case hr => first | (go_simp; done) | (go_simp; rfl)); intro gb165 hg w48 hbox hb; have n0_ := ak_ (blk_below (g := gb164) (o := .cells #[.int .i64 0, .int .i64 0, .string (⟨#[]⟩ : ByteArray)] 26 (0, 0)) (by (with_reducible repeat (first | refine bk_n ?_ _ | refine bk_d ?_ | refine bk_a ?_ _)); exact BK164.out) hb); have n1_ := ak_ (below_step (by repeat (first | (with_reducible first | exact HB.out | apply bl_a | apply bl_n | apply bl_d | refine below_set ?_ GE164.out) | exact HB.out)) hb); have n2_ := ak_ (hbox); have n3_ := ak_ ((by rw [hg]; exact (below_size (by repeat (first | (with_reducible first | exact HB.out | apply bl_a | apply bl_n | apply bl_d | refine below_set ?_ GE164.out) | exact HB.out))) : w.heap.size ≤ gb165)); have n4_ := ak_ ((by rw [hg]; exact (below_size (by repeat (first | (with_reducible first | exact HB.out | apply bl_a | apply bl_n | apply bl_d | refine below_set ?_ GE164.out) | exact HB.out))) : w.heap.size ≤ gb165)); have n5_ := ak_ ((by rw [hg]; exact Nat.ne_of_lt (blk_lt (g := gb164) (o := .cells #[.int .i64 0, .int .i64 0, .string (⟨#[]⟩ : ByteArray)] 26 (0, 0)) (by (with_reducible repeat (first | refine bk_n ?_ _ | refine bk_d ?_ | refine bk_a ?_ _)); exact BK164.out)) : gb164 ≠ gb165)); have n6_ := ak_ ((by rw [hg]; exact Nat.ne_of_gt (blk_lt (g := gb164) (o := .cells #[.int .i64 0, .int .i64 0, .string (⟨#[]⟩ : ByteArray)] 26 (0, 0)) (by (with_reducible repeat (first | refine bk_n ?_ _ | refine bk_d ?_ | refine bk_a ?_ _)); exact BK164.out)) : gb165 ≠ gb164)); clear BK164; clear HB; have BK164 := n0_; have HB := n1_; have BK165 := n2_; have GW165 := n3_; have GE165 := n4_; have NB164_165 := n5_; have NB165_164 := n6_; clear n0_ n1_ n2_ n3_ n4_ n5_ n6_; clear hb hbox hg; have hnb49 := NB165_164.out; have hnc49 := NB164_165.out; have hcz50_0 : w48.cell? ⟨gb165, 0, none⟩ = some (.int .i64 0) := (blk_cell BK165.out 0).trans rfl; have hcz50_1 : w48.cell? ⟨gb165, 1, none⟩ = some (.int .i64 0) := (blk_cell BK165.out 1).trans rfl; have hcz50_2 : w48.cell? ⟨gb165, 2, none⟩ = some (.string (⟨#[]⟩ : ByteArray)) := (blk_cell BK165.out 2).trans rfl; have hfz50_0 := blk_frozen BK165.out 0; have hfz50_1 := blk_frozen BK165.out 1; have hfz50_2 := blk_frozen BK165.out 2; have p169 : 0 ≤ (0 : Int) := (by omega); have q169 : 0 < (l1.length : Int) := of_decide_eq_true (by first | (with_reducible assumption) | assumption); obtain ⟨ad169, e169, hx169_0⟩ := Kd.at_int HR1.out 0 p169 q169; cases e169; have qi169 : (0 < l1.length) = True := eq_true (by omega); (try rw [show ((0 : Int)).toNat = 0 from rfl] at hx169_0); (try rw [Addr.add_zero'] at hx169_0); have hn169_0 : ad169.block ≠ gb165 := Nat.ne_of_lt (Nat.lt_of_lt_of_le (by have := World.block_lt_of_cell? _ _ hx169_0; first | rwa [add_block] at this | exact this) GW165.out); have hn169_1 : ad169.block ≠ gb165 := Nat.ne_of_lt (Nat.lt_of_lt_of_le (by have := World.block_lt_of_cell? _ _ hx169_0; first | rwa [add_block] at this | exact this) GW165.out); have hn169_2 : ad169.block ≠ gb165 := Nat.ne_of_lt (Nat.lt_of_lt_of_le (by have := World.block_lt_of_cell? _ _ hx169_0; first | rwa [add_block] at this | exact this) GW165.out); replace hx169_0 := (HB.out.cell (World.block_lt_of_cell? w _ hx169_0)).trans hx169_0; replace hx169_0 := (cell_far (p := ⟨gb165, 0, none⟩) (by first | (rw [add_block]; exact hn169_0) | (show (Addr.add _ _).block ≠ _; rw [add_block]; exact hn169_0) | exact hn169_0) (.int .i64 a0)).trans hx169_0; replace hx169_0 := (cell_far (p := ⟨gb165, 1, none⟩) (by first | (rw [add_block]; exact hn169_1) | (show (Addr.add _ _).block ≠ _; rw [add_block]; exact hn169_1) | exact hn169_1) (.int .i64 0)).trans hx169_0; replace hx169_0 := (cell_far (p := ⟨gb165, 2, none⟩) (by first | (rw [add_block]; exact hn169_2) | (show (Addr.add _ _).block ≠ _; rw [add_block]; exact hn169_2) | exact hn169_2) (.string (⟨#[]⟩ : ByteArray))).trans hx169_0; clear hn169_0; clear hn169_1; clear hn169_2; replace p169 := eq_true p169; replace q169 := eq_true q169; obtain ⟨i051, hi051, _, hsz51, _⟩ := info_parts info5; obtain ⟨A51, hcut51, hA51, hC51⟩ := print_mid_of (P := Tryd.prog) (Value.int .u8) 0 22 5 .i64 .i64 Tryd.underlying22 hi051 hsz51 (some ad169) c1 l1 1 (wrap64 (1 + (wrap64 (rd l1 0)))) (by omega) (by first | omega | exact of_decide_eq_true (by first | (with_reducible assumption) | assumption)) (of_decide_eq_true (by first | (with_reducible assumption) | assumption)) HC1.out; have HR170 := ak_ (Kd.C_of_reads (h1 := fun _ => rfl) (hA51 _ (Kd.reads_of_C HR1.out))); have HC170 := ak_ hC51; clear hA51 hC51 hi051 hsz51; have hcv52 := Kd.C_string (P := Tryd.prog) (A := A51) (c := (c1 - 1)) Tryd.underlying22 Tryd.underlying5 Tryd.underlying9 (Kd.C_below HR170.out (show Below w.heap.size w (((w48.setCell ⟨gb165, 0, none⟩ (.int .i64 a0)).setCell ⟨gb165, 1, none⟩ (.int .i64 0)).setCell ⟨gb165, 2, none⟩ (.string (⟨#[]⟩ : ByteArray))) from by repeat (first | (with_reducible first | exact HB.out | apply bl_a | apply bl_n | apply bl_d | refine below_set ?_ GE164.out | refine below_set ?_ GE165.out) | exact HB.out))); (try (have hcv52l := hcv52; (try simp only [Int.reduceToNat] at hcv52l); rw [show ((l1.take ((wrap64 (1 + (wrap64 (rd l1 0)))) : Int).toNat).drop 1).length = ((wrap64 (1 + (wrap64 (rd l1 0)))).toNat - 1) from (by rw [List.length_drop, List.length_take]; have h_ : ((wrap64 (1 + (wrap64 (rd l1 0)))) : Int) ≤ (l1.length : Int) := of_decide_eq_true (by first | (with_reducible assumption) | assumption); omega)] at hcv52l))))
         have n0_ : Aside0 (((((w48.setCell ⟨gb165, 0, none⟩ (.int .i64 a0)).setCell ⟨gb165, 1, none⟩ (.int .i64 0)).setCell ⟨gb165, 2, none⟩ (.string (⟨#[]⟩ : ByteArray))).setCell ⟨gb165, 2, none⟩ (.string (strOfNums ((l1.take ((wrap64 (1 + (wrap64 (rd l1 0)))) : Int).toNat).drop 1)))).heap[gb164]? = some (.cells #[.int .i64 0, .int .i64 0, .string (⟨#[]⟩ : ByteArray)] 26 (0, 0))) := ⟨by (with_reducible repeat (first | refine bk_n ?_ _ | refine bk_d ?_ | refine bk_a ?_ _)); refine blk_far ?_ NB164_165.out _; (with_reducible repeat (first | refine bk_n ?_ _ | refine bk_d ?_ | refine bk_a ?_ _)); refine blk_far ?_ NB164_165.out _; (with_reducible repeat (first | refine bk_n ?_ _ | refine bk_d ?_ | refine bk_a ?_ _)); refine blk_far ?_ NB164_165.out _; (with_reducible repeat (first | refine bk_n ?_ _ | refine bk_d ?_ | refine bk_a ?_ _)); refine blk_far ?_ NB164_165.out _; (with_reducible repeat (first | refine bk_n ?_ _ | refine bk_d ?_ | refine bk_a ?_ _)); exact BK164.out⟩
         have n1_ : Aside0 (((((w48.setCell ⟨gb165, 0, none⟩ (.int .i64 a0)).setCell ⟨gb165, 1, none⟩ (.int .i64 0)).setCell ⟨gb165, 2, none⟩ (.string (⟨#[]⟩ : ByteArray))).setCell ⟨gb165, 2, none⟩ (.string (strOfNums ((l1.take ((wrap64 (1 + (wrap64 (rd l1 0)))) : Int).toNat).drop 1)))).heap[gb165]? = some (.cells #[.int .i64 a0, .int .i64 0, .string (strOfNums ((l1.take ((wrap64 (1 + (wrap64 (rd l1 0)))) : Int).toNat).drop 1))] 26 (0, 0))) := ⟨by (with_reducible repeat (first | refine bk_n ?_ _ | refine bk_d ?_ | refine bk_a ?_ _)); refine blk_put (cs := #[.int .i64 a0, .int .i64 0, .string (⟨#[]⟩ : ByteArray)]) ?_ 2 _ rfl; (with_reducible repeat (first | refine bk_n ?_ _ | refine bk_d ?_ | refine bk_a ?_ _)); refine blk_put (cs := #[.int .i64 a0, .int .i64 0, .string (⟨#[]⟩ : ByteArray)]) ?_ 2 _ rfl; (with_reducible repeat (first | refine bk_n ?_ _ | refine bk_d ?_ | refine bk_a ?_ _)); refine blk_put (cs := #[.int .i64 a0, .int .i64 0, .string (⟨#[]⟩ : ByteArray)]) ?_ 1 _ rfl; (with_reducible repeat (first | refine bk_n ?_ _ | refine bk_d ?_ | refine bk_a ?_ _)); refine blk_put (cs := #[.int .i64 0, .int .i64 0, .string (⟨#[]⟩ : ByteArray)]) ?_ 0 _ rfl; (with_reducible repeat (first | refine bk_n ?_ _ | refine bk_d ?_ | refine bk_a ?_ _)); exact BK165.out⟩
         have n2_ : Aside0 (Below w.heap.size w ((((w48.setCell ⟨gb165, 0, none⟩ (.int .i64 a0)).setCell ⟨gb165, 1, none⟩ (.int .i64 0)).setCell ⟨gb165, 2, none⟩ (.string (⟨#[]⟩ : ByteArray))).setCell ⟨gb165, 2, none⟩ (.string (strOfNums ((l1.take ((wrap64 (1 + (wrap64 (rd l1 0)))) : Int).toNat).drop 1))))) := ⟨by repeat (first | (with_reducible first | exact HB.out | apply bl_a | apply bl_n | apply bl_d | refine below_set ?_ GE164.out | refine below_set ?_ GE165.out) | exact HB.out)⟩
         (try clear BK164)
         (try clear BK165)
         (try clear HB)
         (try rw [← List.drop_one])
         generalize ((((w48.setCell ⟨gb165, 0, none⟩ (.int .i64 a0)).setCell ⟨gb165, 1, none⟩ (.int .i64 0)).setCell ⟨gb165, 2, none⟩ (.string (⟨#[]⟩ : ByteArray))).setCell ⟨gb165, 2, none⟩ (.string (strOfNums ((l1.take ((wrap64 (1 + (wrap64 (rd l1 0)))) : Int).toNat).drop 1)))) = w53 at n0_ n1_ n2_ ⊢
         have BK164 := n0_
         have BK165 := n1_
         have HB := n2_
         clear n0_ n1_ n2_
         have n0_ := ak_ (bk_d BK164.out)
         have n1_ := ak_ (bk_d BK165.out)
         have n2_ := ak_ (bl_d HB.out)
         clear BK164
         clear BK165
         clear HB
         have BK164 := n0_
         have BK165 := n1_
         have HB := n2_
         clear n0_ n1_ n2_
         refine start_ (n := 11) (S := fun w' => w'.cell? ⟨gb165, 0, none⟩ = some (.int .i64 a0) ∧ w'.cell? ⟨gb165, 1, none⟩ = some (.int .i64 0) ∧ w'.cell? ⟨gb165, 2, none⟩ = some (.string (strOfNums ((l1.take ((wrap64 (1 + (wrap64 (rd l1 0)))) : Int).toNat).drop 1)))) (ds := []) #[false, false, false, false, false, false, false, false, false, false, false] (by kernel_rfl) rfl rfl ⟨(blk_cell BK165.out 0).trans rfl, (blk_cell BK165.out 1).trans rfl, (blk_cell BK165.out 2).trans rfl⟩ (fun hHeld => ?_); refine with_tabW rabbetref1_takeOne.tab16 rabbetref1_takeOne.bits16 (fun HT_ HW_ => ?_)
         generalize w53.drew = w54 at BK164 BK165 HB hHeld ⊢
         refine pure_ (i := 1) (N := some 59) (v := ?_) (a' := ?_) #[false, true, false, false, false, false, false, false, false, false, false] rfl rfl (any_of HT_.out (by kernel_rfl)) (fun _ _ _ h => h) (Or.inl ⟨by rfl, ?_⟩) ?_ ?_
         rotate_left
         ·
          intro w'
          go_simp
          with_reducible rfl
         rotate_left
         ·
          simp only [Act.put, List.setIfInBounds_toArray, List.set_cons_zero, List.set_cons_succ, i64_w, i32_w]
          rfl
         refine take_ (i := 0) (N := some 58) (v := ?_) (a' := ?_) #[true, true, false, false, false, false, false, false, false, false, false] rfl rfl (take_ofW HT_.out HW_.out (by kernel_rfl)) (fun _ _ _ h => h) (Or.inl ⟨by rfl, ?_⟩) hHeld ?_ ?_
         rotate_left
         ·
          rintro w' ⟨s0, s1, s2⟩
          go_simp
          with_reducible rfl
         rotate_left
         ·
          simp only [Act.put, List.setIfInBounds_toArray, List.set_cons_zero, List.set_cons_succ, i64_w, i32_w]
          rfl
         refine take_ (i := 2) (N := some 60) (v := ?_) (a' := ?_) #[true, true, true, false, false, false, false, false, false, false, false] rfl rfl (take_ofW HT_.out HW_.out (by kernel_rfl)) (fun _ _ _ h => h) (Or.inl ⟨by rfl, ?_⟩) hHeld ?_ ?_
         rotate_left
         ·
          rintro w' ⟨s0, s1, s2⟩
          go_simp
          with_reducible rfl
         rotate_left
         ·
          simp only [Act.put, List.setIfInBounds_toArray, List.set_cons_zero, List.set_cons_succ, i64_w, i32_w]
          rfl
         refine one_ (i := 3) (N := some 61) #[true, true, true, true, false, false, false, false, false, false, false] rfl rfl (one_of HT_.out (by kernel_rfl)) (by decide) (fun K hK => ?_)
         refine goes_ Tryd.func70 (by kernel_rfl) rfl #[.agg #[.int .i64 a0, .int .i64 0, .string (strOfNums ((l1.take ((wrap64 (1 + (wrap64 (rd l1 0)))) : Int).toNat).drop 1))]] (by rfl) rfl rfl (by (try simp only [List.map_toArray, List.map_cons, List.map_nil]); first | done | rfl | (rw [← List.drop_one]; rfl) | (rw [List.drop_one]; rfl) | (simp only [List.length_drop, List.length_take]; rfl)) ?_
         with_reducible refine (rabbetref1_May.calls a0 0 (strOfNums ((l1.take ((wrap64 (1 + (wrap64 (rd l1 0)))) : Int).toNat).drop 1)) true _ A44.out).mono ?_
         rintro e w55 ⟨rfl, hb⟩
         refine ⟨_, rfl, ?_⟩
         have n0_ := ak_ (blk_below (g := gb164) (o := .cells #[.int .i64 0, .int .i64 0, .string (⟨#[]⟩ : ByteArray)] 26 (0, 0)) (by (with_reducible repeat (first | refine bk_n ?_ _ | refine bk_d ?_ | refine bk_a ?_ _)); exact BK164.out) hb)
         have n1_ := ak_ (blk_below (g := gb165) (o := .cells #[.int .i64 a0, .int .i64 0, .string (strOfNums ((l1.take ((wrap64 (1 + (wrap64 (rd l1 0)))) : Int).toNat).drop 1))] 26 (0, 0)) (by (with_reducible repeat (first | refine bk_n ?_ _ | refine bk_d ?_ | refine bk_a ?_ _)); exact BK165.out) hb)
         have n2_ := ak_ (below_step (by repeat (first | (with_reducible first | exact HB.out | apply bl_a | apply bl_n | apply bl_d | refine below_set ?_ GE164.out | refine below_set ?_ GE165.out) | exact HB.out)) hb)
         clear BK164
         clear BK165
         clear HB
         have BK164 := n0_
         have BK165 := n1_
         have HB := n2_
         clear n0_ n1_ n2_
         (try clear hb)
         (try clear hb2)
         (try clear hk)
         (try clear hi)
         refine hK.out _ _ ⟨(blk_cell BK165.out 0).trans rfl, (blk_cell BK165.out 1).trans rfl, (blk_cell BK165.out 2).trans rfl⟩ (fun hHeld => ?_)
         clear hK K
         refine norm_ (a' := ?_) ?_ ?_
         rotate_left
         ·
          show Act.put _ (some 61) _ = _
          simp only [Act.put, List.setIfInBounds_toArray, List.set_cons_zero, List.set_cons_succ, i64_w, i32_w]
          rfl
         refine pure_ (i := 4) (N := some 62) (v := ?_) (a' := ?_) #[true, true, true, true, true, false, false, false, false, false, false] rfl rfl (any_of HT_.out (by kernel_rfl)) (fun _ _ _ h => h) (Or.inl ⟨by rfl, ?_⟩) ?_ ?_
         rotate_left
         ·
          intro w'
          go_simp
          with_reducible rfl
         rotate_left
         ·
          simp only [Act.put, List.setIfInBounds_toArray, List.set_cons_zero, List.set_cons_succ, i64_w, i32_w]
          rfl
         refine pure_ (i := 5) (N := some 63) (v := ?_) (a' := ?_) #[true, true, true, true, true, true, false, false, false, false, false] rfl rfl (any_of HT_.out (by kernel_rfl)) (fun _ _ _ h => h) (Or.inl ⟨by rfl, ?_⟩) ?_ ?_
         rotate_left
         ·
          intro w'
          go_simp
          with_reducible rfl
         rotate_left
         ·
          simp only [Act.put, List.setIfInBounds_toArray, List.set_cons_zero, List.set_cons_succ, i64_w, i32_w]
          rfl
         refine one_ (i := 6) (N := some 64) #[true, true, true, true, true, true, true, false, false, false, false] rfl rfl (one_of HT_.out (by kernel_rfl)) (by decide) (fun K hK => ?_)
         refine goes_ Tryd.func42 (by kernel_rfl) rfl #[.int .i64 a0] (by rfl) rfl rfl (by (try simp only [List.map_toArray, List.map_cons, List.map_nil]); first | done | rfl | (simp only [List.length_drop, List.length_take]; rfl)) ?_
         with_reducible refine (rabbetref1_isType.calls a0 t172 _ A46.out).mono ?_
         rintro e w' ⟨rfl, ⟨nd, rfl⟩⟩
         refine ⟨_, rfl, ?_⟩
         refine hK.out _ _ ⟨(blk_cell BK165.out 0).trans rfl, (blk_cell BK165.out 1).trans rfl, (blk_cell BK165.out 2).trans rfl⟩ (fun hHeld => ?_)
         clear hK K
         refine norm_ (a' := ?_) ?_ ?_
         rotate_left
         ·
          show Act.put _ (some 64) _ = _
          simp only [Act.put, List.setIfInBounds_toArray, List.set_cons_zero, List.set_cons_succ, i64_w, i32_w]
          rfl
         refine pure_ (i := 7) (N := some 65) (v := ?_) (a' := ?_) #[true, true, true, true, true, true, true, true, false, false, false] rfl rfl (any_of HT_.out (by kernel_rfl)) (fun _ _ _ h => h) (Or.inl ⟨by rfl, ?_⟩) ?_ ?_
         rotate_left
         ·
          intro w'
          go_simp
          with_reducible rfl
         rotate_left
         ·
          simp only [Act.put, List.setIfInBounds_toArray, List.set_cons_zero, List.set_cons_succ, i64_w, i32_w]
          rfl
         refine one_ (i := 8) (N := none) #[true, true, true, true, true, true, true, true, true, false, false] rfl rfl (one_of HT_.out (by kernel_rfl)) (by decide) (fun K hK => ?_)
         have hs56 : w55.cell? ⟨gb164, 0, none⟩ = some (.int .i64 0) := (blk_cell BK164.out 0).trans rfl
         have hfs56 := blk_frozen BK164.out 0
         have hns56_1 := NB165_164.out
         have hms56_1 := NB164_165.out
         have hs57 : w55.cell? ⟨gb164, 1, none⟩ = some (.int .i64 0) := (blk_cell BK164.out 1).trans rfl
         have hfs57 := blk_frozen BK164.out 1
         have hns57_1 := NB165_164.out
         have hms57_1 := NB164_165.out
         have hs58 : w55.cell? ⟨gb164, 2, none⟩ = some (.string (⟨#[]⟩ : ByteArray)) := (blk_cell BK164.out 2).trans rfl
         have hfs58 := blk_frozen BK164.out 2
         have hns58_1 := NB165_164.out
         have hms58_1 := NB164_165.out
         refine skip_ (w1 := ?_) (by rfl) rfl ?_ ?_
         rotate_left
         ·
          go_simp
          rfl
         refine hK.out _ _ ⟨((cell_far (p := ⟨gb164, _, none⟩) NB165_164.out _).trans (((cell_far (p := ⟨gb164, _, none⟩) NB165_164.out _).trans (((cell_far (p := ⟨gb164, _, none⟩) NB165_164.out _).trans (hHeld.1)))))), ((cell_far (p := ⟨gb164, _, none⟩) NB165_164.out _).trans (((cell_far (p := ⟨gb164, _, none⟩) NB165_164.out _).trans (((cell_far (p := ⟨gb164, _, none⟩) NB165_164.out _).trans (hHeld.2.1)))))), ((cell_far (p := ⟨gb164, _, none⟩) NB165_164.out _).trans (((cell_far (p := ⟨gb164, _, none⟩) NB165_164.out _).trans (((cell_far (p := ⟨gb164, _, none⟩) NB165_164.out _).trans (hHeld.2.2))))))⟩ (fun hHeld => ?_)
         clear hK K
         refine pure_ (i := 9) (N := some 5) (v := ?_) (a' := ?_) #[true, true, true, true, true, true, true, true, true, true, false] rfl rfl (any_of HT_.out (by kernel_rfl)) (fun _ _ _ h => h) (Or.inl ⟨by rfl, ?_⟩) ?_ ?_
         rotate_left
         ·
          intro w'
          go_simp
          with_reducible rfl
         rotate_left
         ·
          simp only [Act.put, List.setIfInBounds_toArray, List.set_cons_zero, List.set_cons_succ, i64_w, i32_w]
          rfl
         refine pure_ (i := 10) (N := some 6) (v := ?_) (a' := ?_) #[true, true, true, true, true, true, true, true, true, true, true] rfl rfl (any_of HT_.out (by kernel_rfl)) (fun _ _ _ h => h) (Or.inl ⟨by rfl, ?_⟩) ?_ ?_
         rotate_left
         ·
          intro w'
          go_simp
          with_reducible rfl
         rotate_left
         ·
          simp only [Act.put, List.setIfInBounds_toArray, List.set_cons_zero, List.set_cons_succ, i64_w, i32_w]
          rfl
         refine done_ (done_of HT_.out (by kernel_rfl)) ?_
         try go_wp2
         (try rw [← List.drop_one])
         refine bodyPost_ret (results_ctt rfl _ _ gb164 26 #[.int .i64 a0, .int .i64 0, .string (strOfNums ((l1.take ((wrap64 (1 + (wrap64 (rd l1 0)))) : Int).toNat).drop 1))] (0, 0) _ rfl (by (with_reducible repeat (first | refine bk_n ?_ _ | refine bk_d ?_ | refine bk_a ?_ _)); refine blk_put (cs := #[.int .i64 a0, .int .i64 0, .string (⟨#[]⟩ : ByteArray)]) ?_ 2 _ rfl; (with_reducible repeat (first | refine bk_n ?_ _ | refine bk_d ?_ | refine bk_a ?_ _)); refine blk_put (cs := #[.int .i64 a0, .int .i64 0, .string (⟨#[]⟩ : ByteArray)]) ?_ 1 _ rfl; (with_reducible repeat (first | refine bk_n ?_ _ | refine bk_d ?_ | refine bk_a ?_ _)); refine blk_put (cs := #[.int .i64 0, .int .i64 0, .string (⟨#[]⟩ : ByteArray)]) ?_ 0 _ rfl; (with_reducible repeat (first | refine bk_n ?_ _ | refine bk_d ?_ | refine bk_a ?_ _)); exact BK164.out) Tryd.underlying26 rfl (by kernel_rfl)) rfl ?_
         exact ⟨by first | rfl | (simp [errW_none, errW_some] <;> rfl) | (simp [*, errW_none, errW_some] <;> rfl), by repeat (first | (with_reducible first | exact HB.out | apply bl_a | apply bl_n | apply bl_d | refine below_set ?_ GE164.out | refine below_set ?_ GE165.out) | exact HB.out)⟩
        ·
         replace c45 := Bool.eq_false_iff.mpr c45
         subst c45
         have H1 : (some (a0, 0, strOfNums ((l1.take ((wrap64 (1 + (wrap64 (rd l1 0)))) : Int).toNat).drop 1), wrap64 (1 + (wrap64 (rd l1 0))), false)) = some (r1, r2, r3, r4, r5) := by rw [if_neg (show ¬ (false = true) by decide)] at H; exact H
         clear H
         have H := H1
         clear H1
         simp only [Option.some.injEq, Prod.mk.injEq] at H
         obtain ⟨rfl, rfl, rfl, rfl, rfl⟩ := H
         go_enter Tryd.func63, Tryd.ntmps63
         try go_wp2_with (first | ((with_reducible refine gate_dst (N := 4) rfl ?_); refine box_event ?hg (N := 4) ?hd (cs := #[.int .i64 0, .int .i64 0, .string (⟨#[]⟩ : ByteArray)]) (t := 26) ?hr ?_; (case hd => rfl); (case hg => rfl); (case hr => first | (go_simp; done) | (go_simp; rfl)); intro gb164 hg w59 hbox hb; have n0_ := ak_ (below_step (by repeat (first | (with_reducible first | exact HB.out | apply bl_a | apply bl_n | apply bl_d) | exact HB.out)) hb); have n1_ := ak_ (hbox); have n2_ := ak_ ((by rw [hg]; exact (below_size (by repeat (first | (with_reducible first | exact HB.out | apply bl_a | apply bl_n | apply bl_d) | exact HB.out))) : w.heap.size ≤ gb164)); have n3_ := ak_ ((by rw [hg]; exact (below_size (by repeat (first | (with_reducible first | exact HB.out | apply bl_a | apply bl_n | apply bl_d) | exact HB.out))) : w.heap.size ≤ gb164)); clear HB; have HB := n0_; have BK164 := n1_; have GW164 := n2_; have GE164 := n3_; clear n0_ n1_ n2_ n3_; clear hb hbox hg) | ((with_reducible refine gate_dst (N := 7) rfl ?_); refine box_event ?hg (N := 7) ?hd (cs := #[.int .i64 0, .int .i64 0, .string (⟨#[]⟩ : ByteArray)]) (t := 26) ?hr ?_; (case hd => rfl); (case hg => rfl); (case hr => first | (go_simp; done) | (go_simp; rfl)); intro gb165 hg w60 hbox hb; have n0_ := ak_ (blk_below (g := gb164) (o := .cells #[.int .i64 0, .int .i64 0, .string (⟨#[]⟩ : ByteArray)] 26 (0, 0)) (by (with_reducible repeat (first | refine bk_n ?_ _ | refine bk_d ?_ | refine bk_a ?_ _)); exact BK164.out) hb); have n1_ := ak_ (below_step (by repeat (first | (with_reducible first | exact HB.out | apply bl_a | apply bl_n | apply bl_d | refine below_set ?_ GE164.out) | exact HB.out)) hb); have n2_ := ak_ (hbox); have n3_ := ak_ ((by rw [hg]; exact (below_size (by repeat (first | (with_reducible first | exact HB.out | apply bl_a | apply bl_n | apply bl_d | refine below_set ?_ GE164.out) | exact HB.out))) : w.heap.size ≤ gb165)); have n4_ := ak_ ((by rw [hg]; exact (below_size (by repeat (first | (with_reducible first | exact HB.out | apply bl_a | apply bl_n | apply bl_d | refine below_set ?_ GE164.out) | exact HB.out))) : w.heap.size ≤ gb165)); have n5_ := ak_ ((by rw [hg]; exact Nat.ne_of_lt (blk_lt (g := gb164) (o := .cells #[.int .i64 0, .int .i64 0, .string (⟨#[]⟩ : ByteArray)] 26 (0, 0)) (by (with_reducible repeat (first | refine bk_n ?_ _ | refine bk_d ?_ | refine bk_a ?_ _)); exact BK164.out)) : gb164 ≠ gb165)); have n6_ := ak_ ((by rw [hg]; exact Nat.ne_of_gt (blk_lt (g := gb164) (o := .cells #[.int .i64 0, .int .i64 0, .string (⟨#[]⟩ : ByteArray)] 26 (0, 0)) (by (with_reducible repeat (first | refine bk_n ?_ _ | refine bk_d ?_ | refine bk_a ?_ _)); exact BK164.out)) : gb165 ≠ gb164)); clear BK164; clear HB; have BK164 := n0_; have HB := n1_; have BK165 := n2_; have GW165 := n3_; have GE165 := n4_; have NB164_165 := n5_; have NB165_164 := n6_; clear n0_ n1_ n2_ n3_ n4_ n5_ n6_; clear hb hbox hg; have hnb61 := NB165_164.out; have hnc61 := NB164_165.out; have hcz62_0 : w60.cell? ⟨gb165, 0, none⟩ = some (.int .i64 0) := (blk_cell BK165.out 0).trans rfl; have hcz62_1 : w60.cell? ⟨gb165, 1, none⟩ = some (.int .i64 0) := (blk_cell BK165.out 1).trans rfl; have hcz62_2 : w60.cell? ⟨gb165, 2, none⟩ = some (.string (⟨#[]⟩ : ByteArray)) := (blk_cell BK165.out 2).trans rfl; have hfz62_0 := blk_frozen BK165.out 0; have hfz62_1 := blk_frozen BK165.out 1; have hfz62_2 := blk_frozen BK165.out 2; have p169 : 0 ≤ (0 : Int) := (by omega); have q169 : 0 < (l1.length : Int) := of_decide_eq_true (by first | (with_reducible assumption) | assumption); obtain ⟨ad169, e169, hx169_0⟩ := Kd.at_int HR1.out 0 p169 q169; cases e169; have qi169 : (0 < l1.length) = True := eq_true (by omega); (try rw [show ((0 : Int)).toNat = 0 from rfl] at hx169_0); (try rw [Addr.add_zero'] at hx169_0); have hn169_0 : ad169.block ≠ gb165 := Nat.ne_of_lt (Nat.lt_of_lt_of_le (by have := World.block_lt_of_cell? _ _ hx169_0; first | rwa [add_block] at this | exact this) GW165.out); have hn169_1 : ad169.block ≠ gb165 := Nat.ne_of_lt (Nat.lt_of_lt_of_le (by have := World.block_lt_of_cell? _ _ hx169_0; first | rwa [add_block] at this | exact this) GW165.out); have hn169_2 : ad169.block ≠ gb165 := Nat.ne_of_lt (Nat.lt_of_lt_of_le (by have := World.block_lt_of_cell? _ _ hx169_0; first | rwa [add_block] at this | exact this) GW165.out); replace hx169_0 := (HB.out.cell (World.block_lt_of_cell? w _ hx169_0)).trans hx169_0; replace hx169_0 := (cell_far (p := ⟨gb165, 0, none⟩) (by first | (rw [add_block]; exact hn169_0) | (show (Addr.add _ _).block ≠ _; rw [add_block]; exact hn169_0) | exact hn169_0) (.int .i64 a0)).trans hx169_0; replace hx169_0 := (cell_far (p := ⟨gb165, 1, none⟩) (by first | (rw [add_block]; exact hn169_1) | (show (Addr.add _ _).block ≠ _; rw [add_block]; exact hn169_1) | exact hn169_1) (.int .i64 0)).trans hx169_0; replace hx169_0 := (cell_far (p := ⟨gb165, 2, none⟩) (by first | (rw [add_block]; exact hn169_2) | (show (Addr.add _ _).block ≠ _; rw [add_block]; exact hn169_2) | exact hn169_2) (.string (⟨#[]⟩ : ByteArray))).trans hx169_0; clear hn169_0; clear hn169_1; clear hn169_2; replace p169 := eq_true p169; replace q169 := eq_true q169; obtain ⟨i063, hi063, _, hsz63, _⟩ := info_parts info5; obtain ⟨A63, hcut63, hA63, hC63⟩ := print_mid_of (P := Tryd.prog) (Value.int .u8) 0 22 5 .i64 .i64 Tryd.underlying22 hi063 hsz63 (some ad169) c1 l1 1 (wrap64 (1 + (wrap64 (rd l1 0)))) (by omega) (by first | omega | exact of_decide_eq_true (by first | (with_reducible assumption) | assumption)) (of_decide_eq_true (by first | (with_reducible assumption) | assumption)) HC1.out; have HR170 := ak_ (Kd.C_of_reads (h1 := fun _ => rfl) (hA63 _ (Kd.reads_of_C HR1.out))); have HC170 := ak_ hC63; clear hA63 hC63 hi063 hsz63; have hcv64 := Kd.C_string (P := Tryd.prog) (A := A63) (c := (c1 - 1)) Tryd.underlying22 Tryd.underlying5 Tryd.underlying9 (Kd.C_below HR170.out (show Below w.heap.size w (((w60.setCell ⟨gb165, 0, none⟩ (.int .i64 a0)).setCell ⟨gb165, 1, none⟩ (.int .i64 0)).setCell ⟨gb165, 2, none⟩ (.string (⟨#[]⟩ : ByteArray))) from by repeat (first | (with_reducible first | exact HB.out | apply bl_a | apply bl_n | apply bl_d | refine below_set ?_ GE164.out | refine below_set ?_ GE165.out) | exact HB.out))); (try (have hcv64l := hcv64; (try simp only [Int.reduceToNat] at hcv64l); rw [show ((l1.take ((wrap64 (1 + (wrap64 (rd l1 0)))) : Int).toNat).drop 1).length = ((wrap64 (1 + (wrap64 (rd l1 0)))).toNat - 1) from (by rw [List.length_drop, List.length_take]; have h_ : ((wrap64 (1 + (wrap64 (rd l1 0)))) : Int) ≤ (l1.length : Int) := of_decide_eq_true (by first | (with_reducible assumption) | assumption); omega)] at hcv64l))))
         have n0_ : Aside0 (((((w60.setCell ⟨gb165, 0, none⟩ (.int .i64 a0)).setCell ⟨gb165, 1, none⟩ (.int .i64 0)).setCell ⟨gb165, 2, none⟩ (.string (⟨#[]⟩ : ByteArray))).setCell ⟨gb165, 2, none⟩ (.string (strOfNums ((l1.take ((wrap64 (1 + (wrap64 (rd l1 0)))) : Int).toNat).drop 1)))).heap[gb164]? = some (.cells #[.int .i64 0, .int .i64 0, .string (⟨#[]⟩ : ByteArray)] 26 (0, 0))) := ⟨by (with_reducible repeat (first | refine bk_n ?_ _ | refine bk_d ?_ | refine bk_a ?_ _)); refine blk_far ?_ NB164_165.out _; (with_reducible repeat (first | refine bk_n ?_ _ | refine bk_d ?_ | refine bk_a ?_ _)); refine blk_far ?_ NB164_165.out _; (with_reducible repeat (first | refine bk_n ?_ _ | refine bk_d ?_ | refine bk_a ?_ _)); refine blk_far ?_ NB164_165.out _; (with_reducible repeat (first | refine bk_n ?_ _ | refine bk_d ?_ | refine bk_a ?_ _)); refine blk_far ?_ NB164_165.out _; (with_reducible repeat (first | refine bk_n ?_ _ | refine bk_d ?_ | refine bk_a ?_ _)); exact BK164.out⟩
         have n1_ : Aside0 (((((w60.setCell ⟨gb165, 0, none⟩ (.int .i64 a0)).setCell ⟨gb165, 1, none⟩ (.int .i64 0)).setCell ⟨gb165, 2, none⟩ (.string (⟨#[]⟩ : ByteArray))).setCell ⟨gb165, 2, none⟩ (.string (strOfNums ((l1.take ((wrap64 (1 + (wrap64 (rd l1 0)))) : Int).toNat).drop 1)))).heap[gb165]? = some (.cells #[.int .i64 a0, .int .i64 0, .string (strOfNums ((l1.take ((wrap64 (1 + (wrap64 (rd l1 0)))) : Int).toNat).drop 1))] 26 (0, 0))) := ⟨by (with_reducible repeat (first | refine bk_n ?_ _ | refine bk_d ?_ | refine bk_a ?_ _)); refine blk_put (cs := #[.int .i64 a0, .int .i64 0, .string (⟨#[]⟩ : ByteArray)]) ?_ 2 _ rfl; (with_reducible repeat (first | refine bk_n ?_ _ | refine bk_d ?_ | refine bk_a ?_ _)); refine blk_put (cs := #[.int .i64 a0, .int .i64 0, .string (⟨#[]⟩ : ByteArray)]) ?_ 2 _ rfl; (with_reducible repeat (first | refine bk_n ?_ _ | refine bk_d ?_ | refine bk_a ?_ _)); refine blk_put (cs := #[.int .i64 a0, .int .i64 0, .string (⟨#[]⟩ : ByteArray)]) ?_ 1 _ rfl; (with_reducible repeat (first | refine bk_n ?_ _ | refine bk_d ?_ | refine bk_a ?_ _)); refine blk_put (cs := #[.int .i64 0, .int .i64 0, .string (⟨#[]⟩ : ByteArray)]) ?_ 0 _ rfl; (with_reducible repeat (first | refine bk_n ?_ _ | refine bk_d ?_ | refine bk_a ?_ _)); exact BK165.out⟩
         have n2_ : Aside0 (Below w.heap.size w ((((w60.setCell ⟨gb165, 0, none⟩ (.int .i64 a0)).setCell ⟨gb165, 1, none⟩ (.int .i64 0)).setCell ⟨gb165, 2, none⟩ (.string (⟨#[]⟩ : ByteArray))).setCell ⟨gb165, 2, none⟩ (.string (strOfNums ((l1.take ((wrap64 (1 + (wrap64 (rd l1 0)))) : Int).toNat).drop 1))))) := ⟨by repeat (first | (with_reducible first | exact HB.out | apply bl_a | apply bl_n | apply bl_d | refine below_set ?_ GE164.out | refine below_set ?_ GE165.out) | exact HB.out)⟩
         (try clear BK164)
         (try clear BK165)
         (try clear HB)
         (try rw [← List.drop_one])
         generalize ((((w60.setCell ⟨gb165, 0, none⟩ (.int .i64 a0)).setCell ⟨gb165, 1, none⟩ (.int .i64 0)).setCell ⟨gb165, 2, none⟩ (.string (⟨#[]⟩ : ByteArray))).setCell ⟨gb165, 2, none⟩ (.string (strOfNums ((l1.take ((wrap64 (1 + (wrap64 (rd l1 0)))) : Int).toNat).drop 1)))) = w65 at n0_ n1_ n2_ ⊢
         have BK164 := n0_
         have BK165 := n1_
         have HB := n2_
         clear n0_ n1_ n2_
         have n0_ := ak_ (bk_d BK164.out)
         have n1_ := ak_ (bk_d BK165.out)
         have n2_ := ak_ (bl_d HB.out)
         clear BK164
         clear BK165
         clear HB
         have BK164 := n0_
         have BK165 := n1_
         have HB := n2_
         clear n0_ n1_ n2_
         refine start_ (n := 11) (S := fun w' => w'.cell? ⟨gb165, 0, none⟩ = some (.int .i64 a0) ∧ w'.cell? ⟨gb165, 1, none⟩ = some (.int .i64 0) ∧ w'.cell? ⟨gb165, 2, none⟩ = some (.string (strOfNums ((l1.take ((wrap64 (1 + (wrap64 (rd l1 0)))) : Int).toNat).drop 1)))) (ds := []) #[false, false, false, false, false, false, false, false, false, false, false] (by kernel_rfl) rfl rfl ⟨(blk_cell BK165.out 0).trans rfl, (blk_cell BK165.out 1).trans rfl, (blk_cell BK165.out 2).trans rfl⟩ (fun hHeld => ?_); refine with_tabW rabbetref1_takeOne.tab16 rabbetref1_takeOne.bits16 (fun HT_ HW_ => ?_)
         generalize w65.drew = w66 at BK164 BK165 HB hHeld ⊢
         refine pure_ (i := 1) (N := some 59) (v := ?_) (a' := ?_) #[false, true, false, false, false, false, false, false, false, false, false] rfl rfl (any_of HT_.out (by kernel_rfl)) (fun _ _ _ h => h) (Or.inl ⟨by rfl, ?_⟩) ?_ ?_
         rotate_left
         ·
          intro w'
          go_simp
          with_reducible rfl
         rotate_left
         ·
          simp only [Act.put, List.setIfInBounds_toArray, List.set_cons_zero, List.set_cons_succ, i64_w, i32_w]
          rfl
         refine take_ (i := 0) (N := some 58) (v := ?_) (a' := ?_) #[true, true, false, false, false, false, false, false, false, false, false] rfl rfl (take_ofW HT_.out HW_.out (by kernel_rfl)) (fun _ _ _ h => h) (Or.inl ⟨by rfl, ?_⟩) hHeld ?_ ?_
         rotate_left
         ·
          rintro w' ⟨s0, s1, s2⟩
          go_simp
          with_reducible rfl
         rotate_left
         ·
          simp only [Act.put, List.setIfInBounds_toArray, List.set_cons_zero, List.set_cons_succ, i64_w, i32_w]
          rfl
         refine take_ (i := 2) (N := some 60) (v := ?_) (a' := ?_) #[true, true, true, false, false, false, false, false, false, false, false] rfl rfl (take_ofW HT_.out HW_.out (by kernel_rfl)) (fun _ _ _ h => h) (Or.inl ⟨by rfl, ?_⟩) hHeld ?_ ?_
         rotate_left
         ·
          rintro w' ⟨s0, s1, s2⟩
          go_simp
          with_reducible rfl
         rotate_left
         ·
          simp only [Act.put, List.setIfInBounds_toArray, List.set_cons_zero, List.set_cons_succ, i64_w, i32_w]
          rfl
         refine one_ (i := 3) (N := some 61) #[true, true, true, true, false, false, false, false, false, false, false] rfl rfl (one_of HT_.out (by kernel_rfl)) (by decide) (fun K hK => ?_)
         refine goes_ Tryd.func70 (by kernel_rfl) rfl #[.agg #[.int .i64 a0, .int .i64 0, .string (strOfNums ((l1.take ((wrap64 (1 + (wrap64 (rd l1 0)))) : Int).toNat).drop 1))]] (by rfl) rfl rfl (by (try simp only [List.map_toArray, List.map_cons, List.map_nil]); first | done | rfl | (rw [← List.drop_one]; rfl) | (rw [List.drop_one]; rfl) | (simp only [List.length_drop, List.length_take]; rfl)) ?_
         with_reducible refine (rabbetref1_May.calls a0 0 (strOfNums ((l1.take ((wrap64 (1 + (wrap64 (rd l1 0)))) : Int).toNat).drop 1)) false _ A44.out).mono ?_
         rintro e w67 ⟨rfl, hb⟩
         refine ⟨_, rfl, ?_⟩
         have n0_ := ak_ (blk_below (g := gb164) (o := .cells #[.int .i64 0, .int .i64 0, .string (⟨#[]⟩ : ByteArray)] 26 (0, 0)) (by (with_reducible repeat (first | refine bk_n ?_ _ | refine bk_d ?_ | refine bk_a ?_ _)); exact BK164.out) hb)
         have n1_ := ak_ (blk_below (g := gb165) (o := .cells #[.int .i64 a0, .int .i64 0, .string (strOfNums ((l1.take ((wrap64 (1 + (wrap64 (rd l1 0)))) : Int).toNat).drop 1))] 26 (0, 0)) (by (with_reducible repeat (first | refine bk_n ?_ _ | refine bk_d ?_ | refine bk_a ?_ _)); exact BK165.out) hb)
         have n2_ := ak_ (below_step (by repeat (first | (with_reducible first | exact HB.out | apply bl_a | apply bl_n | apply bl_d | refine below_set ?_ GE164.out | refine below_set ?_ GE165.out) | exact HB.out)) hb)
         clear BK164
         clear BK165
         clear HB
         have BK164 := n0_
         have BK165 := n1_
         have HB := n2_
         clear n0_ n1_ n2_
         (try clear hb)
         (try clear hb2)
         (try clear hk)
         (try clear hi)
         refine hK.out _ _ ⟨(blk_cell BK165.out 0).trans rfl, (blk_cell BK165.out 1).trans rfl, (blk_cell BK165.out 2).trans rfl⟩ (fun hHeld => ?_)
         clear hK K
         refine norm_ (a' := ?_) ?_ ?_
         rotate_left
         ·
          show Act.put _ (some 61) _ = _
          simp only [Act.put, List.setIfInBounds_toArray, List.set_cons_zero, List.set_cons_succ, i64_w, i32_w]
          rfl
         refine pure_ (i := 4) (N := some 62) (v := ?_) (a' := ?_) #[true, true, true, true, true, false, false, false, false, false, false] rfl rfl (any_of HT_.out (by kernel_rfl)) (fun _ _ _ h => h) (Or.inl ⟨by rfl, ?_⟩) ?_ ?_
         rotate_left
         ·
          intro w'
          go_simp
          with_reducible rfl
         rotate_left
         ·
          simp only [Act.put, List.setIfInBounds_toArray, List.set_cons_zero, List.set_cons_succ, i64_w, i32_w]
          rfl
         refine pure_ (i := 5) (N := some 63) (v := undef) (a' := ?_) #[true, true, true, true, true, true, false, false, false, false, false] rfl rfl (any_of HT_.out (by kernel_rfl)) (fun _ _ _ h => h) (Or.inr ⟨by rfl, rfl⟩) ?_ ?_
         rotate_left
         ·
          simp only [Act.put, List.setIfInBounds_toArray, List.set_cons_zero, List.set_cons_succ, i64_w, i32_w]
          rfl
         refine pure_ (i := 6) (N := some 64) (v := undef) (a' := ?_) #[true, true, true, true, true, true, true, false, false, false, false] rfl rfl (any_of HT_.out (by kernel_rfl)) (fun _ _ _ h => h) (Or.inr ⟨by rfl, rfl⟩) ?_ ?_
         rotate_left
         ·
          simp only [Act.put, List.setIfInBounds_toArray, List.set_cons_zero, List.set_cons_succ, i64_w, i32_w]
          rfl
         refine pure_ (i := 7) (N := some 65) (v := ?_) (a' := ?_) #[true, true, true, true, true, true, true, true, false, false, false] rfl rfl (any_of HT_.out (by kernel_rfl)) (fun _ _ _ h => h) (Or.inl ⟨by rfl, ?_⟩) ?_ ?_
         rotate_left
         ·
          intro w'
          go_simp
          with_reducible rfl
         rotate_left
         ·
          simp only [Act.put, List.setIfInBounds_toArray, List.set_cons_zero, List.set_cons_succ, i64_w, i32_w]
          rfl
         refine one_ (i := 8) (N := none) #[true, true, true, true, true, true, true, true, true, false, false] rfl rfl (one_of HT_.out (by kernel_rfl)) (by decide) (fun K hK => ?_)
         have hs68 : w67.cell? ⟨gb164, 0, none⟩ = some (.int .i64 0) := (blk_cell BK164.out 0).trans rfl
         have hfs68 := blk_frozen BK164.out 0
         have hns68_1 := NB165_164.out
         have hms68_1 := NB164_165.out
         have hs69 : w67.cell? ⟨gb164, 1, none⟩ = some (.int .i64 0) := (blk_cell BK164.out 1).trans rfl
         have hfs69 := blk_frozen BK164.out 1
         have hns69_1 := NB165_164.out
         have hms69_1 := NB164_165.out
         have hs70 : w67.cell? ⟨gb164, 2, none⟩ = some (.string (⟨#[]⟩ : ByteArray)) := (blk_cell BK164.out 2).trans rfl
         have hfs70 := blk_frozen BK164.out 2
         have hns70_1 := NB165_164.out
         have hms70_1 := NB164_165.out
         refine skip_ (w1 := ?_) (by rfl) rfl ?_ ?_
         rotate_left
         ·
          go_simp
          rfl
         refine hK.out _ _ ⟨((cell_far (p := ⟨gb164, _, none⟩) NB165_164.out _).trans (((cell_far (p := ⟨gb164, _, none⟩) NB165_164.out _).trans (((cell_far (p := ⟨gb164, _, none⟩) NB165_164.out _).trans (hHeld.1)))))), ((cell_far (p := ⟨gb164, _, none⟩) NB165_164.out _).trans (((cell_far (p := ⟨gb164, _, none⟩) NB165_164.out _).trans (((cell_far (p := ⟨gb164, _, none⟩) NB165_164.out _).trans (hHeld.2.1)))))), ((cell_far (p := ⟨gb164, _, none⟩) NB165_164.out _).trans (((cell_far (p := ⟨gb164, _, none⟩) NB165_164.out _).trans (((cell_far (p := ⟨gb164, _, none⟩) NB165_164.out _).trans (hHeld.2.2))))))⟩ (fun hHeld => ?_)
         clear hK K
         refine pure_ (i := 9) (N := some 5) (v := ?_) (a' := ?_) #[true, true, true, true, true, true, true, true, true, true, false] rfl rfl (any_of HT_.out (by kernel_rfl)) (fun _ _ _ h => h) (Or.inl ⟨by rfl, ?_⟩) ?_ ?_
         rotate_left
         ·
          intro w'
          go_simp
          with_reducible rfl
         rotate_left
         ·
          simp only [Act.put, List.setIfInBounds_toArray, List.set_cons_zero, List.set_cons_succ, i64_w, i32_w]
          rfl
         refine pure_ (i := 10) (N := some 6) (v := ?_) (a' := ?_) #[true, true, true, true, true, true, true, true, true, true, true] rfl rfl (any_of HT_.out (by kernel_rfl)) (fun _ _ _ h => h) (Or.inl ⟨by rfl, ?_⟩) ?_ ?_
         rotate_left
         ·
          intro w'
          go_simp
          with_reducible rfl
         rotate_left
         ·
          simp only [Act.put, List.setIfInBounds_toArray, List.set_cons_zero, List.set_cons_succ, i64_w, i32_w]
          rfl
         refine done_ (done_of HT_.out (by kernel_rfl)) ?_
         try go_wp2
         (try rw [← List.drop_one])
         refine bodyPost_ret (results_ctt rfl _ _ gb164 26 #[.int .i64 a0, .int .i64 0, .string (strOfNums ((l1.take ((wrap64 (1 + (wrap64 (rd l1 0)))) : Int).toNat).drop 1))] (0, 0) _ rfl (by (with_reducible repeat (first | refine bk_n ?_ _ | refine bk_d ?_ | refine bk_a ?_ _)); refine blk_put (cs := #[.int .i64 a0, .int .i64 0, .string (⟨#[]⟩ : ByteArray)]) ?_ 2 _ rfl; (with_reducible repeat (first | refine bk_n ?_ _ | refine bk_d ?_ | refine bk_a ?_ _)); refine blk_put (cs := #[.int .i64 a0, .int .i64 0, .string (⟨#[]⟩ : ByteArray)]) ?_ 1 _ rfl; (with_reducible repeat (first | refine bk_n ?_ _ | refine bk_d ?_ | refine bk_a ?_ _)); refine blk_put (cs := #[.int .i64 0, .int .i64 0, .string (⟨#[]⟩ : ByteArray)]) ?_ 0 _ rfl; (with_reducible repeat (first | refine bk_n ?_ _ | refine bk_d ?_ | refine bk_a ?_ _)); exact BK164.out) Tryd.underlying26 rfl (by kernel_rfl)) rfl ?_
         exact ⟨by first | rfl | (simp [errW_none, errW_some] <;> rfl) | (simp [*, errW_none, errW_some] <;> rfl), by repeat (first | (with_reducible first | exact HB.out | apply bl_a | apply bl_n | apply bl_d | refine below_set ?_ GE164.out | refine below_set ?_ GE165.out) | exact HB.out)⟩
       ·
        rw [if_neg c43] at H
        exact absurd H (by simp)
      ·
       rw [if_neg c42] at H
       exact absurd H (by simp)
    ·
     rw [if_neg c35] at H
     exact absurd H (by simp)
   ·
    rw [if_neg c34] at H
    have c34b0 : (a0 == 4) = false := beq_eq_false_iff_ne.mpr c34
    have c34b1 : (a0 != 4) = true := bne_iff_ne.mpr c34
    replace H := Option.bind_eq_some_iff.mp H
    obtain ⟨⟨t173, t174, t175⟩, A710, H⟩ := H
    replace H : (if t175 = true then ((rabbetref1_Zag.f t173).bind fun t176 => ((rabbetref1_May.f a0 t176 (⟨#[]⟩ : ByteArray)).bind fun t177 => (if t177 = true then ((rabbetref1_isType.f a0).bind fun t178 => (some (a0, t176, (⟨#[]⟩ : ByteArray), t174, t178))) else (some (a0, t176, (⟨#[]⟩ : ByteArray), t174, false))))) else (some (0, 0, (⟨#[]⟩ : ByteArray), 0, false))) = some (r1, r2, r3, r4, r5) := H
    have A71 := ak_ A710
    clear A710
    by_cases c72 : t175 = true
    ·
     subst c72
     have H1 : ((rabbetref1_Zag.f t173).bind fun t176 => ((rabbetref1_May.f a0 t176 (⟨#[]⟩ : ByteArray)).bind fun t177 => (if t177 = true then ((rabbetref1_isType.f a0).bind fun t178 => (some (a0, t176, (⟨#[]⟩ : ByteArray), t174, t178))) else (some (a0, t176, (⟨#[]⟩ : ByteArray), t174, false))))) = some (r1, r2, r3, r4, r5) := by rw [if_pos rfl] at H; exact H
     clear H
     have H := H1
     clear H1
     replace H := Option.bind_eq_some_iff.mp H
     obtain ⟨t176, A730, H⟩ := H
     replace H : ((rabbetref1_May.f a0 t176 (⟨#[]⟩ : ByteArray)).bind fun t177 => (if t177 = true then ((rabbetref1_isType.f a0).bind fun t178 => (some (a0, t176, (⟨#[]⟩ : ByteArray), t174, t178))) else (some (a0, t176, (⟨#[]⟩ : ByteArray), t174, false)))) = some (r1, r2, r3, r4, r5) := H
     have A73 := ak_ A730
     clear A730
     replace H := Option.bind_eq_some_iff.mp H
     obtain ⟨t177, A740, H⟩ := H
     replace H : (if t177 = true then ((rabbetref1_isType.f a0).bind fun t178 => (some (a0, t176, (⟨#[]⟩ : ByteArray), t174, t178))) else (some (a0, t176, (⟨#[]⟩ : ByteArray), t174, false))) = some (r1, r2, r3, r4, r5) := H
     have A74 := ak_ A740
     clear A740
     by_cases c75 : t177 = true
     ·
      subst c75
      have H1 : ((rabbetref1_isType.f a0).bind fun t178 => (some (a0, t176, (⟨#[]⟩ : ByteArray), t174, t178))) = some (r1, r2, r3, r4, r5) := by rw [if_pos rfl] at H; exact H
      clear H
      have H := H1
      clear H1
      replace H := Option.bind_eq_some_iff.mp H
      obtain ⟨t178, A760, H⟩ := H
      replace H : (some (a0, t176, (⟨#[]⟩ : ByteArray), t174, t178)) = some (r1, r2, r3, r4, r5) := H
      have A76 := ak_ A760
      clear A760
      simp only [Option.some.injEq, Prod.mk.injEq] at H
      obtain ⟨rfl, rfl, rfl, rfl, rfl⟩ := H
      (try (have e_ : t176 = t177 := (by (with_reducible exact Option.some.inj (A73.out.symm.trans A74.out))); subst e_))
      (try (have e_ : t176 = t178 := (by (with_reducible exact Option.some.inj (A73.out.symm.trans A76.out))); subst e_))
      (try (have e_ : t177 = t178 := (by (with_reducible exact Option.some.inj (A74.out.symm.trans A76.out))); subst e_))
      go_enter Tryd.func63, Tryd.ntmps63
      try go_wp2_with (first | ((with_reducible refine gate_dst (N := 4) rfl ?_); refine box_event ?hg (N := 4) ?hd (cs := #[.int .i64 0, .int .i64 0, .string (⟨#[]⟩ : ByteArray)]) (t := 26) ?hr ?_; (case hd => rfl); (case hg => rfl); (case hr => first | (go_simp; done) | (go_simp; rfl)); intro gb164 hg w77 hbox hb; have n0_ := ak_ (below_step (by repeat (first | (with_reducible first | exact HB.out | apply bl_a | apply bl_n | apply bl_d) | exact HB.out)) hb); have n1_ := ak_ (hbox); have n2_ := ak_ ((by rw [hg]; exact (below_size (by repeat (first | (with_reducible first | exact HB.out | apply bl_a | apply bl_n | apply bl_d) | exact HB.out))) : w.heap.size ≤ gb164)); have n3_ := ak_ ((by rw [hg]; exact (below_size (by repeat (first | (with_reducible first | exact HB.out | apply bl_a | apply bl_n | apply bl_d) | exact HB.out))) : w.heap.size ≤ gb164)); clear HB; have HB := n0_; have BK164 := n1_; have GW164 := n2_; have GE164 := n3_; clear n0_ n1_ n2_ n3_; clear hb hbox hg) | ((with_reducible refine gate_dst (N := 7) rfl ?_); refine box_event ?hg (N := 7) ?hd (cs := #[.int .i64 0, .int .i64 0, .string (⟨#[]⟩ : ByteArray)]) (t := 26) ?hr ?_; (case hd => rfl); (case hg => rfl); (case hr => first | (go_simp; done) | (go_simp; rfl)); intro gb165 hg w78 hbox hb; have n0_ := ak_ (blk_below (g := gb164) (o := .cells #[.int .i64 0, .int .i64 0, .string (⟨#[]⟩ : ByteArray)] 26 (0, 0)) (by (with_reducible repeat (first | refine bk_n ?_ _ | refine bk_d ?_ | refine bk_a ?_ _)); exact BK164.out) hb); have n1_ := ak_ (below_step (by repeat (first | (with_reducible first | exact HB.out | apply bl_a | apply bl_n | apply bl_d | refine below_set ?_ GE164.out) | exact HB.out)) hb); have n2_ := ak_ (hbox); have n3_ := ak_ ((by rw [hg]; exact (below_size (by repeat (first | (with_reducible first | exact HB.out | apply bl_a | apply bl_n | apply bl_d | refine below_set ?_ GE164.out) | exact HB.out))) : w.heap.size ≤ gb165)); have n4_ := ak_ ((by rw [hg]; exact (below_size (by repeat (first | (with_reducible first | exact HB.out | apply bl_a | apply bl_n | apply bl_d | refine below_set ?_ GE164.out) | exact HB.out))) : w.heap.size ≤ gb165)); have n5_ := ak_ ((by rw [hg]; exact Nat.ne_of_lt (blk_lt (g := gb164) (o := .cells #[.int .i64 0, .int .i64 0, .string (⟨#[]⟩ : ByteArray)] 26 (0, 0)) (by (with_reducible repeat (first | refine bk_n ?_ _ | refine bk_d ?_ | refine bk_a ?_ _)); exact BK164.out)) : gb164 ≠ gb165)); have n6_ := ak_ ((by rw [hg]; exact Nat.ne_of_gt (blk_lt (g := gb164) (o := .cells #[.int .i64 0, .int .i64 0, .string (⟨#[]⟩ : ByteArray)] 26 (0, 0)) (by (with_reducible repeat (first | refine bk_n ?_ _ | refine bk_d ?_ | refine bk_a ?_ _)); exact BK164.out)) : gb165 ≠ gb164)); clear BK164; clear HB; have BK164 := n0_; have HB := n1_; have BK165 := n2_; have GW165 := n3_; have GE165 := n4_; have NB164_165 := n5_; have NB165_164 := n6_; clear n0_ n1_ n2_ n3_ n4_ n5_ n6_; clear hb hbox hg; have hnb79 := NB165_164.out; have hnc79 := NB164_165.out; have hcz80_0 : w78.cell? ⟨gb165, 0, none⟩ = some (.int .i64 0) := (blk_cell BK165.out 0).trans rfl; have hcz80_1 : w78.cell? ⟨gb165, 1, none⟩ = some (.int .i64 0) := (blk_cell BK165.out 1).trans rfl; have hcz80_2 : w78.cell? ⟨gb165, 2, none⟩ = some (.string (⟨#[]⟩ : ByteArray)) := (blk_cell BK165.out 2).trans rfl; have hfz80_0 := blk_frozen BK165.out 0; have hfz80_1 := blk_frozen BK165.out 1; have hfz80_2 := blk_frozen BK165.out 2) | ((with_reducible refine gate_callee (f := 64) rfl ?_); refine goesL_ (some 16) rfl rfl Tryd.func64 (by kernel_rfl) rfl #[.slice A1 l1.length c1] rfl (by (try simp only [List.map_toArray, List.map_cons, List.map_nil]); first | done | rfl | (simp only [List.length_drop, List.length_take]; rfl)) ?_; (with_reducible refine (rabbetref1_TakeNum.calls k _ _ l1 t173 t174 true _ ?side1 ?side2 A71.out).mono ?_); (case side1 => exact Kd.C_below HR1.out (by repeat (first | (with_reducible first | exact HB.out | apply bl_a | apply bl_n | apply bl_d | refine below_set ?_ GE164.out | refine below_set ?_ GE165.out) | exact HB.out))); (case side2 => exact HC1.out); rintro e w81 ⟨rfl, hb⟩; refine ⟨_, rfl, ?_⟩; have n0_ := ak_ (blk_below (g := gb164) (o := .cells #[.int .i64 0, .int .i64 0, .string (⟨#[]⟩ : ByteArray)] 26 (0, 0)) (by (with_reducible repeat (first | refine bk_n ?_ _ | refine bk_d ?_ | refine bk_a ?_ _)); refine blk_far ?_ NB164_165.out _; (with_reducible repeat (first | refine bk_n ?_ _ | refine bk_d ?_ | refine bk_a ?_ _)); refine blk_far ?_ NB164_165.out _; (with_reducible repeat (first | refine bk_n ?_ _ | refine bk_d ?_ | refine bk_a ?_ _)); refine blk_far ?_ NB164_165.out _; (with_reducible repeat (first | refine bk_n ?_ _ | refine bk_d ?_ | refine bk_a ?_ _)); exact BK164.out) hb); have n1_ := ak_ (blk_below (g := gb165) (o := .cells #[.int .i64 a0, .int .i64 0, .string (⟨#[]⟩ : ByteArray)] 26 (0, 0)) (by (with_reducible repeat (first | refine bk_n ?_ _ | refine bk_d ?_ | refine bk_a ?_ _)); refine blk_put (cs := #[.int .i64 a0, .int .i64 0, .string (⟨#[]⟩ : ByteArray)]) ?_ 2 _ rfl; (with_reducible repeat (first | refine bk_n ?_ _ | refine bk_d ?_ | refine bk_a ?_ _)); refine blk_put (cs := #[.int .i64 a0, .int .i64 0, .string (⟨#[]⟩ : ByteArray)]) ?_ 1 _ rfl; (with_reducible repeat (first | refine bk_n ?_ _ | refine bk_d ?_ | refine bk_a ?_ _)); refine blk_put (cs := #[.int .i64 0, .int .i64 0, .string (⟨#[]⟩ : ByteArray)]) ?_ 0 _ rfl; (with_reducible repeat (first | refine bk_n ?_ _ | refine bk_d ?_ | refine bk_a ?_ _)); exact BK165.out) hb); have n2_ := ak_ (below_step (by repeat (first | (with_reducible first | exact HB.out | apply bl_a | apply bl_n | apply bl_d | refine below_set ?_ GE164.out | refine below_set ?_ GE165.out) | exact HB.out)) hb); clear BK164; clear BK165; clear HB; have BK164 := n0_; have BK165 := n1_; have HB := n2_; clear n0_ n1_ n2_; (try clear hb); (try clear hb2); (try clear hk); (try clear hi)) | ((with_reducible refine gate_callee (f := 67) rfl ?_); refine goesL_ (some 24) rfl rfl Tryd.func67 (by kernel_rfl) rfl #[.int .u64 t173] rfl (by (try simp only [List.map_toArray, List.map_cons, List.map_nil]); first | done | rfl | (simp only [List.length_drop, List.length_take]; rfl)) ?_; (with_reducible refine (rabbetref1_Zag.calls t173 t176 _ A73.out).mono ?_); rintro e w' ⟨rfl, ⟨nd, rfl⟩⟩; refine ⟨_, rfl, ?_⟩; (try (rw [drewN_self w81]; generalize hq_ : World.drewN w81 _ = w81; have n0_ : Aside0 (w81.heap[gb164]? = some (.cells #[.int .i64 0, .int .i64 0, .string (⟨#[]⟩ : ByteArray)] 26 (0, 0))) := ⟨by rw [← hq_]; exact (by (with_reducible repeat (first | refine bk_n ?_ _ | refine bk_d ?_ | refine bk_a ?_ _)); exact BK164.out)⟩; have n1_ : Aside0 (w81.heap[gb165]? = some (.cells #[.int .i64 a0, .int .i64 0, .string (⟨#[]⟩ : ByteArray)] 26 (0, 0))) := ⟨by rw [← hq_]; exact (by (with_reducible repeat (first | refine bk_n ?_ _ | refine bk_d ?_ | refine bk_a ?_ _)); exact BK165.out)⟩; have n2_ : Aside0 (Below w.heap.size w w81) := ⟨by rw [← hq_]; exact (by repeat (first | (with_reducible first | exact HB.out | apply bl_a | apply bl_n | apply bl_d | refine below_set ?_ GE164.out | refine below_set ?_ GE165.out) | exact HB.out))⟩; clear BK164 BK165 HB hq_; have BK164 := n0_; have BK165 := n1_; have HB := n2_; clear n0_ n1_ n2_)); have hcz82_0 : w81.cell? ⟨gb165, 0, none⟩ = some (.int .i64 a0) := (blk_cell BK165.out 0).trans rfl; have hcz82_1 : w81.cell? ⟨gb165, 1, none⟩ = some (.int .i64 0) := (blk_cell BK165.out 1).trans rfl; have hcz82_2 : w81.cell? ⟨gb165, 2, none⟩ = some (.string (⟨#[]⟩ : ByteArray)) := (blk_cell BK165.out 2).trans rfl; have hfz82_0 := blk_frozen BK165.out 0; have hfz82_1 := blk_frozen BK165.out 1; have hfz82_2 := blk_frozen BK165.out 2))
      have n0_ : Aside0 ((w81.setCell ⟨gb165, 1, none⟩ (.int .i64 t176)).heap[gb164]? = some (.cells #[.int .i64 0, .int .i64 0, .string (⟨#[]⟩ : ByteArray)] 26 (0, 0))) := ⟨by (with_reducible repeat (first | refine bk_n ?_ _ | refine bk_d ?_ | refine bk_a ?_ _)); refine blk_far ?_ NB164_165.out _; (with_reducible repeat (first | refine bk_n ?_ _ | refine bk_d ?_ | refine bk_a ?_ _)); exact BK164.out⟩
      have n1_ : Aside0 ((w81.setCell ⟨gb165, 1, none⟩ (.int .i64 t176)).heap[gb165]? = some (.cells #[.int .i64 a0, .int .i64 t176, .string (⟨#[]⟩ : ByteArray)] 26 (0, 0))) := ⟨by (with_reducible repeat (first | refine bk_n ?_ _ | refine bk_d ?_ | refine bk_a ?_ _)); refine blk_put (cs := #[.int .i64 a0, .int .i64 0, .string (⟨#[]⟩ : ByteArray)]) ?_ 1 _ rfl; (with_reducible repeat (first | refine bk_n ?_ _ | refine bk_d ?_ | refine bk_a ?_ _)); exact BK165.out⟩
      have n2_ : Aside0 (Below w.heap.size w (w81.setCell ⟨gb165, 1, none⟩ (.int .i64 t176))) := ⟨by repeat (first | (with_reducible first | exact HB.out | apply bl_a | apply bl_n | apply bl_d | refine below_set ?_ GE164.out | refine below_set ?_ GE165.out) | exact HB.out)⟩
      (try clear BK164)
      (try clear BK165)
      (try clear HB)
      generalize (w81.setCell ⟨gb165, 1, none⟩ (.int .i64 t176)) = w83 at n0_ n1_ n2_ ⊢
      have BK164 := n0_
      have BK165 := n1_
      have HB := n2_
      clear n0_ n1_ n2_
      have n0_ := ak_ (bk_d BK164.out)
      have n1_ := ak_ (bk_d BK165.out)
      have n2_ := ak_ (bl_d HB.out)
      clear BK164
      clear BK165
      clear HB
      have BK164 := n0_
      have BK165 := n1_
      have HB := n2_
      clear n0_ n1_ n2_
      refine start_ (n := 11) (S := fun w' => w'.cell? ⟨gb165, 0, none⟩ = some (.int .i64 a0) ∧ w'.cell? ⟨gb165, 1, none⟩ = some (.int .i64 t176) ∧ w'.cell? ⟨gb165, 2, none⟩ = some (.string (⟨#[]⟩ : ByteArray))) (ds := []) #[false, false, false, false, false, false, false, false, false, false, false] (by kernel_rfl) rfl rfl ⟨(blk_cell BK165.out 0).trans rfl, (blk_cell BK165.out 1).trans rfl, (blk_cell BK165.out 2).trans rfl⟩ (fun hHeld => ?_); refine with_tabW rabbetref1_takeOne.tab16 rabbetref1_takeOne.bits16 (fun HT_ HW_ => ?_)
      generalize w83.drew = w84 at BK164 BK165 HB hHeld ⊢
      refine pure_ (i := 1) (N := some 59) (v := ?_) (a' := ?_) #[false, true, false, false, false, false, false, false, false, false, false] rfl rfl (any_of HT_.out (by kernel_rfl)) (fun _ _ _ h => h) (Or.inl ⟨by rfl, ?_⟩) ?_ ?_
      rotate_left
      ·
       intro w'
       go_simp
       with_reducible rfl
      rotate_left
      ·
       simp only [Act.put, List.setIfInBounds_toArray, List.set_cons_zero, List.set_cons_succ, i64_w, i32_w]
       rfl
      refine take_ (i := 0) (N := some 58) (v := ?_) (a' := ?_) #[true, true, false, false, false, false, false, false, false, false, false] rfl rfl (take_ofW HT_.out HW_.out (by kernel_rfl)) (fun _ _ _ h => h) (Or.inl ⟨by rfl, ?_⟩) hHeld ?_ ?_
      rotate_left
      ·
       rintro w' ⟨s0, s1, s2⟩
       go_simp
       with_reducible rfl
      rotate_left
      ·
       simp only [Act.put, List.setIfInBounds_toArray, List.set_cons_zero, List.set_cons_succ, i64_w, i32_w]
       rfl
      refine take_ (i := 2) (N := some 60) (v := ?_) (a' := ?_) #[true, true, true, false, false, false, false, false, false, false, false] rfl rfl (take_ofW HT_.out HW_.out (by kernel_rfl)) (fun _ _ _ h => h) (Or.inl ⟨by rfl, ?_⟩) hHeld ?_ ?_
      rotate_left
      ·
       rintro w' ⟨s0, s1, s2⟩
       go_simp
       with_reducible rfl
      rotate_left
      ·
       simp only [Act.put, List.setIfInBounds_toArray, List.set_cons_zero, List.set_cons_succ, i64_w, i32_w]
       rfl
      refine one_ (i := 3) (N := some 61) #[true, true, true, true, false, false, false, false, false, false, false] rfl rfl (one_of HT_.out (by kernel_rfl)) (by decide) (fun K hK => ?_)
      refine goes_ Tryd.func70 (by kernel_rfl) rfl #[.agg #[.int .i64 a0, .int .i64 t176, .string (⟨#[]⟩ : ByteArray)]] (by rfl) rfl rfl (by (try simp only [List.map_toArray, List.map_cons, List.map_nil]); first | done | rfl | (simp only [List.length_drop, List.length_take]; rfl)) ?_
      with_reducible refine (rabbetref1_May.calls a0 t176 (⟨#[]⟩ : ByteArray) true _ A74.out).mono ?_
      rintro e w85 ⟨rfl, hb⟩
      refine ⟨_, rfl, ?_⟩
      have n0_ := ak_ (blk_below (g := gb164) (o := .cells #[.int .i64 0, .int .i64 0, .string (⟨#[]⟩ : ByteArray)] 26 (0, 0)) (by (with_reducible repeat (first | refine bk_n ?_ _ | refine bk_d ?_ | refine bk_a ?_ _)); exact BK164.out) hb)
      have n1_ := ak_ (blk_below (g := gb165) (o := .cells #[.int .i64 a0, .int .i64 t176, .string (⟨#[]⟩ : ByteArray)] 26 (0, 0)) (by (with_reducible repeat (first | refine bk_n ?_ _ | refine bk_d ?_ | refine bk_a ?_ _)); exact BK165.out) hb)
      have n2_ := ak_ (below_step (by repeat (first | (with_reducible first | exact HB.out | apply bl_a | apply bl_n | apply bl_d | refine below_set ?_ GE164.out | refine below_set ?_ GE165.out) | exact HB.out)) hb)
      clear BK164
      clear BK165
      clear HB
      have BK164 := n0_
      have BK165 := n1_
      have HB := n2_
      clear n0_ n1_ n2_
      (try clear hb)
      (try clear hb2)
      (try clear hk)
      (try clear hi)
      refine hK.out _ _ ⟨(blk_cell BK165.out 0).trans rfl, (blk_cell BK165.out 1).trans rfl, (blk_cell BK165.out 2).trans rfl⟩ (fun hHeld => ?_)
      clear hK K
      refine norm_ (a' := ?_) ?_ ?_
      rotate_left
      ·
       show Act.put _ (some 61) _ = _
       simp only [Act.put, List.setIfInBounds_toArray, List.set_cons_zero, List.set_cons_succ, i64_w, i32_w]
       rfl
      refine pure_ (i := 4) (N := some 62) (v := ?_) (a' := ?_) #[true, true, true, true, true, false, false, false, false, false, false] rfl rfl (any_of HT_.out (by kernel_rfl)) (fun _ _ _ h => h) (Or.inl ⟨by rfl, ?_⟩) ?_ ?_
      rotate_left
      ·
       intro w'
       go_simp
       with_reducible rfl
      rotate_left
      ·
       simp only [Act.put, List.setIfInBounds_toArray, List.set_cons_zero, List.set_cons_succ, i64_w, i32_w]
       rfl
      refine pure_ (i := 5) (N := some 63) (v := ?_) (a' := ?_) #[true, true, true, true, true, true, false, false, false, false, false] rfl rfl (any_of HT_.out (by kernel_rfl)) (fun _ _ _ h => h) (Or.inl ⟨by rfl, ?_⟩) ?_ ?_
      rotate_left
      ·
       intro w'
       go_simp
       with_reducible rfl
      rotate_left
      ·
       simp only [Act.put, List.setIfInBounds_toArray, List.set_cons_zero, List.set_cons_succ, i64_w, i32_w]
       rfl
      refine one_ (i := 6) (N := some 64) #[true, true, true, true, true, true, true, false, false, false, false] rfl rfl (one_of HT_.out (by kernel_rfl)) (by decide) (fun K hK => ?_)
      refine goes_ Tryd.func42 (by kernel_rfl) rfl #[.int .i64 a0] (by rfl) rfl rfl (by (try simp only [List.map_toArray, List.map_cons, List.map_nil]); first | done | rfl | (simp only [List.length_drop, List.length_take]; rfl)) ?_
      with_reducible refine (rabbetref1_isType.calls a0 t178 _ A76.out).mono ?_
      rintro e w' ⟨rfl, ⟨nd, rfl⟩⟩
      refine ⟨_, rfl, ?_⟩
      refine hK.out _ _ ⟨(blk_cell BK165.out 0).trans rfl, (blk_cell BK165.out 1).trans rfl, (blk_cell BK165.out 2).trans rfl⟩ (fun hHeld => ?_)
      clear hK K
      refine norm_ (a' := ?_) ?_ ?_
      rotate_left
      ·
       show Act.put _ (some 64) _ = _
       simp only [Act.put, List.setIfInBounds_toArray, List.set_cons_zero, List.set_cons_succ, i64_w, i32_w]
       rfl
      refine pure_ (i := 7) (N := some 65) (v := ?_) (a' := ?_) #[true, true, true, true, true, true, true, true, false, false, false] rfl rfl (any_of HT_.out (by kernel_rfl)) (fun _ _ _ h => h) (Or.inl ⟨by rfl, ?_⟩) ?_ ?_
      rotate_left
      ·
       intro w'
       go_simp
       with_reducible rfl
      rotate_left
      ·
       simp only [Act.put, List.setIfInBounds_toArray, List.set_cons_zero, List.set_cons_succ, i64_w, i32_w]
       rfl
      refine one_ (i := 8) (N := none) #[true, true, true, true, true, true, true, true, true, false, false] rfl rfl (one_of HT_.out (by kernel_rfl)) (by decide) (fun K hK => ?_)
      have hs86 : w85.cell? ⟨gb164, 0, none⟩ = some (.int .i64 0) := (blk_cell BK164.out 0).trans rfl
      have hfs86 := blk_frozen BK164.out 0
      have hns86_1 := NB165_164.out
      have hms86_1 := NB164_165.out
      have hs87 : w85.cell? ⟨gb164, 1, none⟩ = some (.int .i64 0) := (blk_cell BK164.out 1).trans rfl
      have hfs87 := blk_frozen BK164.out 1
      have hns87_1 := NB165_164.out
      have hms87_1 := NB164_165.out
      have hs88 : w85.cell? ⟨gb164, 2, none⟩ = some (.string (⟨#[]⟩ : ByteArray)) := (blk_cell BK164.out 2).trans rfl
      have hfs88 := blk_frozen BK164.out 2
      have hns88_1 := NB165_164.out
      have hms88_1 := NB164_165.out
      refine skip_ (w1 := ?_) (by rfl) rfl ?_ ?_
      rotate_left
      ·
       go_simp
       rfl
      refine hK.out _ _ ⟨((cell_far (p := ⟨gb164, _, none⟩) NB165_164.out _).trans (((cell_far (p := ⟨gb164, _, none⟩) NB165_164.out _).trans (((cell_far (p := ⟨gb164, _, none⟩) NB165_164.out _).trans (hHeld.1)))))), ((cell_far (p := ⟨gb164, _, none⟩) NB165_164.out _).trans (((cell_far (p := ⟨gb164, _, none⟩) NB165_164.out _).trans (((cell_far (p := ⟨gb164, _, none⟩) NB165_164.out _).trans (hHeld.2.1)))))), ((cell_far (p := ⟨gb164, _, none⟩) NB165_164.out _).trans (((cell_far (p := ⟨gb164, _, none⟩) NB165_164.out _).trans (((cell_far (p := ⟨gb164, _, none⟩) NB165_164.out _).trans (hHeld.2.2))))))⟩ (fun hHeld => ?_)
      clear hK K
      refine pure_ (i := 9) (N := some 5) (v := ?_) (a' := ?_) #[true, true, true, true, true, true, true, true, true, true, false] rfl rfl (any_of HT_.out (by kernel_rfl)) (fun _ _ _ h => h) (Or.inl ⟨by rfl, ?_⟩) ?_ ?_
      rotate_left
      ·
       intro w'
       go_simp
       with_reducible rfl
      rotate_left
      ·
       simp only [Act.put, List.setIfInBounds_toArray, List.set_cons_zero, List.set_cons_succ, i64_w, i32_w]
       rfl
      refine pure_ (i := 10) (N := some 6) (v := ?_) (a' := ?_) #[true, true, true, true, true, true, true, true, true, true, true] rfl rfl (any_of HT_.out (by kernel_rfl)) (fun _ _ _ h => h) (Or.inl ⟨by rfl, ?_⟩) ?_ ?_
      rotate_left
      ·
       intro w'
       go_simp
       with_reducible rfl
      rotate_left
      ·
       simp only [Act.put, List.setIfInBounds_toArray, List.set_cons_zero, List.set_cons_succ, i64_w, i32_w]
       rfl
      refine done_ (done_of HT_.out (by kernel_rfl)) ?_
      try go_wp2
      refine bodyPost_ret (results_ctt rfl _ _ gb164 26 #[.int .i64 a0, .int .i64 t176, .string (⟨#[]⟩ : ByteArray)] (0, 0) _ rfl (by (with_reducible repeat (first | refine bk_n ?_ _ | refine bk_d ?_ | refine bk_a ?_ _)); refine blk_put (cs := #[.int .i64 a0, .int .i64 t176, .string (⟨#[]⟩ : ByteArray)]) ?_ 2 _ rfl; (with_reducible repeat (first | refine bk_n ?_ _ | refine bk_d ?_ | refine bk_a ?_ _)); refine blk_put (cs := #[.int .i64 a0, .int .i64 0, .string (⟨#[]⟩ : ByteArray)]) ?_ 1 _ rfl; (with_reducible repeat (first | refine bk_n ?_ _ | refine bk_d ?_ | refine bk_a ?_ _)); refine blk_put (cs := #[.int .i64 0, .int .i64 0, .string (⟨#[]⟩ : ByteArray)]) ?_ 0 _ rfl; (with_reducible repeat (first | refine bk_n ?_ _ | refine bk_d ?_ | refine bk_a ?_ _)); exact BK164.out) Tryd.underlying26 rfl (by kernel_rfl)) rfl ?_
      exact ⟨by first | rfl | (simp [errW_none, errW_some] <;> rfl) | (simp [*, errW_none, errW_some] <;> rfl), by repeat (first | (with_reducible first | exact HB.out | apply bl_a | apply bl_n | apply bl_d | refine below_set ?_ GE164.out | refine below_set ?_ GE165.out) | exact HB.out)⟩
     ·
      replace c75 := Bool.eq_false_iff.mpr c75
      subst c75
      have H1 : (some (a0, t176, (⟨#[]⟩ : ByteArray), t174, false)) = some (r1, r2, r3, r4, r5) := by rw [if_neg (show ¬ (false = true) by decide)] at H; exact H
      clear H
      have H := H1
      clear H1
      simp only [Option.some.injEq, Prod.mk.injEq] at H
      obtain ⟨rfl, rfl, rfl, rfl, rfl⟩ := H
      (try (have e_ : t176 = t177 := (by (with_reducible exact Option.some.inj (A73.out.symm.trans A74.out))); subst e_))
      go_enter Tryd.func63, Tryd.ntmps63
      try go_wp2_with (first | ((with_reducible refine gate_dst (N := 4) rfl ?_); refine box_event ?hg (N := 4) ?hd (cs := #[.int .i64 0, .int .i64 0, .string (⟨#[]⟩ : ByteArray)]) (t := 26) ?hr ?_; (case hd => rfl); (case hg => rfl); (case hr => first | (go_simp; done) | (go_simp; rfl)); intro gb164 hg w89 hbox hb; have n0_ := ak_ (below_step (by repeat (first | (with_reducible first | exact HB.out | apply bl_a | apply bl_n | apply bl_d) | exact HB.out)) hb); have n1_ := ak_ (hbox); have n2_ := ak_ ((by rw [hg]; exact (below_size (by repeat (first | (with_reducible first | exact HB.out | apply bl_a | apply bl_n | apply bl_d) | exact HB.out))) : w.heap.size ≤ gb164)); have n3_ := ak_ ((by rw [hg]; exact (below_size (by repeat (first | (with_reducible first | exact HB.out | apply bl_a | apply bl_n | apply bl_d) | exact HB.out))) : w.heap.size ≤ gb164)); clear HB; have HB := n0_; have BK164 := n1_; have GW164 := n2_; have GE164 := n3_; clear n0_ n1_ n2_ n3_; clear hb hbox hg) | ((with_reducible refine gate_dst (N := 7) rfl ?_); refine box_event ?hg (N := 7) ?hd (cs := #[.int .i64 0, .int .i64 0, .string (⟨#[]⟩ : ByteArray)]) (t := 26) ?hr ?_; (case hd => rfl); (case hg => rfl); (case hr => first | (go_simp; done) | (go_simp; rfl)); intro gb165 hg w90 hbox hb; have n0_ := ak_ (blk_below (g := gb164) (o := .cells #[.int .i64 0, .int .i64 0, .string (⟨#[]⟩ : ByteArray)] 26 (0, 0)) (by (with_reducible repeat (first | refine bk_n ?_ _ | refine bk_d ?_ | refine bk_a ?_ _)); exact BK164.out) hb); have n1_ := ak_ (below_step (by repeat (first | (with_reducible first | exact HB.out | apply bl_a | apply bl_n | apply bl_d | refine below_set ?_ GE164.out) | exact HB.out)) hb); have n2_ := ak_ (hbox); have n3_ := ak_ ((by rw [hg]; exact (below_size (by repeat (first | (with_reducible first | exact HB.out | apply bl_a | apply bl_n | apply bl_d | refine below_set ?_ GE164.out) | exact HB.out))) : w.heap.size ≤ gb165)); have n4_ := ak_ ((by rw [hg]; exact (below_size (by repeat (first | (with_reducible first | exact HB.out | apply bl_a | apply bl_n | apply bl_d | refine below_set ?_ GE164.out) | exact HB.out))) : w.heap.size ≤ gb165)); have n5_ := ak_ ((by rw [hg]; exact Nat.ne_of_lt (blk_lt (g := gb164) (o := .cells #[.int .i64 0, .int .i64 0, .string (⟨#[]⟩ : ByteArray)] 26 (0, 0)) (by (with_reducible repeat (first | refine bk_n ?_ _ | refine bk_d ?_ | refine bk_a ?_ _)); exact BK164.out)) : gb164 ≠ gb165)); have n6_ := ak_ ((by rw [hg]; exact Nat.ne_of_gt (blk_lt (g := gb164) (o := .cells #[.int .i64 0, .int .i64 0, .string (⟨#[]⟩ : ByteArray)] 26 (0, 0)) (by (with_reducible repeat (first | refine bk_n ?_ _ | refine bk_d ?_ | refine bk_a ?_ _)); exact BK164.out)) : gb165 ≠ gb164)); clear BK164; clear HB; have BK164 := n0_; have HB := n1_; have BK165 := n2_; have GW165 := n3_; have GE165 := n4_; have NB164_165 := n5_; have NB165_164 := n6_; clear n0_ n1_ n2_ n3_ n4_ n5_ n6_; clear hb hbox hg; have hnb91 := NB165_164.out; have hnc91 := NB164_165.out; have hcz92_0 : w90.cell? ⟨gb165, 0, none⟩ = some (.int .i64 0) := (blk_cell BK165.out 0).trans rfl; have hcz92_1 : w90.cell? ⟨gb165, 1, none⟩ = some (.int .i64 0) := (blk_cell BK165.out 1).trans rfl; have hcz92_2 : w90.cell? ⟨gb165, 2, none⟩ = some (.string (⟨#[]⟩ : ByteArray)) := (blk_cell BK165.out 2).trans rfl; have hfz92_0 := blk_frozen BK165.out 0; have hfz92_1 := blk_frozen BK165.out 1; have hfz92_2 := blk_frozen BK165.out 2) | ((with_reducible refine gate_callee (f := 64) rfl ?_); refine goesL_ (some 16) rfl rfl Tryd.func64 (by kernel_rfl) rfl #[.slice A1 l1.length c1] rfl (by (try simp only [List.map_toArray, List.map_cons, List.map_nil]); first | done | rfl | (simp only [List.length_drop, List.length_take]; rfl)) ?_; (with_reducible refine (rabbetref1_TakeNum.calls k _ _ l1 t173 t174 true _ ?side1 ?side2 A71.out).mono ?_); (case side1 => exact Kd.C_below HR1.out (by repeat (first | (with_reducible first | exact HB.out | apply bl_a | apply bl_n | apply bl_d | refine below_set ?_ GE164.out | refine below_set ?_ GE165.out) | exact HB.out))); (case side2 => exact HC1.out); rintro e w93 ⟨rfl, hb⟩; refine ⟨_, rfl, ?_⟩; have n0_ := ak_ (blk_below (g := gb164) (o := .cells #[.int .i64 0, .int .i64 0, .string (⟨#[]⟩ : ByteArray)] 26 (0, 0)) (by (with_reducible repeat (first | refine bk_n ?_ _ | refine bk_d ?_ | refine bk_a ?_ _)); refine blk_far ?_ NB164_165.out _; (with_reducible repeat (first | refine bk_n ?_ _ | refine bk_d ?_ | refine bk_a ?_ _)); refine blk_far ?_ NB164_165.out _; (with_reducible repeat (first | refine bk_n ?_ _ | refine bk_d ?_ | refine bk_a ?_ _)); refine blk_far ?_ NB164_165.out _; (with_reducible repeat (first | refine bk_n ?_ _ | refine bk_d ?_ | refine bk_a ?_ _)); exact BK164.out) hb); have n1_ := ak_ (blk_below (g := gb165) (o := .cells #[.int .i64 a0, .int .i64 0, .string (⟨#[]⟩ : ByteArray)] 26 (0, 0)) (by (with_reducible repeat (first | refine bk_n ?_ _ | refine bk_d ?_ | refine bk_a ?_ _)); refine blk_put (cs := #[.int .i64 a0, .int .i64 0, .string (⟨#[]⟩ : ByteArray)]) ?_ 2 _ rfl; (with_reducible repeat (first | refine bk_n ?_ _ | refine bk_d ?_ | refine bk_a ?_ _)); refine blk_put (cs := #[.int .i64 a0, .int .i64 0, .string (⟨#[]⟩ : ByteArray)]) ?_ 1 _ rfl; (with_reducible repeat (first | refine bk_n ?_ _ | refine bk_d ?_ | refine bk_a ?_ _)); refine blk_put (cs := #[.int .i64 0, .int .i64 0, .string (⟨#[]⟩ : ByteArray)]) ?_ 0 _ rfl; (with_reducible repeat (first | refine bk_n ?_ _ | refine bk_d ?_ | refine bk_a ?_ _)); exact BK165.out) hb); have n2_ := ak_ (below_step (by repeat (first | (with_reducible first | exact HB.out | apply bl_a | apply bl_n | apply bl_d | refine below_set ?_ GE164.out | refine below_set ?_ GE165.out) | exact HB.out)) hb); clear BK164; clear BK165; clear HB; have BK164 := n0_; have BK165 := n1_; have HB := n2_; clear n0_ n1_ n2_; (try clear hb); (try clear hb2); (try clear hk); (try clear hi)) | ((with_reducible refine gate_callee (f := 67) rfl ?_); refine goesL_ (some 24) rfl rfl Tryd.func67 (by kernel_rfl) rfl #[.int .u64 t173] rfl (by (try simp only [List.map_toArray, List.map_cons, List.map_nil]); first | done | rfl | (simp only [List.length_drop, List.length_take]; rfl)) ?_; (with_reducible refine (rabbetref1_Zag.calls t173 t176 _ A73.out).mono ?_); rintro e w' ⟨rfl, ⟨nd, rfl⟩⟩; refine ⟨_, rfl, ?_⟩; (try (rw [drewN_self w93]; generalize hq_ : World.drewN w93 _ = w93; have n0_ : Aside0 (w93.heap[gb164]? = some (.cells #[.int .i64 0, .int .i64 0, .string (⟨#[]⟩ : ByteArray)] 26 (0, 0))) := ⟨by rw [← hq_]; exact (by (with_reducible repeat (first | refine bk_n ?_ _ | refine bk_d ?_ | refine bk_a ?_ _)); exact BK164.out)⟩; have n1_ : Aside0 (w93.heap[gb165]? = some (.cells #[.int .i64 a0, .int .i64 0, .string (⟨#[]⟩ : ByteArray)] 26 (0, 0))) := ⟨by rw [← hq_]; exact (by (with_reducible repeat (first | refine bk_n ?_ _ | refine bk_d ?_ | refine bk_a ?_ _)); exact BK165.out)⟩; have n2_ : Aside0 (Below w.heap.size w w93) := ⟨by rw [← hq_]; exact (by repeat (first | (with_reducible first | exact HB.out | apply bl_a | apply bl_n | apply bl_d | refine below_set ?_ GE164.out | refine below_set ?_ GE165.out) | exact HB.out))⟩; clear BK164 BK165 HB hq_; have BK164 := n0_; have BK165 := n1_; have HB := n2_; clear n0_ n1_ n2_)); have hcz94_0 : w93.cell? ⟨gb165, 0, none⟩ = some (.int .i64 a0) := (blk_cell BK165.out 0).trans rfl; have hcz94_1 : w93.cell? ⟨gb165, 1, none⟩ = some (.int .i64 0) := (blk_cell BK165.out 1).trans rfl; have hcz94_2 : w93.cell? ⟨gb165, 2, none⟩ = some (.string (⟨#[]⟩ : ByteArray)) := (blk_cell BK165.out 2).trans rfl; have hfz94_0 := blk_frozen BK165.out 0; have hfz94_1 := blk_frozen BK165.out 1; have hfz94_2 := blk_frozen BK165.out 2))
      have n0_ : Aside0 ((w93.setCell ⟨gb165, 1, none⟩ (.int .i64 t176)).heap[gb164]? = some (.cells #[.int .i64 0, .int .i64 0, .string (⟨#[]⟩ : ByteArray)] 26 (0, 0))) := ⟨by (with_reducible repeat (first | refine bk_n ?_ _ | refine bk_d ?_ | refine bk_a ?_ _)); refine blk_far ?_ NB164_165.out _; (with_reducible repeat (first | refine bk_n ?_ _ | refine bk_d ?_ | refine bk_a ?_ _)); exact BK164.out⟩
      have n1_ : Aside0 ((w93.setCell ⟨gb165, 1, none⟩ (.int .i64 t176)).heap[gb165]? = some (.cells #[.int .i64 a0, .int .i64 t176, .string (⟨#[]⟩ : ByteArray)] 26 (0, 0))) := ⟨by (with_reducible repeat (first | refine bk_n ?_ _ | refine bk_d ?_ | refine bk_a ?_ _)); refine blk_put (cs := #[.int .i64 a0, .int .i64 0, .string (⟨#[]⟩ : ByteArray)]) ?_ 1 _ rfl; (with_reducible repeat (first | refine bk_n ?_ _ | refine bk_d ?_ | refine bk_a ?_ _)); exact BK165.out⟩
      have n2_ : Aside0 (Below w.heap.size w (w93.setCell ⟨gb165, 1, none⟩ (.int .i64 t176))) := ⟨by repeat (first | (with_reducible first | exact HB.out | apply bl_a | apply bl_n | apply bl_d | refine below_set ?_ GE164.out | refine below_set ?_ GE165.out) | exact HB.out)⟩
      (try clear BK164)
      (try clear BK165)
      (try clear HB)
      generalize (w93.setCell ⟨gb165, 1, none⟩ (.int .i64 t176)) = w95 at n0_ n1_ n2_ ⊢
      have BK164 := n0_
      have BK165 := n1_
      have HB := n2_
      clear n0_ n1_ n2_
      have n0_ := ak_ (bk_d BK164.out)
      have n1_ := ak_ (bk_d BK165.out)
      have n2_ := ak_ (bl_d HB.out)
      clear BK164
      clear BK165
      clear HB
      have BK164 := n0_
      have BK165 := n1_
      have HB := n2_
      clear n0_ n1_ n2_
      refine start_ (n := 11) (S := fun w' => w'.cell? ⟨gb165, 0, none⟩ = some (.int .i64 a0) ∧ w'.cell? ⟨gb165, 1, none⟩ = some (.int .i64 t176) ∧ w'.cell? ⟨gb165, 2, none⟩ = some (.string (⟨#[]⟩ : ByteArray))) (ds := []) #[false, false, false, false, false, false, false, false, false, false, false] (by kernel_rfl) rfl rfl ⟨(blk_cell BK165.out 0).trans rfl, (blk_cell BK165.out 1).trans rfl, (blk_cell BK165.out 2).trans rfl⟩ (fun hHeld => ?_); refine with_tabW rabbetref1_takeOne.tab16 rabbetref1_takeOne.bits16 (fun HT_ HW_ => ?_)
      generalize w95.drew = w96 at BK164 BK165 HB hHeld ⊢
      refine pure_ (i := 1) (N := some 59) (v := ?_) (a' := ?_) #[false, true, false, false, false, false, false, false, false, false, false] rfl rfl (any_of HT_.out (by kernel_rfl)) (fun _ _ _ h => h) (Or.inl ⟨by rfl, ?_⟩) ?_ ?_
      rotate_left
      ·
       intro w'
       go_simp
       with_reducible rfl
      rotate_left
      ·
       simp only [Act.put, List.setIfInBounds_toArray, List.set_cons_zero, List.set_cons_succ, i64_w, i32_w]
       rfl
      refine take_ (i := 0) (N := some 58) (v := ?_) (a' := ?_) #[true, true, false, false, false, false, false, false, false, false, false] rfl rfl (take_ofW HT_.out HW_.out (by kernel_rfl)) (fun _ _ _ h => h) (Or.inl ⟨by rfl, ?_⟩) hHeld ?_ ?_
      rotate_left
      ·
       rintro w' ⟨s0, s1, s2⟩
       go_simp
       with_reducible rfl
      rotate_left
      ·
       simp only [Act.put, List.setIfInBounds_toArray, List.set_cons_zero, List.set_cons_succ, i64_w, i32_w]
       rfl
      refine take_ (i := 2) (N := some 60) (v := ?_) (a' := ?_) #[true, true, true, false, false, false, false, false, false, false, false] rfl rfl (take_ofW HT_.out HW_.out (by kernel_rfl)) (fun _ _ _ h => h) (Or.inl ⟨by rfl, ?_⟩) hHeld ?_ ?_
      rotate_left
      ·
       rintro w' ⟨s0, s1, s2⟩
       go_simp
       with_reducible rfl
      rotate_left
      ·
       simp only [Act.put, List.setIfInBounds_toArray, List.set_cons_zero, List.set_cons_succ, i64_w, i32_w]
       rfl
      refine one_ (i := 3) (N := some 61) #[true, true, true, true, false, false, false, false, false, false, false] rfl rfl (one_of HT_.out (by kernel_rfl)) (by decide) (fun K hK => ?_)
      refine goes_ Tryd.func70 (by kernel_rfl) rfl #[.agg #[.int .i64 a0, .int .i64 t176, .string (⟨#[]⟩ : ByteArray)]] (by rfl) rfl rfl (by (try simp only [List.map_toArray, List.map_cons, List.map_nil]); first | done | rfl | (simp only [List.length_drop, List.length_take]; rfl)) ?_
      with_reducible refine (rabbetref1_May.calls a0 t176 (⟨#[]⟩ : ByteArray) false _ A74.out).mono ?_
      rintro e w97 ⟨rfl, hb⟩
      refine ⟨_, rfl, ?_⟩
      have n0_ := ak_ (blk_below (g := gb164) (o := .cells #[.int .i64 0, .int .i64 0, .string (⟨#[]⟩ : ByteArray)] 26 (0, 0)) (by (with_reducible repeat (first | refine bk_n ?_ _ | refine bk_d ?_ | refine bk_a ?_ _)); exact BK164.out) hb)
      have n1_ := ak_ (blk_below (g := gb165) (o := .cells #[.int .i64 a0, .int .i64 t176, .string (⟨#[]⟩ : ByteArray)] 26 (0, 0)) (by (with_reducible repeat (first | refine bk_n ?_ _ | refine bk_d ?_ | refine bk_a ?_ _)); exact BK165.out) hb)
      have n2_ := ak_ (below_step (by repeat (first | (with_reducible first | exact HB.out | apply bl_a | apply bl_n | apply bl_d | refine below_set ?_ GE164.out | refine below_set ?_ GE165.out) | exact HB.out)) hb)
      clear BK164
      clear BK165
      clear HB
      have BK164 := n0_
      have BK165 := n1_
      have HB := n2_
      clear n0_ n1_ n2_
      (try clear hb)
      (try clear hb2)
      (try clear hk)
      (try clear hi)
      refine hK.out _ _ ⟨(blk_cell BK165.out 0).trans rfl, (blk_cell BK165.out 1).trans rfl, (blk_cell BK165.out 2).trans rfl⟩ (fun hHeld => ?_)
      clear hK K
      refine norm_ (a' := ?_) ?_ ?_
      rotate_left
      ·
       show Act.put _ (some 61) _ = _
       simp only [Act.put, List.setIfInBounds_toArray, List.set_cons_zero, List.set_cons_succ, i64_w, i32_w]
       rfl
      refine pure_ (i := 4) (N := some 62) (v := ?_) (a' := ?_) #[true, true, true, true, true, false, false, false, false, false, false] rfl rfl (any_of HT_.out (by kernel_rfl)) (fun _ _ _ h => h) (Or.inl ⟨by rfl, ?_⟩) ?_ ?_
      rotate_left
      ·
       intro w'
       go_simp
       with_reducible rfl
      rotate_left
      ·
       simp only [Act.put, List.setIfInBounds_toArray, List.set_cons_zero, List.set_cons_succ, i64_w, i32_w]
       rfl
      refine pure_ (i := 5) (N := some 63) (v := undef) (a' := ?_) #[true, true, true, true, true, true, false, false, false, false, false] rfl rfl (any_of HT_.out (by kernel_rfl)) (fun _ _ _ h => h) (Or.inr ⟨by rfl, rfl⟩) ?_ ?_
      rotate_left
      ·
       simp only [Act.put, List.setIfInBounds_toArray, List.set_cons_zero, List.set_cons_succ, i64_w, i32_w]
       rfl
      refine pure_ (i := 6) (N := some 64) (v := undef) (a' := ?_) #[true, true, true, true, true, true, true, false, false, false, false] rfl rfl (any_of HT_.out (by kernel_rfl)) (fun _ _ _ h => h) (Or.inr ⟨by rfl, rfl⟩) ?_ ?_
      rotate_left
      ·
       simp only [Act.put, List.setIfInBounds_toArray, List.set_cons_zero, List.set_cons_succ, i64_w, i32_w]
       rfl
      refine pure_ (i := 7) (N := some 65) (v := ?_) (a' := ?_) #[true, true, true, true, true, true, true, true, false, false, false] rfl rfl (any_of HT_.out (by kernel_rfl)) (fun _ _ _ h => h) (Or.inl ⟨by rfl, ?_⟩) ?_ ?_
      rotate_left
      ·
       intro w'
       go_simp
       with_reducible rfl
      rotate_left
      ·
       simp only [Act.put, List.setIfInBounds_toArray, List.set_cons_zero, List.set_cons_succ, i64_w, i32_w]
       rfl
      refine one_ (i := 8) (N := none) #[true, true, true, true, true, true, true, true, true, false, false] rfl rfl (one_of HT_.out (by kernel_rfl)) (by decide) (fun K hK => ?_)
      have hs98 : w97.cell? ⟨gb164, 0, none⟩ = some (.int .i64 0) := (blk_cell BK164.out 0).trans rfl
      have hfs98 := blk_frozen BK164.out 0
      have hns98_1 := NB165_164.out
      have hms98_1 := NB164_165.out
      have hs99 : w97.cell? ⟨gb164, 1, none⟩ = some (.int .i64 0) := (blk_cell BK164.out 1).trans rfl
      have hfs99 := blk_frozen BK164.out 1
      have hns99_1 := NB165_164.out
      have hms99_1 := NB164_165.out
      have hs100 : w97.cell? ⟨gb164, 2, none⟩ = some (.string (⟨#[]⟩ : ByteArray)) := (blk_cell BK164.out 2).trans rfl
      have hfs100 := blk_frozen BK164.out 2
      have hns100_1 := NB165_164.out
      have hms100_1 := NB164_165.out
      refine skip_ (w1 := ?_) (by rfl) rfl ?_ ?_
      rotate_left
      ·
       go_simp
       rfl
      refine hK.out _ _ ⟨((cell_far (p := ⟨gb164, _, none⟩) NB165_164.out _).trans (((cell_far (p := ⟨gb164, _, none⟩) NB165_164.out _).trans (((cell_far (p := ⟨gb164, _, none⟩) NB165_164.out _).trans (hHeld.1)))))), ((cell_far (p := ⟨gb164, _, none⟩) NB165_164.out _).trans (((cell_far (p := ⟨gb164, _, none⟩) NB165_164.out _).trans (((cell_far (p := ⟨gb164, _, none⟩) NB165_164.out _).trans (hHeld.2.1)))))), ((cell_far (p := ⟨gb164, _, none⟩) NB165_164.out _).trans (((cell_far (p := ⟨gb164, _, none⟩) NB165_164.out _).trans (((cell_far (p := ⟨gb164, _, none⟩) NB165_164.out _).trans (hHeld.2.2))))))⟩ (fun hHeld => ?_)
      clear hK K
      refine pure_ (i := 9) (N := some 5) (v := ?_) (a' := ?_) #[true, true, true, true, true, true, true, true, true, true, false] rfl rfl (any_of HT_.out (by kernel_rfl)) (fun _ _ _ h => h) (Or.inl ⟨by rfl, ?_⟩) ?_ ?_
      rotate_left
      ·
       intro w'
       go_simp
       with_reducible rfl
      rotate_left
      ·
       simp only [Act.put, List.setIfInBounds_toArray, List.set_cons_zero, List.set_cons_succ, i64_w, i32_w]
       rfl
      refine pure_ (i := 10) (N := some 6) (v := ?_) (a' := ?_) #[true, true, true, true, true, true, true, true, true, true, true] rfl rfl (any_of HT_.out (by kernel_rfl)) (fun _ _ _ h => h) (Or.inl ⟨by rfl, ?_⟩) ?_ ?_
      rotate_left
      ·
       intro w'
       go_simp
       with_reducible rfl
      rotate_left
      ·
       simp only [Act.put, List.setIfInBounds_toArray, List.set_cons_zero, List.set_cons_succ, i64_w, i32_w]
       rfl
      refine done_ (done_of HT_.out (by kernel_rfl)) ?_
      try go_wp2
      refine bodyPost_ret (results_ctt rfl _ _ gb164 26 #[.int .i64 a0, .int .i64 t176, .string (⟨#[]⟩ : ByteArray)] (0, 0) _ rfl (by (with_reducible repeat (first | refine bk_n ?_ _ | refine bk_d ?_ | refine bk_a ?_ _)); refine blk_put (cs := #[.int .i64 a0, .int .i64 t176, .string (⟨#[]⟩ : ByteArray)]) ?_ 2 _ rfl; (with_reducible repeat (first | refine bk_n ?_ _ | refine bk_d ?_ | refine bk_a ?_ _)); refine blk_put (cs := #[.int .i64 a0, .int .i64 0, .string (⟨#[]⟩ : ByteArray)]) ?_ 1 _ rfl; (with_reducible repeat (first | refine bk_n ?_ _ | refine bk_d ?_ | refine bk_a ?_ _)); refine blk_put (cs := #[.int .i64 0, .int .i64 0, .string (⟨#[]⟩ : ByteArray)]) ?_ 0 _ rfl; (with_reducible repeat (first | refine bk_n ?_ _ | refine bk_d ?_ | refine bk_a ?_ _)); exact BK164.out) Tryd.underlying26 rfl (by kernel_rfl)) rfl ?_
      exact ⟨by first | rfl | (simp [errW_none, errW_some] <;> rfl) | (simp [*, errW_none, errW_some] <;> rfl), by repeat (first | (with_reducible first | exact HB.out | apply bl_a | apply bl_n | apply bl_d | refine below_set ?_ GE164.out | refine below_set ?_ GE165.out) | exact HB.out)⟩
    ·
     replace c72 := Bool.eq_false_iff.mpr c72
     subst c72
     have H1 : (some (0, 0, (⟨#[]⟩ : ByteArray), 0, false)) = some (r1, r2, r3, r4, r5) := by rw [if_neg (show ¬ (false = true) by decide)] at H; exact H
     clear H
     have H := H1
     clear H1
     simp only [Option.some.injEq, Prod.mk.injEq] at H
     obtain ⟨rfl, rfl, rfl, rfl, rfl⟩ := H
     go_enter Tryd.func63, Tryd.ntmps63
     go_wp2_with (first | ((with_reducible refine gate_dst (N := 4) rfl ?_); refine box_event ?hg (N := 4) ?hd (cs := #[.int .i64 0, .int .i64 0, .string (⟨#[]⟩ : ByteArray)]) (t := 26) ?hr ?_; (case hd => rfl); (case hg => rfl); (case hr => first | (go_simp; done) | (go_simp; rfl)); intro gb164 hg w101 hbox hb; have n0_ := ak_ (below_step (by repeat (first | (with_reducible first | exact HB.out | apply bl_a | apply bl_n | apply bl_d) | exact HB.out)) hb); have n1_ := ak_ (hbox); have n2_ := ak_ ((by rw [hg]; exact (below_size (by repeat (first | (with_reducible first | exact HB.out | apply bl_a | apply bl_n | apply bl_d) | exact HB.out))) : w.heap.size ≤ gb164)); have n3_ := ak_ ((by rw [hg]; exact (below_size (by repeat (first | (with_reducible first | exact HB.out | apply bl_a | apply bl_n | apply bl_d) | exact HB.out))) : w.heap.size ≤ gb164)); clear HB; have HB := n0_; have BK164 := n1_; have GW164 := n2_; have GE164 := n3_; clear n0_ n1_ n2_ n3_; clear hb hbox hg) | ((with_reducible refine gate_dst (N := 7) rfl ?_); refine box_event ?hg (N := 7) ?hd (cs := #[.int .i64 0, .int .i64 0, .string (⟨#[]⟩ : ByteArray)]) (t := 26) ?hr ?_; (case hd => rfl); (case hg => rfl); (case hr => first | (go_simp; done) | (go_simp; rfl)); intro gb165 hg w102 hbox hb; have n0_ := ak_ (blk_below (g := gb164) (o := .cells #[.int .i64 0, .int .i64 0, .string (⟨#[]⟩ : ByteArray)] 26 (0, 0)) (by (with_reducible repeat (first | refine bk_n ?_ _ | refine bk_d ?_ | refine bk_a ?_ _)); exact BK164.out) hb); have n1_ := ak_ (below_step (by repeat (first | (with_reducible first | exact HB.out | apply bl_a | apply bl_n | apply bl_d | refine below_set ?_ GE164.out) | exact HB.out)) hb); have n2_ := ak_ (hbox); have n3_ := ak_ ((by rw [hg]; exact (below_size (by repeat (first | (with_reducible first | exact HB.out | apply bl_a | apply bl_n | apply bl_d | refine below_set ?_ GE164.out) | exact HB.out))) : w.heap.size ≤ gb165)); have n4_ := ak_ ((by rw [hg]; exact (below_size (by repeat (first | (with_reducible first | exact HB.out | apply bl_a | apply bl_n | apply bl_d | refine below_set ?_ GE164.out) | exact HB.out))) : w.heap.size ≤ gb165)); have n5_ := ak_ ((by rw [hg]; exact Nat.ne_of_lt (blk_lt (g := gb164) (o := .cells #[.int .i64 0, .int .i64 0, .string (⟨#[]⟩ : ByteArray)] 26 (0, 0)) (by (with_reducible repeat (first | refine bk_n ?_ _ | refine bk_d ?_ | refine bk_a ?_ _)); exact BK164.out)) : gb164 ≠ gb165)); have n6_ := ak_ ((by rw [hg]; exact Nat.ne_of_gt (blk_lt (g := gb164) (o := .cells #[.int .i64 0, .int .i64 0, .string (⟨#[]⟩ : ByteArray)] 26 (0, 0)) (by (with_reducible repeat (first | refine bk_n ?_ _ | refine bk_d ?_ | refine bk_a ?_ _)); exact BK164.out)) : gb165 ≠ gb164)); clear BK164; clear HB; have BK164 := n0_; have HB := n1_; have BK165 := n2_; have GW165 := n3_; have GE165 := n4_; have NB164_165 := n5_; have NB165_164 := n6_; clear n0_ n1_ n2_ n3_ n4_ n5_ n6_; clear hb hbox hg; have hnb103 := NB165_164.out; have hnc103 := NB164_165.out; have hcz104_0 : w102.cell? ⟨gb165, 0, none⟩ = some (.int .i64 0) := (blk_cell BK165.out 0).trans rfl; have hcz104_1 : w102.cell? ⟨gb165, 1, none⟩ = some (.int .i64 0) := (blk_cell BK165.out 1).trans rfl; have hcz104_2 : w102.cell? ⟨gb165, 2, none⟩ = some (.string (⟨#[]⟩ : ByteArray)) := (blk_cell BK165.out 2).trans rfl; have hfz104_0 := blk_frozen BK165.out 0; have hfz104_1 := blk_frozen BK165.out 1; have hfz104_2 := blk_frozen BK165.out 2) | ((with_reducible refine gate_callee (f := 64) rfl ?_); refine goesL_ (some 16) rfl rfl Tryd.func64 (by kernel_rfl) rfl #[.slice A1 l1.length c1] rfl (by (try simp only [List.map_toArray, List.map_cons, List.map_nil]); first | done | rfl | (simp only [List.length_drop, List.length_take]; rfl)) ?_; (with_reducible refine (rabbetref1_TakeNum.calls k _ _ l1 t173 t174 false _ ?side1 ?side2 A71.out).mono ?_); (case side1 => exact Kd.C_below HR1.out (by repeat (first | (with_reducible first | exact HB.out | apply bl_a | apply bl_n | apply bl_d | refine below_set ?_ GE164.out | refine below_set ?_ GE165.out) | exact HB.out))); (case side2 => exact HC1.out); rintro e w105 ⟨rfl, hb⟩; refine ⟨_, rfl, ?_⟩; have n0_ := ak_ (blk_below (g := gb164) (o := .cells #[.int .i64 0, .int .i64 0, .string (⟨#[]⟩ : ByteArray)] 26 (0, 0)) (by (with_reducible repeat (first | refine bk_n ?_ _ | refine bk_d ?_ | refine bk_a ?_ _)); refine blk_far ?_ NB164_165.out _; (with_reducible repeat (first | refine bk_n ?_ _ | refine bk_d ?_ | refine bk_a ?_ _)); refine blk_far ?_ NB164_165.out _; (with_reducible repeat (first | refine bk_n ?_ _ | refine bk_d ?_ | refine bk_a ?_ _)); refine blk_far ?_ NB164_165.out _; (with_reducible repeat (first | refine bk_n ?_ _ | refine bk_d ?_ | refine bk_a ?_ _)); exact BK164.out) hb); have n1_ := ak_ (blk_below (g := gb165) (o := .cells #[.int .i64 a0, .int .i64 0, .string (⟨#[]⟩ : ByteArray)] 26 (0, 0)) (by (with_reducible repeat (first | refine bk_n ?_ _ | refine bk_d ?_ | refine bk_a ?_ _)); refine blk_put (cs := #[.int .i64 a0, .int .i64 0, .string (⟨#[]⟩ : ByteArray)]) ?_ 2 _ rfl; (with_reducible repeat (first | refine bk_n ?_ _ | refine bk_d ?_ | refine bk_a ?_ _)); refine blk_put (cs := #[.int .i64 a0, .int .i64 0, .string (⟨#[]⟩ : ByteArray)]) ?_ 1 _ rfl; (with_reducible repeat (first | refine bk_n ?_ _ | refine bk_d ?_ | refine bk_a ?_ _)); refine blk_put (cs := #[.int .i64 0, .int .i64 0, .string (⟨#[]⟩ : ByteArray)]) ?_ 0 _ rfl; (with_reducible repeat (first | refine bk_n ?_ _ | refine bk_d ?_ | refine bk_a ?_ _)); exact BK165.out) hb); have n2_ := ak_ (below_step (by repeat (first | (with_reducible first | exact HB.out | apply bl_a | apply bl_n | apply bl_d | refine below_set ?_ GE164.out | refine below_set ?_ GE165.out) | exact HB.out)) hb); clear BK164; clear BK165; clear HB; have BK164 := n0_; have BK165 := n1_; have HB := n2_; clear n0_ n1_ n2_; (try clear hb); (try clear hb2); (try clear hk); (try clear hi); have hcz106_0 : w105.cell? ⟨gb164, 0, none⟩ = some (.int .i64 0) := (blk_cell BK164.out 0).trans rfl; have hcz106_1 : w105.cell? ⟨gb164, 1, none⟩ = some (.int .i64 0) := (blk_cell BK164.out 1).trans rfl; have hcz106_2 : w105.cell? ⟨gb164, 2, none⟩ = some (.string (⟨#[]⟩ : ByteArray)) := (blk_cell BK164.out 2).trans rfl; have hfz106_0 := blk_frozen BK164.out 0; have hfz106_1 := blk_frozen BK164.out 1; have hfz106_2 := blk_frozen BK164.out 2))
     refine bodyPost_ret (results_ctt rfl _ _ gb164 26 #[.int .i64 0, .int .i64 0, .string (⟨#[]⟩ : ByteArray)] (0, 0) _ rfl (by (with_reducible repeat (first | refine bk_n ?_ _ | refine bk_d ?_ | refine bk_a ?_ _)); refine blk_put (cs := #[.int .i64 0, .int .i64 0, .string (⟨#[]⟩ : ByteArray)]) ?_ 2 _ rfl; (with_reducible repeat (first | refine bk_n ?_ _ | refine bk_d ?_ | refine bk_a ?_ _)); refine blk_put (cs := #[.int .i64 0, .int .i64 0, .string (⟨#[]⟩ : ByteArray)]) ?_ 1 _ rfl; (with_reducible repeat (first | refine bk_n ?_ _ | refine bk_d ?_ | refine bk_a ?_ _)); refine blk_put (cs := #[.int .i64 0, .int .i64 0, .string (⟨#[]⟩ : ByteArray)]) ?_ 0 _ rfl; (with_reducible repeat (first | refine bk_n ?_ _ | refine bk_d ?_ | refine bk_a ?_ _)); exact BK164.out) Tryd.underlying26 rfl (by kernel_rfl)) rfl ?_
     exact ⟨by first | rfl | (simp [errW_none, errW_some] <;> rfl) | (simp [*, errW_none, errW_some] <;> rfl), by repeat (first | (with_reducible first | exact HB.out | apply bl_a | apply bl_n | apply bl_d | refine below_set ?_ GE164.out | refine below_set ?_ GE165.out) | exact HB.out)⟩
end Go.Proofs.YtigldipjkejalaaDoor.PRleAll