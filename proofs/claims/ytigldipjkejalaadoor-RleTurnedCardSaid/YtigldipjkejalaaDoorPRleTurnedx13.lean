-- Written by xprint.py (a program of this project) out of the translation. Not trusted: Lean checks it. -- squeezed
import Derived.Test.YtigldipjkejalaaDoorPRleTurnedx0
import Derived.Test.YtigldipjkejalaaDoorPRleTurnedx3
import Derived.Test.YtigldipjkejalaaDoorPRleTurnedx6
import Derived.Test.YtigldipjkejalaaDoorPRleTurnedx12
namespace Go.Proofs.YtigldipjkejalaaDoor.PRleTurned
open Go.RowKit Go.Proofs.YtigldipjkejalaaDoorW.PrintWords Go.Proofs.YtigldipjkejalaaDoorW.PrintLast Go.Proofs.YtigldipjkejalaaDoorW.PrintMore
attribute [local go_sem] max2_int min2_int max_two min_two max_three min_three max_four min_four   -- for this text's walks alone
set_option linter.unusedVariables false
set_option linter.unusedSimpArgs false

/-! ### rabbetlaw6_RleTurned: function 10 -/
mutual
def rabbetlaw6_RleTurned.l0 : Nat → Int → List (S26) → List Int → Int → Int → Int → Int → Int → Int → Int → Option (Bool)
 | 0, _, _, _, _, _, _, _, _, _, _ => none
 | k + 1, x9, x10, x11, x13, x374000, x374001, x374002, x375000, x375001, x375002 => if x13 < 3 then (rabbetlaw6_RleTurned.j1 k x9 x10 x11 x13 (decide ((x11.length : Int) > 0)) x374000 x374001 x374002 x375000 x375001 x375002) else (rabbetlaw6_RleTurned.j1 k x9 x10 x11 x13 false x374000 x374001 x374002 x375000 x375001 x375002)
def rabbetlaw6_RleTurned.j1 : Nat → Int → List (S26) → List Int → Int → Bool → Int → Int → Int → Int → Int → Int → Option (Bool)
 | 0, _, _, _, _, _, _, _, _, _, _, _ => none
 | k + 1, x9, x10, x11, x13, x43, x374000, x374001, x374002, x375000, x375001, x375002 => if x43 = true then (if 0 ≤ x13 then (if x13 < 3 then (if (Int.tmod (rd ([x375000, x375001, x375002] : List Int) x13) 4) > 0 then (if (x11.length : Int) = 0 then (none) else (if 0 ≤ (Int.tmod (wrap64 (rd ([x374000, x374001, x374002] : List Int) x13)) (x11.length : Int)) then (if (Int.tmod (wrap64 (rd ([x374000, x374001, x374002] : List Int) x13)) (x11.length : Int)) < (x11.length : Int) then (rabbetlaw6_RleTurned.j2 k x9 x10 (x11.set ((Int.tmod (wrap64 (rd ([x374000, x374001, x374002] : List Int) x13)) (x11.length : Int)) : Int).toNat ((Int.tdiv (rd ([x375000, x375001, x375002] : List Int) x13) 2) % 256)) x13 x374000 x374001 x374002 x375000 x375001 x375002) else (none)) else (none))) else (rabbetlaw6_RleTurned.j2 k x9 x10 x11 x13 x374000 x374001 x374002 x375000 x375001 x375002)) else (none)) else (none)) else (some true)
def rabbetlaw6_RleTurned.j2 : Nat → Int → List (S26) → List Int → Int → Int → Int → Int → Int → Int → Int → Option (Bool)
 | 0, _, _, _, _, _, _, _, _, _, _ => none
 | k + 1, x9, x10, x11, x13, x374000, x374001, x374002, x375000, x375001, x375002 => rabbetlaw6_RleTurned.l1 k x9 x10 x11 x13 (wrap64 ((x10.length : Int) - 1)) x374000 x374001 x374002 x375000 x375001 x375002
def rabbetlaw6_RleTurned.l1 : Nat → Int → List (S26) → List Int → Int → Int → Int → Int → Int → Int → Int → Int → Option (Bool)
 | 0, _, _, _, _, _, _, _, _, _, _, _ => none
 | k + 1, x9, x10, x11, x13, x14, x374000, x374001, x374002, x375000, x375001, x375002 => if x14 ≤ (wrap64 ((x10.length : Int) + 1)) then ((rle_Take.f k x9 x14 x11).bind fun bt384 => ((rabbetref1_Decode.f k 2 x9 x14 x11).bind fun bt388 => (if (bt384.2 != bt388.2) = true then (none) else ((rabbetref1_SameValues.f k bt384.1 bt388.1).bind fun t392 => (if t392 = true then (rabbetlaw6_RleTurned.l1 k x9 x10 x11 x13 (wrap64 (x14 + 1)) x374000 x374001 x374002 x375000 x375001 x375002) else (none)))))) else (rabbetlaw6_RleTurned.l0 k x9 x10 x11 (wrap64 (x13 + 1)) x374000 x374001 x374002 x375000 x375001 x375002)
end
def rabbetlaw6_RleTurned.f (k : Nat) (a0 : Int) (l1 : List Int) (a2_0 : Int) (a2_1 : Int) (a2_2 : Int) (a3_0 : Int) (a3_1 : Int) (a3_2 : Int) : Option (Bool) := (rabbetlaw6_begun.f k).bind fun t375 => (if t375 = true then (if (l1.length : Int) > 60 then (some true) else ((rabbetlaw6_some.f k l1 (wrap64 (1 + (wrap64 (Int.tmod a0 4)))) 30).bind fun t376 => ((rabbetref1_Encode.f k 2 (wrap64 (1 + (wrap64 (Int.tmod a0 4)))) t376).bind fun bt379 => (rabbetlaw6_RleTurned.l0 k (wrap64 (1 + (wrap64 (Int.tmod a0 4)))) t376 bt379.1 0 a2_0 a2_1 a2_2 a3_0 a3_1 a3_2)))) else (none))
theorem rabbetlaw6_RleTurned.mono_l : ∀ k, (∀ y0 y1 y2 y3 y4 y5 y6 y7 y8 y9, LeO (rabbetlaw6_RleTurned.l0 k y0 y1 y2 y3 y4 y5 y6 y7 y8 y9) (rabbetlaw6_RleTurned.l0 (k + 1) y0 y1 y2 y3 y4 y5 y6 y7 y8 y9)) ∧ (∀ y0 y1 y2 y3 y4 y5 y6 y7 y8 y9 y10, LeO (rabbetlaw6_RleTurned.j1 k y0 y1 y2 y3 y4 y5 y6 y7 y8 y9 y10) (rabbetlaw6_RleTurned.j1 (k + 1) y0 y1 y2 y3 y4 y5 y6 y7 y8 y9 y10)) ∧ (∀ y0 y1 y2 y3 y4 y5 y6 y7 y8 y9, LeO (rabbetlaw6_RleTurned.j2 k y0 y1 y2 y3 y4 y5 y6 y7 y8 y9) (rabbetlaw6_RleTurned.j2 (k + 1) y0 y1 y2 y3 y4 y5 y6 y7 y8 y9)) ∧ (∀ y0 y1 y2 y3 y4 y5 y6 y7 y8 y9 y10, LeO (rabbetlaw6_RleTurned.l1 k y0 y1 y2 y3 y4 y5 y6 y7 y8 y9 y10) (rabbetlaw6_RleTurned.l1 (k + 1) y0 y1 y2 y3 y4 y5 y6 y7 y8 y9 y10))
 | 0 => ⟨fun _ _ _ _ _ _ _ _ _ _ r h => by simp [rabbetlaw6_RleTurned.l0] at h, fun _ _ _ _ _ _ _ _ _ _ _ r h => by simp [rabbetlaw6_RleTurned.j1] at h, fun _ _ _ _ _ _ _ _ _ _ r h => by simp [rabbetlaw6_RleTurned.j2] at h, fun _ _ _ _ _ _ _ _ _ _ _ r h => by simp [rabbetlaw6_RleTurned.l1] at h⟩
 | k + 1 => by
  obtain ⟨ih0, ih1, ih2, ih3⟩ := rabbetlaw6_RleTurned.mono_l k
  refine ⟨?_, ?_, ?_, ?_⟩
  ·
   intro y0 y1 y2 y3 y4 y5 y6 y7 y8 y9
   unfold rabbetlaw6_RleTurned.l0
   repeat' first
   | (with_reducible exact ih0 _ _ _ _ _ _ _ _ _ _)
   | (with_reducible exact ih1 _ _ _ _ _ _ _ _ _ _ _)
   | (with_reducible exact ih2 _ _ _ _ _ _ _ _ _ _)
   | (with_reducible exact ih3 _ _ _ _ _ _ _ _ _ _ _)
   | (with_reducible exact rabbetlaw6_begun.mono _)
   | (with_reducible exact rabbetlaw6_some.mono _ _ _ _)
   | (with_reducible exact rabbetref1_Decode.mono _ _ _ _ _)
   | (with_reducible exact rabbetref1_Encode.mono _ _ _ _)
   | (with_reducible exact rabbetref1_SameValues.mono _ _ _)
   | (with_reducible exact rle_Take.mono _ _ _ _)
   | (with_reducible exact LeO.refl _)
   | (with_reducible exact LeO.none _)
   | (with_reducible refine LeO.ite ?_ ?_)
   | (with_reducible refine LeO.bind ?_ (fun _ => ?_))
   | exact ih0 _ _ _ _ _ _ _ _ _ _
   | exact ih1 _ _ _ _ _ _ _ _ _ _ _
   | exact ih2 _ _ _ _ _ _ _ _ _ _
   | exact ih3 _ _ _ _ _ _ _ _ _ _ _
   | exact rabbetlaw6_begun.mono _
   | exact rabbetlaw6_some.mono _ _ _ _
   | exact rabbetref1_Decode.mono _ _ _ _ _
   | exact rabbetref1_Encode.mono _ _ _ _
   | exact rabbetref1_SameValues.mono _ _ _
   | exact rle_Take.mono _ _ _ _
   | exact LeO.none _
   | refine LeO.ite ?_ ?_
   | refine LeO.bind ?_ (fun _ => ?_)
  ·
   intro y0 y1 y2 y3 y4 y5 y6 y7 y8 y9 y10
   unfold rabbetlaw6_RleTurned.j1
   repeat' first
   | (with_reducible exact ih0 _ _ _ _ _ _ _ _ _ _)
   | (with_reducible exact ih1 _ _ _ _ _ _ _ _ _ _ _)
   | (with_reducible exact ih2 _ _ _ _ _ _ _ _ _ _)
   | (with_reducible exact ih3 _ _ _ _ _ _ _ _ _ _ _)
   | (with_reducible exact rabbetlaw6_begun.mono _)
   | (with_reducible exact rabbetlaw6_some.mono _ _ _ _)
   | (with_reducible exact rabbetref1_Decode.mono _ _ _ _ _)
   | (with_reducible exact rabbetref1_Encode.mono _ _ _ _)
   | (with_reducible exact rabbetref1_SameValues.mono _ _ _)
   | (with_reducible exact rle_Take.mono _ _ _ _)
   | (with_reducible exact LeO.refl _)
   | (with_reducible exact LeO.none _)
   | (with_reducible refine LeO.ite ?_ ?_)
   | (with_reducible refine LeO.bind ?_ (fun _ => ?_))
   | exact ih0 _ _ _ _ _ _ _ _ _ _
   | exact ih1 _ _ _ _ _ _ _ _ _ _ _
   | exact ih2 _ _ _ _ _ _ _ _ _ _
   | exact ih3 _ _ _ _ _ _ _ _ _ _ _
   | exact rabbetlaw6_begun.mono _
   | exact rabbetlaw6_some.mono _ _ _ _
   | exact rabbetref1_Decode.mono _ _ _ _ _
   | exact rabbetref1_Encode.mono _ _ _ _
   | exact rabbetref1_SameValues.mono _ _ _
   | exact rle_Take.mono _ _ _ _
   | exact LeO.none _
   | refine LeO.ite ?_ ?_
   | refine LeO.bind ?_ (fun _ => ?_)
  ·
   intro y0 y1 y2 y3 y4 y5 y6 y7 y8 y9
   unfold rabbetlaw6_RleTurned.j2
   repeat' first
   | (with_reducible exact ih0 _ _ _ _ _ _ _ _ _ _)
   | (with_reducible exact ih1 _ _ _ _ _ _ _ _ _ _ _)
   | (with_reducible exact ih2 _ _ _ _ _ _ _ _ _ _)
   | (with_reducible exact ih3 _ _ _ _ _ _ _ _ _ _ _)
   | (with_reducible exact rabbetlaw6_begun.mono _)
   | (with_reducible exact rabbetlaw6_some.mono _ _ _ _)
   | (with_reducible exact rabbetref1_Decode.mono _ _ _ _ _)
   | (with_reducible exact rabbetref1_Encode.mono _ _ _ _)
   | (with_reducible exact rabbetref1_SameValues.mono _ _ _)
   | (with_reducible exact rle_Take.mono _ _ _ _)
   | (with_reducible exact LeO.refl _)
   | (with_reducible exact LeO.none _)
   | (with_reducible refine LeO.ite ?_ ?_)
   | (with_reducible refine LeO.bind ?_ (fun _ => ?_))
   | exact ih0 _ _ _ _ _ _ _ _ _ _
   | exact ih1 _ _ _ _ _ _ _ _ _ _ _
   | exact ih2 _ _ _ _ _ _ _ _ _ _
   | exact ih3 _ _ _ _ _ _ _ _ _ _ _
   | exact rabbetlaw6_begun.mono _
   | exact rabbetlaw6_some.mono _ _ _ _
   | exact rabbetref1_Decode.mono _ _ _ _ _
   | exact rabbetref1_Encode.mono _ _ _ _
   | exact rabbetref1_SameValues.mono _ _ _
   | exact rle_Take.mono _ _ _ _
   | exact LeO.none _
   | refine LeO.ite ?_ ?_
   | refine LeO.bind ?_ (fun _ => ?_)
  ·
   intro y0 y1 y2 y3 y4 y5 y6 y7 y8 y9 y10
   unfold rabbetlaw6_RleTurned.l1
   repeat' first
   | (with_reducible exact ih0 _ _ _ _ _ _ _ _ _ _)
   | (with_reducible exact ih1 _ _ _ _ _ _ _ _ _ _ _)
   | (with_reducible exact ih2 _ _ _ _ _ _ _ _ _ _)
   | (with_reducible exact ih3 _ _ _ _ _ _ _ _ _ _ _)
   | (with_reducible exact rabbetlaw6_begun.mono _)
   | (with_reducible exact rabbetlaw6_some.mono _ _ _ _)
   | (with_reducible exact rabbetref1_Decode.mono _ _ _ _ _)
   | (with_reducible exact rabbetref1_Encode.mono _ _ _ _)
   | (with_reducible exact rabbetref1_SameValues.mono _ _ _)
   | (with_reducible exact rle_Take.mono _ _ _ _)
   | (with_reducible exact LeO.refl _)
   | (with_reducible exact LeO.none _)
   | (with_reducible refine LeO.ite ?_ ?_)
   | (with_reducible refine LeO.bind ?_ (fun _ => ?_))
   | exact ih0 _ _ _ _ _ _ _ _ _ _
   | exact ih1 _ _ _ _ _ _ _ _ _ _ _
   | exact ih2 _ _ _ _ _ _ _ _ _ _
   | exact ih3 _ _ _ _ _ _ _ _ _ _ _
   | exact rabbetlaw6_begun.mono _
   | exact rabbetlaw6_some.mono _ _ _ _
   | exact rabbetref1_Decode.mono _ _ _ _ _
   | exact rabbetref1_Encode.mono _ _ _ _
   | exact rabbetref1_SameValues.mono _ _ _
   | exact rle_Take.mono _ _ _ _
   | exact LeO.none _
   | refine LeO.ite ?_ ?_
   | refine LeO.bind ?_ (fun _ => ?_)
theorem rabbetlaw6_RleTurned.mono : ∀ a0 a1 a2 a3 a4 a5 a6 a7 k, LeO (rabbetlaw6_RleTurned.f k a0 a1 a2 a3 a4 a5 a6 a7) (rabbetlaw6_RleTurned.f (k + 1) a0 a1 a2 a3 a4 a5 a6 a7) := by
 intro a0 a1 a2 a3 a4 a5 a6 a7 k
 obtain ⟨ih0, ih1, ih2, ih3⟩ := rabbetlaw6_RleTurned.mono_l k
 unfold rabbetlaw6_RleTurned.f
 repeat' first
   | (with_reducible exact ih0 _ _ _ _ _ _ _ _ _ _)
   | (with_reducible exact ih1 _ _ _ _ _ _ _ _ _ _ _)
   | (with_reducible exact ih2 _ _ _ _ _ _ _ _ _ _)
   | (with_reducible exact ih3 _ _ _ _ _ _ _ _ _ _ _)
   | (with_reducible exact rabbetlaw6_begun.mono _)
   | (with_reducible exact rabbetlaw6_some.mono _ _ _ _)
   | (with_reducible exact rabbetref1_Decode.mono _ _ _ _ _)
   | (with_reducible exact rabbetref1_Encode.mono _ _ _ _)
   | (with_reducible exact rabbetref1_SameValues.mono _ _ _)
   | (with_reducible exact rle_Take.mono _ _ _ _)
   | (with_reducible exact LeO.refl _)
   | (with_reducible exact LeO.none _)
   | (with_reducible refine LeO.ite ?_ ?_)
   | (with_reducible refine LeO.bind ?_ (fun _ => ?_))
   | exact ih0 _ _ _ _ _ _ _ _ _ _
   | exact ih1 _ _ _ _ _ _ _ _ _ _ _
   | exact ih2 _ _ _ _ _ _ _ _ _ _
   | exact ih3 _ _ _ _ _ _ _ _ _ _ _
   | exact rabbetlaw6_begun.mono _
   | exact rabbetlaw6_some.mono _ _ _ _
   | exact rabbetref1_Decode.mono _ _ _ _ _
   | exact rabbetref1_Encode.mono _ _ _ _
   | exact rabbetref1_SameValues.mono _ _ _
   | exact rle_Take.mono _ _ _ _
   | exact LeO.none _
   | refine LeO.ite ?_ ?_
   | refine LeO.bind ?_ (fun _ => ?_)
def rabbetlaw6_RleTurned.T12 : Bool × List (List Nat × List Nat) := (true, [([], []), ([], []), ([1], [1]), ([2], [2]), ([3], [3]), ([], []), ([5], [5]), ([4, 6], [4, 6]), ([], []), ([8], [8]), ([9], [9]), ([10], [10]), ([0, 7, 0, 1, 2, 3, 4, 5, 6, 7, 8, 9, 10, 11], [0, 7]), ([12, 11, 0, 1, 2, 3, 4, 5, 6, 7, 8, 9, 10, 11], [11, 12])])
def rabbetlaw6_RleTurned.B12 : List Nat := [0, 0, 2, 6, 14, 0, 32, 126, 0, 256, 768, 1792, 4095, 8191]
theorem rabbetlaw6_RleTurned.tab12 : rtab .any (opsOf Tryd.f10 12) = rabbetlaw6_RleTurned.T12 := by kernel_rfl
theorem rabbetlaw6_RleTurned.bits12 : waitsOk rabbetlaw6_RleTurned.T12.2 rabbetlaw6_RleTurned.B12 = true := by kernel_rfl
set_option maxHeartbeats 8000000 in
set_option maxRecDepth 100000 in
theorem rabbetlaw6_RleTurned.calls (GA : Nat → Addr) (k : Nat) (a0 : Int) (A1 : Option Addr) (c1 : Nat) (l1 : List Int) (a2_0 : Int) (a2_1 : Int) (a2_2 : Int) (a3_0 : Int) (a3_1 : Int) (a3_2 : Int) (r : Bool) (w : World) (hr1 : Kd.C (Kd.int .u8) w A1 l1.length l1) (hc1 : l1.length ≤ c1) (hG : Glob GA w) (h : rabbetlaw6_RleTurned.f k a0 l1 a2_0 a2_1 a2_2 a3_0 a3_1 a3_2 = some r) :
  Calls Tryd.prog 10 #[.int .u8 a0, .slice A1 l1.length c1, .agg #[.int .u8 a2_0, .int .u8 a2_1, .int .u8 a2_2], .agg #[.int .u8 a3_0, .int .u8 a3_1, .int .u8 a3_2]] w fun e w' => e = .returned (.bool r) ∧ Below w.heap.size w w' := by
 have hu42 := Tryd.underlying42
 have HG := ak_ hG
 clear hG
 have HR1 := ak_ hr1
 have HC1 := ak_ hc1
 clear hr1 hc1
 have HB := ak_ (Below.refl w.heap.size w)
 have H : ((rabbetlaw6_begun.f k).bind fun t375 => (if t375 = true then (if (l1.length : Int) > 60 then (some true) else ((rabbetlaw6_some.f k l1 (wrap64 (1 + (wrap64 (Int.tmod a0 4)))) 30).bind fun t376 => ((rabbetref1_Encode.f k 2 (wrap64 (1 + (wrap64 (Int.tmod a0 4)))) t376).bind fun bt379 => (rabbetlaw6_RleTurned.l0 k (wrap64 (1 + (wrap64 (Int.tmod a0 4)))) t376 bt379.1 0 a2_0 a2_1 a2_2 a3_0 a3_1 a3_2)))) else (none))) = some r := h
 clear h
 replace H := Option.bind_eq_some_iff.mp H
 obtain ⟨t375, A50, H⟩ := H
 replace H : (if t375 = true then (if (l1.length : Int) > 60 then (some true) else ((rabbetlaw6_some.f k l1 (wrap64 (1 + (wrap64 (Int.tmod a0 4)))) 30).bind fun t376 => ((rabbetref1_Encode.f k 2 (wrap64 (1 + (wrap64 (Int.tmod a0 4)))) t376).bind fun bt379 => (rabbetlaw6_RleTurned.l0 k (wrap64 (1 + (wrap64 (Int.tmod a0 4)))) t376 bt379.1 0 a2_0 a2_1 a2_2 a3_0 a3_1 a3_2)))) else (none)) = some r := H
 have A5 := ak_ A50
 clear A50
 by_cases c6 : t375 = true
 ·
  subst c6
  have H1 : (if (l1.length : Int) > 60 then (some true) else ((rabbetlaw6_some.f k l1 (wrap64 (1 + (wrap64 (Int.tmod a0 4)))) 30).bind fun t376 => ((rabbetref1_Encode.f k 2 (wrap64 (1 + (wrap64 (Int.tmod a0 4)))) t376).bind fun bt379 => (rabbetlaw6_RleTurned.l0 k (wrap64 (1 + (wrap64 (Int.tmod a0 4)))) t376 bt379.1 0 a2_0 a2_1 a2_2 a3_0 a3_1 a3_2)))) = some r := by rw [if_pos rfl] at H; exact H
  clear H
  have H := H1
  clear H1
  by_cases c7 : (l1.length : Int) > 60
  ·
   rw [if_pos c7] at H
   have c7b0 : decide (60 < (l1.length : Int)) = true := decide_eq_true c7
   have c7b1 : decide (60 < l1.length) = true := decide_eq_true (by omega)
   clear c7
   obtain rfl := Option.some.inj H
   go_enter Tryd.func10, Tryd.ntmps10
   go_wp2_with (first | ((with_reducible refine gate_dst (N := 6) rfl ?_); (try (refine gate_guard (by rfl) ?_; dsimp only)); refine box_event ?hg (N := 6) ?hd (cs := #[.int .u8 a2_0, .int .u8 a2_1, .int .u8 a2_2]) (t := 42) ?hr ?_; (case hd => rfl); (case hg => rfl); (case hr => first | (go_simp; done) | (go_simp; rfl)); intro gb373 hg w8 hbox hb; have n0_ := ak_ (below_step (by repeat (first | (with_reducible first | exact HB.out | apply bl_a | apply bl_n | apply bl_d) | exact HB.out)) hb); have n1_ := ak_ (hbox); have n2_ := ak_ ((by rw [hg]; exact (below_size (by repeat (first | (with_reducible first | exact HB.out | apply bl_a | apply bl_n | apply bl_d) | exact HB.out))) : w.heap.size ≤ gb373)); have n3_ := ak_ ((by rw [hg]; exact (below_size (by repeat (first | (with_reducible first | exact HB.out | apply bl_a | apply bl_n | apply bl_d) | exact HB.out))) : w.heap.size ≤ gb373)); clear HB; have HB := n0_; have BK373 := n1_; have GW373 := n2_; have GE373 := n3_; clear n0_ n1_ n2_ n3_; clear hb hbox hg) | ((with_reducible refine gate_dst (N := 7) rfl ?_); (try (refine gate_guard (by rfl) ?_; dsimp only)); refine box_event ?hg (N := 7) ?hd (cs := #[.int .u8 a3_0, .int .u8 a3_1, .int .u8 a3_2]) (t := 42) ?hr ?_; (case hd => rfl); (case hg => rfl); (case hr => first | (go_simp; done) | (go_simp; rfl)); intro gb374 hg w9 hbox hb; have n0_ := ak_ (blk_below (g := gb373) (o := .cells #[.int .u8 a2_0, .int .u8 a2_1, .int .u8 a2_2] 42 (0, 0)) (by (with_reducible repeat (first | refine bk_n ?_ _ | refine bk_d ?_ | refine bk_a ?_ _)); exact BK373.out) hb); have n1_ := ak_ (below_step (by repeat (first | (with_reducible first | exact HB.out | apply bl_a | apply bl_n | apply bl_d | refine below_set ?_ GE373.out) | exact HB.out)) hb); have n2_ := ak_ (hbox); have n3_ := ak_ ((by rw [hg]; exact (below_size (by repeat (first | (with_reducible first | exact HB.out | apply bl_a | apply bl_n | apply bl_d | refine below_set ?_ GE373.out) | exact HB.out))) : w.heap.size ≤ gb374)); have n4_ := ak_ ((by rw [hg]; exact (below_size (by repeat (first | (with_reducible first | exact HB.out | apply bl_a | apply bl_n | apply bl_d | refine below_set ?_ GE373.out) | exact HB.out))) : w.heap.size ≤ gb374)); have n5_ := ak_ ((by rw [hg]; exact Nat.ne_of_lt (blk_lt (g := gb373) (o := .cells #[.int .u8 a2_0, .int .u8 a2_1, .int .u8 a2_2] 42 (0, 0)) (by (with_reducible repeat (first | refine bk_n ?_ _ | refine bk_d ?_ | refine bk_a ?_ _)); exact BK373.out)) : gb373 ≠ gb374)); have n6_ := ak_ ((by rw [hg]; exact Nat.ne_of_gt (blk_lt (g := gb373) (o := .cells #[.int .u8 a2_0, .int .u8 a2_1, .int .u8 a2_2] 42 (0, 0)) (by (with_reducible repeat (first | refine bk_n ?_ _ | refine bk_d ?_ | refine bk_a ?_ _)); exact BK373.out)) : gb374 ≠ gb373)); clear BK373; clear HB; have BK373 := n0_; have HB := n1_; have BK374 := n2_; have GW374 := n3_; have GE374 := n4_; have NB373_374 := n5_; have NB374_373 := n6_; clear n0_ n1_ n2_ n3_ n4_ n5_ n6_; clear hb hbox hg) | ((with_reducible refine gate_callee (f := 22) rfl ?_); refine goesL_ (some 19) rfl rfl Tryd.func22 (by kernel_rfl) rfl #[] rfl (by (try simp only [List.map_toArray, List.map_cons, List.map_nil]); first | done | rfl | (simp only [List.length_drop, List.length_take]; rfl)) ?_; (with_reducible refine (rabbetlaw6_begun.calls GA k  true _ ?side1 A5.out).mono ?_); (case side1 => exact Glob.below HG.out (by repeat (first | (with_reducible first | exact HB.out | apply bl_a | apply bl_n | apply bl_d | refine below_set ?_ GE373.out | refine below_set ?_ GE374.out) | exact HB.out))); rintro e w10 ⟨rfl, hb⟩; refine ⟨_, rfl, ?_⟩; have n0_ := ak_ (blk_below (g := gb373) (o := .cells #[.int .u8 a2_0, .int .u8 a2_1, .int .u8 a2_2] 42 (0, 0)) (by (with_reducible repeat (first | refine bk_n ?_ _ | refine bk_d ?_ | refine bk_a ?_ _)); exact BK373.out) hb); have n1_ := ak_ (blk_below (g := gb374) (o := .cells #[.int .u8 a3_0, .int .u8 a3_1, .int .u8 a3_2] 42 (0, 0)) (by (with_reducible repeat (first | refine bk_n ?_ _ | refine bk_d ?_ | refine bk_a ?_ _)); exact BK374.out) hb); have n2_ := ak_ (below_step (by repeat (first | (with_reducible first | exact HB.out | apply bl_a | apply bl_n | apply bl_d | refine below_set ?_ GE373.out | refine below_set ?_ GE374.out) | exact HB.out)) hb); clear BK373; clear BK374; clear HB; have BK373 := n0_; have BK374 := n1_; have HB := n2_; clear n0_ n1_ n2_; (try clear hb); (try clear hb2); (try clear hk); (try clear hi)))
   go_ret
   exact ⟨by first | rfl | (simp [errW_none, errW_some] <;> rfl) | (simp [*, errW_none, errW_some] <;> rfl), by repeat (first | (with_reducible first | exact HB.out | apply bl_a | apply bl_n | apply bl_d | refine below_set ?_ GE373.out | refine below_set ?_ GE374.out) | exact HB.out)⟩
  ·
   rw [if_neg c7] at H
   have c7b0 : decide (60 < (l1.length : Int)) = false := decide_eq_false c7
   have c7b1 : decide (60 < l1.length) = false := decide_eq_false (by omega)
   clear c7
   replace H := Option.bind_eq_some_iff.mp H
   obtain ⟨t376, A110, H⟩ := H
   replace H : ((rabbetref1_Encode.f k 2 (wrap64 (1 + (wrap64 (Int.tmod a0 4)))) t376).bind fun bt379 => (rabbetlaw6_RleTurned.l0 k (wrap64 (1 + (wrap64 (Int.tmod a0 4)))) t376 bt379.1 0 a2_0 a2_1 a2_2 a3_0 a3_1 a3_2)) = some r := H
   have A11 := ak_ A110
   clear A110
   replace H := Option.bind_eq_some_iff.mp H
   obtain ⟨⟨t379, t380⟩, A120, H⟩ := H
   replace H : (rabbetlaw6_RleTurned.l0 k (wrap64 (1 + (wrap64 (Int.tmod a0 4)))) t376 t379 0 a2_0 a2_1 a2_2 a3_0 a3_1 a3_2) = some r := H
   have A12 := ak_ A120
   clear A120
   have H' := ak_ H
   clear H
   (try (have e_ : t375 = t376 := (by (with_reducible exact Option.some.inj (A5.out.symm.trans A11.out))); subst e_))
   go_enter Tryd.func10, Tryd.ntmps10
   go_wp2_with (first | ((with_reducible refine gate_dst (N := 6) rfl ?_); (try (refine gate_guard (by rfl) ?_; dsimp only)); refine box_event ?hg (N := 6) ?hd (cs := #[.int .u8 a2_0, .int .u8 a2_1, .int .u8 a2_2]) (t := 42) ?hr ?_; (case hd => rfl); (case hg => rfl); (case hr => first | (go_simp; done) | (go_simp; rfl)); intro gb373 hg w13 hbox hb; have n0_ := ak_ (below_step (by repeat (first | (with_reducible first | exact HB.out | apply bl_a | apply bl_n | apply bl_d) | exact HB.out)) hb); have n1_ := ak_ (hbox); have n2_ := ak_ ((by rw [hg]; exact (below_size (by repeat (first | (with_reducible first | exact HB.out | apply bl_a | apply bl_n | apply bl_d) | exact HB.out))) : w.heap.size ≤ gb373)); have n3_ := ak_ ((by rw [hg]; exact (below_size (by repeat (first | (with_reducible first | exact HB.out | apply bl_a | apply bl_n | apply bl_d) | exact HB.out))) : w.heap.size ≤ gb373)); clear HB; have HB := n0_; have BK373 := n1_; have GW373 := n2_; have GE373 := n3_; clear n0_ n1_ n2_ n3_; clear hb hbox hg) | ((with_reducible refine gate_dst (N := 7) rfl ?_); (try (refine gate_guard (by rfl) ?_; dsimp only)); refine box_event ?hg (N := 7) ?hd (cs := #[.int .u8 a3_0, .int .u8 a3_1, .int .u8 a3_2]) (t := 42) ?hr ?_; (case hd => rfl); (case hg => rfl); (case hr => first | (go_simp; done) | (go_simp; rfl)); intro gb374 hg w14 hbox hb; have n0_ := ak_ (blk_below (g := gb373) (o := .cells #[.int .u8 a2_0, .int .u8 a2_1, .int .u8 a2_2] 42 (0, 0)) (by (with_reducible repeat (first | refine bk_n ?_ _ | refine bk_d ?_ | refine bk_a ?_ _)); exact BK373.out) hb); have n1_ := ak_ (below_step (by repeat (first | (with_reducible first | exact HB.out | apply bl_a | apply bl_n | apply bl_d | refine below_set ?_ GE373.out) | exact HB.out)) hb); have n2_ := ak_ (hbox); have n3_ := ak_ ((by rw [hg]; exact (below_size (by repeat (first | (with_reducible first | exact HB.out | apply bl_a | apply bl_n | apply bl_d | refine below_set ?_ GE373.out) | exact HB.out))) : w.heap.size ≤ gb374)); have n4_ := ak_ ((by rw [hg]; exact (below_size (by repeat (first | (with_reducible first | exact HB.out | apply bl_a | apply bl_n | apply bl_d | refine below_set ?_ GE373.out) | exact HB.out))) : w.heap.size ≤ gb374)); have n5_ := ak_ ((by rw [hg]; exact Nat.ne_of_lt (blk_lt (g := gb373) (o := .cells #[.int .u8 a2_0, .int .u8 a2_1, .int .u8 a2_2] 42 (0, 0)) (by (with_reducible repeat (first | refine bk_n ?_ _ | refine bk_d ?_ | refine bk_a ?_ _)); exact BK373.out)) : gb373 ≠ gb374)); have n6_ := ak_ ((by rw [hg]; exact Nat.ne_of_gt (blk_lt (g := gb373) (o := .cells #[.int .u8 a2_0, .int .u8 a2_1, .int .u8 a2_2] 42 (0, 0)) (by (with_reducible repeat (first | refine bk_n ?_ _ | refine bk_d ?_ | refine bk_a ?_ _)); exact BK373.out)) : gb374 ≠ gb373)); clear BK373; clear HB; have BK373 := n0_; have HB := n1_; have BK374 := n2_; have GW374 := n3_; have GE374 := n4_; have NB373_374 := n5_; have NB374_373 := n6_; clear n0_ n1_ n2_ n3_ n4_ n5_ n6_; clear hb hbox hg) | ((with_reducible refine gate_callee (f := 22) rfl ?_); refine goesL_ (some 19) rfl rfl Tryd.func22 (by kernel_rfl) rfl #[] rfl (by (try simp only [List.map_toArray, List.map_cons, List.map_nil]); first | done | rfl | (simp only [List.length_drop, List.length_take]; rfl)) ?_; (with_reducible refine (rabbetlaw6_begun.calls GA k  true _ ?side1 A5.out).mono ?_); (case side1 => exact Glob.below HG.out (by repeat (first | (with_reducible first | exact HB.out | apply bl_a | apply bl_n | apply bl_d | refine below_set ?_ GE373.out | refine below_set ?_ GE374.out) | exact HB.out))); rintro e w15 ⟨rfl, hb⟩; refine ⟨_, rfl, ?_⟩; have n0_ := ak_ (blk_below (g := gb373) (o := .cells #[.int .u8 a2_0, .int .u8 a2_1, .int .u8 a2_2] 42 (0, 0)) (by (with_reducible repeat (first | refine bk_n ?_ _ | refine bk_d ?_ | refine bk_a ?_ _)); exact BK373.out) hb); have n1_ := ak_ (blk_below (g := gb374) (o := .cells #[.int .u8 a3_0, .int .u8 a3_1, .int .u8 a3_2] 42 (0, 0)) (by (with_reducible repeat (first | refine bk_n ?_ _ | refine bk_d ?_ | refine bk_a ?_ _)); exact BK374.out) hb); have n2_ := ak_ (below_step (by repeat (first | (with_reducible first | exact HB.out | apply bl_a | apply bl_n | apply bl_d | refine below_set ?_ GE373.out | refine below_set ?_ GE374.out) | exact HB.out)) hb); clear BK373; clear BK374; clear HB; have BK373 := n0_; have BK374 := n1_; have HB := n2_; clear n0_ n1_ n2_; (try clear hb); (try clear hb2); (try clear hk); (try clear hi)) | ((with_reducible refine gate_callee (f := 23) rfl ?_); refine goesL_ (some 30) rfl rfl Tryd.func23 (by kernel_rfl) rfl #[.slice A1 l1.length c1, .int .i64 (wrap64 (1 + (wrap64 (Int.tmod a0 4)))), .int .i64 30] rfl (by (try simp only [List.map_toArray, List.map_cons, List.map_nil]); first | done | rfl | (simp only [List.length_drop, List.length_take]; rfl)) ?_; (with_reducible refine (rabbetlaw6_some.calls k _ _ l1 (wrap64 (1 + (wrap64 (Int.tmod a0 4)))) 30 t376 _ ?side1 ?side2 A11.out).mono ?_); (case side1 => repeat (first | exact (Kd.C_below HR1.out HB.out) | (with_reducible refine Kd.C_alloc ?_ _) | (with_reducible refine Kd.C_drewN ?_ _) | (with_reducible refine Kd.C_drew ?_))); (case side2 => exact HC1.out); rintro e w16 ⟨v377, rfl, ho0, hb⟩; refine ⟨_, rfl, ?_⟩; have n0_ := ak_ (Kd.R_lower ho0 (below_size (by repeat (first | (with_reducible first | exact HB.out | apply bl_a | apply bl_n | apply bl_d | refine below_set ?_ GE373.out | refine below_set ?_ GE374.out) | exact HB.out)))); have n1_ := ak_ (blk_below (g := gb373) (o := .cells #[.int .u8 a2_0, .int .u8 a2_1, .int .u8 a2_2] 42 (0, 0)) (by (with_reducible repeat (first | refine bk_n ?_ _ | refine bk_d ?_ | refine bk_a ?_ _)); exact BK373.out) hb); have n2_ := ak_ (blk_below (g := gb374) (o := .cells #[.int .u8 a3_0, .int .u8 a3_1, .int .u8 a3_2] 42 (0, 0)) (by (with_reducible repeat (first | refine bk_n ?_ _ | refine bk_d ?_ | refine bk_a ?_ _)); exact BK374.out) hb); have n3_ := ak_ (below_step (by repeat (first | (with_reducible first | exact HB.out | apply bl_a | apply bl_n | apply bl_d | refine below_set ?_ GE373.out | refine below_set ?_ GE374.out) | exact HB.out)) hb); clear BK373; clear BK374; clear HB; have HO378 := n0_; have BK373 := n1_; have BK374 := n2_; have HB := n3_; clear n0_ n1_ n2_ n3_; (try clear hb); (try clear hb2); (try clear hk); (try clear hi); (try clear ho0); obtain ⟨Ao17, co17, eo17⟩ := Kd.R_slice HO378.out; subst eo17) | ((with_reducible refine gate_callee (f := 16) rfl ?_); refine goesL_ (some 34) rfl rfl Tryd.func16 (by kernel_rfl) rfl #[.int .i64 2, .int .i64 (wrap64 (1 + (wrap64 (Int.tmod a0 4)))), .slice Ao17 t376.length co17] rfl (by (try simp only [List.map_toArray, List.map_cons, List.map_nil]); first | done | rfl | (simp only [List.length_drop, List.length_take]; rfl)) ?_; (with_reducible refine (rabbetref1_Encode.calls k 2 (wrap64 (1 + (wrap64 (Int.tmod a0 4)))) _ _ t376 t379 t380 _ ?side1 ?side2 A12.out).mono ?_); (case side1 => repeat (first | exact (Kd.R_reads' HO378.out).2.2 | (with_reducible refine Kd.C_alloc ?_ _) | (with_reducible refine Kd.C_drewN ?_ _) | (with_reducible refine Kd.C_drew ?_))); (case side2 => exact (Kd.R_reads' HO378.out).2.1); rintro e w18 ⟨v381, rfl, ho0, hb⟩; refine ⟨_, rfl, ?_⟩; have n0_ := ak_ (Kd.R_below (by (with_reducible repeat (first | apply Kd.R_alloc | apply Kd.R_drewN | apply Kd.R_drew)); exact HO378.out) hb); have n1_ := ak_ (Kd.R_lower ho0 (below_size (by repeat (first | (with_reducible first | exact HB.out | apply bl_a | apply bl_n | apply bl_d | refine below_set ?_ GE373.out | refine below_set ?_ GE374.out) | exact HB.out)))); have n2_ := ak_ (blk_below (g := gb373) (o := .cells #[.int .u8 a2_0, .int .u8 a2_1, .int .u8 a2_2] 42 (0, 0)) (by (with_reducible repeat (first | refine bk_n ?_ _ | refine bk_d ?_ | refine bk_a ?_ _)); exact BK373.out) hb); have n3_ := ak_ (blk_below (g := gb374) (o := .cells #[.int .u8 a3_0, .int .u8 a3_1, .int .u8 a3_2] 42 (0, 0)) (by (with_reducible repeat (first | refine bk_n ?_ _ | refine bk_d ?_ | refine bk_a ?_ _)); exact BK374.out) hb); have n4_ := ak_ (below_step (by repeat (first | (with_reducible first | exact HB.out | apply bl_a | apply bl_n | apply bl_d | refine below_set ?_ GE373.out | refine below_set ?_ GE374.out) | exact HB.out)) hb); clear HO378; clear BK373; clear BK374; clear HB; have HO378 := n0_; have HO382 := n1_; have BK373 := n2_; have BK374 := n3_; have HB := n4_; clear n0_ n1_ n2_ n3_ n4_; (try clear hb); (try clear hb2); (try clear hk); (try clear hi); (try clear ho0)))
   go_loopg [13] k (fun kq v13 w' => ∃ (x11_1 : List Int) (x13_1 : Int), v13 = .int .i64 x13_1 ∧ Aside0 (rabbetlaw6_RleTurned.l0 kq (wrap64 (1 + (wrap64 (Int.tmod a0 4)))) t376 x11_1 x13_1 a2_0 a2_1 a2_2 a3_0 a3_1 a3_2 = some r) ∧ Aside0 (kq ≤ k) ∧ Aside0 (Kd.R k26 26 w' w.heap.size (fun _ => True) (.slice Ao17 t376.length co17) t376) ∧ Aside0 (Kd.R (Kd.int .u8) 5 w' w.heap.size (fun _ => True) v381 x11_1) ∧ Aside0 (w'.heap[gb373]? = some (.cells #[.int .u8 a2_0, .int .u8 a2_1, .int .u8 a2_2] 42 (0, 0))) ∧ Aside0 (w'.heap[gb374]? = some (.cells #[.int .u8 a3_0, .int .u8 a3_1, .int .u8 a3_2] 42 (0, 0))) ∧ Aside0 (Below w.heap.size w w'))
   case atStart => exact ⟨(t379), (0), (by first | rfl | (simp; done) | (simp [*]; done)), H', ⟨Nat.le_refl _⟩, ⟨by (with_reducible repeat (first | apply Kd.R_alloc | apply Kd.R_drewN | apply Kd.R_drew)); exact HO378.out⟩, ⟨by (with_reducible repeat (first | apply Kd.R_alloc | apply Kd.R_drewN | apply Kd.R_drew)); exact HO382.out⟩, ⟨by (with_reducible repeat (first | refine bk_n ?_ _ | refine bk_d ?_ | refine bk_a ?_ _)); exact BK373.out⟩, ⟨by (with_reducible repeat (first | refine bk_n ?_ _ | refine bk_d ?_ | refine bk_a ?_ _)); exact BK374.out⟩, ⟨by repeat (first | (with_reducible first | exact HB.out | apply bl_a | apply bl_n | apply bl_d | refine below_set ?_ GE373.out | refine below_set ?_ GE374.out) | exact HB.out)⟩⟩
   case round =>
    clear H'
    try clear c1
    try clear c2
    try clear p2
    try clear c6
    try clear p6
    try clear c7
    try clear c7b0
    try clear c7b1
    try clear c10
    try clear c16
    obtain ⟨x11_1, x13_1, rfl, HA, HK1, HO_10, HO_11, BK373, BK374, HB⟩ := hrel
    cases gk with
    | zero => exact absurd HA.out (by simp [rabbetlaw6_RleTurned.l0])
    | succ k1 =>
     have H := HA.out
     clear HA
     simp only [rabbetlaw6_RleTurned.l0] at H
     have HC19 := ak_ H
     clear H
     go_upto_region 9 with (fail)
     go_cut [43] (fun v43 wc => ∃ (kq : Nat) (x43_18 : Bool), v43 = .bool x43_18 ∧ Aside0 (rabbetlaw6_RleTurned.j1 kq (wrap64 (1 + (wrap64 (Int.tmod a0 4)))) t376 x11_1 x13_1 x43_18 a2_0 a2_1 a2_2 a3_0 a3_1 a3_2 = some r) ∧ Aside0 (kq ≤ k1) ∧ Aside0 (Kd.R k26 26 wc w.heap.size (fun _ => True) (.slice Ao17 t376.length co17) t376) ∧ Aside0 (Kd.R (Kd.int .u8) 5 wc w.heap.size (fun _ => True) v381 x11_1) ∧ Aside0 (wc.heap[gb373]? = some (.cells #[.int .u8 a2_0, .int .u8 a2_1, .int .u8 a2_2] 42 (0, 0))) ∧ Aside0 (wc.heap[gb374]? = some (.cells #[.int .u8 a3_0, .int .u8 a3_1, .int .u8 a3_2] 42 (0, 0))) ∧ Aside0 (Below w.heap.size w wc))
     case first =>
      have H := HC19.out
      clear HC19
      by_cases c20 : x13_1 < 3
      ·
       rw [if_pos c20] at H
       have c20b0 : decide (x13_1 < 3) = true := decide_eq_true c20
       clear c20
       (first | rw [c20b0] | rw [c20b1] | (simp only [i64_w, i32_w]; rw [c20b0]) | skip)
       have H' := ak_ H
       clear H
       obtain ⟨Ao21, co21, eo21⟩ := Kd.R_slice HO_11.out
       subst eo21
       go_wp2
       go_meet
       case rel => exact ⟨_, (decide ((x11_1.length : Int) > 0)), (by first | rfl | (simp; done) | (simp [*]; done)), H', ⟨by have := HK1.out; first | omega | exact Nat.le_refl _⟩, ⟨by (with_reducible repeat (first | apply Kd.R_alloc | apply Kd.R_drewN | apply Kd.R_drew)); exact HO_10.out⟩, ⟨by (with_reducible repeat (first | apply Kd.R_alloc | apply Kd.R_drewN | apply Kd.R_drew)); exact HO_11.out⟩, ⟨by (with_reducible repeat (first | refine bk_n ?_ _ | refine bk_d ?_ | refine bk_a ?_ _)); exact BK373.out⟩, ⟨by (with_reducible repeat (first | refine bk_n ?_ _ | refine bk_d ?_ | refine bk_a ?_ _)); exact BK374.out⟩, ⟨by repeat (first | (with_reducible first | exact HB.out | apply bl_a | apply bl_n | apply bl_d | refine below_set ?_ GE373.out | refine below_set ?_ GE374.out) | exact HB.out)⟩⟩
      ·
       rw [if_neg c20] at H
       have c20b0 : decide (x13_1 < 3) = false := decide_eq_false c20
       clear c20
       (first | rw [c20b0] | rw [c20b1] | (simp only [i64_w, i32_w]; rw [c20b0]) | skip)
       have H' := ak_ H
       clear H
       go_wp2
       go_meet
       case rel => exact ⟨_, (false), (by first | rfl | (simp; done) | (simp [*]; done)), H', ⟨by have := HK1.out; first | omega | exact Nat.le_refl _⟩, ⟨by (with_reducible repeat (first | apply Kd.R_alloc | apply Kd.R_drewN | apply Kd.R_drew)); exact HO_10.out⟩, ⟨by (with_reducible repeat (first | apply Kd.R_alloc | apply Kd.R_drewN | apply Kd.R_drew)); exact HO_11.out⟩, ⟨by (with_reducible repeat (first | refine bk_n ?_ _ | refine bk_d ?_ | refine bk_a ?_ _)); exact BK373.out⟩, ⟨by (with_reducible repeat (first | refine bk_n ?_ _ | refine bk_d ?_ | refine bk_a ?_ _)); exact BK374.out⟩, ⟨by repeat (first | (with_reducible first | exact HB.out | apply bl_a | apply bl_n | apply bl_d | refine below_set ?_ GE373.out | refine below_set ?_ GE374.out) | exact HB.out)⟩⟩
     case rest =>
      clear HC19
      try clear c1
      try clear c2
      try clear p2
      try clear c6
      try clear p6
      try clear c7
      try clear c7b0
      try clear c7b1
      try clear c10
      try clear c16
      try clear c20
      try clear c20b0
      try clear p2
      try clear p6
      obtain ⟨kq, x43_18, rfl, HA, HJ18, HO_10, HO_11, BK373, BK374, HB⟩ := hcut
      cases kq with
      | zero => exact absurd HA.out (by simp [rabbetlaw6_RleTurned.j1])
      | succ kj18 =>
       have H := HA.out
       clear HA
       simp only [rabbetlaw6_RleTurned.j1] at H
       by_cases c22 : x43_18 = true
       ·
        subst c22
        have H1 : (if 0 ≤ x13_1 then (if x13_1 < 3 then (if (Int.tmod (rd ([a3_0, a3_1, a3_2] : List Int) x13_1) 4) > 0 then (if (x11_1.length : Int) = 0 then (none) else (if 0 ≤ (Int.tmod (wrap64 (rd ([a2_0, a2_1, a2_2] : List Int) x13_1)) (x11_1.length : Int)) then (if (Int.tmod (wrap64 (rd ([a2_0, a2_1, a2_2] : List Int) x13_1)) (x11_1.length : Int)) < (x11_1.length : Int) then (rabbetlaw6_RleTurned.j2 kj18 (wrap64 (1 + (wrap64 (Int.tmod a0 4)))) t376 (x11_1.set ((Int.tmod (wrap64 (rd ([a2_0, a2_1, a2_2] : List Int) x13_1)) (x11_1.length : Int)) : Int).toNat ((Int.tdiv (rd ([a3_0, a3_1, a3_2] : List Int) x13_1) 2) % 256)) x13_1 a2_0 a2_1 a2_2 a3_0 a3_1 a3_2) else (none)) else (none))) else (rabbetlaw6_RleTurned.j2 kj18 (wrap64 (1 + (wrap64 (Int.tmod a0 4)))) t376 x11_1 x13_1 a2_0 a2_1 a2_2 a3_0 a3_1 a3_2)) else (none)) else (none)) = some r := by rw [if_pos rfl] at H; exact H
        clear H
        have H := H1
        clear H1
        by_cases c23 : 0 ≤ x13_1
        ·
         rw [if_pos c23] at H
         have c23b0 : decide (0 ≤ x13_1) = true := decide_eq_true c23
         clear c23
         by_cases c24 : x13_1 < 3
         ·
          rw [if_pos c24] at H
          have c24b0 : decide (x13_1 < 3) = true := decide_eq_true c24
          clear c24
          have HC25 := ak_ H
          clear H
          have hac27 : wc.cell? ⟨gb374, (x13_1 : Int).toNat, none⟩ = some (.int .u8 (rd ([a3_0, a3_1, a3_2] : List Int) x13_1)) := x_arrc3 BK374.out x13_1 (of_decide_eq_true (by first | (with_reducible assumption) | assumption)) (of_decide_eq_true (by first | (with_reducible assumption) | assumption))
          have pa26 : (0 ≤ (x13_1 : Int)) = True := eq_true (of_decide_eq_true (by first | (with_reducible assumption) | assumption))
          have qa26 : ((x13_1 : Int) < 3) = True := eq_true (of_decide_eq_true (by first | (with_reducible assumption) | assumption))
          go_upto_if 50 with (fail)
          go_cut [] (fun wc => ∃ (kq : Nat) (x11_24 : List Int), Aside0 (rabbetlaw6_RleTurned.j2 kq (wrap64 (1 + (wrap64 (Int.tmod a0 4)))) t376 x11_24 x13_1 a2_0 a2_1 a2_2 a3_0 a3_1 a3_2 = some r) ∧ Aside0 (kq ≤ kj18) ∧ Aside0 (Kd.R k26 26 wc w.heap.size (fun _ => True) (.slice Ao17 t376.length co17) t376) ∧ Aside0 (Kd.R (Kd.int .u8) 5 wc w.heap.size (fun _ => True) v381 x11_24) ∧ Aside0 (wc.heap[gb373]? = some (.cells #[.int .u8 a2_0, .int .u8 a2_1, .int .u8 a2_2] 42 (0, 0))) ∧ Aside0 (wc.heap[gb374]? = some (.cells #[.int .u8 a3_0, .int .u8 a3_1, .int .u8 a3_2] 42 (0, 0))) ∧ Aside0 (Below w.heap.size w wc))
          case first =>
           have H := HC25.out
           clear HC25
           by_cases c28 : (Int.tmod (rd ([a3_0, a3_1, a3_2] : List Int) x13_1) 4) > 0
           ·
            rw [if_pos c28] at H
            have c28b0 : decide (0 < (Int.tmod (rd ([a3_0, a3_1, a3_2] : List Int) x13_1) 4)) = true := decide_eq_true c28
            clear c28
            (first | rw [c28b0] | rw [c28b1] | (simp only [i64_w, i32_w]; rw [c28b0]) | skip)
            by_cases c29 : (x11_1.length : Int) = 0
            ·
             rw [if_pos c29] at H
             exact absurd H (by simp)
            ·
             rw [if_neg c29] at H
             have c29b0 : ((x11_1.length : Int) == 0) = false := beq_eq_false_iff_ne.mpr c29
             have c29b1 : ((x11_1.length : Int) != 0) = true := bne_iff_ne.mpr c29
             have c29b2 : ¬ (x11_1 = []) := fun h_ => c29 (by rw [h_]; rfl)
             obtain ⟨ji30, hji30⟩ : ∃ j_ : Int, (Int.tmod (wrap64 (rd ([a2_0, a2_1, a2_2] : List Int) x13_1)) (x11_1.length : Int)) = j_ := ⟨_, rfl⟩
             replace H : (if 0 ≤ (ji30) then (if (ji30) < (x11_1.length : Int) then (rabbetlaw6_RleTurned.j2 kj18 (wrap64 (1 + (wrap64 (Int.tmod a0 4)))) t376 (x11_1.set ((ji30) : Int).toNat ((Int.tdiv (rd ([a3_0, a3_1, a3_2] : List Int) x13_1) 2) % 256)) x13_1 a2_0 a2_1 a2_2 a3_0 a3_1 a3_2) else (none)) else (none)) = some r := by first | (rw [hji30] at H; exact H) | (simp only [hji30] at H ⊢; exact H) | exact H
             by_cases c31 : 0 ≤ (ji30)
             ·
              rw [if_pos c31] at H
              have c31b0 : decide (0 ≤ (ji30)) = true := decide_eq_true c31
              clear c31
              by_cases c32 : (ji30) < (x11_1.length : Int)
              ·
               rw [if_pos c32] at H
               have c32b0 : decide ((ji30) < (x11_1.length : Int)) = true := decide_eq_true c32
               clear c32
               obtain ⟨y383, hy383⟩ : ∃ y_ : List Int, y_ = (x11_1.set ((ji30) : Int).toNat ((Int.tdiv (rd ([a3_0, a3_1, a3_2] : List Int) x13_1) 2) % 256)) := ⟨_, rfl⟩
               replace H : (rabbetlaw6_RleTurned.j2 kj18 (wrap64 (1 + (wrap64 (Int.tmod a0 4)))) t376 y383 x13_1 a2_0 a2_1 a2_2 a3_0 a3_1 a3_2) = some r := by first | (rw [hy383]; with_reducible exact H) | (have H2_ := (Option.bind_some _ _).symm.trans H; rw [hy383]; with_reducible exact H2_) | (have H2_ := (Option.bind_some _ _).symm.trans H; with_reducible exact H2_) | with_reducible exact H | (rw [hy383]; exact H) | exact H
               have Ny383 := ak_ hy383
               clear hy383
               have H' := ak_ H
               clear H
               try go_wp2
               have n0_ := ak_ (Kd.R_drew HO_10.out)
               have n1_ := ak_ (Kd.R_drew HO_11.out)
               have n2_ := ak_ (bk_d BK373.out)
               have n3_ := ak_ (bk_d BK374.out)
               have n4_ := ak_ (bl_d HB.out)
               clear HO_10
               clear HO_11
               clear BK373
               clear BK374
               clear HB
               have HO_10 := n0_
               have HO_11 := n1_
               have BK373 := n2_
               have BK374 := n3_
               have HB := n4_
               clear n0_ n1_ n2_ n3_ n4_
               have pa35 : (0 ≤ (x13_1 : Int)) = True := eq_true (of_decide_eq_true (by first | (with_reducible assumption) | assumption))
               have qa35 : ((x13_1 : Int) < 3) = True := eq_true (of_decide_eq_true (by first | (with_reducible assumption) | assumption))
               obtain ⟨Ao36, co36, eo36⟩ := Kd.R_slice HO_11.out
               (first | subst eo36 | (injection eo36 with f1_ f2_ f3_; have f4_ := f1_.symm; have f5_ := f3_.symm; clear f1_ f2_ f3_; subst f4_; subst f5_))
               have pa37 : (0 ≤ (x13_1 : Int)) = True := eq_true (of_decide_eq_true (by first | (with_reducible assumption) | assumption))
               have qa37 : ((x13_1 : Int) < 3) = True := eq_true (of_decide_eq_true (by first | (with_reducible assumption) | assumption))
               have p33 : 0 ≤ ((ji30) : Int) := of_decide_eq_true (by first | (with_reducible assumption) | assumption)
               have q33 : ((ji30) : Int) < ((x11_1.length : Int) : Int) := of_decide_eq_true (by first | (with_reducible assumption) | assumption)
               obtain ⟨go33, co33, eo33, gb33, gl33, cl33, HG33⟩ := Kd.R_form HO_11.out (by omega)
               (first | cases eo33 | (injection eo33 with ea_ en_ ec_; (first | subst ea_ | (injection ea_ with ea_; subst ea_)); subst ec_; clear en_))
               have GB33 := ak_ gb33
               have GG33 := ak_ HG33
               clear gb33 gl33 HG33
               obtain ⟨hx33_0, hf33_0⟩ := Kd.R_celln 0 HO_11.out ((ji30) : Int) p33 q33
               replace p33 := eq_true p33
               replace q33 := eq_true q33
               have HP38 := Kd.R_putn HO_11.out ((ji30) : Int) ((Int.tdiv (rd ([a3_0, a3_1, a3_2] : List Int) x13_1) 2) % 256)
               rw [← Ny383.out] at HP38
               have HQ38 := ak_ HP38
               clear HP38
               refine start_ (n := 14) (S := fun w' => w'.cell? ⟨gb373, (x13_1 : Int).toNat, none⟩ = some (.int .u8 (rd ([a2_0, a2_1, a2_2] : List Int) x13_1)) ∧ w'.cell? ⟨gb374, (x13_1 : Int).toNat, none⟩ = some (.int .u8 (rd ([a3_0, a3_1, a3_2] : List Int) x13_1))) (ds := [13]) #[false, false, false, false, false, false, false, false, false, false, false, false, false, false] (by kernel_rfl) rfl rfl ⟨x_arrc3 BK373.out x13_1 (of_eq_true pa35) (of_eq_true qa35), x_arrc3 BK374.out x13_1 (of_eq_true pa37) (of_eq_true qa37)⟩ (fun hHeld => ?_); refine with_tabW rabbetlaw6_RleTurned.tab12 rabbetlaw6_RleTurned.bits12 (fun HT_ HW_ => ?_)
               generalize wc.drew = w34 at HO_10 HO_11 BK373 BK374 HB GG33 HQ38 hf33_0 hx33_0 hHeld ⊢
               refine pure_ (i := 0) (N := some 51) (v := ?_) (a' := ?_) #[true, false, false, false, false, false, false, false, false, false, false, false, false, false] rfl rfl (any_of HT_.out (by kernel_rfl)) (fun _ _ _ h => h) (Or.inl ⟨by rfl, ?_⟩) ?_ ?_
               rotate_left
               ·
                intro w'
                go_simp
                with_reducible rfl
               rotate_left
               ·
                simp only [Act.put, List.setIfInBounds_toArray, List.set_cons_zero, List.set_cons_succ, i64_w, i32_w]
                rfl
               refine pure_ (i := 1) (N := some 52) (v := ?_) (a' := ?_) #[true, true, false, false, false, false, false, false, false, false, false, false, false, false] rfl rfl (any_of HT_.out (by kernel_rfl)) (fun _ _ _ h => h) (Or.inl ⟨by rfl, ?_⟩) ?_ ?_
               rotate_left
               ·
                intro w'
                go_simp
                with_reducible rfl
               rotate_left
               ·
                simp only [Act.put, List.setIfInBounds_toArray, List.set_cons_zero, List.set_cons_succ, i64_w, i32_w]
                rfl
               refine pure_ (i := 2) (N := some 53) (v := ?_) (a' := ?_) #[true, true, true, false, false, false, false, false, false, false, false, false, false, false] rfl rfl (any_of HT_.out (by kernel_rfl)) (fun _ _ _ h => h) (Or.inl ⟨by rfl, ?_⟩) ?_ ?_
               rotate_left
               ·
                intro w'
                go_simp
                with_reducible rfl
               rotate_left
               ·
                simp only [Act.put, List.setIfInBounds_toArray, List.set_cons_zero, List.set_cons_succ, i64_w, i32_w]
                rfl
               refine pure_ (i := 5) (N := some 56) (v := ?_) (a' := ?_) #[true, true, true, false, false, true, false, false, false, false, false, false, false, false] rfl rfl (any_of HT_.out (by kernel_rfl)) (fun _ _ _ h => h) (Or.inl ⟨by rfl, ?_⟩) ?_ ?_
               rotate_left
               ·
                intro w'
                go_simp
                with_reducible rfl
               rotate_left
               ·
                simp only [Act.put, List.setIfInBounds_toArray, List.set_cons_zero, List.set_cons_succ, i64_w, i32_w]
                rfl
               refine pure_ (i := 6) (N := some 57) (v := ?_) (a' := ?_) #[true, true, true, false, false, true, true, false, false, false, false, false, false, false] rfl rfl (any_of HT_.out (by kernel_rfl)) (fun _ _ _ h => h) (Or.inl ⟨by rfl, ?_⟩) ?_ ?_
               rotate_left
               ·
                intro w'
                go_simp
                with_reducible rfl
               rotate_left
               ·
                simp only [Act.put, List.setIfInBounds_toArray, List.set_cons_zero, List.set_cons_succ, i64_w, i32_w]
                rfl
               refine pure_ (i := 8) (N := some 59) (v := ?_) (a' := ?_) #[true, true, true, false, false, true, true, false, true, false, false, false, false, false] rfl rfl (any_of HT_.out (by kernel_rfl)) (fun _ _ _ h => h) (Or.inl ⟨by rfl, ?_⟩) ?_ ?_
               rotate_left
               ·
                intro w'
                go_simp
                with_reducible rfl
               rotate_left
               ·
                simp only [Act.put, List.setIfInBounds_toArray, List.set_cons_zero, List.set_cons_succ, i64_w, i32_w]
                rfl
               refine pure_ (i := 9) (N := some 60) (v := ?_) (a' := ?_) #[true, true, true, false, false, true, true, false, true, true, false, false, false, false] rfl rfl (any_of HT_.out (by kernel_rfl)) (fun _ _ _ h => h) (Or.inl ⟨by rfl, ?_⟩) ?_ ?_
               rotate_left
               ·
                intro w'
                go_simp
                with_reducible rfl
               rotate_left
               ·
                simp only [Act.put, List.setIfInBounds_toArray, List.set_cons_zero, List.set_cons_succ, i64_w, i32_w]
                rfl
               refine take_ (i := 3) (N := some 54) (v := ?_) (a' := ?_) #[true, true, true, true, false, true, true, false, true, true, false, false, false, false] rfl rfl (take_ofW HT_.out HW_.out (by kernel_rfl)) (fun _ _ _ h => h) (Or.inl ⟨by rfl, ?_⟩) hHeld ?_ ?_
               rotate_left
               ·
                rintro w' ⟨s0, s1⟩
                go_simp
                with_reducible rfl
               rotate_left
               ·
                simp only [Act.put, List.setIfInBounds_toArray, List.set_cons_zero, List.set_cons_succ, i64_w, i32_w]
                rfl
               refine pure_ (i := 4) (N := some 55) (v := ?_) (a' := ?_) #[true, true, true, true, true, true, true, false, true, true, false, false, false, false] rfl rfl (any_of HT_.out (by kernel_rfl)) (fun _ _ _ h => h) (Or.inl ⟨by rfl, ?_⟩) ?_ ?_
               rotate_left
               ·
                intro w'
                go_simp
                with_reducible rfl
               rotate_left
               ·
                simp only [Act.put, List.setIfInBounds_toArray, List.set_cons_zero, List.set_cons_succ, i64_w, i32_w]
                rfl
               refine pure_ (i := 7) (N := some 58) (v := ?_) (a' := ?_) #[true, true, true, true, true, true, true, true, true, true, false, false, false, false] rfl rfl (any_of HT_.out (by kernel_rfl)) (fun _ _ _ h => h) (Or.inl ⟨by rfl, ?_⟩) ?_ ?_
               rotate_left
               ·
                intro w'
                go_simp
                with_reducible rfl
               rotate_left
               ·
                simp only [Act.put, List.setIfInBounds_toArray, List.set_cons_zero, List.set_cons_succ, i64_w, i32_w]
                rfl
               refine take_ (i := 10) (N := some 61) (v := ?_) (a' := ?_) #[true, true, true, true, true, true, true, true, true, true, true, false, false, false] rfl rfl (take_ofW HT_.out HW_.out (by kernel_rfl)) (fun _ _ _ h => h) (Or.inl ⟨by rfl, ?_⟩) hHeld ?_ ?_
               rotate_left
               ·
                rintro w' ⟨s0, s1⟩
                go_simp
                with_reducible rfl
               rotate_left
               ·
                simp only [Act.put, List.setIfInBounds_toArray, List.set_cons_zero, List.set_cons_succ, i64_w, i32_w]
                rfl
               refine pure_ (i := 11) (N := some 62) (v := ?_) (a' := ?_) #[true, true, true, true, true, true, true, true, true, true, true, true, false, false] rfl rfl (any_of HT_.out (by kernel_rfl)) (fun _ _ _ h => h) (Or.inl ⟨by rfl, ?_⟩) ?_ ?_
               rotate_left
               ·
                intro w'
                go_simp
                with_reducible rfl
               rotate_left
               ·
                simp only [Act.put, List.setIfInBounds_toArray, List.set_cons_zero, List.set_cons_succ, i64_w, i32_w]
                rfl
               refine pure_ (i := 12) (N := some 63) (v := ?_) (a' := ?_) #[true, true, true, true, true, true, true, true, true, true, true, true, true, false] rfl rfl (any_of HT_.out (by kernel_rfl)) (fun _ _ _ h => h) (Or.inl ⟨by rfl, ?_⟩) ?_ ?_
               rotate_left
               ·
                intro w'
                go_simp
                with_reducible rfl
               rotate_left
               ·
                simp only [Act.put, List.setIfInBounds_toArray, List.set_cons_zero, List.set_cons_succ, i64_w, i32_w]
                rfl
               refine last_ (i := 13) (N := none) #[true, true, true, true, true, true, true, true, true, true, true, true, true, true] rfl rfl (one_of HT_.out (by kernel_rfl)) (by decide) (fun K hK => ?_)
               refine skip_ (w1 := ?_) (by rfl) rfl ?_ ?_
               rotate_left
               ·
                go_simp
                rfl
               refine hK.out _ _ ?_
               clear hK K
               refine done_ (done_of HT_.out (by kernel_rfl)) ?_
               try go_wp2
               go_meet
               case rel => exact ⟨_, (y383), H', ⟨by have := HK1.out; have := HJ18.out; first | omega | exact Nat.le_refl _⟩, ⟨by (with_reducible repeat (first | apply Kd.R_alloc | apply Kd.R_drewN | apply Kd.R_drew)); exact Kd.R_mono (Kd.R_far (p := ⟨go33, ((ji30) : Int).toNat, none⟩) (Kd.R_types HO_10.out GG33.out (by decide)) (fun _ hk => hk.2) (.int .u8 ((Int.tdiv (rd ([a3_0, a3_1, a3_2] : List Int) x13_1) 2) % 256))) (fun _ hk => trivial)⟩, ⟨by (with_reducible repeat (first | apply Kd.R_alloc | apply Kd.R_drewN | apply Kd.R_drew)); first | exact HQ38.out | (have hq_ := HQ38.out; subst hji30; exact hq_)⟩, ⟨by (with_reducible repeat (first | refine bk_n ?_ _ | refine bk_d ?_ | refine bk_a ?_ _)); refine blk_far ?_ (by have h_ := Kd.R_ne HO_11.out BK373.out (by decide); intro e_; exact h_ (by rw [e_]; rfl)) _; (with_reducible repeat (first | refine bk_n ?_ _ | refine bk_d ?_ | refine bk_a ?_ _)); exact BK373.out⟩, ⟨by (with_reducible repeat (first | refine bk_n ?_ _ | refine bk_d ?_ | refine bk_a ?_ _)); refine blk_far ?_ (by have h_ := Kd.R_ne HO_11.out BK374.out (by decide); intro e_; exact h_ (by rw [e_]; rfl)) _; (with_reducible repeat (first | refine bk_n ?_ _ | refine bk_d ?_ | refine bk_a ?_ _)); exact BK374.out⟩, ⟨by repeat (first | (with_reducible first | exact HB.out | apply bl_a | apply bl_n | apply bl_d | refine below_set ?_ GB33.out | refine below_set ?_ GE373.out | refine below_set ?_ GE374.out) | exact HB.out)⟩⟩
              ·
               rw [if_neg c32] at H
               exact absurd H (by simp)
             ·
              rw [if_neg c31] at H
              exact absurd H (by simp)
           ·
            rw [if_neg c28] at H
            have c28b0 : decide (0 < (Int.tmod (rd ([a3_0, a3_1, a3_2] : List Int) x13_1) 4)) = false := decide_eq_false c28
            clear c28
            (first | rw [c28b0] | rw [c28b1] | (simp only [i64_w, i32_w]; rw [c28b0]) | skip)
            have H' := ak_ H
            clear H
            go_wp2
            go_meet
            case rel => exact ⟨_, (x11_1), H', ⟨by have := HK1.out; have := HJ18.out; first | omega | exact Nat.le_refl _⟩, ⟨by (with_reducible repeat (first | apply Kd.R_alloc | apply Kd.R_drewN | apply Kd.R_drew)); exact HO_10.out⟩, ⟨by (with_reducible repeat (first | apply Kd.R_alloc | apply Kd.R_drewN | apply Kd.R_drew)); exact HO_11.out⟩, ⟨by (with_reducible repeat (first | refine bk_n ?_ _ | refine bk_d ?_ | refine bk_a ?_ _)); exact BK373.out⟩, ⟨by (with_reducible repeat (first | refine bk_n ?_ _ | refine bk_d ?_ | refine bk_a ?_ _)); exact BK374.out⟩, ⟨by repeat (first | (with_reducible first | exact HB.out | apply bl_a | apply bl_n | apply bl_d | refine below_set ?_ GE373.out | refine below_set ?_ GE374.out) | exact HB.out)⟩⟩
          case rest =>
           clear HC25
           try clear c1
           try clear c2
           try clear p2
           try clear c3
           try clear p3
           try clear q3
           try clear hx3
           try clear c6
           try clear p6
           try clear c7
           try clear c7b0
           try clear c7b1
           try clear c10
           try clear c16
           try clear c20
           try clear c20b0
           try clear c22
           try clear c23
           try clear c23b0
           try clear c24
           try clear c24b0
           try clear c27
           try clear c28
           try clear c28b0
           try clear c29
           try clear c29b0
           try clear c29b1
           try clear c29b2
           try clear c31
           try clear c31b0
           try clear c32
           try clear c32b0
           try clear p33
           try clear q33
           try clear hx33
           try clear hf33
           try clear hx33_0
           try clear p2
           try clear p33
           try clear p6
           try clear q33
           obtain ⟨kq, x11_24, HA, HJ24, HO_10, HO_11, BK373, BK374, HB⟩ := hcut
           cases kq with
           | zero => exact absurd HA.out (by simp [rabbetlaw6_RleTurned.j2])
           | succ kj24 =>
            have H := HA.out
            clear HA
            simp only [rabbetlaw6_RleTurned.j2] at H
            have H' := ak_ H
            clear H
            go_wp2
            go_loopg [14] kj24 (fun kq v14 w' => ∃ (x14_4 : Int), v14 = .int .i64 x14_4 ∧ Aside0 (rabbetlaw6_RleTurned.l1 kq (wrap64 (1 + (wrap64 (Int.tmod a0 4)))) t376 x11_24 x13_1 x14_4 a2_0 a2_1 a2_2 a3_0 a3_1 a3_2 = some r) ∧ Aside0 (kq ≤ kj24) ∧ Aside0 (Kd.R k26 26 w' w.heap.size (fun _ => True) (.slice Ao17 t376.length co17) t376) ∧ Aside0 (Kd.R (Kd.int .u8) 5 w' w.heap.size (fun _ => True) v381 x11_24) ∧ Aside0 (w'.heap[gb373]? = some (.cells #[.int .u8 a2_0, .int .u8 a2_1, .int .u8 a2_2] 42 (0, 0))) ∧ Aside0 (w'.heap[gb374]? = some (.cells #[.int .u8 a3_0, .int .u8 a3_1, .int .u8 a3_2] 42 (0, 0))) ∧ Aside0 (Below w.heap.size w w'))
            case atStart => exact ⟨(wrap64 ((t376.length : Int) - 1)), (by first | rfl | (simp; done) | (simp [*]; done)), H', ⟨Nat.le_refl _⟩, ⟨by (with_reducible repeat (first | apply Kd.R_alloc | apply Kd.R_drewN | apply Kd.R_drew)); exact HO_10.out⟩, ⟨by (with_reducible repeat (first | apply Kd.R_alloc | apply Kd.R_drewN | apply Kd.R_drew)); exact HO_11.out⟩, ⟨by (with_reducible repeat (first | refine bk_n ?_ _ | refine bk_d ?_ | refine bk_a ?_ _)); exact BK373.out⟩, ⟨by (with_reducible repeat (first | refine bk_n ?_ _ | refine bk_d ?_ | refine bk_a ?_ _)); exact BK374.out⟩, ⟨by repeat (first | (with_reducible first | exact HB.out | apply bl_a | apply bl_n | apply bl_d | refine below_set ?_ GE373.out | refine below_set ?_ GE374.out) | exact HB.out)⟩⟩
            case round =>
             clear H'
             try clear c1
             try clear c2
             try clear p2
             try clear c3
             try clear p3
             try clear q3
             try clear hx3
             try clear c6
             try clear p6
             try clear c7
             try clear c7b0
             try clear c7b1
             try clear c10
             try clear c16
             try clear c20
             try clear c20b0
             try clear c22
             try clear c23
             try clear c23b0
             try clear c24
             try clear c24b0
             try clear c27
             try clear c28
             try clear c28b0
             try clear c29
             try clear c29b0
             try clear c29b1
             try clear c29b2
             try clear c31
             try clear c31b0
             try clear c32
             try clear c32b0
             try clear p33
             try clear q33
             try clear hx33
             try clear hf33
             try clear hx33_0
             try clear p2
             try clear p3
             try clear p33
             try clear p6
             try clear q3
             try clear q33
             obtain ⟨x14_4, rfl, HA, HK4, HO_10, HO_11, BK373, BK374, HB⟩ := hrel
             cases gk with
             | zero => exact absurd HA.out (by simp [rabbetlaw6_RleTurned.l1])
             | succ k4 =>
              have H := HA.out
              clear HA
              simp only [rabbetlaw6_RleTurned.l1] at H
              by_cases c39 : x14_4 ≤ (wrap64 ((t376.length : Int) + 1))
              ·
               rw [if_pos c39] at H
               have c39b0 : decide (x14_4 ≤ (wrap64 ((t376.length : Int) + 1))) = true := decide_eq_true c39
               clear c39
               replace H := Option.bind_eq_some_iff.mp H
               obtain ⟨⟨t384, t385⟩, A400, H⟩ := H
               replace H : ((rabbetref1_Decode.f k4 2 (wrap64 (1 + (wrap64 (Int.tmod a0 4)))) x14_4 x11_24).bind fun bt388 => (if (t385 != bt388.2) = true then (none) else ((rabbetref1_SameValues.f k4 t384 bt388.1).bind fun t392 => (if t392 = true then (rabbetlaw6_RleTurned.l1 k4 (wrap64 (1 + (wrap64 (Int.tmod a0 4)))) t376 x11_24 x13_1 (wrap64 (x14_4 + 1)) a2_0 a2_1 a2_2 a3_0 a3_1 a3_2) else (none))))) = some r := H
               have A40 := ak_ A400
               clear A400
               replace H := Option.bind_eq_some_iff.mp H
               obtain ⟨⟨t388, t389⟩, A410, H⟩ := H
               replace H : (if (t385 != t389) = true then (none) else ((rabbetref1_SameValues.f k4 t384 t388).bind fun t392 => (if t392 = true then (rabbetlaw6_RleTurned.l1 k4 (wrap64 (1 + (wrap64 (Int.tmod a0 4)))) t376 x11_24 x13_1 (wrap64 (x14_4 + 1)) a2_0 a2_1 a2_2 a3_0 a3_1 a3_2) else (none)))) = some r := H
               have A41 := ak_ A410
               clear A410
               by_cases c42 : (t385 != t389) = true
               ·
                rw [if_pos c42] at H
                exact absurd H (by simp)
               ·
                rw [if_neg c42] at H
                have c42b0 : (t385 != t389) = false := by simpa using c42
                (try (have c42b1 : decide (t385 = t389) = true := by simpa using c42))
                (try (have c42b2 : (t385 == t389) = true := by simpa using c42))
                clear c42
                replace H := Option.bind_eq_some_iff.mp H
                obtain ⟨t392, A430, H⟩ := H
                replace H : (if t392 = true then (rabbetlaw6_RleTurned.l1 k4 (wrap64 (1 + (wrap64 (Int.tmod a0 4)))) t376 x11_24 x13_1 (wrap64 (x14_4 + 1)) a2_0 a2_1 a2_2 a3_0 a3_1 a3_2) else (none)) = some r := H
                have A43 := ak_ A430
                clear A430
                by_cases c44 : t392 = true
                ·
                 subst c44
                 have H1 : (rabbetlaw6_RleTurned.l1 k4 (wrap64 (1 + (wrap64 (Int.tmod a0 4)))) t376 x11_24 x13_1 (wrap64 (x14_4 + 1)) a2_0 a2_1 a2_2 a3_0 a3_1 a3_2) = some r := by rw [if_pos rfl] at H; exact H
                 clear H
                 have H := H1
                 clear H1
                 have H' := ak_ H
                 clear H
                 obtain ⟨Ao45, co45, eo45⟩ := Kd.R_slice HO_11.out
                 subst eo45
                 go_wp2_with (first | ((with_reducible refine gate_callee (f := 25) rfl ?_); refine goesL_ (some 78) rfl rfl Tryd.func25 (by kernel_rfl) rfl #[.int .i64 (wrap64 (1 + (wrap64 (Int.tmod a0 4)))), .int .i64 x14_4, .slice Ao45 x11_24.length co45] rfl (by (try simp only [List.map_toArray, List.map_cons, List.map_nil]); first | done | rfl | (simp only [List.length_drop, List.length_take]; rfl)) ?_; (with_reducible refine (rle_Take.calls GA k4 (wrap64 (1 + (wrap64 (Int.tmod a0 4)))) x14_4 _ _ x11_24 t384 t385 _ ?side1 ?side2 ?side3 A40.out).mono ?_); (case side1 => repeat (first | exact (Kd.R_reads' HO_11.out).2.2 | (with_reducible refine Kd.C_alloc ?_ _) | (with_reducible refine Kd.C_drewN ?_ _) | (with_reducible refine Kd.C_drew ?_))); (case side2 => exact (Kd.R_reads' HO_11.out).2.1); (case side3 => exact Glob.below HG.out (by repeat (first | (with_reducible first | exact HB.out | apply bl_a | apply bl_n | apply bl_d | refine below_set ?_ GE373.out | refine below_set ?_ GE374.out) | exact HB.out))); rintro e w46 ⟨v386, rfl, ho0, hb⟩; refine ⟨_, rfl, ?_⟩; have n0_ := ak_ (Kd.R_elder' (by (with_reducible repeat (first | apply Kd.R_alloc | apply Kd.R_drewN | apply Kd.R_drew)); exact HO_10.out) (Kd.R_base ho0) hb); have n1_ := ak_ (Kd.R_below (by (with_reducible repeat (first | apply Kd.R_alloc | apply Kd.R_drewN | apply Kd.R_drew)); exact HO_11.out) hb); have n2_ := ak_ (Kd.R_lower (Kd.R_new' ho0 (Kd.R_lt (by (with_reducible repeat (first | apply Kd.R_alloc | apply Kd.R_drewN | apply Kd.R_drew)); exact HO_10.out))) (below_size (by repeat (first | (with_reducible first | exact HB.out | apply bl_a | apply bl_n | apply bl_d | refine below_set ?_ GE373.out | refine below_set ?_ GE374.out) | exact HB.out)))); have n3_ := ak_ (blk_below (g := gb373) (o := .cells #[.int .u8 a2_0, .int .u8 a2_1, .int .u8 a2_2] 42 (0, 0)) (by (with_reducible repeat (first | refine bk_n ?_ _ | refine bk_d ?_ | refine bk_a ?_ _)); exact BK373.out) hb); have n4_ := ak_ (blk_below (g := gb374) (o := .cells #[.int .u8 a3_0, .int .u8 a3_1, .int .u8 a3_2] 42 (0, 0)) (by (with_reducible repeat (first | refine bk_n ?_ _ | refine bk_d ?_ | refine bk_a ?_ _)); exact BK374.out) hb); have n5_ := ak_ (below_step (by repeat (first | (with_reducible first | exact HB.out | apply bl_a | apply bl_n | apply bl_d | refine below_set ?_ GE373.out | refine below_set ?_ GE374.out) | exact HB.out)) hb); clear HO_10; clear HO_11; clear BK373; clear BK374; clear HB; have HO_10 := n0_; have HO_11 := n1_; have HO387 := n2_; have BK373 := n3_; have BK374 := n4_; have HB := n5_; clear n0_ n1_ n2_ n3_ n4_ n5_; (try clear hb); (try clear hb2); (try clear hk); (try clear hi); (try clear ho0)) | ((with_reducible refine gate_callee (f := 19) rfl ?_); refine goesL_ (some 85) rfl rfl Tryd.func19 (by kernel_rfl) rfl #[.int .i64 2, .int .i64 (wrap64 (1 + (wrap64 (Int.tmod a0 4)))), .int .i64 x14_4, .slice Ao45 x11_24.length co45] rfl (by (try simp only [List.map_toArray, List.map_cons, List.map_nil]); first | done | rfl | (simp only [List.length_drop, List.length_take]; rfl)) ?_; (with_reducible refine (rabbetref1_Decode.calls k4 2 (wrap64 (1 + (wrap64 (Int.tmod a0 4)))) x14_4 _ _ x11_24 t388 t389 _ ?side1 ?side2 A41.out).mono ?_); (case side1 => repeat (first | exact (Kd.R_reads' HO_11.out).2.2 | (with_reducible refine Kd.C_alloc ?_ _) | (with_reducible refine Kd.C_drewN ?_ _) | (with_reducible refine Kd.C_drew ?_))); (case side2 => exact (Kd.R_reads' HO_11.out).2.1); rintro e w47 ⟨v390, rfl, ho0, hb⟩; refine ⟨_, rfl, ?_⟩; have n0_ := ak_ (Kd.R_elder' (by (with_reducible repeat (first | apply Kd.R_alloc | apply Kd.R_drewN | apply Kd.R_drew)); exact HO_10.out) (Kd.R_base ho0) hb); have n1_ := ak_ (Kd.R_below (by (with_reducible repeat (first | apply Kd.R_alloc | apply Kd.R_drewN | apply Kd.R_drew)); exact HO_11.out) hb); have n2_ := ak_ (Kd.R_elder' (by (with_reducible repeat (first | apply Kd.R_alloc | apply Kd.R_drewN | apply Kd.R_drew)); exact HO387.out) (Kd.R_base ho0) hb); have n3_ := ak_ (Kd.R_lower (Kd.R_new' (Kd.R_new' ho0 (Kd.R_lt (by (with_reducible repeat (first | apply Kd.R_alloc | apply Kd.R_drewN | apply Kd.R_drew)); exact HO_10.out))) (Kd.R_lt (by (with_reducible repeat (first | apply Kd.R_alloc | apply Kd.R_drewN | apply Kd.R_drew)); exact HO387.out))) (below_size (by repeat (first | (with_reducible first | exact HB.out | apply bl_a | apply bl_n | apply bl_d | refine below_set ?_ GE373.out | refine below_set ?_ GE374.out) | exact HB.out)))); have n4_ := ak_ (blk_below (g := gb373) (o := .cells #[.int .u8 a2_0, .int .u8 a2_1, .int .u8 a2_2] 42 (0, 0)) (by (with_reducible repeat (first | refine bk_n ?_ _ | refine bk_d ?_ | refine bk_a ?_ _)); exact BK373.out) hb); have n5_ := ak_ (blk_below (g := gb374) (o := .cells #[.int .u8 a3_0, .int .u8 a3_1, .int .u8 a3_2] 42 (0, 0)) (by (with_reducible repeat (first | refine bk_n ?_ _ | refine bk_d ?_ | refine bk_a ?_ _)); exact BK374.out) hb); have n6_ := ak_ (below_step (by repeat (first | (with_reducible first | exact HB.out | apply bl_a | apply bl_n | apply bl_d | refine below_set ?_ GE373.out | refine below_set ?_ GE374.out) | exact HB.out)) hb); clear HO_10; clear HO_11; clear HO387; clear BK373; clear BK374; clear HB; have HO_10 := n0_; have HO_11 := n1_; have HO387 := n2_; have HO391 := n3_; have BK373 := n4_; have BK374 := n5_; have HB := n6_; clear n0_ n1_ n2_ n3_ n4_ n5_ n6_; (try clear hb); (try clear hb2); (try clear hk); (try clear hi); (try clear ho0); obtain ⟨Ao48, co48, eo48⟩ := Kd.R_slice HO387.out; subst eo48; obtain ⟨Ao49, co49, eo49⟩ := Kd.R_slice HO391.out; subst eo49) | (go_at_call 20; (with_reducible refine (rabbetref1_SameValues.calls k4 _ _ t384 _ _ t388 true _ ?side1 ?side2 ?side3 ?side4 A43.out).mono ?_); (case side1 => repeat (first | exact (Kd.R_reads' HO387.out).2.2 | (with_reducible refine Kd.C_alloc ?_ _) | (with_reducible refine Kd.C_drewN ?_ _) | (with_reducible refine Kd.C_drew ?_))); (case side2 => exact (Kd.R_reads' HO387.out).2.1); (case side3 => repeat (first | exact (Kd.R_reads' HO391.out).2.2 | (with_reducible refine Kd.C_alloc ?_ _) | (with_reducible refine Kd.C_drewN ?_ _) | (with_reducible refine Kd.C_drew ?_))); (case side4 => exact (Kd.R_reads' HO391.out).2.1); rintro e w' ⟨rfl, ⟨nd, rfl⟩⟩))
                 go_roundg k4
                 case measure => have := HK1.out; have := HJ18.out; have := HJ24.out; have := HK4.out; omega
                 case rel => exact ⟨(wrap64 (x14_4 + 1)), (by first | rfl | (simp; done) | (simp [*]; done)), H', ⟨by have := HK1.out; have := HJ18.out; have := HJ24.out; have := HK4.out; omega⟩, ⟨by (with_reducible repeat (first | apply Kd.R_alloc | apply Kd.R_drewN | apply Kd.R_drew)); exact Kd.R_mono HO_10.out (fun _ hk => trivial)⟩, ⟨by (with_reducible repeat (first | apply Kd.R_alloc | apply Kd.R_drewN | apply Kd.R_drew)); exact HO_11.out⟩, ⟨by (with_reducible repeat (first | refine bk_n ?_ _ | refine bk_d ?_ | refine bk_a ?_ _)); exact BK373.out⟩, ⟨by (with_reducible repeat (first | refine bk_n ?_ _ | refine bk_d ?_ | refine bk_a ?_ _)); exact BK374.out⟩, ⟨by repeat (first | (with_reducible first | exact HB.out | apply bl_a | apply bl_n | apply bl_d | refine below_set ?_ GE373.out | refine below_set ?_ GE374.out) | exact HB.out)⟩⟩
                ·
                 replace c44 := Bool.eq_false_iff.mpr c44
                 subst c44
                 have H1 : (none) = some r := by rw [if_neg (show ¬ (false = true) by decide)] at H; exact H
                 clear H
                 have H := H1
                 clear H1
                 exact absurd H (by simp)
              ·
               rw [if_neg c39] at H
               have c39b0 : decide (x14_4 ≤ (wrap64 ((t376.length : Int) + 1))) = false := decide_eq_false c39
               clear c39
               have H' := ak_ H
               clear H
               go_wp2
               go_roundg k4
               case measure => have := HK1.out; have := HJ18.out; have := HJ24.out; have := HK4.out; omega
               case rel => exact ⟨(x11_24), (wrap64 (x13_1 + 1)), (by first | rfl | (simp; done) | (simp [*]; done)), H', ⟨by have := HK1.out; have := HJ18.out; have := HJ24.out; have := HK4.out; omega⟩, ⟨by (with_reducible repeat (first | apply Kd.R_alloc | apply Kd.R_drewN | apply Kd.R_drew)); exact HO_10.out⟩, ⟨by (with_reducible repeat (first | apply Kd.R_alloc | apply Kd.R_drewN | apply Kd.R_drew)); exact HO_11.out⟩, ⟨by (with_reducible repeat (first | refine bk_n ?_ _ | refine bk_d ?_ | refine bk_a ?_ _)); exact BK373.out⟩, ⟨by (with_reducible repeat (first | refine bk_n ?_ _ | refine bk_d ?_ | refine bk_a ?_ _)); exact BK374.out⟩, ⟨by repeat (first | (with_reducible first | exact HB.out | apply bl_a | apply bl_n | apply bl_d | refine below_set ?_ GE373.out | refine below_set ?_ GE374.out) | exact HB.out)⟩⟩
         ·
          rw [if_neg c24] at H
          exact absurd H (by simp)
        ·
         rw [if_neg c23] at H
         exact absurd H (by simp)
       ·
        replace c22 := Bool.eq_false_iff.mpr c22
        subst c22
        have H1 : (some true) = some r := by rw [if_neg (show ¬ (false = true) by decide)] at H; exact H
        clear H
        have H := H1
        clear H1
        obtain rfl := Option.some.inj H
        go_wp2
        go_ret
        exact ⟨by first | rfl | (simp [errW_none, errW_some] <;> rfl) | (simp [*, errW_none, errW_some] <;> rfl), by repeat (first | (with_reducible first | exact HB.out | apply bl_a | apply bl_n | apply bl_d | refine below_set ?_ GE373.out | refine below_set ?_ GE374.out) | exact HB.out)⟩
 ·
  replace c6 := Bool.eq_false_iff.mpr c6
  subst c6
  have H1 : (none) = some r := by rw [if_neg (show ¬ (false = true) by decide)] at H; exact H
  clear H
  have H := H1
  clear H1
  exact absurd H (by simp)

end Go.Proofs.YtigldipjkejalaaDoor.PRleTurned
