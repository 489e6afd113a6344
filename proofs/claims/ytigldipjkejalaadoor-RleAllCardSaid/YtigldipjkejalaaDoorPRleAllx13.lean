-- Written by xprint.py (a program of this project) out of the translation. Not trusted: Lean checks it. -- squeezed
import Derived.Test.YtigldipjkejalaaDoorPRleAllx0
import Derived.Test.YtigldipjkejalaaDoorPRleAllx3
import Derived.Test.YtigldipjkejalaaDoorPRleAllx4
import Derived.Test.YtigldipjkejalaaDoorPRleAllx6
import Derived.Test.YtigldipjkejalaaDoorPRleAllx8
import Derived.Test.YtigldipjkejalaaDoorPRleAllx12
namespace Go.Proofs.YtigldipjkejalaaDoor.PRleAll
open Go.RowKit Go.Proofs.YtigldipjkejalaaDoorW.PrintWords Go.Proofs.YtigldipjkejalaaDoorW.PrintLast Go.Proofs.YtigldipjkejalaaDoorW.PrintMore
attribute [local go_sem] max2_int min2_int max_two min_two max_three min_three max_four min_four   -- for this text's walks alone
set_option linter.unusedVariables false
set_option linter.unusedSimpArgs false
mutual
def rabbetlaw6_RleAll.j0 : Nat → Int → List Int → List (S26) → Int → List Int → Bool → Option (Bool)
 | 0, _, _, _, _, _, _ => none
 | k + 1, x0, x1, x2, x3, x4, x39 => if x39 = true then (some true) else (rabbetlaw6_RleAll.l0 k x0 x1 x2 x3 x4 0)
def rabbetlaw6_RleAll.l0 : Nat → Int → List Int → List (S26) → Int → List Int → Int → Option (Bool)
 | 0, _, _, _, _, _, _ => none
 | k + 1, x0, x1, x2, x3, x4, x11 => if x11 < (x2.length : Int) then (if 0 ≤ x11 then (if (((rd_T26 x2 x11).f2).size : Int) > 40 then (some true) else (rabbetlaw6_RleAll.l0 k x0 x1 x2 x3 x4 (wrap64 (x11 + 1)))) else (none)) else (rabbetlaw6_RleAll.l1 k x1 x2 x3 x4 (([x0, 1, 2, 3, 4] : List Int)) 0)
def rabbetlaw6_RleAll.l1 : Nat → List Int → List (S26) → Int → List Int → List Int → Int → Option (Bool)
 | 0, _, _, _, _, _, _ => none
 | k + 1, x1, x2, x3, x4, x12, x13 => if x13 < (x12.length : Int) then (if 0 ≤ x13 then ((rabbetlaw6_some.f k x1 (rd x12 x13) 30).bind fun t379 => (rabbetlaw6_RleAll.l2 k x1 x2 x3 x4 x12 x13 (([x2, t379] : List (List (S26)))) 0)) else (none)) else (some true)
def rabbetlaw6_RleAll.l2 : Nat → List Int → List (S26) → Int → List Int → List Int → Int → List (List (S26)) → Int → Option (Bool)
 | 0, _, _, _, _, _, _, _, _ => none
 | k + 1, x1, x2, x3, x4, x12, x13, x14, x15 => if x15 < 2 then (if 0 ≤ x13 then (if x13 < (x12.length : Int) then (if 0 ≤ x15 then (if x15 < (x14.length : Int) then ((rle_Put.f k (rd x12 x13) (rd_L4 x14 x15)).bind fun bt387 => ((rabbetref1_Encode.f k 2 (rd x12 x13) (rd_L4 x14 x15)).bind fun bt393 => (if (strOfNums bt387.1).toList = (strOfNums bt393.1).toList then (if (bt387.2 != bt393.2) = true then (none) else (rabbetlaw6_RleAll.l2 k x1 x2 x3 x4 x12 x13 x14 (wrap64 (x15 + 1)))) else (none)))) else (none)) else (none)) else (none)) else (none)) else ((rabbetlaw0_Handed.f x4).bind fun t397 => (if 0 ≤ x13 then (if x13 < (x12.length : Int) then ((rle_Take.f k (rd x12 x13) x3 t397).bind fun bt401 => ((rabbetref1_Decode.f k 2 (rd x12 x13) x3 x4).bind fun bt406 => (if (bt401.2 != bt406.2) = true then (none) else ((rabbetref1_SameValues.f k bt401.1 bt406.1).bind fun t410 => (if t410 = true then ((rabbetlaw0_Same.f t397 x4).bind fun t411 => (if t411 = true then (rabbetlaw6_RleAll.l1 k x1 x2 x3 x4 x12 (wrap64 (x13 + 1))) else (none))) else (none)))))) else (none)) else (none)))
end
def rabbetlaw6_RleAll.f (k : Nat) (a0 : Int) (l1 : List Int) (l2 : List (S26)) (a3 : Int) (l4 : List Int) : Option (Bool) := (rabbetlaw6_begun.f k).bind fun t373 => (if t373 = true then (if (l1.length : Int) > 60 then (rabbetlaw6_RleAll.j0 k a0 l1 l2 a3 l4 true) else (if (l2.length : Int) > 20 then (rabbetlaw6_RleAll.j0 k a0 l1 l2 a3 l4 true) else (rabbetlaw6_RleAll.j0 k a0 l1 l2 a3 l4 (decide ((l4.length : Int) > 60))))) else (none))
theorem rabbetlaw6_RleAll.mono_l : ∀ k, (∀ y0 y1 y2 y3 y4 y5, LeO (rabbetlaw6_RleAll.j0 k y0 y1 y2 y3 y4 y5) (rabbetlaw6_RleAll.j0 (k + 1) y0 y1 y2 y3 y4 y5)) ∧ (∀ y0 y1 y2 y3 y4 y5, LeO (rabbetlaw6_RleAll.l0 k y0 y1 y2 y3 y4 y5) (rabbetlaw6_RleAll.l0 (k + 1) y0 y1 y2 y3 y4 y5)) ∧ (∀ y0 y1 y2 y3 y4 y5, LeO (rabbetlaw6_RleAll.l1 k y0 y1 y2 y3 y4 y5) (rabbetlaw6_RleAll.l1 (k + 1) y0 y1 y2 y3 y4 y5)) ∧ (∀ y0 y1 y2 y3 y4 y5 y6 y7, LeO (rabbetlaw6_RleAll.l2 k y0 y1 y2 y3 y4 y5 y6 y7) (rabbetlaw6_RleAll.l2 (k + 1) y0 y1 y2 y3 y4 y5 y6 y7))
 | 0 => ⟨fun _ _ _ _ _ _ r h => by simp [rabbetlaw6_RleAll.j0] at h, fun _ _ _ _ _ _ r h => by simp [rabbetlaw6_RleAll.l0] at h, fun _ _ _ _ _ _ r h => by simp [rabbetlaw6_RleAll.l1] at h, fun _ _ _ _ _ _ _ _ r h => by simp [rabbetlaw6_RleAll.l2] at h⟩
 | k + 1 => by
  obtain ⟨ih0, ih1, ih2, ih3⟩ := rabbetlaw6_RleAll.mono_l k
  refine ⟨?_, ?_, ?_, ?_⟩
  ·
   intro y0 y1 y2 y3 y4 y5
   unfold rabbetlaw6_RleAll.j0
   repeat' first
   | (with_reducible exact ih0 _ _ _ _ _ _)
   | (with_reducible exact ih1 _ _ _ _ _ _)
   | (with_reducible exact ih2 _ _ _ _ _ _)
   | (with_reducible exact ih3 _ _ _ _ _ _ _ _)
   | (with_reducible exact rabbetlaw6_begun.mono _)
   | (with_reducible exact rabbetlaw6_some.mono _ _ _ _)
   | (with_reducible exact rabbetref1_Decode.mono _ _ _ _ _)
   | (with_reducible exact rabbetref1_Encode.mono _ _ _ _)
   | (with_reducible exact rabbetref1_SameValues.mono _ _ _)
   | (with_reducible exact rle_Put.mono _ _ _)
   | (with_reducible exact rle_Take.mono _ _ _ _)
   | (with_reducible exact LeO.refl _)
   | (with_reducible exact LeO.none _)
   | (with_reducible refine LeO.ite ?_ ?_)
   | (with_reducible refine LeO.bind ?_ (fun _ => ?_))
   | exact ih0 _ _ _ _ _ _
   | exact ih1 _ _ _ _ _ _
   | exact ih2 _ _ _ _ _ _
   | exact ih3 _ _ _ _ _ _ _ _
   | exact rabbetlaw6_begun.mono _
   | exact rabbetlaw6_some.mono _ _ _ _
   | exact rabbetref1_Decode.mono _ _ _ _ _
   | exact rabbetref1_Encode.mono _ _ _ _
   | exact rabbetref1_SameValues.mono _ _ _
   | exact rle_Put.mono _ _ _
   | exact rle_Take.mono _ _ _ _
   | exact LeO.none _
   | refine LeO.ite ?_ ?_
   | refine LeO.bind ?_ (fun _ => ?_)
  ·
   intro y0 y1 y2 y3 y4 y5
   unfold rabbetlaw6_RleAll.l0
   repeat' first
   | (with_reducible exact ih0 _ _ _ _ _ _)
   | (with_reducible exact ih1 _ _ _ _ _ _)
   | (with_reducible exact ih2 _ _ _ _ _ _)
   | (with_reducible exact ih3 _ _ _ _ _ _ _ _)
   | (with_reducible exact rabbetlaw6_begun.mono _)
   | (with_reducible exact rabbetlaw6_some.mono _ _ _ _)
   | (with_reducible exact rabbetref1_Decode.mono _ _ _ _ _)
   | (with_reducible exact rabbetref1_Encode.mono _ _ _ _)
   | (with_reducible exact rabbetref1_SameValues.mono _ _ _)
   | (with_reducible exact rle_Put.mono _ _ _)
   | (with_reducible exact rle_Take.mono _ _ _ _)
   | (with_reducible exact LeO.refl _)
   | (with_reducible exact LeO.none _)
   | (with_reducible refine LeO.ite ?_ ?_)
   | (with_reducible refine LeO.bind ?_ (fun _ => ?_))
   | exact ih0 _ _ _ _ _ _
   | exact ih1 _ _ _ _ _ _
   | exact ih2 _ _ _ _ _ _
   | exact ih3 _ _ _ _ _ _ _ _
   | exact rabbetlaw6_begun.mono _
   | exact rabbetlaw6_some.mono _ _ _ _
   | exact rabbetref1_Decode.mono _ _ _ _ _
   | exact rabbetref1_Encode.mono _ _ _ _
   | exact rabbetref1_SameValues.mono _ _ _
   | exact rle_Put.mono _ _ _
   | exact rle_Take.mono _ _ _ _
   | exact LeO.none _
   | refine LeO.ite ?_ ?_
   | refine LeO.bind ?_ (fun _ => ?_)
  ·
   intro y0 y1 y2 y3 y4 y5
   unfold rabbetlaw6_RleAll.l1
   repeat' first
   | (with_reducible exact ih0 _ _ _ _ _ _)
   | (with_reducible exact ih1 _ _ _ _ _ _)
   | (with_reducible exact ih2 _ _ _ _ _ _)
   | (with_reducible exact ih3 _ _ _ _ _ _ _ _)
   | (with_reducible exact rabbetlaw6_begun.mono _)
   | (with_reducible exact rabbetlaw6_some.mono _ _ _ _)
   | (with_reducible exact rabbetref1_Decode.mono _ _ _ _ _)
   | (with_reducible exact rabbetref1_Encode.mono _ _ _ _)
   | (with_reducible exact rabbetref1_SameValues.mono _ _ _)
   | (with_reducible exact rle_Put.mono _ _ _)
   | (with_reducible exact rle_Take.mono _ _ _ _)
   | (with_reducible exact LeO.refl _)
   | (with_reducible exact LeO.none _)
   | (with_reducible refine LeO.ite ?_ ?_)
   | (with_reducible refine LeO.bind ?_ (fun _ => ?_))
   | exact ih0 _ _ _ _ _ _
   | exact ih1 _ _ _ _ _ _
   | exact ih2 _ _ _ _ _ _
   | exact ih3 _ _ _ _ _ _ _ _
   | exact rabbetlaw6_begun.mono _
   | exact rabbetlaw6_some.mono _ _ _ _
   | exact rabbetref1_Decode.mono _ _ _ _ _
   | exact rabbetref1_Encode.mono _ _ _ _
   | exact rabbetref1_SameValues.mono _ _ _
   | exact rle_Put.mono _ _ _
   | exact rle_Take.mono _ _ _ _
   | exact LeO.none _
   | refine LeO.ite ?_ ?_
   | refine LeO.bind ?_ (fun _ => ?_)
  ·
   intro y0 y1 y2 y3 y4 y5 y6 y7
   unfold rabbetlaw6_RleAll.l2
   repeat' first
   | (with_reducible exact ih0 _ _ _ _ _ _)
   | (with_reducible exact ih1 _ _ _ _ _ _)
   | (with_reducible exact ih2 _ _ _ _ _ _)
   | (with_reducible exact ih3 _ _ _ _ _ _ _ _)
   | (with_reducible exact rabbetlaw6_begun.mono _)
   | (with_reducible exact rabbetlaw6_some.mono _ _ _ _)
   | (with_reducible exact rabbetref1_Decode.mono _ _ _ _ _)
   | (with_reducible exact rabbetref1_Encode.mono _ _ _ _)
   | (with_reducible exact rabbetref1_SameValues.mono _ _ _)
   | (with_reducible exact rle_Put.mono _ _ _)
   | (with_reducible exact rle_Take.mono _ _ _ _)
   | (with_reducible exact LeO.refl _)
   | (with_reducible exact LeO.none _)
   | (with_reducible refine LeO.ite ?_ ?_)
   | (with_reducible refine LeO.bind ?_ (fun _ => ?_))
   | exact ih0 _ _ _ _ _ _
   | exact ih1 _ _ _ _ _ _
   | exact ih2 _ _ _ _ _ _
   | exact ih3 _ _ _ _ _ _ _ _
   | exact rabbetlaw6_begun.mono _
   | exact rabbetlaw6_some.mono _ _ _ _
   | exact rabbetref1_Decode.mono _ _ _ _ _
   | exact rabbetref1_Encode.mono _ _ _ _
   | exact rabbetref1_SameValues.mono _ _ _
   | exact rle_Put.mono _ _ _
   | exact rle_Take.mono _ _ _ _
   | exact LeO.none _
   | refine LeO.ite ?_ ?_
   | refine LeO.bind ?_ (fun _ => ?_)
theorem rabbetlaw6_RleAll.mono : ∀ a0 a1 a2 a3 a4 k, LeO (rabbetlaw6_RleAll.f k a0 a1 a2 a3 a4) (rabbetlaw6_RleAll.f (k + 1) a0 a1 a2 a3 a4) := by
 intro a0 a1 a2 a3 a4 k
 obtain ⟨ih0, ih1, ih2, ih3⟩ := rabbetlaw6_RleAll.mono_l k
 unfold rabbetlaw6_RleAll.f
 repeat' first
   | (with_reducible exact ih0 _ _ _ _ _ _)
   | (with_reducible exact ih1 _ _ _ _ _ _)
   | (with_reducible exact ih2 _ _ _ _ _ _)
   | (with_reducible exact ih3 _ _ _ _ _ _ _ _)
   | (with_reducible exact rabbetlaw6_begun.mono _)
   | (with_reducible exact rabbetlaw6_some.mono _ _ _ _)
   | (with_reducible exact rabbetref1_Decode.mono _ _ _ _ _)
   | (with_reducible exact rabbetref1_Encode.mono _ _ _ _)
   | (with_reducible exact rabbetref1_SameValues.mono _ _ _)
   | (with_reducible exact rle_Put.mono _ _ _)
   | (with_reducible exact rle_Take.mono _ _ _ _)
   | (with_reducible exact LeO.refl _)
   | (with_reducible exact LeO.none _)
   | (with_reducible refine LeO.ite ?_ ?_)
   | (with_reducible refine LeO.bind ?_ (fun _ => ?_))
   | exact ih0 _ _ _ _ _ _
   | exact ih1 _ _ _ _ _ _
   | exact ih2 _ _ _ _ _ _
   | exact ih3 _ _ _ _ _ _ _ _
   | exact rabbetlaw6_begun.mono _
   | exact rabbetlaw6_some.mono _ _ _ _
   | exact rabbetref1_Decode.mono _ _ _ _ _
   | exact rabbetref1_Encode.mono _ _ _ _
   | exact rabbetref1_SameValues.mono _ _ _
   | exact rle_Put.mono _ _ _
   | exact rle_Take.mono _ _ _ _
   | exact LeO.none _
   | refine LeO.ite ?_ ?_
   | refine LeO.bind ?_ (fun _ => ?_)
def rabbetlaw6_RleAll.T18 : Bool × List (List Nat × List Nat) := (true, [([], []), ([], []), ([0, 1], [0, 1]), ([2], [2]), ([], []), ([], []), ([4, 5], [4, 5]), ([6], [6]), ([3, 7], [3, 7]), ([8], [8]), ([9], [9]), ([9], [9]), ([10, 8, 0, 1, 2, 3, 4, 5, 6, 7, 8, 9, 10], [10]), ([11, 12, 0, 1, 2, 3, 4, 5, 6, 7, 8, 9, 10, 11, 12], [11])])
def rabbetlaw6_RleAll.B18 : List Nat := [0, 0, 3, 7, 0, 0, 48, 112, 255, 511, 1023, 1023, 2047, 8191]
theorem rabbetlaw6_RleAll.tab18 : rtab .any (opsOf Tryd.f8 18) = rabbetlaw6_RleAll.T18 := by kernel_rfl
theorem rabbetlaw6_RleAll.bits18 : waitsOk rabbetlaw6_RleAll.T18.2 rabbetlaw6_RleAll.B18 = true := by kernel_rfl
def rabbetlaw6_RleAll.T19 : Bool × List (List Nat × List Nat) := (true, [([], []), ([], []), ([0, 1], [0, 1]), ([2], [2]), ([], []), ([], []), ([4, 5], [4, 5]), ([6], [6]), ([3, 7], [3, 7]), ([8], [8]), ([9], [9]), ([9], [9]), ([10, 8, 0, 1, 2, 3, 4, 5, 6, 7, 8, 9, 10], [10]), ([11, 12, 0, 1, 2, 3, 4, 5, 6, 7, 8, 9, 10, 11, 12], [11])])
def rabbetlaw6_RleAll.B19 : List Nat := [0, 0, 3, 7, 0, 0, 48, 112, 255, 511, 1023, 1023, 2047, 8191]
theorem rabbetlaw6_RleAll.tab19 : rtab .any (opsOf Tryd.f8 19) = rabbetlaw6_RleAll.T19 := by kernel_rfl
theorem rabbetlaw6_RleAll.bits19 : waitsOk rabbetlaw6_RleAll.T19.2 rabbetlaw6_RleAll.B19 = true := by kernel_rfl
set_option maxHeartbeats 8000000 in
set_option maxRecDepth 100000 in
theorem rabbetlaw6_RleAll.calls (GA : Nat → Addr) (k : Nat) (a0 : Int) (A1 : Option Addr) (c1 : Nat) (l1 : List Int) (P2_ : Nat → Prop) (A2 : Option Addr) (c2 : Nat) (l2 : List (S26)) (a3 : Int) (A4 : Option Addr) (c4 : Nat) (l4 : List Int) (r : Bool) (w : World) (hr1 : Kd.C (Kd.int .u8) w A1 l1.length l1) (hc1 : l1.length ≤ c1) (hs2 : Kd.V k26 26 w w.heap.size (fun k_ => P2_ k_) (.slice A2 l2.length c2) l2) (hr4 : Kd.C (Kd.int .u8) w A4 l4.length l4) (hc4 : l4.length ≤ c4) (hG : Glob GA w) (h : rabbetlaw6_RleAll.f k a0 l1 l2 a3 l4 = some r) :
  Calls Tryd.prog 8 #[.int .i64 a0, .slice A1 l1.length c1, .slice A2 l2.length c2, .int .i64 a3, .slice A4 l4.length c4] w fun e w' => e = .returned (.bool r) ∧ Below w.heap.size w w' := by
 have HG := ak_ hG
 clear hG
 have HR1 := ak_ hr1
 have HC1 := ak_ hc1
 clear hr1 hc1
 have HO2 := ak_ (show Kd.V k26 26 w w.heap.size (fun k_ => (P2_ k_ ∨ w.heap.size ≤ k_)) (.slice A2 l2.length c2) l2 from Kd.V_mono hs2 (fun k_ hk => .inl hk))
 have HR4 := ak_ hr4
 have HC4 := ak_ hc4
 clear hr4 hc4
 have HB := ak_ (Below.refl w.heap.size w)
 have H : ((rabbetlaw6_begun.f k).bind fun t373 => (if t373 = true then (if (l1.length : Int) > 60 then (rabbetlaw6_RleAll.j0 k a0 l1 l2 a3 l4 true) else (if (l2.length : Int) > 20 then (rabbetlaw6_RleAll.j0 k a0 l1 l2 a3 l4 true) else (rabbetlaw6_RleAll.j0 k a0 l1 l2 a3 l4 (decide ((l4.length : Int) > 60))))) else (none))) = some r := h
 clear h
 replace H := Option.bind_eq_some_iff.mp H
 obtain ⟨t373, A60, H⟩ := H
 replace H : (if t373 = true then (if (l1.length : Int) > 60 then (rabbetlaw6_RleAll.j0 k a0 l1 l2 a3 l4 true) else (if (l2.length : Int) > 20 then (rabbetlaw6_RleAll.j0 k a0 l1 l2 a3 l4 true) else (rabbetlaw6_RleAll.j0 k a0 l1 l2 a3 l4 (decide ((l4.length : Int) > 60))))) else (none)) = some r := H
 have A6 := ak_ A60
 clear A60
 by_cases c7 : t373 = true
 ·
  subst c7
  have H1 : (if (l1.length : Int) > 60 then (rabbetlaw6_RleAll.j0 k a0 l1 l2 a3 l4 true) else (if (l2.length : Int) > 20 then (rabbetlaw6_RleAll.j0 k a0 l1 l2 a3 l4 true) else (rabbetlaw6_RleAll.j0 k a0 l1 l2 a3 l4 (decide ((l4.length : Int) > 60))))) = some r := by rw [if_pos rfl] at H; exact H
  clear H
  have H := H1
  clear H1
  have HC8 := ak_ H
  clear H
  go_enter Tryd.func8, Tryd.ntmps8
  go_upto_region 3 with (first | ((with_reducible refine gate_callee (f := 22) rfl ?_); refine goesL_ (some 25) rfl rfl Tryd.func22 (by kernel_rfl) rfl #[] rfl (by (try simp only [List.map_toArray, List.map_cons, List.map_nil]); first | done | rfl | (simp only [List.length_drop, List.length_take]; rfl)) ?_; (with_reducible refine (rabbetlaw6_begun.calls GA k  true _ ?side1 A6.out).mono ?_); (case side1 => exact Glob.below HG.out (by repeat (first | (with_reducible first | exact HB.out | apply bl_a | apply bl_n | apply bl_d) | exact HB.out))); rintro e w9 ⟨rfl, hb⟩; refine ⟨_, rfl, ?_⟩; have n0_ := ak_ (Kd.V_below (by (with_reducible repeat (first | apply Kd.V_alloc | apply Kd.V_drewN | apply Kd.V_drew)); exact HO2.out) hb); have n1_ := ak_ (below_step (by repeat (first | (with_reducible first | exact HB.out | apply bl_a | apply bl_n | apply bl_d) | exact HB.out)) hb); clear HO2; clear HB; have HO2 := n0_; have HB := n1_; clear n0_ n1_; (try clear hb); (try clear hb2); (try clear hk); (try clear hi)))
  (try simp only [Act.put, List.setIfInBounds_toArray, List.set_cons_zero, List.set_cons_succ])
  go_cut [39] (fun v39 wc => ∃ (kq : Nat) (x39_7 : Bool), v39 = .bool x39_7 ∧ Aside0 (rabbetlaw6_RleAll.j0 kq a0 l1 l2 a3 l4 x39_7 = some r) ∧ Aside0 (kq ≤ k) ∧ Aside0 (Kd.V k26 26 wc w.heap.size (fun k_ => (P2_ k_ ∨ w.heap.size ≤ k_)) (.slice A2 l2.length c2) l2) ∧ Aside0 (Below w.heap.size w wc))
  case first =>
   have H := HC8.out
   clear HC8
   by_cases c10 : (l1.length : Int) > 60
   ·
    rw [if_pos c10] at H
    have c10b0 : decide (60 < (l1.length : Int)) = true := decide_eq_true c10
    have c10b1 : decide (60 < l1.length) = true := decide_eq_true (by omega)
    clear c10
    (first | rw [c10b0] | rw [c10b1] | (simp only [i64_w, i32_w]; rw [c10b0]) | skip)
    have H' := ak_ H
    clear H
    go_wp2
    go_meet
    case rel => exact ⟨_, (true), (by first | rfl | (simp; done) | (simp [*]; done)), H', ⟨by first | omega | exact Nat.le_refl _⟩, ⟨by (with_reducible repeat (first | apply Kd.V_alloc | apply Kd.V_drewN | apply Kd.V_drew)); exact HO2.out⟩, ⟨by repeat (first | (with_reducible first | exact HB.out | apply bl_a | apply bl_n | apply bl_d) | exact HB.out)⟩⟩
   ·
    rw [if_neg c10] at H
    have c10b0 : decide (60 < (l1.length : Int)) = false := decide_eq_false c10
    have c10b1 : decide (60 < l1.length) = false := decide_eq_false (by omega)
    clear c10
    (first | rw [c10b0] | rw [c10b1] | (simp only [i64_w, i32_w]; rw [c10b0]) | skip)
    by_cases c11 : (l2.length : Int) > 20
    ·
     rw [if_pos c11] at H
     have c11b0 : decide (20 < (l2.length : Int)) = true := decide_eq_true c11
     have c11b1 : decide (20 < l2.length) = true := decide_eq_true (by omega)
     clear c11
     have H' := ak_ H
     clear H
     go_wp2
     go_meet
     case rel => exact ⟨_, (true), (by first | rfl | (simp; done) | (simp [*]; done)), H', ⟨by first | omega | exact Nat.le_refl _⟩, ⟨by (with_reducible repeat (first | apply Kd.V_alloc | apply Kd.V_drewN | apply Kd.V_drew)); exact HO2.out⟩, ⟨by repeat (first | (with_reducible first | exact HB.out | apply bl_a | apply bl_n | apply bl_d) | exact HB.out)⟩⟩
    ·
     rw [if_neg c11] at H
     have c11b0 : decide (20 < (l2.length : Int)) = false := decide_eq_false c11
     have c11b1 : decide (20 < l2.length) = false := decide_eq_false (by omega)
     clear c11
     have H' := ak_ H
     clear H
     go_wp2
     go_meet
     case rel => exact ⟨_, (decide ((l4.length : Int) > 60)), (by first | rfl | (simp; done) | (simp [*]; done)), H', ⟨by first | omega | exact Nat.le_refl _⟩, ⟨by (with_reducible repeat (first | apply Kd.V_alloc | apply Kd.V_drewN | apply Kd.V_drew)); exact HO2.out⟩, ⟨by repeat (first | (with_reducible first | exact HB.out | apply bl_a | apply bl_n | apply bl_d) | exact HB.out)⟩⟩
  case rest =>
   clear HC8
   try clear c1
   try clear c2
   try clear p2
   try clear c4
   try clear c7
   try clear c8
   try clear c10
   try clear c10b0
   try clear c10b1
   try clear c11
   try clear c11b0
   try clear c11b1
   obtain ⟨kq, x39_7, rfl, HA, HJ7, HO_2, HB⟩ := hcut
   cases kq with
   | zero => exact absurd HA.out (by simp [rabbetlaw6_RleAll.j0])
   | succ kj7 =>
    have H := HA.out
    clear HA
    simp only [rabbetlaw6_RleAll.j0] at H
    by_cases c12 : x39_7 = true
    ·
     subst c12
     have H1 : (some true) = some r := by rw [if_pos rfl] at H; exact H
     clear H
     have H := H1
     clear H1
     obtain rfl := Option.some.inj H
     go_wp2
     go_ret
     exact ⟨by first | rfl | (simp [errW_none, errW_some] <;> rfl) | (simp [*, errW_none, errW_some] <;> rfl), by repeat (first | (with_reducible first | exact HB.out | apply bl_a | apply bl_n | apply bl_d) | exact HB.out)⟩
    ·
     replace c12 := Bool.eq_false_iff.mpr c12
     subst c12
     have H1 : (rabbetlaw6_RleAll.l0 kj7 a0 l1 l2 a3 l4 0) = some r := by rw [if_neg (show ¬ (false = true) by decide)] at H; exact H
     clear H
     have H := H1
     clear H1
     have H' := ak_ H
     clear H
     go_wp2
     go_loopg [11] kj7 (fun kq v11 w' => ∃ (x11_2 : Int), v11 = .int .i64 x11_2 ∧ Aside0 (rabbetlaw6_RleAll.l0 kq a0 l1 l2 a3 l4 x11_2 = some r) ∧ Aside0 (kq ≤ kj7) ∧ Aside0 (Kd.V k26 26 w' w.heap.size (fun k_ => (P2_ k_ ∨ w.heap.size ≤ k_)) (.slice A2 l2.length c2) l2) ∧ Aside0 (Below w.heap.size w w'))
     case atStart => exact ⟨(0), (by first | rfl | (simp; done) | (simp [*]; done)), H', ⟨Nat.le_refl _⟩, ⟨by (with_reducible repeat (first | apply Kd.V_alloc | apply Kd.V_drewN | apply Kd.V_drew)); exact HO_2.out⟩, ⟨by repeat (first | (with_reducible first | exact HB.out | apply bl_a | apply bl_n | apply bl_d) | exact HB.out)⟩⟩
     case round =>
      clear H'
      try clear c1
      try clear c2
      try clear p2
      try clear c4
      try clear c7
      try clear c8
      try clear c10
      try clear c10b0
      try clear c10b1
      try clear c11
      try clear c11b0
      try clear c11b1
      try clear c12
      try clear p2
      obtain ⟨x11_2, rfl, HA, HK2, HO_2, HB⟩ := hrel
      cases gk with
      | zero => exact absurd HA.out (by simp [rabbetlaw6_RleAll.l0])
      | succ k2 =>
       have H := HA.out
       clear HA
       simp only [rabbetlaw6_RleAll.l0] at H
       by_cases c13 : x11_2 < (l2.length : Int)
       ·
        rw [if_pos c13] at H
        have c13b0 : decide (x11_2 < (l2.length : Int)) = true := decide_eq_true c13
        clear c13
        by_cases c14 : 0 ≤ x11_2
        ·
         rw [if_pos c14] at H
         have c14b0 : decide (0 ≤ x11_2) = true := decide_eq_true c14
         clear c14
         by_cases c15 : (((rd_T26 l2 x11_2).f2).size : Int) > 40
         ·
          rw [if_pos c15] at H
          have c15b0 : decide (40 < (((rd_T26 l2 x11_2).f2).size : Int)) = true := decide_eq_true c15
          have c15b1 : decide (40 < ((rd_T26 l2 x11_2).f2).size) = true := decide_eq_true (by omega)
          clear c15
          obtain rfl := Option.some.inj H
          have p374 : 0 ≤ (x11_2 : Int) := of_decide_eq_true (by first | (with_reducible assumption) | assumption)
          have q374 : x11_2 < (l2.length : Int) := of_decide_eq_true (by first | (with_reducible assumption) | assumption)
          obtain ⟨ad374, e374, hx374_0, hx374_1, hx374_2⟩ := at_T26 (Kd.V_reads' HO_2.out).2.2 x11_2 p374 q374
          cases e374
          replace p374 := eq_true p374
          replace q374 := eq_true q374
          go_wp2
          go_ret
          exact ⟨by first | rfl | (simp [errW_none, errW_some] <;> rfl) | (simp [*, errW_none, errW_some] <;> rfl), by repeat (first | (with_reducible first | exact HB.out | apply bl_a | apply bl_n | apply bl_d) | exact HB.out)⟩
         ·
          rw [if_neg c15] at H
          have c15b0 : decide (40 < (((rd_T26 l2 x11_2).f2).size : Int)) = false := decide_eq_false c15
          have c15b1 : decide (40 < ((rd_T26 l2 x11_2).f2).size) = false := decide_eq_false (by omega)
          clear c15
          have H' := ak_ H
          clear H
          have p374 : 0 ≤ (x11_2 : Int) := of_decide_eq_true (by first | (with_reducible assumption) | assumption)
          have q374 : x11_2 < (l2.length : Int) := of_decide_eq_true (by first | (with_reducible assumption) | assumption)
          obtain ⟨ad374, e374, hx374_0, hx374_1, hx374_2⟩ := at_T26 (Kd.V_reads' HO_2.out).2.2 x11_2 p374 q374
          cases e374
          replace p374 := eq_true p374
          replace q374 := eq_true q374
          go_wp2
          go_roundg k2
          case measure => have := HJ7.out; have := HK2.out; omega
          case rel => exact ⟨(wrap64 (x11_2 + 1)), (by first | rfl | (simp; done) | (simp [*]; done)), H', ⟨by have := HJ7.out; have := HK2.out; omega⟩, ⟨by (with_reducible repeat (first | apply Kd.V_alloc | apply Kd.V_drewN | apply Kd.V_drew)); exact HO_2.out⟩, ⟨by repeat (first | (with_reducible first | exact HB.out | apply bl_a | apply bl_n | apply bl_d) | exact HB.out)⟩⟩
        ·
         rw [if_neg c14] at H
         exact absurd H (by simp)
       ·
        rw [if_neg c13] at H
        have c13b0 : decide (x11_2 < (l2.length : Int)) = false := decide_eq_false c13
        clear c13
        obtain ⟨y375, hy375⟩ : ∃ y_ : List Int, y_ = (([a0, 1, 2, 3, 4] : List Int)) := ⟨_, rfl⟩
        replace H : (rabbetlaw6_RleAll.l1 k2 l1 l2 a3 l4 y375 0) = some r := by first | (rw [hy375]; with_reducible exact H) | (have H2_ := (Option.bind_some _ _).symm.trans H; rw [hy375]; with_reducible exact H2_) | (have H2_ := (Option.bind_some _ _).symm.trans H; with_reducible exact H2_) | with_reducible exact H | (rw [hy375]; exact H) | exact H
        have Ny375 := ak_ hy375
        clear hy375
        have H' := ak_ H
        clear H
        go_wp2_with (first | ((with_reducible refine gate_dst (N := 54) rfl ?_); (try (refine gate_guard (by rfl) ?_; dsimp only)); refine Kd.R_lit (Kd.int .i64) _ 3 ?hg (N := 54) ?hd (xs := ([a0, 1, 2, 3, 4] : List Int)) (inner := [.int .i64 a0, .int .i64 1, .int .i64 2, .int .i64 3, .int .i64 4]) (ok := fun _ => True) (okp := fun _ => True) ?hr ?hp (fun _ hk => hk) trivial (Below.refl _ _) (Nat.le_refl _) (by simp) ?_; (case hd => rfl); (case hg => rfl); (case hr => first | (go_simp; done) | (go_simp; rfl)); (case hp => exact (Reps.one (show Kd.M (Kd.int .i64) _ _ _ a0 [.int .i64 a0] from rfl) (Reps.one (show Kd.M (Kd.int .i64) _ _ _ 1 [.int .i64 1] from rfl) (Reps.one (show Kd.M (Kd.int .i64) _ _ _ 2 [.int .i64 2] from rfl) (Reps.one (show Kd.M (Kd.int .i64) _ _ _ 3 [.int .i64 3] from rfl) (Reps.one (show Kd.M (Kd.int .i64) _ _ _ 4 [.int .i64 4] from rfl) (Reps.none _ _))))))); intro v376 w16 ho17 hb hg_ hnew_; clear hg_ hnew_; (first | rw [← Ny375.out] at ho17 | (simp only [Int.reduceToNat] at ho17; rw [← Ny375.out] at ho17)); have n0_ := ak_ (Kd.V_elder' (by (with_reducible repeat (first | apply Kd.V_alloc | apply Kd.V_drewN | apply Kd.V_drew)); exact HO_2.out) (Kd.R_base ho17) hb); have n1_ := ak_ (Kd.R_lower (Kd.R_newM (M := fun k_ => (w.heap.size ≤ k_)) ho17 (below_size (by repeat (first | (with_reducible first | exact HB.out | apply bl_a | apply bl_n | apply bl_d) | exact HB.out))) (fun k_ h_ => h_)) (below_size (by repeat (first | (with_reducible first | exact HB.out | apply bl_a | apply bl_n | apply bl_d) | exact HB.out)))); have n2_ := ak_ (below_step (by repeat (first | (with_reducible first | exact HB.out | apply bl_a | apply bl_n | apply bl_d) | exact HB.out)) hb); clear HO_2; clear HB; have HO_2 := n0_; have HO377 := n1_; have HB := n2_; clear n0_ n1_ n2_; clear hb ho17))
        go_loopg [13] k2 (fun kq v13 w' => ∃ (x13_3 : Int), v13 = .int .i64 x13_3 ∧ Aside0 (rabbetlaw6_RleAll.l1 kq l1 l2 a3 l4 y375 x13_3 = some r) ∧ Aside0 (kq ≤ k2) ∧ Aside0 (Kd.V k26 26 w' w.heap.size (fun k_ => (P2_ k_ ∨ w.heap.size ≤ k_) ∧ some k_ ≠ (v376 : Value).ownBlock) (.slice A2 l2.length c2) l2) ∧ Aside0 (Kd.R (Kd.int .i64) 3 w' w.heap.size (fun k_ => (w.heap.size ≤ k_)) v376 y375) ∧ Aside0 (Below w.heap.size w w'))
        case atStart => exact ⟨(0), (by first | rfl | (simp; done) | (simp [*]; done)), H', ⟨Nat.le_refl _⟩, ⟨by (with_reducible repeat (first | apply Kd.V_alloc | apply Kd.V_drewN | apply Kd.V_drew)); exact HO_2.out⟩, ⟨by (with_reducible repeat (first | apply Kd.R_alloc | apply Kd.R_drewN | apply Kd.R_drew)); exact Kd.R_mono HO377.out (fun _ hk => hk.1)⟩, ⟨by repeat (first | (with_reducible first | exact HB.out | apply bl_a | apply bl_n | apply bl_d) | exact HB.out)⟩⟩
        case round =>
         clear H'
         try clear c1
         try clear c2
         try clear p2
         try clear p3
         try clear q3
         try clear hx3
         try clear c4
         try clear p6
         try clear c7
         try clear c8
         try clear c10
         try clear c10b0
         try clear c10b1
         try clear c11
         try clear c11b0
         try clear c11b1
         try clear c12
         try clear c13
         try clear c13b0
         try clear c14
         try clear c14b0
         try clear c15
         try clear c15b0
         try clear c15b1
         try clear hx374_0
         try clear hx374_1
         try clear hx374_2
         try clear p2
         try clear p374
         try clear q374
         obtain ⟨x13_3, rfl, HA, HK3, HO_2, HO_12, HB⟩ := hrel
         cases gk with
         | zero => exact absurd HA.out (by simp [rabbetlaw6_RleAll.l1])
         | succ k3 =>
          have H := HA.out
          clear HA
          simp only [rabbetlaw6_RleAll.l1] at H
          by_cases c18 : x13_3 < (y375.length : Int)
          ·
           rw [if_pos c18] at H
           have c18b0 : decide (x13_3 < (y375.length : Int)) = true := decide_eq_true c18
           clear c18
           by_cases c19 : 0 ≤ x13_3
           ·
            rw [if_pos c19] at H
            have c19b0 : decide (0 ≤ x13_3) = true := decide_eq_true c19
            clear c19
            replace H := Option.bind_eq_some_iff.mp H
            obtain ⟨t379, A200, H⟩ := H
            replace H : (rabbetlaw6_RleAll.l2 k3 l1 l2 a3 l4 y375 x13_3 (([l2, t379] : List (List (S26)))) 0) = some r := H
            have A20 := ak_ A200
            clear A200
            obtain ⟨y382, hy382⟩ : ∃ y_ : List (List (S26)), y_ = (([l2, t379] : List (List (S26)))) := ⟨_, rfl⟩
            replace H : (rabbetlaw6_RleAll.l2 k3 l1 l2 a3 l4 y375 x13_3 y382 0) = some r := by first | (rw [hy382]; with_reducible exact H) | (have H2_ := (Option.bind_some _ _).symm.trans H; rw [hy382]; with_reducible exact H2_) | (have H2_ := (Option.bind_some _ _).symm.trans H; with_reducible exact H2_) | with_reducible exact H | (rw [hy382]; exact H) | exact H
            have Ny382 := ak_ hy382
            clear hy382
            have H' := ak_ H
            clear H
            obtain ⟨Ao21, co21, eo21⟩ := Kd.R_slice HO_12.out
            subst eo21
            have p378 : 0 ≤ (x13_3 : Int) := of_decide_eq_true (by first | (with_reducible assumption) | assumption)
            have q378 : x13_3 < (y375.length : Int) := of_decide_eq_true (by first | (with_reducible assumption) | assumption)
            obtain ⟨ad378, e378, hx378_0⟩ := Kd.at_int (Kd.R_reads' HO_12.out).2.2 x13_3 p378 q378
            cases e378
            replace p378 := eq_true p378
            replace q378 := eq_true q378
            go_wp2_with (first | ((with_reducible refine gate_callee (f := 23) rfl ?_); refine goesL_ (some 67) rfl rfl Tryd.func23 (by kernel_rfl) rfl #[.slice A1 l1.length c1, .int .i64 (rd y375 x13_3), .int .i64 30] rfl (by (try simp only [List.map_toArray, List.map_cons, List.map_nil]); first | done | rfl | (simp only [List.length_drop, List.length_take]; rfl)) ?_; (with_reducible refine (rabbetlaw6_some.calls k3 _ _ l1 (rd y375 x13_3) 30 t379 _ ?side1 ?side2 A20.out).mono ?_); (case side1 => repeat (first | exact (Kd.C_below HR1.out HB.out) | (with_reducible refine Kd.C_alloc ?_ _) | (with_reducible refine Kd.C_drewN ?_ _) | (with_reducible refine Kd.C_drew ?_))); (case side2 => exact HC1.out); rintro e w22 ⟨v380, rfl, ho0, hb⟩; refine ⟨_, rfl, ?_⟩; have n0_ := ak_ (Kd.V_elder' (by (with_reducible repeat (first | apply Kd.V_alloc | apply Kd.V_drewN | apply Kd.V_drew)); exact HO_2.out) (Kd.R_base ho0) hb); have n1_ := ak_ (Kd.R_below (by (with_reducible repeat (first | apply Kd.R_alloc | apply Kd.R_drewN | apply Kd.R_drew)); exact HO_12.out) hb); have n2_ := ak_ (Kd.R_lower (Kd.R_newM (M := fun k_ => (w.heap.size ≤ k_)) ho0 (below_size (by repeat (first | (with_reducible first | exact HB.out | apply bl_a | apply bl_n | apply bl_d) | exact HB.out))) (fun k_ h_ => h_)) (below_size (by repeat (first | (with_reducible first | exact HB.out | apply bl_a | apply bl_n | apply bl_d) | exact HB.out)))); have n3_ := ak_ (below_step (by repeat (first | (with_reducible first | exact HB.out | apply bl_a | apply bl_n | apply bl_d) | exact HB.out)) hb); clear HO_2; clear HO_12; clear HB; have HO_2 := n0_; have HO_12 := n1_; have HO381 := n2_; have HB := n3_; clear n0_ n1_ n2_ n3_; (try clear hb); (try clear hb2); (try clear hk); (try clear hi); (try clear ho0); obtain ⟨Ao23, co23, eo23⟩ := Kd.R_slice HO381.out; subst eo23) | ((with_reducible refine gate_dst (N := 68) rfl ?_); (try (refine gate_guard (by rfl) ?_; dsimp only)); refine Kd.N_lit (Kd.slice 26 k26) _ 23 ?hg (N' := 68) ?hd (xs := ([l2, t379] : List (List (S26)))) (inner := [.slice A2 l2.length c2, .slice Ao23 t379.length co23]) (ok := (fun k_ => (P2_ k_ ∨ w.heap.size ≤ k_) ∧ some k_ ≠ (.slice (some ad378) y375.length co21 : Value).ownBlock)) (okp := (fun k_ => (P2_ k_ ∨ w.heap.size ≤ k_) ∧ some k_ ≠ (.slice (some ad378) y375.length co21 : Value).ownBlock)) ?hr ?hp (fun _ hk => hk) ((show ∀ k_, w22.heap.size ≤ k_ → (fun k_ => (P2_ k_ ∨ w.heap.size ≤ k_) ∧ some k_ ≠ (.slice (some ad378) y375.length co21 : Value).ownBlock) k_ from fun k_ hk => ⟨(.inr (Nat.le_trans (below_size (by repeat (first | (with_reducible first | exact HB.out | apply bl_a | apply bl_n | apply bl_d) | exact HB.out))) hk)), Kd.fresh' (Kd.R_lt (by (with_reducible repeat (first | apply Kd.R_alloc | apply Kd.R_drewN | apply Kd.R_drew)); exact HO_12.out)) k_ hk⟩) _ (Nat.le_refl _)) (Below.refl _ _) (Nat.le_refl _) (by simp) ?_; (case hd => rfl); (case hg => rfl); (case hr => first | (go_simp; done) | (go_simp; rfl)); (case hp => exact (Reps.one (show Kd.FK (Kd.slice 26 k26) _ _ l2 [.slice A2 l2.length c2] from (Kd.FK_slice_mk (Kd.V_reads' (Kd.V_mono (ok' := (fun k_ => (P2_ k_ ∨ w.heap.size ≤ k_) ∧ some k_ ≠ (.slice (some ad378) y375.length co21 : Value).ownBlock)) (HO_2.out) (fun k_ hk => ⟨hk.1.1, hk.1.2⟩))).2.1 (Kd.V_F (Kd.V_mono (ok' := (fun k_ => (P2_ k_ ∨ w.heap.size ≤ k_) ∧ some k_ ≠ (.slice (some ad378) y375.length co21 : Value).ownBlock)) (HO_2.out) (fun k_ hk => ⟨hk.1.1, hk.1.2⟩))))) (Reps.one (show Kd.FK (Kd.slice 26 k26) _ _ t379 [.slice Ao23 t379.length co23] from (Kd.FK_slice_mk (Kd.R_reads' (Kd.R_mono (ok' := (fun k_ => (P2_ k_ ∨ w.heap.size ≤ k_) ∧ some k_ ≠ (.slice (some ad378) y375.length co21 : Value).ownBlock)) (Kd.R_apart' (HO381.out) (Kd.R_typed HO_12.out) (by decide)) (fun k_ hk => ⟨(.inr (hk.1.1)), hk.2⟩))).2.1 (Kd.R_F (Kd.R_mono (ok' := (fun k_ => (P2_ k_ ∨ w.heap.size ≤ k_) ∧ some k_ ≠ (.slice (some ad378) y375.length co21 : Value).ownBlock)) (Kd.R_apart' (HO381.out) (Kd.R_typed HO_12.out) (by decide)) (fun k_ hk => ⟨(.inr (hk.1.1)), hk.2⟩))))) (Reps.none _ _)))); intro v383 w24 ho25 hb hg_ hnew_; clear hg_ hnew_; (first | rw [← Ny382.out] at ho25 | (simp only [Int.reduceToNat] at ho25; rw [← Ny382.out] at ho25)); have n0_ := ak_ (Kd.V_elder' (by (with_reducible repeat (first | apply Kd.V_alloc | apply Kd.V_drewN | apply Kd.V_drew)); exact HO_2.out) (Kd.N_base ho25) hb); have n1_ := ak_ (Kd.R_below (by (with_reducible repeat (first | apply Kd.R_alloc | apply Kd.R_drewN | apply Kd.R_drew)); exact HO_12.out) hb); have n2_ := ak_ (Kd.N_lower ho25 (below_size (by repeat (first | (with_reducible first | exact HB.out | apply bl_a | apply bl_n | apply bl_d) | exact HB.out)))); have n3_ := ak_ (below_step (by repeat (first | (with_reducible first | exact HB.out | apply bl_a | apply bl_n | apply bl_d) | exact HB.out)) hb); clear HO_2; clear HO_12; clear HB; clear HO381; have HO_2 := n0_; have HO_12 := n1_; have HO384 := n2_; have HB := n3_; clear n0_ n1_ n2_ n3_; clear hb ho25))
            go_loopg [15] k3 (fun kq v15 w' => ∃ (x15_4 : Int), v15 = .int .i64 x15_4 ∧ Aside0 (rabbetlaw6_RleAll.l2 kq l1 l2 a3 l4 y375 x13_3 y382 x15_4 = some r) ∧ Aside0 (kq ≤ k3) ∧ Aside0 (Kd.V k26 26 w' w.heap.size (fun k_ => (P2_ k_ ∨ w.heap.size ≤ k_) ∧ some k_ ≠ ((.slice (some ad378) y375.length co21) : Value).ownBlock ∧ some k_ ≠ (v383 : Value).ownBlock) (.slice A2 l2.length c2) l2) ∧ Aside0 (Kd.R (Kd.int .i64) 3 w' w.heap.size (fun k_ => (w.heap.size ≤ k_)) (.slice (some ad378) y375.length co21) y375) ∧ Aside0 (Kd.N (Kd.slice 26 k26) 23 w' w.heap.size (fun k_ => (P2_ k_ ∨ w.heap.size ≤ k_) ∧ some k_ ≠ ((.slice (some ad378) y375.length co21) : Value).ownBlock) v383 y382) ∧ Aside0 (Below w.heap.size w w'))
            case atStart => exact ⟨(0), (by first | rfl | (simp; done) | (simp [*]; done)), H', ⟨Nat.le_refl _⟩, ⟨by (with_reducible repeat (first | apply Kd.V_alloc | apply Kd.V_drewN | apply Kd.V_drew)); exact Kd.V_mono HO_2.out (fun _ hk => ⟨hk.1.1.1, ⟨hk.1.1.2, hk.2⟩⟩)⟩, ⟨by (with_reducible repeat (first | apply Kd.R_alloc | apply Kd.R_drewN | apply Kd.R_drew)); exact HO_12.out⟩, ⟨by (with_reducible repeat (first | apply Kd.N_alloc | apply Kd.N_drewN | apply Kd.N_drew)); exact HO384.out⟩, ⟨by repeat (first | (with_reducible first | exact HB.out | apply bl_a | apply bl_n | apply bl_d) | exact HB.out)⟩⟩
            case round =>
             clear H'
             try clear c1
             try clear c2
             try clear p2
             try clear p3
             try clear q3
             try clear hx3
             try clear c4
             try clear p6
             try clear c7
             try clear c8
             try clear c10
             try clear c10b0
             try clear c10b1
             try clear c11
             try clear c11b0
             try clear c11b1
             try clear c12
             try clear c13
             try clear c13b0
             try clear c14
             try clear c14b0
             try clear c15
             try clear c15b0
             try clear c15b1
             try clear c18
             try clear c18b0
             try clear c19
             try clear c19b0
             try clear c22
             try clear c23
             try clear hx374_0
             try clear hx374_1
             try clear hx374_2
             try clear hx378_0
             try clear p2
             try clear p3
             try clear p374
             try clear p378
             try clear p6
             try clear q3
             try clear q374
             try clear q378
             obtain ⟨x15_4, rfl, HA, HK4, HO_2, HO_12, HO_14, HB⟩ := hrel
             cases gk with
             | zero => exact absurd HA.out (by simp [rabbetlaw6_RleAll.l2])
             | succ k4 =>
              have H := HA.out
              clear HA
              simp only [rabbetlaw6_RleAll.l2] at H
              by_cases c26 : x15_4 < 2
              ·
               rw [if_pos c26] at H
               have c26b0 : decide (x15_4 < 2) = true := decide_eq_true c26
               clear c26
               by_cases c27 : 0 ≤ x13_3
               ·
                rw [if_pos c27] at H
                have c27b0 : decide (0 ≤ x13_3) = true := decide_eq_true c27
                clear c27
                by_cases c28 : x13_3 < (y375.length : Int)
                ·
                 rw [if_pos c28] at H
                 have c28b0 : decide (x13_3 < (y375.length : Int)) = true := decide_eq_true c28
                 clear c28
                 by_cases c29 : 0 ≤ x15_4
                 ·
                  rw [if_pos c29] at H
                  have c29b0 : decide (0 ≤ x15_4) = true := decide_eq_true c29
                  clear c29
                  by_cases c30 : x15_4 < (y382.length : Int)
                  ·
                   rw [if_pos c30] at H
                   have c30b0 : decide (x15_4 < (y382.length : Int)) = true := decide_eq_true c30
                   clear c30
                   replace H := Option.bind_eq_some_iff.mp H
                   obtain ⟨⟨t387, t390⟩, A310, H⟩ := H
                   replace H : ((rabbetref1_Encode.f k4 2 (rd y375 x13_3) (rd_L4 y382 x15_4)).bind fun bt393 => (if (strOfNums t387).toList = (strOfNums bt393.1).toList then (if (t390 != bt393.2) = true then (none) else (rabbetlaw6_RleAll.l2 k4 l1 l2 a3 l4 y375 x13_3 y382 (wrap64 (x15_4 + 1)))) else (none))) = some r := H
                   have A31 := ak_ A310
                   clear A310
                   replace H := Option.bind_eq_some_iff.mp H
                   obtain ⟨⟨t393, t394⟩, A320, H⟩ := H
                   replace H : (if (strOfNums t387).toList = (strOfNums t393).toList then (if (t390 != t394) = true then (none) else (rabbetlaw6_RleAll.l2 k4 l1 l2 a3 l4 y375 x13_3 y382 (wrap64 (x15_4 + 1)))) else (none)) = some r := H
                   have A32 := ak_ A320
                   clear A320
                   by_cases c33 : (strOfNums t387).toList = (strOfNums t393).toList
                   ·
                    rw [if_pos c33] at H
                    have c33b0 : ((strOfNums t387).toList == (strOfNums t393).toList) = true := beq_iff_eq.mpr c33
                    have c33b1 : ((strOfNums t387).toList != (strOfNums t393).toList) = false := bne_eq_false_iff_eq.mpr c33
                    clear c33
                    by_cases c34 : (t390 != t394) = true
                    ·
                     rw [if_pos c34] at H
                     exact absurd H (by simp)
                    ·
                     rw [if_neg c34] at H
                     have c34b0 : (t390 != t394) = false := by simpa using c34
                     (try (have c34b1 : decide (t390 = t394) = true := by simpa using c34))
                     (try (have c34b2 : (t390 == t394) = true := by simpa using c34))
                     clear c34
                     have H' := ak_ H
                     clear H
                     try go_wp2
                     have n0_ := ak_ (Kd.V_drew HO_2.out)
                     have n1_ := ak_ (Kd.R_drew HO_12.out)
                     have n2_ := ak_ (Kd.N_drew HO_14.out)
                     have n3_ := ak_ (bl_d HB.out)
                     clear HO_2
                     clear HO_12
                     clear HO_14
                     clear HB
                     have HO_2 := n0_
                     have HO_12 := n1_
                     have HO_14 := n2_
                     have HB := n3_
                     clear n0_ n1_ n2_ n3_
                     have p385 : 0 ≤ (x13_3 : Int) := of_decide_eq_true (by first | (with_reducible assumption) | assumption)
                     have q385 : x13_3 < (y375.length : Int) := of_decide_eq_true (by first | (with_reducible assumption) | assumption)
                     obtain ⟨ad385, e385, hx385_0⟩ := Kd.at_int (Kd.R_reads' HO_12.out).2.2 x13_3 p385 q385
                     obtain rfl : ad378 = ad385 := (by injection e385)
                     replace p385 := eq_true p385
                     replace q385 := eq_true q385
                     obtain ⟨Ao36, co36, eo36⟩ := Kd.N_slice HO_14.out
                     (first | subst eo36 | (injection eo36 with f1_ f2_ f3_; have f4_ := f1_.symm; have f5_ := f3_.symm; clear f1_ f2_ f3_; subst f4_; subst f5_))
                     have p386 : 0 ≤ (x15_4 : Int) := of_decide_eq_true (by first | (with_reducible assumption) | assumption)
                     have q386 : x15_4 < (y382.length : Int) := of_decide_eq_true (by first | (with_reducible assumption) | assumption)
                     obtain ⟨ad386, A386_0, c386_0, e386, hx386_0, hl386_0, hi386_0⟩ := at_L4 (Kd.N_reads' HO_14.out).2.2 x15_4 p386 q386
                     cases e386
                     obtain ⟨ce386, hce386, hMe386, hcc386⟩ := Kd.N_get HO_14.out [] x15_4 p386 (by first | exact q386 | exact of_decide_eq_true (by first | (with_reducible assumption) | assumption) | (have e_ := (Kd.N_reads' HO_14.out).1; omega))
                     obtain ⟨ua386_0, uc386_0, rfl, ul386_0, ge386_0⟩ := Kd.FK_slice_open hMe386
                     have hv386_0 := hcc386 0 _ rfl
                     rw [Nat.add_zero, show ((Kd.slice 26 k26)).sz = 1 from rfl, Nat.mul_one] at hv386_0
                     replace hv386_0 := Option.some.inj (hv386_0.symm.trans hx386_0)
                     injection hv386_0 with hva_ hvn_ hvc_
                     rw [hva_] at ge386_0
                     rw [hvc_] at ul386_0
                     have HL386_0 := ak_ (show Kd.V k26 26 _ w.heap.size _ _ (rd_L4 y382 x15_4) from Kd.V_mk ul386_0 ge386_0)
                     clear hva_ hvn_ hvc_ ge386_0 ul386_0
                     clear hcc386 hce386
                     have HR386_0 := ak_ hi386_0
                     have HC386_0 := ak_ hl386_0
                     clear hi386_0 hl386_0
                     replace p386 := eq_true p386
                     replace q386 := eq_true q386
                     refine start_ (n := 14) (S := fun w' => w'.cell? (ad378.add (x13_3).toNat) = some (.int .i64 (rd y375 x13_3)) ∧ w'.cell? (ad386.add (x15_4).toNat) = some (.slice A386_0 (rd_L4 y382 x15_4).length c386_0)) (ds := []) #[false, false, false, false, false, false, false, false, false, false, false, false, false, false] (by kernel_rfl) rfl rfl ⟨hx385_0, hx386_0⟩ (fun hHeld => ?_); refine with_tabW rabbetlaw6_RleAll.tab18 rabbetlaw6_RleAll.bits18 (fun HT_ HW_ => ?_)
                     generalize wr.drew = w35 at HO_2 HO_12 HO_14 HB HL386_0 HR386_0 hx385_0 hx386_0 hHeld ⊢
                     refine pure_ (i := 0) (N := some 74) (v := ?_) (a' := ?_) #[true, false, false, false, false, false, false, false, false, false, false, false, false, false] rfl rfl (any_of HT_.out (by kernel_rfl)) (fun _ _ _ h => h) (Or.inl ⟨by rfl, ?_⟩) ?_ ?_
                     rotate_left
                     ·
                      intro w'
                      go_simp
                      with_reducible rfl
                     rotate_left
                     ·
                      simp only [Act.put, List.setIfInBounds_toArray, List.set_cons_zero, List.set_cons_succ, i64_w, i32_w]
                      rfl
                     refine pure_ (i := 1) (N := some 75) (v := ?_) (a' := ?_) #[true, true, false, false, false, false, false, false, false, false, false, false, false, false] rfl rfl (any_of HT_.out (by kernel_rfl)) (fun _ _ _ h => h) (Or.inl ⟨by rfl, ?_⟩) ?_ ?_
                     rotate_left
                     ·
                      intro w'
                      go_simp
                      with_reducible rfl
                     rotate_left
                     ·
                      simp only [Act.put, List.setIfInBounds_toArray, List.set_cons_zero, List.set_cons_succ, i64_w, i32_w]
                      rfl
                     refine pure_ (i := 2) (N := some 76) (v := ?_) (a' := ?_) #[true, true, true, false, false, false, false, false, false, false, false, false, false, false] rfl rfl (any_of HT_.out (by kernel_rfl)) (fun _ _ _ h => h) (Or.inl ⟨by rfl, ?_⟩) ?_ ?_
                     rotate_left
                     ·
                      intro w'
                      go_simp
                      with_reducible rfl
                     rotate_left
                     ·
                      simp only [Act.put, List.setIfInBounds_toArray, List.set_cons_zero, List.set_cons_succ, i64_w, i32_w]
                      rfl
                     refine pure_ (i := 4) (N := some 78) (v := ?_) (a' := ?_) #[true, true, true, false, true, false, false, false, false, false, false, false, false, false] rfl rfl (any_of HT_.out (by kernel_rfl)) (fun _ _ _ h => h) (Or.inl ⟨by rfl, ?_⟩) ?_ ?_
                     rotate_left
                     ·
                      intro w'
                      go_simp
                      with_reducible rfl
                     rotate_left
                     ·
                      simp only [Act.put, List.setIfInBounds_toArray, List.set_cons_zero, List.set_cons_succ, i64_w, i32_w]
                      rfl
                     refine pure_ (i := 5) (N := some 79) (v := ?_) (a' := ?_) #[true, true, true, false, true, true, false, false, false, false, false, false, false, false] rfl rfl (any_of HT_.out (by kernel_rfl)) (fun _ _ _ h => h) (Or.inl ⟨by rfl, ?_⟩) ?_ ?_
                     rotate_left
                     ·
                      intro w'
                      go_simp
                      with_reducible rfl
                     rotate_left
                     ·
                      simp only [Act.put, List.setIfInBounds_toArray, List.set_cons_zero, List.set_cons_succ, i64_w, i32_w]
                      rfl
                     refine pure_ (i := 6) (N := some 80) (v := ?_) (a' := ?_) #[true, true, true, false, true, true, true, false, false, false, false, false, false, false] rfl rfl (any_of HT_.out (by kernel_rfl)) (fun _ _ _ h => h) (Or.inl ⟨by rfl, ?_⟩) ?_ ?_
                     rotate_left
                     ·
                      intro w'
                      go_simp
                      with_reducible rfl
                     rotate_left
                     ·
                      simp only [Act.put, List.setIfInBounds_toArray, List.set_cons_zero, List.set_cons_succ, i64_w, i32_w]
                      rfl
                     refine take_ (i := 3) (N := some 77) (v := ?_) (a' := ?_) #[true, true, true, true, true, true, true, false, false, false, false, false, false, false] rfl rfl (take_ofW HT_.out HW_.out (by kernel_rfl)) (fun _ _ _ h => h) (Or.inl ⟨by rfl, ?_⟩) hHeld ?_ ?_
                     rotate_left
                     ·
                      rintro w' ⟨s0, s1⟩
                      go_simp
                      with_reducible rfl
                     rotate_left
                     ·
                      simp only [Act.put, List.setIfInBounds_toArray, List.set_cons_zero, List.set_cons_succ, i64_w, i32_w]
                      rfl
                     refine take_ (i := 7) (N := some 81) (v := ?_) (a' := ?_) #[true, true, true, true, true, true, true, true, false, false, false, false, false, false] rfl rfl (take_ofW HT_.out HW_.out (by kernel_rfl)) (fun _ _ _ h => h) (Or.inl ⟨by rfl, ?_⟩) hHeld ?_ ?_
                     rotate_left
                     ·
                      rintro w' ⟨s0, s1⟩
                      go_simp
                      with_reducible rfl
                     rotate_left
                     ·
                      simp only [Act.put, List.setIfInBounds_toArray, List.set_cons_zero, List.set_cons_succ, i64_w, i32_w]
                      rfl
                     refine one_ (i := 8) (N := some 82) #[true, true, true, true, true, true, true, true, true, false, false, false, false, false] rfl rfl (one_of HT_.out (by kernel_rfl)) (by decide) (fun K hK => ?_)
                     refine goes_ Tryd.func24 (by kernel_rfl) rfl #[.int .i64 (rd y375 x13_3), .slice A386_0 (rd_L4 y382 x15_4).length c386_0] (by rfl) rfl rfl (by (try simp only [List.map_toArray, List.map_cons, List.map_nil]); first | done | rfl | (simp only [List.length_drop, List.length_take]; rfl)) ?_
                     with_reducible refine (rle_Put.calls k4 (rd y375 x13_3) (fun k_ => (((P2_ k_ ∨ w.heap.size ≤ k_) ∧ some k_ ≠ (.slice (some ad378) y375.length co21 : Value).ownBlock) ∧ some k_ ≠ (.slice (some ad386) y382.length co36 : Value).ownBlock)) _ _ (rd_L4 y382 x15_4) t387 t390 _ ?side1 A31.out).mono ?_
                     (case side1 => exact HL386_0.out)
                     rintro e w37 ⟨v388, rfl, ho0, hb⟩
                     have HS0_ := (hb.cell (World.block_lt_of_cell? _ _ (hHeld.1))).trans (hHeld.1)
                     have HS1_ := (hb.cell (World.block_lt_of_cell? _ _ (hHeld.2))).trans (hHeld.2)
                     refine ⟨_, rfl, ?_⟩
                     have n0_ := ak_ (Kd.V_elder' (by (with_reducible repeat (first | apply Kd.V_alloc | apply Kd.V_drewN | apply Kd.V_drew)); exact HO_2.out) (Kd.R_base ho0) hb)
                     have n1_ := ak_ (Kd.R_below (by (with_reducible repeat (first | apply Kd.R_alloc | apply Kd.R_drewN | apply Kd.R_drew)); exact HO_12.out) hb)
                     have n2_ := ak_ (Kd.N_elder' (by (with_reducible repeat (first | apply Kd.N_alloc | apply Kd.N_drewN | apply Kd.N_drew)); exact HO_14.out) (Kd.R_base ho0) hb)
                     have n3_ := ak_ (Kd.V_elder' (by (with_reducible repeat (first | apply Kd.V_alloc | apply Kd.V_drewN | apply Kd.V_drew)); exact HL386_0.out) (Kd.R_base ho0) hb)
                     have n4_ := ak_ (Kd.R_lower (Kd.R_newM (M := fun k_ => (w.heap.size ≤ k_)) (Kd.R_mono (ok' := fun k_ => True) ho0 (fun _ hk_ => trivial)) (below_size (by repeat (first | (with_reducible first | exact HB.out | apply bl_a | apply bl_n | apply bl_d) | exact HB.out))) (fun k_ h_ => h_)) (below_size (by repeat (first | (with_reducible first | exact HB.out | apply bl_a | apply bl_n | apply bl_d) | exact HB.out))))
                     have n5_ := ak_ (Kd.C_below (by repeat (first | (with_reducible exact HR386_0.out) | (with_reducible refine Kd.C_alloc ?_ _) | (with_reducible refine Kd.C_drewN ?_ _) | (with_reducible refine Kd.C_drew ?_) | exact HR386_0.out)) hb)
                     have n6_ := ak_ (below_step (by repeat (first | (with_reducible first | exact HB.out | apply bl_a | apply bl_n | apply bl_d) | exact HB.out)) hb)
                     clear HO_2
                     clear HO_12
                     clear HO_14
                     clear HL386_0
                     clear HR386_0
                     clear HB
                     have HO_2 := n0_
                     have HO_12 := n1_
                     have HO_14 := n2_
                     have HL386_0 := n3_
                     have HO389 := n4_
                     have HR386_0 := n5_
                     have HB := n6_
                     clear n0_ n1_ n2_ n3_ n4_ n5_ n6_
                     (try clear hb)
                     (try clear hb2)
                     (try clear hk)
                     (try clear hi)
                     (try clear ho0)
                     refine hK.out _ _ ⟨HS0_, HS1_⟩ (fun hHeld => ?_)
                     clear hK K
                     refine norm_ (a' := ?_) ?_ ?_
                     rotate_left
                     ·
                      show Act.put _ (some 82) _ = _
                      simp only [Act.put, List.setIfInBounds_toArray, List.set_cons_zero, List.set_cons_succ, i64_w, i32_w]
                      rfl
                     refine pure_ (i := 9) (N := some 73) (v := ?_) (a' := ?_) #[true, true, true, true, true, true, true, true, true, true, false, false, false, false] rfl rfl (any_of HT_.out (by kernel_rfl)) (fun _ _ _ h => h) (Or.inl ⟨by rfl, ?_⟩) ?_ ?_
                     rotate_left
                     ·
                      intro w'
                      go_simp
                      with_reducible rfl
                     rotate_left
                     ·
                      simp only [Act.put, List.setIfInBounds_toArray, List.set_cons_zero, List.set_cons_succ, i64_w, i32_w]
                      rfl
                     refine pure_ (i := 10) (N := some 83) (v := ?_) (a' := ?_) #[true, true, true, true, true, true, true, true, true, true, true, false, false, false] rfl rfl (any_of HT_.out (by kernel_rfl)) (fun _ _ _ h => h) (Or.inl ⟨by rfl, ?_⟩) ?_ ?_
                     rotate_left
                     ·
                      intro w'
                      go_simp
                      with_reducible rfl
                     rotate_left
                     ·
                      simp only [Act.put, List.setIfInBounds_toArray, List.set_cons_zero, List.set_cons_succ, i64_w, i32_w]
                      rfl
                     refine pure_ (i := 11) (N := some 84) (v := ?_) (a' := ?_) #[true, true, true, true, true, true, true, true, true, true, true, true, false, false] rfl rfl (any_of HT_.out (by kernel_rfl)) (fun _ _ _ h => h) (Or.inl ⟨by rfl, ?_⟩) ?_ ?_
                     rotate_left
                     ·
                      intro w'
                      go_simp
                      with_reducible rfl
                     rotate_left
                     ·
                      simp only [Act.put, List.setIfInBounds_toArray, List.set_cons_zero, List.set_cons_succ, i64_w, i32_w]
                      rfl
                     refine pure_ (i := 12) (N := some 16) (v := ?_) (a' := ?_) #[true, true, true, true, true, true, true, true, true, true, true, true, true, false] rfl rfl (any_of HT_.out (by kernel_rfl)) (fun _ _ _ h => h) (Or.inl ⟨by rfl, ?_⟩) ?_ ?_
                     rotate_left
                     ·
                      intro w'
                      go_simp
                      with_reducible rfl
                     rotate_left
                     ·
                      simp only [Act.put, List.setIfInBounds_toArray, List.set_cons_zero, List.set_cons_succ, i64_w, i32_w]
                      rfl
                     refine pure_ (i := 13) (N := some 17) (v := ?_) (a' := ?_) #[true, true, true, true, true, true, true, true, true, true, true, true, true, true] rfl rfl (any_of HT_.out (by kernel_rfl)) (fun _ _ _ h => h) (Or.inl ⟨by rfl, ?_⟩) ?_ ?_
                     rotate_left
                     ·
                      intro w'
                      go_simp
                      with_reducible rfl
                     rotate_left
                     ·
                      simp only [Act.put, List.setIfInBounds_toArray, List.set_cons_zero, List.set_cons_succ, i64_w, i32_w]
                      rfl
                     refine done_ (done_of HT_.out (by kernel_rfl)) ?_
                     try go_wp2
                     have n0_ := ak_ (Kd.V_drew HO_2.out)
                     have n1_ := ak_ (Kd.R_drew HO_12.out)
                     have n2_ := ak_ (Kd.N_drew HO_14.out)
                     have n3_ := ak_ (Kd.V_drew HL386_0.out)
                     have n4_ := ak_ (Kd.R_drew HO389.out)
                     have n5_ := ak_ (Kd.C_drew HR386_0.out)
                     have n6_ := ak_ (bl_d HB.out)
                     clear HO_2
                     clear HO_12
                     clear HO_14
                     clear HL386_0
                     clear HO389
                     clear HR386_0
                     clear HB
                     have HO_2 := n0_
                     have HO_12 := n1_
                     have HO_14 := n2_
                     have HL386_0 := n3_
                     have HO389 := n4_
                     have HR386_0 := n5_
                     have HB := n6_
                     clear n0_ n1_ n2_ n3_ n4_ n5_ n6_
                     have p391 : 0 ≤ (x13_3 : Int) := of_decide_eq_true (by first | (with_reducible assumption) | assumption)
                     have q391 : x13_3 < (y375.length : Int) := of_decide_eq_true (by first | (with_reducible assumption) | assumption)
                     obtain ⟨ad391, e391, hx391_0⟩ := Kd.at_int (Kd.R_reads' HO_12.out).2.2 x13_3 p391 q391
                     obtain rfl : ad378 = ad391 := (by injection e391)
                     replace p391 := eq_true p391
                     replace q391 := eq_true q391
                     have p392 : 0 ≤ (x15_4 : Int) := of_decide_eq_true (by first | (with_reducible assumption) | assumption)
                     have q392 : x15_4 < (y382.length : Int) := of_decide_eq_true (by first | (with_reducible assumption) | assumption)
                     obtain ⟨ad392, A392_0, c392_0, e392, hx392_0, hl392_0, hi392_0⟩ := at_L4 (Kd.N_reads' HO_14.out).2.2 x15_4 p392 q392
                     obtain rfl : ad386 = ad392 := (by injection e392)
                     obtain ⟨ce392, hce392, hMe392, hcc392⟩ := Kd.N_get HO_14.out [] x15_4 p392 (by first | exact q392 | exact of_decide_eq_true (by first | (with_reducible assumption) | assumption) | (have e_ := (Kd.N_reads' HO_14.out).1; omega))
                     obtain ⟨ua392_0, uc392_0, rfl, ul392_0, ge392_0⟩ := Kd.FK_slice_open hMe392
                     have hv392_0 := hcc392 0 _ rfl
                     rw [Nat.add_zero, show ((Kd.slice 26 k26)).sz = 1 from rfl, Nat.mul_one] at hv392_0
                     replace hv392_0 := Option.some.inj (hv392_0.symm.trans hx392_0)
                     injection hv392_0 with hva_ hvn_ hvc_
                     rw [hva_] at ge392_0
                     rw [hvc_] at ul392_0
                     have HL392_0 := ak_ (show Kd.V k26 26 _ w.heap.size _ _ (rd_L4 y382 x15_4) from Kd.V_mk ul392_0 ge392_0)
                     clear hva_ hvn_ hvc_ ge392_0 ul392_0
                     clear hcc392 hce392
                     have HR392_0 := ak_ hi392_0
                     have HC392_0 := ak_ hl392_0
                     clear hi392_0 hl392_0
                     replace p392 := eq_true p392
                     replace q392 := eq_true q392
                     refine start_ (n := 14) (S := fun w' => w'.cell? (ad378.add (x13_3).toNat) = some (.int .i64 (rd y375 x13_3)) ∧ w'.cell? (ad386.add (x15_4).toNat) = some (.slice A392_0 (rd_L4 y382 x15_4).length c392_0)) (ds := []) #[false, false, false, false, false, false, false, false, false, false, false, false, false, false] (by kernel_rfl) rfl rfl ⟨hx391_0, hx392_0⟩ (fun hHeld => ?_); refine with_tabW rabbetlaw6_RleAll.tab19 rabbetlaw6_RleAll.bits19 (fun HT_ HW_ => ?_)
                     generalize w37.drew = w38 at HO_2 HO_12 HO_14 HL386_0 HO389 HR386_0 HB HL392_0 HR392_0 hx391_0 hx392_0 hHeld ⊢
                     refine pure_ (i := 0) (N := some 86) (v := ?_) (a' := ?_) #[true, false, false, false, false, false, false, false, false, false, false, false, false, false] rfl rfl (any_of HT_.out (by kernel_rfl)) (fun _ _ _ h => h) (Or.inl ⟨by rfl, ?_⟩) ?_ ?_
                     rotate_left
                     ·
                      intro w'
                      go_simp
                      with_reducible rfl
                     rotate_left
                     ·
                      simp only [Act.put, List.setIfInBounds_toArray, List.set_cons_zero, List.set_cons_succ, i64_w, i32_w]
                      rfl
                     refine pure_ (i := 1) (N := some 87) (v := ?_) (a' := ?_) #[true, true, false, false, false, false, false, false, false, false, false, false, false, false] rfl rfl (any_of HT_.out (by kernel_rfl)) (fun _ _ _ h => h) (Or.inl ⟨by rfl, ?_⟩) ?_ ?_
                     rotate_left
                     ·
                      intro w'
                      go_simp
                      with_reducible rfl
                     rotate_left
                     ·
                      simp only [Act.put, List.setIfInBounds_toArray, List.set_cons_zero, List.set_cons_succ, i64_w, i32_w]
                      rfl
                     refine pure_ (i := 2) (N := some 88) (v := ?_) (a' := ?_) #[true, true, true, false, false, false, false, false, false, false, false, false, false, false] rfl rfl (any_of HT_.out (by kernel_rfl)) (fun _ _ _ h => h) (Or.inl ⟨by rfl, ?_⟩) ?_ ?_
                     rotate_left
                     ·
                      intro w'
                      go_simp
                      with_reducible rfl
                     rotate_left
                     ·
                      simp only [Act.put, List.setIfInBounds_toArray, List.set_cons_zero, List.set_cons_succ, i64_w, i32_w]
                      rfl
                     refine pure_ (i := 4) (N := some 90) (v := ?_) (a' := ?_) #[true, true, true, false, true, false, false, false, false, false, false, false, false, false] rfl rfl (any_of HT_.out (by kernel_rfl)) (fun _ _ _ h => h) (Or.inl ⟨by rfl, ?_⟩) ?_ ?_
                     rotate_left
                     ·
                      intro w'
                      go_simp
                      with_reducible rfl
                     rotate_left
                     ·
                      simp only [Act.put, List.setIfInBounds_toArray, List.set_cons_zero, List.set_cons_succ, i64_w, i32_w]
                      rfl
                     refine pure_ (i := 5) (N := some 91) (v := ?_) (a' := ?_) #[true, true, true, false, true, true, false, false, false, false, false, false, false, false] rfl rfl (any_of HT_.out (by kernel_rfl)) (fun _ _ _ h => h) (Or.inl ⟨by rfl, ?_⟩) ?_ ?_
                     rotate_left
                     ·
                      intro w'
                      go_simp
                      with_reducible rfl
                     rotate_left
                     ·
                      simp only [Act.put, List.setIfInBounds_toArray, List.set_cons_zero, List.set_cons_succ, i64_w, i32_w]
                      rfl
                     refine pure_ (i := 6) (N := some 92) (v := ?_) (a' := ?_) #[true, true, true, false, true, true, true, false, false, false, false, false, false, false] rfl rfl (any_of HT_.out (by kernel_rfl)) (fun _ _ _ h => h) (Or.inl ⟨by rfl, ?_⟩) ?_ ?_
                     rotate_left
                     ·
                      intro w'
                      go_simp
                      with_reducible rfl
                     rotate_left
                     ·
                      simp only [Act.put, List.setIfInBounds_toArray, List.set_cons_zero, List.set_cons_succ, i64_w, i32_w]
                      rfl
                     refine take_ (i := 3) (N := some 89) (v := ?_) (a' := ?_) #[true, true, true, true, true, true, true, false, false, false, false, false, false, false] rfl rfl (take_ofW HT_.out HW_.out (by kernel_rfl)) (fun _ _ _ h => h) (Or.inl ⟨by rfl, ?_⟩) hHeld ?_ ?_
                     rotate_left
                     ·
                      rintro w' ⟨s0, s1⟩
                      go_simp
                      with_reducible rfl
                     rotate_left
                     ·
                      simp only [Act.put, List.setIfInBounds_toArray, List.set_cons_zero, List.set_cons_succ, i64_w, i32_w]
                      rfl
                     refine take_ (i := 7) (N := some 93) (v := ?_) (a' := ?_) #[true, true, true, true, true, true, true, true, false, false, false, false, false, false] rfl rfl (take_ofW HT_.out HW_.out (by kernel_rfl)) (fun _ _ _ h => h) (Or.inl ⟨by rfl, ?_⟩) hHeld ?_ ?_
                     rotate_left
                     ·
                      rintro w' ⟨s0, s1⟩
                      go_simp
                      with_reducible rfl
                     rotate_left
                     ·
                      simp only [Act.put, List.setIfInBounds_toArray, List.set_cons_zero, List.set_cons_succ, i64_w, i32_w]
                      rfl
                     refine one_ (i := 8) (N := some 94) #[true, true, true, true, true, true, true, true, true, false, false, false, false, false] rfl rfl (one_of HT_.out (by kernel_rfl)) (by decide) (fun K hK => ?_)
                     refine goes_ Tryd.func16 (by kernel_rfl) rfl #[.int .i64 2, .int .i64 (rd y375 x13_3), .slice A392_0 (rd_L4 y382 x15_4).length c392_0] (by rfl) rfl rfl (by (try simp only [List.map_toArray, List.map_cons, List.map_nil]); first | done | rfl | (simp only [List.length_drop, List.length_take]; rfl)) ?_
                     with_reducible refine (rabbetref1_Encode.calls k4 2 (rd y375 x13_3) _ _ (rd_L4 y382 x15_4) t393 t394 _ ?side1 ?side2 A32.out).mono ?_
                     (case side1 => repeat (first | exact (by repeat (first | (with_reducible exact HR392_0.out) | (with_reducible refine Kd.C_alloc ?_ _) | (with_reducible refine Kd.C_drewN ?_ _) | (with_reducible refine Kd.C_drew ?_) | exact HR392_0.out)) | (with_reducible refine Kd.C_alloc ?_ _) | (with_reducible refine Kd.C_drewN ?_ _) | (with_reducible refine Kd.C_drew ?_)))
                     (case side2 => exact HC392_0.out)
                     rintro e w39 ⟨v395, rfl, ho0, hb⟩
                     have HS0_ := (hb.cell (World.block_lt_of_cell? _ _ (hHeld.1))).trans (hHeld.1)
                     have HS1_ := (hb.cell (World.block_lt_of_cell? _ _ (hHeld.2))).trans (hHeld.2)
                     refine ⟨_, rfl, ?_⟩
                     have n0_ := ak_ (Kd.V_elder' (by (with_reducible repeat (first | apply Kd.V_alloc | apply Kd.V_drewN | apply Kd.V_drew)); exact HO_2.out) (Kd.R_base ho0) hb)
                     have n1_ := ak_ (Kd.R_below (by (with_reducible repeat (first | apply Kd.R_alloc | apply Kd.R_drewN | apply Kd.R_drew)); exact HO_12.out) hb)
                     have n2_ := ak_ (Kd.N_elder' (by (with_reducible repeat (first | apply Kd.N_alloc | apply Kd.N_drewN | apply Kd.N_drew)); exact HO_14.out) (Kd.R_base ho0) hb)
                     have n3_ := ak_ (Kd.V_elder' (by (with_reducible repeat (first | apply Kd.V_alloc | apply Kd.V_drewN | apply Kd.V_drew)); exact HL386_0.out) (Kd.R_base ho0) hb)
                     have n4_ := ak_ (Kd.R_elder' (by (with_reducible repeat (first | apply Kd.R_alloc | apply Kd.R_drewN | apply Kd.R_drew)); exact HO389.out) (Kd.R_base ho0) hb)
                     have n5_ := ak_ (Kd.V_elder' (by (with_reducible repeat (first | apply Kd.V_alloc | apply Kd.V_drewN | apply Kd.V_drew)); exact HL392_0.out) (Kd.R_base ho0) hb)
                     have n6_ := ak_ (Kd.R_lower (Kd.R_new' (Kd.R_newM (M := fun k_ => (w.heap.size ≤ k_)) ho0 (below_size (by repeat (first | (with_reducible first | exact HB.out | apply bl_a | apply bl_n | apply bl_d) | exact HB.out))) (fun k_ h_ => h_)) (Kd.R_lt (by (with_reducible repeat (first | apply Kd.R_alloc | apply Kd.R_drewN | apply Kd.R_drew)); exact HO389.out))) (below_size (by repeat (first | (with_reducible first | exact HB.out | apply bl_a | apply bl_n | apply bl_d) | exact HB.out))))
                     have n7_ := ak_ (Kd.C_below (by repeat (first | (with_reducible exact HR386_0.out) | (with_reducible refine Kd.C_alloc ?_ _) | (with_reducible refine Kd.C_drewN ?_ _) | (with_reducible refine Kd.C_drew ?_) | exact HR386_0.out)) hb)
                     have n8_ := ak_ (Kd.C_below (by repeat (first | (with_reducible exact HR392_0.out) | (with_reducible refine Kd.C_alloc ?_ _) | (with_reducible refine Kd.C_drewN ?_ _) | (with_reducible refine Kd.C_drew ?_) | exact HR392_0.out)) hb)
                     have n9_ := ak_ (below_step (by repeat (first | (with_reducible first | exact HB.out | apply bl_a | apply bl_n | apply bl_d) | exact HB.out)) hb)
                     clear HO_2
                     clear HO_12
                     clear HO_14
                     clear HL386_0
                     clear HO389
                     clear HL392_0
                     clear HR386_0
                     clear HR392_0
                     clear HB
                     have HO_2 := n0_
                     have HO_12 := n1_
                     have HO_14 := n2_
                     have HL386_0 := n3_
                     have HO389 := n4_
                     have HL392_0 := n5_
                     have HO396 := n6_
                     have HR386_0 := n7_
                     have HR392_0 := n8_
                     have HB := n9_
                     clear n0_ n1_ n2_ n3_ n4_ n5_ n6_ n7_ n8_ n9_
                     (try clear hb)
                     (try clear hb2)
                     (try clear hk)
                     (try clear hi)
                     (try clear ho0)
                     refine hK.out _ _ ⟨HS0_, HS1_⟩ (fun hHeld => ?_)
                     clear hK K
                     refine norm_ (a' := ?_) ?_ ?_
                     rotate_left
                     ·
                      show Act.put _ (some 94) _ = _
                      simp only [Act.put, List.setIfInBounds_toArray, List.set_cons_zero, List.set_cons_succ, i64_w, i32_w]
                      rfl
                     refine pure_ (i := 9) (N := some 85) (v := ?_) (a' := ?_) #[true, true, true, true, true, true, true, true, true, true, false, false, false, false] rfl rfl (any_of HT_.out (by kernel_rfl)) (fun _ _ _ h => h) (Or.inl ⟨by rfl, ?_⟩) ?_ ?_
                     rotate_left
                     ·
                      intro w'
                      go_simp
                      with_reducible rfl
                     rotate_left
                     ·
                      simp only [Act.put, List.setIfInBounds_toArray, List.set_cons_zero, List.set_cons_succ, i64_w, i32_w]
                      rfl
                     refine pure_ (i := 10) (N := some 95) (v := ?_) (a' := ?_) #[true, true, true, true, true, true, true, true, true, true, true, false, false, false] rfl rfl (any_of HT_.out (by kernel_rfl)) (fun _ _ _ h => h) (Or.inl ⟨by rfl, ?_⟩) ?_ ?_
                     rotate_left
                     ·
                      intro w'
                      go_simp
                      with_reducible rfl
                     rotate_left
                     ·
                      simp only [Act.put, List.setIfInBounds_toArray, List.set_cons_zero, List.set_cons_succ, i64_w, i32_w]
                      rfl
                     refine pure_ (i := 11) (N := some 96) (v := ?_) (a' := ?_) #[true, true, true, true, true, true, true, true, true, true, true, true, false, false] rfl rfl (any_of HT_.out (by kernel_rfl)) (fun _ _ _ h => h) (Or.inl ⟨by rfl, ?_⟩) ?_ ?_
                     rotate_left
                     ·
                      intro w'
                      go_simp
                      with_reducible rfl
                     rotate_left
                     ·
                      simp only [Act.put, List.setIfInBounds_toArray, List.set_cons_zero, List.set_cons_succ, i64_w, i32_w]
                      rfl
                     refine pure_ (i := 12) (N := some 18) (v := ?_) (a' := ?_) #[true, true, true, true, true, true, true, true, true, true, true, true, true, false] rfl rfl (any_of HT_.out (by kernel_rfl)) (fun _ _ _ h => h) (Or.inl ⟨by rfl, ?_⟩) ?_ ?_
                     rotate_left
                     ·
                      intro w'
                      go_simp
                      with_reducible rfl
                     rotate_left
                     ·
                      simp only [Act.put, List.setIfInBounds_toArray, List.set_cons_zero, List.set_cons_succ, i64_w, i32_w]
                      rfl
                     refine pure_ (i := 13) (N := some 19) (v := ?_) (a' := ?_) #[true, true, true, true, true, true, true, true, true, true, true, true, true, true] rfl rfl (any_of HT_.out (by kernel_rfl)) (fun _ _ _ h => h) (Or.inl ⟨by rfl, ?_⟩) ?_ ?_
                     rotate_left
                     ·
                      intro w'
                      go_simp
                      with_reducible rfl
                     rotate_left
                     ·
                      simp only [Act.put, List.setIfInBounds_toArray, List.set_cons_zero, List.set_cons_succ, i64_w, i32_w]
                      rfl
                     refine done_ (done_of HT_.out (by kernel_rfl)) ?_
                     have hcv40 := own_string (P := Tryd.prog) Tryd.underlying22 Tryd.underlying5 Tryd.underlying9 (Kd.own_of_R HO389.out)
                     have hcv41 := own_string (P := Tryd.prog) Tryd.underlying22 Tryd.underlying5 Tryd.underlying9 (Kd.own_of_R HO396.out)
                     try go_wp2
                     go_roundg k4
                     case measure => have := HJ7.out; have := HK2.out; have := HK3.out; have := HK4.out; omega
                     case rel => exact ⟨(wrap64 (x15_4 + 1)), (by first | rfl | (simp; done) | (simp [*]; done)), H', ⟨by have := HJ7.out; have := HK2.out; have := HK3.out; have := HK4.out; omega⟩, ⟨by (with_reducible repeat (first | apply Kd.V_alloc | apply Kd.V_drewN | apply Kd.V_drew)); exact Kd.V_mono HO_2.out (fun _ hk => ⟨hk.1.1.1, ⟨hk.1.1.2.1, hk.1.1.2.2⟩⟩)⟩, ⟨by (with_reducible repeat (first | apply Kd.R_alloc | apply Kd.R_drewN | apply Kd.R_drew)); exact HO_12.out⟩, ⟨by (with_reducible repeat (first | apply Kd.N_alloc | apply Kd.N_drewN | apply Kd.N_drew)); exact Kd.N_mono HO_14.out (fun _ hk => ⟨hk.1.1.1, hk.1.1.2⟩)⟩, ⟨by repeat (first | (with_reducible first | exact HB.out | apply bl_a | apply bl_n | apply bl_d) | exact HB.out)⟩⟩
                   ·
                    rw [if_neg c33] at H
                    exact absurd H (by simp)
                  ·
                   rw [if_neg c30] at H
                   exact absurd H (by simp)
                 ·
                  rw [if_neg c29] at H
                  exact absurd H (by simp)
                ·
                 rw [if_neg c28] at H
                 exact absurd H (by simp)
               ·
                rw [if_neg c27] at H
                exact absurd H (by simp)
              ·
               rw [if_neg c26] at H
               have c26b0 : decide (x15_4 < 2) = false := decide_eq_false c26
               clear c26
               replace H := Option.bind_eq_some_iff.mp H
               obtain ⟨t397, A420, H⟩ := H
               replace H : (if 0 ≤ x13_3 then (if x13_3 < (y375.length : Int) then ((rle_Take.f k4 (rd y375 x13_3) a3 t397).bind fun bt401 => ((rabbetref1_Decode.f k4 2 (rd y375 x13_3) a3 l4).bind fun bt406 => (if (bt401.2 != bt406.2) = true then (none) else ((rabbetref1_SameValues.f k4 bt401.1 bt406.1).bind fun t410 => (if t410 = true then ((rabbetlaw0_Same.f t397 l4).bind fun t411 => (if t411 = true then (rabbetlaw6_RleAll.l1 k4 l1 l2 a3 l4 y375 (wrap64 (x13_3 + 1))) else (none))) else (none)))))) else (none)) else (none)) = some r := H
               have A42 := ak_ A420
               clear A420
               by_cases c43 : 0 ≤ x13_3
               ·
                rw [if_pos c43] at H
                have c43b0 : decide (0 ≤ x13_3) = true := decide_eq_true c43
                clear c43
                by_cases c44 : x13_3 < (y375.length : Int)
                ·
                 rw [if_pos c44] at H
                 have c44b0 : decide (x13_3 < (y375.length : Int)) = true := decide_eq_true c44
                 (try rw [hl386_0] at c44b0)
                 (try rw [hl392_0] at c44b0)
                 clear c44
                 replace H := Option.bind_eq_some_iff.mp H
                 obtain ⟨⟨t401, t402⟩, A450, H⟩ := H
                 replace H : ((rabbetref1_Decode.f k4 2 (rd y375 x13_3) a3 l4).bind fun bt406 => (if (t402 != bt406.2) = true then (none) else ((rabbetref1_SameValues.f k4 t401 bt406.1).bind fun t410 => (if t410 = true then ((rabbetlaw0_Same.f t397 l4).bind fun t411 => (if t411 = true then (rabbetlaw6_RleAll.l1 k4 l1 l2 a3 l4 y375 (wrap64 (x13_3 + 1))) else (none))) else (none))))) = some r := H
                 have A45 := ak_ A450
                 clear A450
                 replace H := Option.bind_eq_some_iff.mp H
                 obtain ⟨⟨t406, t407⟩, A460, H⟩ := H
                 replace H : (if (t402 != t407) = true then (none) else ((rabbetref1_SameValues.f k4 t401 t406).bind fun t410 => (if t410 = true then ((rabbetlaw0_Same.f t397 l4).bind fun t411 => (if t411 = true then (rabbetlaw6_RleAll.l1 k4 l1 l2 a3 l4 y375 (wrap64 (x13_3 + 1))) else (none))) else (none)))) = some r := H
                 have A46 := ak_ A460
                 clear A460
                 by_cases c47 : (t402 != t407) = true
                 ·
                  rw [if_pos c47] at H
                  exact absurd H (by simp)
                 ·
                  rw [if_neg c47] at H
                  have c47b0 : (t402 != t407) = false := by simpa using c47
                  (try (have c47b1 : decide (t402 = t407) = true := by simpa using c47))
                  (try (have c47b2 : (t402 == t407) = true := by simpa using c47))
                  clear c47
                  replace H := Option.bind_eq_some_iff.mp H
                  obtain ⟨t410, A480, H⟩ := H
                  replace H : (if t410 = true then ((rabbetlaw0_Same.f t397 l4).bind fun t411 => (if t411 = true then (rabbetlaw6_RleAll.l1 k4 l1 l2 a3 l4 y375 (wrap64 (x13_3 + 1))) else (none))) else (none)) = some r := H
                  have A48 := ak_ A480
                  clear A480
                  by_cases c49 : t410 = true
                  ·
                   subst c49
                   have H1 : ((rabbetlaw0_Same.f t397 l4).bind fun t411 => (if t411 = true then (rabbetlaw6_RleAll.l1 k4 l1 l2 a3 l4 y375 (wrap64 (x13_3 + 1))) else (none))) = some r := by rw [if_pos rfl] at H; exact H
                   clear H
                   have H := H1
                   clear H1
                   replace H := Option.bind_eq_some_iff.mp H
                   obtain ⟨t411, A500, H⟩ := H
                   replace H : (if t411 = true then (rabbetlaw6_RleAll.l1 k4 l1 l2 a3 l4 y375 (wrap64 (x13_3 + 1))) else (none)) = some r := H
                   have A50 := ak_ A500
                   clear A500
                   by_cases c51 : t411 = true
                   ·
                    subst c51
                    have H1 : (rabbetlaw6_RleAll.l1 k4 l1 l2 a3 l4 y375 (wrap64 (x13_3 + 1))) = some r := by rw [if_pos rfl] at H; exact H
                    clear H
                    have H := H1
                    clear H1
                    have H' := ak_ H
                    clear H
                    go_wp2_with (first | ((with_reducible refine gate_callee (f := 17) rfl ?_); refine goesL_ (some 108) rfl rfl Tryd.func17 (by kernel_rfl) rfl #[.slice A4 l4.length c4] rfl (by (try simp only [List.map_toArray, List.map_cons, List.map_nil]); first | done | rfl | (simp only [List.length_drop, List.length_take]; rfl)) ?_; (with_reducible refine (rabbetlaw0_Handed.calls _ _ l4 t397 _ ?side1 ?side2 A42.out).mono ?_); (case side1 => repeat (first | exact (Kd.C_below HR4.out HB.out) | (with_reducible refine Kd.C_alloc ?_ _) | (with_reducible refine Kd.C_drewN ?_ _) | (with_reducible refine Kd.C_drew ?_))); (case side2 => exact HC4.out); rintro e w52 ⟨v398, rfl, ho0, hb⟩; refine ⟨_, rfl, ?_⟩; have n0_ := ak_ (Kd.V_elder' (by (with_reducible repeat (first | apply Kd.V_alloc | apply Kd.V_drewN | apply Kd.V_drew)); exact HO_2.out) (Kd.R_base ho0.1) hb); have n1_ := ak_ (Kd.R_below (by (with_reducible repeat (first | apply Kd.R_alloc | apply Kd.R_drewN | apply Kd.R_drew)); exact HO_12.out) hb); have n2_ := ak_ (Kd.N_elder' (by (with_reducible repeat (first | apply Kd.N_alloc | apply Kd.N_drewN | apply Kd.N_drew)); exact HO_14.out) (Kd.R_base ho0.1) hb); have n3_ := ak_ (Kd.R_lower (Kd.R_newM (M := fun k_ => (w.heap.size ≤ k_)) ho0.1 (below_size (by repeat (first | (with_reducible first | exact HB.out | apply bl_a | apply bl_n | apply bl_d) | exact HB.out))) (fun k_ h_ => h_)) (below_size (by repeat (first | (with_reducible first | exact HB.out | apply bl_a | apply bl_n | apply bl_d) | exact HB.out)))); have n4_ := ak_ (BelowS.mk (below_step (by repeat (first | (with_reducible first | exact HB.out | apply bl_a | apply bl_n | apply bl_d) | exact HB.out)) hb) ho0.2); clear HO_2; clear HO_12; clear HO_14; clear HB; have HO_2 := n0_; have HO_12 := n1_; have HO_14 := n2_; have HO399 := n3_; have HB := n4_; clear n0_ n1_ n2_ n3_ n4_; (try clear hb); (try clear hb2); (try clear hk); (try clear hi); (try clear ho0); have p400 : 0 ≤ (x13_3 : Int) := of_decide_eq_true (by first | (with_reducible assumption) | assumption); have q400 : x13_3 < (y375.length : Int) := of_decide_eq_true (by first | (with_reducible assumption) | assumption); obtain ⟨ad400, e400, hx400_0⟩ := Kd.at_int (Kd.R_reads' HO_12.out).2.2 x13_3 p400 q400; obtain rfl : ad378 = ad400 := (by injection e400); replace p400 := eq_true p400; replace q400 := eq_true q400; obtain ⟨Ao53, co53, eo53⟩ := Kd.R_slice HO399.out; subst eo53) | ((with_reducible refine gate_callee (f := 25) rfl ?_); refine goesL_ (some 116) rfl rfl Tryd.func25 (by kernel_rfl) rfl #[.int .i64 (rd y375 x13_3), .int .i64 a3, .slice Ao53 t397.length co53] rfl (by (try simp only [List.map_toArray, List.map_cons, List.map_nil]); first | done | rfl | (simp only [List.length_drop, List.length_take]; rfl)) ?_; (with_reducible refine (rle_Take.calls GA k4 (rd y375 x13_3) a3 _ _ t397 t401 t402 _ ?side1 ?side2 ?side3 A45.out).mono ?_); (case side1 => repeat (first | exact (Kd.R_reads' HO399.out).2.2 | (with_reducible refine Kd.C_alloc ?_ _) | (with_reducible refine Kd.C_drewN ?_ _) | (with_reducible refine Kd.C_drew ?_))); (case side2 => exact (Kd.R_reads' HO399.out).2.1); (case side3 => exact Glob.below HG.out (by repeat (first | (with_reducible first | (first | exact HB.out | exact HB.out.b) | (first | apply bl_a | apply belowS_alloc) | (first | apply bl_n | apply belowS_drewN) | (first | apply bl_d | apply belowS_drew1)) | (first | (first | exact HB.out | exact HB.out.b) | exact HB.out.b)))); rintro e w54 ⟨v403, rfl, ho0, hb⟩; refine ⟨_, rfl, ?_⟩; have n0_ := ak_ (Kd.V_elder' (by (with_reducible repeat (first | apply Kd.V_alloc | apply Kd.V_drewN | apply Kd.V_drew)); exact HO_2.out) (Kd.R_base ho0) hb); have n1_ := ak_ (Kd.R_below (by (with_reducible repeat (first | apply Kd.R_alloc | apply Kd.R_drewN | apply Kd.R_drew)); exact HO_12.out) hb); have n2_ := ak_ (Kd.N_elder' (by (with_reducible repeat (first | apply Kd.N_alloc | apply Kd.N_drewN | apply Kd.N_drew)); exact HO_14.out) (Kd.R_base ho0) hb); have n3_ := ak_ (Kd.R_below (by (with_reducible repeat (first | apply Kd.R_alloc | apply Kd.R_drewN | apply Kd.R_drew)); exact HO399.out) hb); have n4_ := ak_ (Kd.R_lower (Kd.R_newM (M := fun k_ => (w.heap.size ≤ k_)) ho0 (belowS_size (by repeat (first | (with_reducible first | (first | exact HB.out | exact HB.out.b) | (first | apply bl_a | apply belowS_alloc) | (first | apply bl_n | apply belowS_drewN) | (first | apply bl_d | apply belowS_drew1)) | (first | (first | exact HB.out | exact HB.out.b) | exact HB.out.b)))) (fun k_ h_ => h_)) (belowS_size (by repeat (first | (with_reducible first | (first | exact HB.out | exact HB.out.b) | (first | apply bl_a | apply belowS_alloc) | (first | apply bl_n | apply belowS_drewN) | (first | apply bl_d | apply belowS_drew1)) | (first | (first | exact HB.out | exact HB.out.b) | exact HB.out.b))))); have n5_ := ak_ (belowS_step (by repeat (first | (with_reducible first | (first | exact HB.out | exact HB.out.b) | (first | apply bl_a | apply belowS_alloc) | (first | apply bl_n | apply belowS_drewN) | (first | apply bl_d | apply belowS_drew1)) | (first | (first | exact HB.out | exact HB.out.b) | exact HB.out.b))) hb); clear HO_2; clear HO_12; clear HO_14; clear HO399; clear HB; have HO_2 := n0_; have HO_12 := n1_; have HO_14 := n2_; have HO399 := n3_; have HO404 := n4_; have HB := n5_; clear n0_ n1_ n2_ n3_ n4_ n5_; (try clear hb); (try clear hb2); (try clear hk); (try clear hi); (try clear ho0); have p405 : 0 ≤ (x13_3 : Int) := of_decide_eq_true (by first | (with_reducible assumption) | assumption); have q405 : x13_3 < (y375.length : Int) := of_decide_eq_true (by first | (with_reducible assumption) | assumption); obtain ⟨ad405, e405, hx405_0⟩ := Kd.at_int (Kd.R_reads' HO_12.out).2.2 x13_3 p405 q405; obtain rfl : ad378 = ad405 := (by injection e405); replace p405 := eq_true p405; replace q405 := eq_true q405) | ((with_reducible refine gate_callee (f := 19) rfl ?_); refine goesL_ (some 126) rfl rfl Tryd.func19 (by kernel_rfl) rfl #[.int .i64 2, .int .i64 (rd y375 x13_3), .int .i64 a3, .slice A4 l4.length c4] rfl (by (try simp only [List.map_toArray, List.map_cons, List.map_nil]); first | done | rfl | (simp only [List.length_drop, List.length_take]; rfl)) ?_; (with_reducible refine (rabbetref1_Decode.calls k4 2 (rd y375 x13_3) a3 _ _ l4 t406 t407 _ ?side1 ?side2 A46.out).mono ?_); (case side1 => repeat (first | exact (Kd.C_below HR4.out HB.out.b) | (with_reducible refine Kd.C_alloc ?_ _) | (with_reducible refine Kd.C_drewN ?_ _) | (with_reducible refine Kd.C_drew ?_))); (case side2 => exact HC4.out); rintro e w55 ⟨v408, rfl, ho0, hb⟩; refine ⟨_, rfl, ?_⟩; have n0_ := ak_ (Kd.V_elder' (by (with_reducible repeat (first | apply Kd.V_alloc | apply Kd.V_drewN | apply Kd.V_drew)); exact HO_2.out) (Kd.R_base ho0) hb); have n1_ := ak_ (Kd.R_below (by (with_reducible repeat (first | apply Kd.R_alloc | apply Kd.R_drewN | apply Kd.R_drew)); exact HO_12.out) hb); have n2_ := ak_ (Kd.N_elder' (by (with_reducible repeat (first | apply Kd.N_alloc | apply Kd.N_drewN | apply Kd.N_drew)); exact HO_14.out) (Kd.R_base ho0) hb); have n3_ := ak_ (Kd.R_below (by (with_reducible repeat (first | apply Kd.R_alloc | apply Kd.R_drewN | apply Kd.R_drew)); exact HO399.out) hb); have n4_ := ak_ (Kd.R_elder' (by (with_reducible repeat (first | apply Kd.R_alloc | apply Kd.R_drewN | apply Kd.R_drew)); exact HO404.out) (Kd.R_base ho0) hb); have n5_ := ak_ (Kd.R_lower (Kd.R_new' (Kd.R_newM (M := fun k_ => (w.heap.size ≤ k_)) ho0 (belowS_size (by repeat (first | (with_reducible first | (first | exact HB.out | exact HB.out.b) | (first | apply bl_a | apply belowS_alloc) | (first | apply bl_n | apply belowS_drewN) | (first | apply bl_d | apply belowS_drew1)) | (first | (first | exact HB.out | exact HB.out.b) | exact HB.out.b)))) (fun k_ h_ => h_)) (Kd.R_lt (by (with_reducible repeat (first | apply Kd.R_alloc | apply Kd.R_drewN | apply Kd.R_drew)); exact HO404.out))) (belowS_size (by repeat (first | (with_reducible first | (first | exact HB.out | exact HB.out.b) | (first | apply bl_a | apply belowS_alloc) | (first | apply bl_n | apply belowS_drewN) | (first | apply bl_d | apply belowS_drew1)) | (first | (first | exact HB.out | exact HB.out.b) | exact HB.out.b))))); have n6_ := ak_ (belowS_step (by repeat (first | (with_reducible first | (first | exact HB.out | exact HB.out.b) | (first | apply bl_a | apply belowS_alloc) | (first | apply bl_n | apply belowS_drewN) | (first | apply bl_d | apply belowS_drew1)) | (first | (first | exact HB.out | exact HB.out.b) | exact HB.out.b))) hb); clear HO_2; clear HO_12; clear HO_14; clear HO399; clear HO404; clear HB; have HO_2 := n0_; have HO_12 := n1_; have HO_14 := n2_; have HO399 := n3_; have HO404 := n4_; have HO409 := n5_; have HB := n6_; clear n0_ n1_ n2_ n3_ n4_ n5_ n6_; (try clear hb); (try clear hb2); (try clear hk); (try clear hi); (try clear ho0); obtain ⟨Ao56, co56, eo56⟩ := Kd.R_slice HO404.out; subst eo56; obtain ⟨Ao57, co57, eo57⟩ := Kd.R_slice HO409.out; subst eo57) | (go_at_call 20; (with_reducible refine (rabbetref1_SameValues.calls k4 _ _ t401 _ _ t406 true _ ?side1 ?side2 ?side3 ?side4 A48.out).mono ?_); (case side1 => repeat (first | exact (Kd.R_reads' HO404.out).2.2 | (with_reducible refine Kd.C_alloc ?_ _) | (with_reducible refine Kd.C_drewN ?_ _) | (with_reducible refine Kd.C_drew ?_))); (case side2 => exact (Kd.R_reads' HO404.out).2.1); (case side3 => repeat (first | exact (Kd.R_reads' HO409.out).2.2 | (with_reducible refine Kd.C_alloc ?_ _) | (with_reducible refine Kd.C_drewN ?_ _) | (with_reducible refine Kd.C_drew ?_))); (case side4 => exact (Kd.R_reads' HO409.out).2.1); rintro e w' ⟨rfl, ⟨nd, rfl⟩⟩) | (go_at_call 21; (with_reducible refine (rabbetlaw0_Same.calls _ _ t397 _ _ l4 true _ ?side1 ?side2 ?side3 ?side4 A50.out).mono ?_); (case side1 => exact ⟨_, _, ⟨by (with_reducible repeat (first | apply Kd.R_alloc | apply Kd.R_drewN | apply Kd.R_drew)); exact HO399.out, belowS_spare (by repeat (first | exact HB.out | apply belowS_alloc | apply belowS_drewN | apply belowS_drew1))⟩⟩); (case side2 => exact (Kd.R_reads' HO399.out).2.1); (case side3 => repeat (first | exact (Kd.C_below HR4.out (by repeat (first | (with_reducible first | (first | exact HB.out | exact HB.out.b) | (first | apply bl_a | apply belowS_alloc) | (first | apply bl_n | apply belowS_drewN) | (first | apply bl_d | apply belowS_drew1)) | (first | (first | exact HB.out | exact HB.out.b) | exact HB.out.b)))) | (with_reducible refine Kd.C_alloc ?_ _) | (with_reducible refine Kd.C_drewN ?_ _) | (with_reducible refine Kd.C_drew ?_))); (case side4 => exact HC4.out); rintro e w' ⟨rfl, ⟨nd, rfl⟩⟩))
                    go_roundg k4
                    case measure => have := HJ7.out; have := HK2.out; have := HK3.out; have := HK4.out; omega
                    case rel => exact ⟨(wrap64 (x13_3 + 1)), (by first | rfl | (simp; done) | (simp [*]; done)), H', ⟨by have := HJ7.out; have := HK2.out; have := HK3.out; have := HK4.out; omega⟩, ⟨by (with_reducible repeat (first | apply Kd.V_alloc | apply Kd.V_drewN | apply Kd.V_drew)); exact Kd.V_mono HO_2.out (fun _ hk => ⟨hk.1.1.1.1, hk.1.1.1.2.1⟩)⟩, ⟨by (with_reducible repeat (first | apply Kd.R_alloc | apply Kd.R_drewN | apply Kd.R_drew)); exact HO_12.out⟩, ⟨by repeat (first | (with_reducible first | (first | exact HB.out | exact HB.out.b) | (first | apply bl_a | apply belowS_alloc) | (first | apply bl_n | apply belowS_drewN) | (first | apply bl_d | apply belowS_drew1)) | (first | (first | exact HB.out | exact HB.out.b) | exact HB.out.b))⟩⟩
                   ·
                    replace c51 := Bool.eq_false_iff.mpr c51
                    subst c51
                    have H1 : (none) = some r := by rw [if_neg (show ¬ (false = true) by decide)] at H; exact H
                    clear H
                    have H := H1
                    clear H1
                    exact absurd H (by simp)
                  ·
                   replace c49 := Bool.eq_false_iff.mpr c49
                   subst c49
                   have H1 : (none) = some r := by rw [if_neg (show ¬ (false = true) by decide)] at H; exact H
                   clear H
                   have H := H1
                   clear H1
                   exact absurd H (by simp)
                ·
                 rw [if_neg c44] at H
                 exact absurd H (by simp)
               ·
                rw [if_neg c43] at H
                exact absurd H (by simp)
           ·
            rw [if_neg c19] at H
            exact absurd H (by simp)
          ·
           rw [if_neg c18] at H
           have c18b0 : decide (x13_3 < (y375.length : Int)) = false := decide_eq_false c18
           (try rw [hl386_0] at c18b0)
           (try rw [hl392_0] at c18b0)
           clear c18
           obtain rfl := Option.some.inj H
           obtain ⟨Ao58, co58, eo58⟩ := Kd.R_slice HO_12.out
           subst eo58
           go_wp2
           go_ret
           exact ⟨by first | rfl | (simp [errW_none, errW_some] <;> rfl) | (simp [*, errW_none, errW_some] <;> rfl), by repeat (first | (with_reducible first | exact HB.out | apply bl_a | apply bl_n | apply bl_d) | exact HB.out)⟩
 ·
  replace c7 := Bool.eq_false_iff.mpr c7
  subst c7
  have H1 : (none) = some r := by rw [if_neg (show ¬ (false = true) by decide)] at H; exact H
  clear H
  have H := H1
  clear H1
  exact absurd H (by simp)
end Go.Proofs.YtigldipjkejalaaDoor.PRleAll