-- Written by xprint.py (a program of this project) out of the translation. Not trusted: Lean checks it. -- squeezed
import Derived.Test.YtigldipjkejalaaDoorPRleAllx0
import Derived.Test.YtigldipjkejalaaDoorPRleAllx1
import Derived.Test.YtigldipjkejalaaDoorPRleAllx7
namespace Go.Proofs.YtigldipjkejalaaDoor.PRleAll
open Go.RowKit Go.Proofs.YtigldipjkejalaaDoorW.PrintWords Go.Proofs.YtigldipjkejalaaDoorW.PrintLast Go.Proofs.YtigldipjkejalaaDoorW.PrintMore
attribute [local go_sem] max2_int min2_int max_two min_two max_three min_three max_four min_four   -- for this text's walks alone
set_option linter.unusedVariables false
set_option linter.unusedSimpArgs false
attribute [local go_sem high] eqA26
mutual
def rle_Put.l0 : Nat → List (S26) → List Int → Option (List Int × Bool)
 | 0, _, _ => none
 | k + 1, x1, x4 => if (x1.length : Int) > 0 then (rle_Put.l1 k x1 x4 1) else (some (x4, true))
def rle_Put.l1 : Nat → List (S26) → List Int → Int → Option (List Int × Bool)
 | 0, _, _, _ => none
 | k + 1, x1, x4, x6 => if x6 < (x1.length : Int) then (if 0 ≤ x6 then (if 0 < (x1.length : Int) then (if (((rd_T26 x1 x6).f0) == ((rd_T26 x1 0).f0) && (((rd_T26 x1 x6).f1) == ((rd_T26 x1 0).f1) && ((((rd_T26 x1 x6).f2).toList) == (((rd_T26 x1 0).f2).toList)))) = true then (rle_Put.l1 k x1 x4 (wrap64 (x6 + 1))) else ((num_Put.f k (IntKind.u64.wrap (x6))).bind fun t242 => (if x4.length + t242.length < 140737488355328 then ((rle_one.f k (x4 ++ t242) ((rd_T26 x1 0).f0) ((rd_T26 x1 0).f1) ((rd_T26 x1 0).f2)).bind fun t249 => (if x6 ≤ (x1.length : Int) then (rle_Put.l0 k (x1.drop (x6 : Int).toNat) t249) else (none))) else (none)))) else (none)) else (none)) else ((num_Put.f k (IntKind.u64.wrap (x6))).bind fun t257 => (if x4.length + t257.length < 140737488355328 then (if 0 < (x1.length : Int) then ((rle_one.f k (x4 ++ t257) ((rd_T26 x1 0).f0) ((rd_T26 x1 0).f1) ((rd_T26 x1 0).f2)).bind fun t264 => (if 0 ≤ x6 then (if x6 ≤ (x1.length : Int) then (rle_Put.l0 k (x1.drop (x6 : Int).toNat) t264) else (none)) else (none))) else (none)) else (none)))
end
def rle_Put.f (k : Nat) (a0 : Int) (l1 : List (S26)) : Option (List Int × Bool) := (rle_of.f k a0 l1).bind fun t239 => (if t239 = true then (rle_Put.l0 k l1 ([] : List Int)) else (some (([] : List Int), false)))
theorem rle_Put.mono_l : ∀ k, (∀ y0 y1, LeO (rle_Put.l0 k y0 y1) (rle_Put.l0 (k + 1) y0 y1)) ∧ (∀ y0 y1 y2, LeO (rle_Put.l1 k y0 y1 y2) (rle_Put.l1 (k + 1) y0 y1 y2))
 | 0 => ⟨fun _ _ r h => by simp [rle_Put.l0] at h, fun _ _ _ r h => by simp [rle_Put.l1] at h⟩
 | k + 1 => by
  obtain ⟨ih0, ih1⟩ := rle_Put.mono_l k
  refine ⟨?_, ?_⟩
  ·
   intro y0 y1
   unfold rle_Put.l0
   repeat' first
   | (with_reducible exact ih0 _ _)
   | (with_reducible exact ih1 _ _ _)
   | (with_reducible exact num_Put.mono _ _)
   | (with_reducible exact rle_of.mono _ _ _)
   | (with_reducible exact rle_one.mono _ _ _ _ _)
   | (with_reducible exact LeO.refl _)
   | (with_reducible exact LeO.none _)
   | (with_reducible refine LeO.ite ?_ ?_)
   | (with_reducible refine LeO.bind ?_ (fun _ => ?_))
   | exact ih0 _ _
   | exact ih1 _ _ _
   | exact num_Put.mono _ _
   | exact rle_of.mono _ _ _
   | exact rle_one.mono _ _ _ _ _
   | exact LeO.none _
   | refine LeO.ite ?_ ?_
   | refine LeO.bind ?_ (fun _ => ?_)
  ·
   intro y0 y1 y2
   unfold rle_Put.l1
   repeat' first
   | (with_reducible exact ih0 _ _)
   | (with_reducible exact ih1 _ _ _)
   | (with_reducible exact num_Put.mono _ _)
   | (with_reducible exact rle_of.mono _ _ _)
   | (with_reducible exact rle_one.mono _ _ _ _ _)
   | (with_reducible exact LeO.refl _)
   | (with_reducible exact LeO.none _)
   | (with_reducible refine LeO.ite ?_ ?_)
   | (with_reducible refine LeO.bind ?_ (fun _ => ?_))
   | exact ih0 _ _
   | exact ih1 _ _ _
   | exact num_Put.mono _ _
   | exact rle_of.mono _ _ _
   | exact rle_one.mono _ _ _ _ _
   | exact LeO.none _
   | refine LeO.ite ?_ ?_
   | refine LeO.bind ?_ (fun _ => ?_)
theorem rle_Put.mono : ∀ a0 a1 k, LeO (rle_Put.f k a0 a1) (rle_Put.f (k + 1) a0 a1) := by
 intro a0 a1 k
 obtain ⟨ih0, ih1⟩ := rle_Put.mono_l k
 unfold rle_Put.f
 repeat' first
   | (with_reducible exact ih0 _ _)
   | (with_reducible exact ih1 _ _ _)
   | (with_reducible exact num_Put.mono _ _)
   | (with_reducible exact rle_of.mono _ _ _)
   | (with_reducible exact rle_one.mono _ _ _ _ _)
   | (with_reducible exact LeO.refl _)
   | (with_reducible exact LeO.none _)
   | (with_reducible refine LeO.ite ?_ ?_)
   | (with_reducible refine LeO.bind ?_ (fun _ => ?_))
   | exact ih0 _ _
   | exact ih1 _ _ _
   | exact num_Put.mono _ _
   | exact rle_of.mono _ _ _
   | exact rle_one.mono _ _ _ _ _
   | exact LeO.none _
   | refine LeO.ite ?_ ?_
   | refine LeO.bind ?_ (fun _ => ?_)
def rle_Put.T5 : Bool × List (List Nat × List Nat) := (true, [([], []), ([], []), ([1], [1]), ([0, 2], [0, 2]), ([3], [3]), ([4], [4]), ([4], [4]), ([5, 6, 4], [4, 5, 6]), ([7, 4], [4, 7]), ([4], [4]), ([9, 4], [4, 9]), ([10, 4], [4, 10]), ([8, 11, 4], [4, 8, 11]), ([4, 12], [4, 12])])
def rle_Put.B5 : List Nat := [0, 0, 2, 7, 15, 31, 31, 127, 255, 31, 543, 1567, 4095, 8191]
theorem rle_Put.tab5 : rtab .any (opsOf Tryd.f24 5) = rle_Put.T5 := by kernel_rfl
theorem rle_Put.bits5 : waitsOk rle_Put.T5.2 rle_Put.B5 = true := by kernel_rfl
def rle_Put.T7 : Bool × List (List Nat × List Nat) := (true, [([], []), ([], []), ([1], [1]), ([2], [2]), ([0, 3, 3], [0, 3]), ([], []), ([5], [5]), ([6], [6]), ([4, 7, 4], [4, 7]), ([8, 8, 0, 1, 2, 3, 4, 5, 6, 7, 8], [0, 8])])
def rle_Put.B7 : List Nat := [0, 0, 2, 6, 15, 0, 32, 96, 255, 511]
theorem rle_Put.tab7 : rtab .any (opsOf Tryd.f24 7) = rle_Put.T7 := by kernel_rfl
theorem rle_Put.bits7 : waitsOk rle_Put.T7.2 rle_Put.B7 = true := by kernel_rfl
set_option maxHeartbeats 8000000 in
set_option maxRecDepth 100000 in
theorem rle_Put.calls (k : Nat) (a0 : Int) (P1_ : Nat → Prop) (A1 : Option Addr) (c1 : Nat) (l1 : List (S26)) (r1 : List Int) (r2 : Bool) (w : World) (hs1 : Kd.V k26 26 w w.heap.size (fun k_ => P1_ k_) (.slice A1 l1.length c1) l1) (h : rle_Put.f k a0 l1 = some (r1, r2)) :
  Calls Tryd.prog 24 #[.int .i64 a0, .slice A1 l1.length c1] w fun e w' => ∃ v0_ : Value, e = .returned (.tuple #[v0_, .bool r2]) ∧ Kd.R (Kd.int .u8) 5 w' w.heap.size (fun k_ => (w.heap.size ≤ k_)) v0_ r1 ∧ Below w.heap.size w w' := by
 have hu26 := Tryd.underlying26
 have HO1 := ak_ (show Kd.V k26 26 w w.heap.size (fun k_ => (P1_ k_ ∨ w.heap.size ≤ k_)) (.slice A1 l1.length c1) l1 from Kd.V_mono hs1 (fun k_ hk => .inl hk))
 have HB := ak_ (Below.refl w.heap.size w)
 have H : ((rle_of.f k a0 l1).bind fun t239 => (if t239 = true then (rle_Put.l0 k l1 ([] : List Int)) else (some (([] : List Int), false)))) = some (r1, r2) := h
 clear h
 replace H := Option.bind_eq_some_iff.mp H
 obtain ⟨t239, A30, H⟩ := H
 replace H : (if t239 = true then (rle_Put.l0 k l1 ([] : List Int)) else (some (([] : List Int), false))) = some (r1, r2) := H
 have A3 := ak_ A30
 clear A30
 by_cases c4 : t239 = true
 ·
  subst c4
  have H1 : (rle_Put.l0 k l1 ([] : List Int)) = some (r1, r2) := by rw [if_pos rfl] at H; exact H
  clear H
  have H := H1
  clear H1
  have H' := ak_ H
  clear H
  go_enter Tryd.func24, Tryd.ntmps24
  go_wp2_with (first | ((with_reducible refine gate_callee (f := 44) rfl ?_); refine goesL_ (some 9) rfl rfl Tryd.func44 (by kernel_rfl) rfl #[.int .i64 a0, .slice A1 l1.length c1] rfl (by (try simp only [List.map_toArray, List.map_cons, List.map_nil]); first | done | rfl | (simp only [List.length_drop, List.length_take]; rfl)) ?_; (with_reducible refine (rle_of.calls k a0 _ _ l1 true _ ?side1 ?side2 A3.out).mono ?_); (case side1 => repeat (first | exact (Kd.V_reads' HO1.out).2.2 | (with_reducible refine Kd.C_alloc ?_ _) | (with_reducible refine Kd.C_drewN ?_ _) | (with_reducible refine Kd.C_drew ?_))); (case side2 => exact (Kd.V_reads' HO1.out).2.1); rintro e w5 ⟨rfl, hb⟩; refine ⟨_, rfl, ?_⟩; have n0_ := ak_ (Kd.V_below (by (with_reducible repeat (first | apply Kd.V_alloc | apply Kd.V_drewN | apply Kd.V_drew)); exact HO1.out) hb); have n1_ := ak_ (below_step (by repeat (first | (with_reducible first | exact HB.out | apply bl_a | apply bl_n | apply bl_d) | exact HB.out)) hb); clear HO1; clear HB; have HO1 := n0_; have HB := n1_; clear n0_ n1_; (try clear hb); (try clear hb2); (try clear hk); (try clear hi)))
  go_loopg [1, 4] k (fun kq v1 v4 w' => ∃ (x1_1 : List (S26)) (x4_1 : List Int), Aside0 (rle_Put.l0 kq x1_1 x4_1 = some (r1, r2)) ∧ Aside0 (kq ≤ k) ∧ Aside0 (Kd.V k26 26 w' w.heap.size (fun k_ => (P1_ k_ ∨ w.heap.size ≤ k_) ∧ some k_ ≠ (v4 : Value).ownBlock) v1 x1_1) ∧ Aside0 (Kd.R (Kd.int .u8) 5 w' w.heap.size (fun k_ => (w.heap.size ≤ k_)) v4 x4_1) ∧ Aside0 (Below w.heap.size w w'))
  case atStart => exact ⟨(l1), (([] : List Int)), H', ⟨Nat.le_refl _⟩, ⟨by (with_reducible repeat (first | apply Kd.V_alloc | apply Kd.V_drewN | apply Kd.V_drew)); exact Kd.V_mono HO1.out (fun _ hk => ⟨hk, (by simp [Value.ownBlock])⟩)⟩, ⟨by first | exact Kd.R_nil _ _ _ _ _ | exact Kd.N_nil _ _ _ _ _ | exact Kd.V_nil _ _ _ _ _ | exact Kd.Q_nil _ _ _ _ _ | exact Kd.S_nil _ _ _ _ _⟩, ⟨by repeat (first | (with_reducible first | exact HB.out | apply bl_a | apply bl_n | apply bl_d) | exact HB.out)⟩⟩
  case round =>
   clear H'
   try clear c1
   try clear c2
   try clear p2
   try clear c4
   obtain ⟨x1_1, x4_1, HA, HK1, HO_1, HO_4, HB⟩ := hrel
   cases gk with
   | zero => exact absurd HA.out (by simp [rle_Put.l0])
   | succ k1 =>
    have H := HA.out
    clear HA
    simp only [rle_Put.l0] at H
    by_cases c6 : (x1_1.length : Int) > 0
    ·
     rw [if_pos c6] at H
     have c6b0 : decide (0 < (x1_1.length : Int)) = true := decide_eq_true c6
     have c6b1 : decide (0 < x1_1.length) = true := decide_eq_true (by omega)
     (try (have c6b1p : (0 < x1_1.length) = True := eq_true (of_decide_eq_true c6b1)))
     clear c6
     have H' := ak_ H
     clear H
     obtain ⟨Ao7, co7, eo7⟩ := Kd.V_slice HO_1.out
     subst eo7
     go_wp2
     go_loopg [6] k1 (fun kq v6 w' => ∃ (x6_2 : Int), v6 = .int .i64 x6_2 ∧ Aside0 (rle_Put.l1 kq x1_1 x4_1 x6_2 = some (r1, r2)) ∧ Aside0 (kq ≤ k1) ∧ Aside0 (Kd.V k26 26 w' w.heap.size (fun k_ => (P1_ k_ ∨ w.heap.size ≤ k_) ∧ some k_ ≠ (u4 : Value).ownBlock) (.slice Ao7 x1_1.length co7) x1_1) ∧ Aside0 (Kd.R (Kd.int .u8) 5 w' w.heap.size (fun k_ => (w.heap.size ≤ k_)) u4 x4_1) ∧ Aside0 (Below w.heap.size w w'))
     case atStart => exact ⟨(1), (by first | rfl | (simp; done) | (simp [*]; done)), H', ⟨Nat.le_refl _⟩, ⟨by (with_reducible repeat (first | apply Kd.V_alloc | apply Kd.V_drewN | apply Kd.V_drew)); exact HO_1.out⟩, ⟨by (with_reducible repeat (first | apply Kd.R_alloc | apply Kd.R_drewN | apply Kd.R_drew)); exact HO_4.out⟩, ⟨by repeat (first | (with_reducible first | exact HB.out | apply bl_a | apply bl_n | apply bl_d) | exact HB.out)⟩⟩
     case round =>
      clear H'
      try clear c1
      try clear c2
      try clear p2
      try clear c4
      try clear c6
      try clear c6b0
      try clear c6b1
      try clear p2
      obtain ⟨x6_2, rfl, HA, HK2, HO_1, HO_4, HB⟩ := hrel
      cases gk with
      | zero => exact absurd HA.out (by simp [rle_Put.l1])
      | succ k2 =>
       have H := HA.out
       clear HA
       simp only [rle_Put.l1] at H
       by_cases c8 : x6_2 < (x1_1.length : Int)
       ·
        rw [if_pos c8] at H
        have c8b0 : decide (x6_2 < (x1_1.length : Int)) = true := decide_eq_true c8
        clear c8
        by_cases c9 : 0 ≤ x6_2
        ·
         rw [if_pos c9] at H
         have c9b0 : decide (0 ≤ x6_2) = true := decide_eq_true c9
         clear c9
         by_cases c10 : 0 < (x1_1.length : Int)
         ·
          rw [if_pos c10] at H
          have c10b0 : decide (0 < (x1_1.length : Int)) = true := decide_eq_true c10
          have c10b1 : decide (0 < x1_1.length) = true := decide_eq_true (by omega)
          (try (have c10b1p : (0 < x1_1.length) = True := eq_true (of_decide_eq_true c10b1)))
          clear c10
          by_cases c11 : (((rd_T26 x1_1 x6_2).f0) == ((rd_T26 x1_1 0).f0) && (((rd_T26 x1_1 x6_2).f1) == ((rd_T26 x1_1 0).f1) && ((((rd_T26 x1_1 x6_2).f2).toList) == (((rd_T26 x1_1 0).f2).toList)))) = true
          ·
           rw [if_pos c11] at H
           have c11b0 : (((rd_T26 x1_1 x6_2).f0) == ((rd_T26 x1_1 0).f0) && (((rd_T26 x1_1 x6_2).f1) == ((rd_T26 x1_1 0).f1) && ((((rd_T26 x1_1 x6_2).f2).toList) == (((rd_T26 x1_1 0).f2).toList)))) = true := c11
           (try (have c11b1 : decide (((rd_T26 x1_1 x6_2).f0) = ((rd_T26 x1_1 0).f0) && (((rd_T26 x1_1 x6_2).f1) == ((rd_T26 x1_1 0).f1) && ((((rd_T26 x1_1 x6_2).f2).toList) == (((rd_T26 x1_1 0).f2).toList)))) = true := by simpa using c11))
           (try (have c11b2 : (((rd_T26 x1_1 x6_2).f0) == ((rd_T26 x1_1 0).f0) && (((rd_T26 x1_1 x6_2).f1) == ((rd_T26 x1_1 0).f1) && ((((rd_T26 x1_1 x6_2).f2).toList) == (((rd_T26 x1_1 0).f2).toList)))) = true := by simpa using c11))
           clear c11
           have H' := ak_ H
           clear H
           try go_wp2
           have n0_ := ak_ (Kd.V_drew HO_1.out)
           have n1_ := ak_ (Kd.R_drew HO_4.out)
           have n2_ := ak_ (bl_d HB.out)
           clear HO_1
           clear HO_4
           clear HB
           have HO_1 := n0_
           have HO_4 := n1_
           have HB := n2_
           clear n0_ n1_ n2_
           have p240 : 0 ≤ (x6_2 : Int) := of_decide_eq_true (by first | (with_reducible assumption) | assumption)
           have q240 : x6_2 < (x1_1.length : Int) := of_decide_eq_true (by first | (with_reducible assumption) | assumption)
           obtain ⟨ad240, e240, hx240_0, hx240_1, hx240_2⟩ := at_T26 (Kd.V_reads' HO_1.out).2.2 x6_2 p240 q240
           cases e240
           replace p240 := eq_true p240
           replace q240 := eq_true q240
           have p241 : 0 ≤ (0 : Int) := (by omega)
           have q241 : 0 < (x1_1.length : Int) := of_decide_eq_true (by first | (with_reducible assumption) | assumption)
           obtain ⟨ad241, e241, hx241_0, hx241_1, hx241_2⟩ := at_T26 (Kd.V_reads' HO_1.out).2.2 0 p241 q241
           obtain rfl : ad240 = ad241 := (by injection e241)
           have qi241 : (0 < x1_1.length) = True := eq_true (by omega)
           (try rw [show ((0 : Int)).toNat = 0 from rfl] at hx241_0)
           (try rw [show 0 * 3 = 0 from rfl] at hx241_0)
           (try rw [Addr.add_zero'] at hx241_0)
           (try rw [show ((0 : Int)).toNat = 0 from rfl] at hx241_1)
           (try rw [show 0 * 3 = 0 from rfl] at hx241_1)
           (try rw [Addr.add_zero'] at hx241_1)
           (try rw [show ((0 : Int)).toNat = 0 from rfl] at hx241_2)
           (try rw [show 0 * 3 = 0 from rfl] at hx241_2)
           (try rw [Addr.add_zero'] at hx241_2)
           replace p241 := eq_true p241
           replace q241 := eq_true q241
           refine start_ (n := 14) (S := fun w' => w'.cell? (ad240.add ((x6_2).toNat * 3)) = some (.int .i64 ((rd_T26 x1_1 x6_2).f0)) ∧ w'.cell? ⟨(ad240.add ((x6_2).toNat * 3)).block, (ad240.add ((x6_2).toNat * 3)).off + 1, none⟩ = some (.int .i64 ((rd_T26 x1_1 x6_2).f1)) ∧ w'.cell? ⟨(ad240.add ((x6_2).toNat * 3)).block, (ad240.add ((x6_2).toNat * 3)).off + 2, none⟩ = some (.string ((rd_T26 x1_1 x6_2).f2)) ∧ w'.cell? ad240 = some (.int .i64 ((rd_T26 x1_1 0).f0)) ∧ w'.cell? ⟨ad240.block, ad240.off + 1, none⟩ = some (.int .i64 ((rd_T26 x1_1 0).f1)) ∧ w'.cell? ⟨ad240.block, ad240.off + 2, none⟩ = some (.string ((rd_T26 x1_1 0).f2))) (ds := []) #[false, false, false, false, false, false, false, false, false, false, false, false, false, false] (by kernel_rfl) rfl rfl ⟨hx240_0, hx240_1, hx240_2, hx241_0, hx241_1, hx241_2⟩ (fun hHeld => ?_); refine with_tabW rle_Put.tab5 rle_Put.bits5 (fun HT_ HW_ => ?_)
           generalize wr.drew = w12 at HO_1 HO_4 HB hx240_0 hx240_1 hx240_2 hx241_0 hx241_1 hx241_2 hHeld ⊢
           refine pure_ (i := 0) (N := some 14) (v := ?_) (a' := ?_) #[true, false, false, false, false, false, false, false, false, false, false, false, false, false] rfl rfl (any_of HT_.out (by kernel_rfl)) (fun _ _ _ h => h) (Or.inl ⟨by rfl, ?_⟩) ?_ ?_
           rotate_left
           ·
            intro w'
            go_simp
            with_reducible rfl
           rotate_left
           ·
            simp only [Act.put, List.setIfInBounds_toArray, List.set_cons_zero, List.set_cons_succ, i64_w, i32_w]
            rfl
           refine pure_ (i := 1) (N := some 15) (v := ?_) (a' := ?_) #[true, true, false, false, false, false, false, false, false, false, false, false, false, false] rfl rfl (any_of HT_.out (by kernel_rfl)) (fun _ _ _ h => h) (Or.inl ⟨by rfl, ?_⟩) ?_ ?_
           rotate_left
           ·
            intro w'
            go_simp
            with_reducible rfl
           rotate_left
           ·
            simp only [Act.put, List.setIfInBounds_toArray, List.set_cons_zero, List.set_cons_succ, i64_w, i32_w]
            rfl
           refine pure_ (i := 2) (N := some 16) (v := ?_) (a' := ?_) #[true, true, true, false, false, false, false, false, false, false, false, false, false, false] rfl rfl (any_of HT_.out (by kernel_rfl)) (fun _ _ _ h => h) (Or.inl ⟨by rfl, ?_⟩) ?_ ?_
           rotate_left
           ·
            intro w'
            go_simp
            with_reducible rfl
           rotate_left
           ·
            simp only [Act.put, List.setIfInBounds_toArray, List.set_cons_zero, List.set_cons_succ, i64_w, i32_w]
            rfl
           refine pure_ (i := 3) (N := some 17) (v := ?_) (a' := ?_) #[true, true, true, true, false, false, false, false, false, false, false, false, false, false] rfl rfl (any_of HT_.out (by kernel_rfl)) (fun _ _ _ h => h) (Or.inl ⟨by rfl, ?_⟩) ?_ ?_
           rotate_left
           ·
            intro w'
            go_simp
            with_reducible rfl
           rotate_left
           ·
            simp only [Act.put, List.setIfInBounds_toArray, List.set_cons_zero, List.set_cons_succ, i64_w, i32_w]
            rfl
           refine pure_ (i := 4) (N := some 18) (v := ?_) (a' := ?_) #[true, true, true, true, true, false, false, false, false, false, false, false, false, false] rfl rfl (any_of HT_.out (by kernel_rfl)) (fun _ _ _ h => h) (Or.inl ⟨by rfl, ?_⟩) ?_ ?_
           rotate_left
           ·
            intro w'
            go_simp
            with_reducible rfl
           rotate_left
           ·
            simp only [Act.put, List.setIfInBounds_toArray, List.set_cons_zero, List.set_cons_succ, i64_w, i32_w]
            rfl
           refine pure_ (i := 5) (N := some 19) (v := ?_) (a' := ?_) #[true, true, true, true, true, true, false, false, false, false, false, false, false, false] rfl rfl (any_of HT_.out (by kernel_rfl)) (fun _ _ _ h => h) (Or.inl ⟨by rfl, ?_⟩) ?_ ?_
           rotate_left
           ·
            intro w'
            go_simp
            with_reducible rfl
           rotate_left
           ·
            simp only [Act.put, List.setIfInBounds_toArray, List.set_cons_zero, List.set_cons_succ, i64_w, i32_w]
            rfl
           refine pure_ (i := 6) (N := some 20) (v := ?_) (a' := ?_) #[true, true, true, true, true, true, true, false, false, false, false, false, false, false] rfl rfl (any_of HT_.out (by kernel_rfl)) (fun _ _ _ h => h) (Or.inl ⟨by rfl, ?_⟩) ?_ ?_
           rotate_left
           ·
            intro w'
            go_simp
            with_reducible rfl
           rotate_left
           ·
            simp only [Act.put, List.setIfInBounds_toArray, List.set_cons_zero, List.set_cons_succ, i64_w, i32_w]
            rfl
           refine pure_ (i := 7) (N := some 21) (v := ?_) (a' := ?_) #[true, true, true, true, true, true, true, true, false, false, false, false, false, false] rfl rfl (any_of HT_.out (by kernel_rfl)) (fun _ _ _ h => h) (Or.inl ⟨by rfl, ?_⟩) ?_ ?_
           rotate_left
           ·
            intro w'
            go_simp
            with_reducible rfl
           rotate_left
           ·
            simp only [Act.put, List.setIfInBounds_toArray, List.set_cons_zero, List.set_cons_succ, i64_w, i32_w]
            rfl
           refine pure_ (i := 9) (N := some 23) (v := ?_) (a' := ?_) #[true, true, true, true, true, true, true, true, false, true, false, false, false, false] rfl rfl (any_of HT_.out (by kernel_rfl)) (fun _ _ _ h => h) (Or.inl ⟨by rfl, ?_⟩) ?_ ?_
           rotate_left
           ·
            intro w'
            go_simp
            with_reducible rfl
           rotate_left
           ·
            simp only [Act.put, List.setIfInBounds_toArray, List.set_cons_zero, List.set_cons_succ, i64_w, i32_w]
            rfl
           refine pure_ (i := 10) (N := some 24) (v := ?_) (a' := ?_) #[true, true, true, true, true, true, true, true, false, true, true, false, false, false] rfl rfl (any_of HT_.out (by kernel_rfl)) (fun _ _ _ h => h) (Or.inl ⟨by rfl, ?_⟩) ?_ ?_
           rotate_left
           ·
            intro w'
            go_simp
            with_reducible rfl
           rotate_left
           ·
            simp only [Act.put, List.setIfInBounds_toArray, List.set_cons_zero, List.set_cons_succ, i64_w, i32_w]
            rfl
           refine take_ (i := 8) (N := some 22) (v := ?_) (a' := ?_) #[true, true, true, true, true, true, true, true, true, true, true, false, false, false] rfl rfl (take_ofW HT_.out HW_.out (by kernel_rfl)) (fun _ _ _ h => h) (Or.inl ⟨by rfl, ?_⟩) hHeld ?_ ?_
           rotate_left
           ·
            rintro w' ⟨s0, s1, s2, s3, s4, s5⟩
            go_simp
            with_reducible rfl
           rotate_left
           ·
            simp only [Act.put, List.setIfInBounds_toArray, List.set_cons_zero, List.set_cons_succ, i64_w, i32_w]
            rfl
           refine take_ (i := 11) (N := some 25) (v := ?_) (a' := ?_) #[true, true, true, true, true, true, true, true, true, true, true, true, false, false] rfl rfl (take_ofW HT_.out HW_.out (by kernel_rfl)) (fun _ _ _ h => h) (Or.inl ⟨by rfl, ?_⟩) hHeld ?_ ?_
           rotate_left
           ·
            rintro w' ⟨s0, s1, s2, s3, s4, s5⟩
            go_simp
            with_reducible rfl
           rotate_left
           ·
            simp only [Act.put, List.setIfInBounds_toArray, List.set_cons_zero, List.set_cons_succ, i64_w, i32_w]
            rfl
           refine pure_ (i := 12) (N := some 26) (v := ?_) (a' := ?_) #[true, true, true, true, true, true, true, true, true, true, true, true, true, false] rfl rfl (any_of HT_.out (by kernel_rfl)) (fun _ _ _ h => h) (Or.inl ⟨by rfl, ?_⟩) ?_ ?_
           rotate_left
           ·
            intro w'
            go_simp
            with_reducible rfl
           rotate_left
           ·
            simp only [Act.put, List.setIfInBounds_toArray, List.set_cons_zero, List.set_cons_succ, i64_w, i32_w]
            rfl
           refine pure_ (i := 13) (N := some 27) (v := ?_) (a' := ?_) #[true, true, true, true, true, true, true, true, true, true, true, true, true, true] rfl rfl (any_of HT_.out (by kernel_rfl)) (fun _ _ _ h => h) (Or.inl ⟨by rfl, ?_⟩) ?_ ?_
           rotate_left
           ·
            intro w'
            go_simp
            with_reducible rfl
           rotate_left
           ·
            simp only [Act.put, List.setIfInBounds_toArray, List.set_cons_zero, List.set_cons_succ, i64_w, i32_w]
            rfl
           refine done_ (done_of HT_.out (by kernel_rfl)) ?_
           try go_wp2
           go_roundg k2
           case measure => have := HK1.out; have := HK2.out; omega
           case rel => exact ⟨(wrap64 (x6_2 + 1)), (by first | rfl | (simp; done) | (simp [*]; done)), H', ⟨by have := HK1.out; have := HK2.out; omega⟩, ⟨by (with_reducible repeat (first | apply Kd.V_alloc | apply Kd.V_drewN | apply Kd.V_drew)); exact HO_1.out⟩, ⟨by (with_reducible repeat (first | apply Kd.R_alloc | apply Kd.R_drewN | apply Kd.R_drew)); exact HO_4.out⟩, ⟨by repeat (first | (with_reducible first | exact HB.out | apply bl_a | apply bl_n | apply bl_d) | exact HB.out)⟩⟩
          ·
           rw [if_neg c11] at H
           have c11b0 : (((rd_T26 x1_1 x6_2).f0) == ((rd_T26 x1_1 0).f0) && (((rd_T26 x1_1 x6_2).f1) == ((rd_T26 x1_1 0).f1) && ((((rd_T26 x1_1 x6_2).f2).toList) == (((rd_T26 x1_1 0).f2).toList)))) = false := by simpa using c11
           (try (have c11b1 : decide (((rd_T26 x1_1 x6_2).f0) = ((rd_T26 x1_1 0).f0) && (((rd_T26 x1_1 x6_2).f1) == ((rd_T26 x1_1 0).f1) && ((((rd_T26 x1_1 x6_2).f2).toList) == (((rd_T26 x1_1 0).f2).toList)))) = false := by simpa using c11))
           (try (have c11b2 : (((rd_T26 x1_1 x6_2).f0) == ((rd_T26 x1_1 0).f0) && (((rd_T26 x1_1 x6_2).f1) == ((rd_T26 x1_1 0).f1) && ((((rd_T26 x1_1 x6_2).f2).toList) == (((rd_T26 x1_1 0).f2).toList)))) = false := by simpa using c11))
           (try (have c11b3 : ¬ (((rd_T26 x1_1 x6_2).f0) = ((rd_T26 x1_1 0).f0) && (((rd_T26 x1_1 x6_2).f1) == ((rd_T26 x1_1 0).f1) && ((((rd_T26 x1_1 x6_2).f2).toList) == (((rd_T26 x1_1 0).f2).toList)))) := by simpa using c11))
           clear c11
           replace H := Option.bind_eq_some_iff.mp H
           obtain ⟨t242, A130, H⟩ := H
           replace H : (if x4_1.length + t242.length < 140737488355328 then ((rle_one.f k2 (x4_1 ++ t242) ((rd_T26 x1_1 0).f0) ((rd_T26 x1_1 0).f1) ((rd_T26 x1_1 0).f2)).bind fun t249 => (if x6_2 ≤ (x1_1.length : Int) then (rle_Put.l0 k2 (x1_1.drop (x6_2 : Int).toNat) t249) else (none))) else (none)) = some (r1, r2) := H
           have A13 := ak_ A130
           clear A130
           by_cases c14 : x4_1.length + t242.length < 140737488355328
           ·
            rw [if_pos c14] at H
            have LMc14 := ak_ c14
            clear c14
            obtain ⟨y245, hy245⟩ : ∃ y_ : List Int, y_ = (x4_1 ++ t242) := ⟨_, rfl⟩
            replace H : ((rle_one.f k2 y245 ((rd_T26 x1_1 0).f0) ((rd_T26 x1_1 0).f1) ((rd_T26 x1_1 0).f2)).bind fun t249 => (if x6_2 ≤ (x1_1.length : Int) then (rle_Put.l0 k2 (x1_1.drop (x6_2 : Int).toNat) t249) else (none))) = some (r1, r2) := by first | (rw [hy245]; with_reducible exact H) | (have H2_ := (Option.bind_some _ _).symm.trans H; rw [hy245]; with_reducible exact H2_) | (have H2_ := (Option.bind_some _ _).symm.trans H; with_reducible exact H2_) | with_reducible exact H | (rw [hy245]; exact H) | exact H
            have Ny245 := ak_ hy245
            clear hy245
            replace H := Option.bind_eq_some_iff.mp H
            obtain ⟨t249, A150, H⟩ := H
            replace H : (if x6_2 ≤ (x1_1.length : Int) then (rle_Put.l0 k2 (x1_1.drop (x6_2 : Int).toNat) t249) else (none)) = some (r1, r2) := H
            have A15 := ak_ A150
            clear A150
            have c16b0 := eq_true (of_decide_eq_true (by first | (with_reducible assumption) | assumption) : 0 ≤ x6_2)
            by_cases c17 : x6_2 ≤ (x1_1.length : Int)
            ·
             rw [if_pos c17] at H
             have c17b0 := eq_true c17
             have c17b1 : decide (x6_2 ≤ (x1_1.length : Int)) = true := decide_eq_true c17
             clear c17
             obtain ⟨y252, hy252⟩ : ∃ y_ : List (S26), y_ = (x1_1.drop (x6_2 : Int).toNat) := ⟨_, rfl⟩
             replace H : (rle_Put.l0 k2 y252 t249) = some (r1, r2) := by first | (rw [hy252]; with_reducible exact H) | (have H2_ := (Option.bind_some _ _).symm.trans H; rw [hy252]; with_reducible exact H2_) | (have H2_ := (Option.bind_some _ _).symm.trans H; with_reducible exact H2_) | with_reducible exact H | (rw [hy252]; exact H) | exact H
             have Ny252 := ak_ hy252
             clear hy252
             have H' := ak_ H
             clear H
             try go_wp2
             have n0_ := ak_ (Kd.V_drew HO_1.out)
             have n1_ := ak_ (Kd.R_drew HO_4.out)
             have n2_ := ak_ (bl_d HB.out)
             clear HO_1
             clear HO_4
             clear HB
             have HO_1 := n0_
             have HO_4 := n1_
             have HB := n2_
             clear n0_ n1_ n2_
             have p240 : 0 ≤ (x6_2 : Int) := of_decide_eq_true (by first | (with_reducible assumption) | assumption)
             have q240 : x6_2 < (x1_1.length : Int) := of_decide_eq_true (by first | (with_reducible assumption) | assumption)
             obtain ⟨ad240, e240, hx240_0, hx240_1, hx240_2⟩ := at_T26 (Kd.V_reads' HO_1.out).2.2 x6_2 p240 q240
             cases e240
             replace p240 := eq_true p240
             replace q240 := eq_true q240
             have p241 : 0 ≤ (0 : Int) := (by omega)
             have q241 : 0 < (x1_1.length : Int) := of_decide_eq_true (by first | (with_reducible assumption) | assumption)
             obtain ⟨ad241, e241, hx241_0, hx241_1, hx241_2⟩ := at_T26 (Kd.V_reads' HO_1.out).2.2 0 p241 q241
             obtain rfl : ad240 = ad241 := (by injection e241)
             have qi241 : (0 < x1_1.length) = True := eq_true (by omega)
             (try rw [show ((0 : Int)).toNat = 0 from rfl] at hx241_0)
             (try rw [show 0 * 3 = 0 from rfl] at hx241_0)
             (try rw [Addr.add_zero'] at hx241_0)
             (try rw [show ((0 : Int)).toNat = 0 from rfl] at hx241_1)
             (try rw [show 0 * 3 = 0 from rfl] at hx241_1)
             (try rw [Addr.add_zero'] at hx241_1)
             (try rw [show ((0 : Int)).toNat = 0 from rfl] at hx241_2)
             (try rw [show 0 * 3 = 0 from rfl] at hx241_2)
             (try rw [Addr.add_zero'] at hx241_2)
             replace p241 := eq_true p241
             replace q241 := eq_true q241
             refine start_ (n := 14) (S := fun w' => w'.cell? (ad240.add ((x6_2).toNat * 3)) = some (.int .i64 ((rd_T26 x1_1 x6_2).f0)) ∧ w'.cell? ⟨(ad240.add ((x6_2).toNat * 3)).block, (ad240.add ((x6_2).toNat * 3)).off + 1, none⟩ = some (.int .i64 ((rd_T26 x1_1 x6_2).f1)) ∧ w'.cell? ⟨(ad240.add ((x6_2).toNat * 3)).block, (ad240.add ((x6_2).toNat * 3)).off + 2, none⟩ = some (.string ((rd_T26 x1_1 x6_2).f2)) ∧ w'.cell? ad240 = some (.int .i64 ((rd_T26 x1_1 0).f0)) ∧ w'.cell? ⟨ad240.block, ad240.off + 1, none⟩ = some (.int .i64 ((rd_T26 x1_1 0).f1)) ∧ w'.cell? ⟨ad240.block, ad240.off + 2, none⟩ = some (.string ((rd_T26 x1_1 0).f2))) (ds := []) #[false, false, false, false, false, false, false, false, false, false, false, false, false, false] (by kernel_rfl) rfl rfl ⟨hx240_0, hx240_1, hx240_2, hx241_0, hx241_1, hx241_2⟩ (fun hHeld => ?_); refine with_tabW rle_Put.tab5 rle_Put.bits5 (fun HT_ HW_ => ?_)
             generalize wr.drew = w18 at HO_1 HO_4 HB hx240_0 hx240_1 hx240_2 hx241_0 hx241_1 hx241_2 hHeld ⊢
             refine pure_ (i := 0) (N := some 14) (v := ?_) (a' := ?_) #[true, false, false, false, false, false, false, false, false, false, false, false, false, false] rfl rfl (any_of HT_.out (by kernel_rfl)) (fun _ _ _ h => h) (Or.inl ⟨by rfl, ?_⟩) ?_ ?_
             rotate_left
             ·
              intro w'
              go_simp
              with_reducible rfl
             rotate_left
             ·
              simp only [Act.put, List.setIfInBounds_toArray, List.set_cons_zero, List.set_cons_succ, i64_w, i32_w]
              rfl
             refine pure_ (i := 1) (N := some 15) (v := ?_) (a' := ?_) #[true, true, false, false, false, false, false, false, false, false, false, false, false, false] rfl rfl (any_of HT_.out (by kernel_rfl)) (fun _ _ _ h => h) (Or.inl ⟨by rfl, ?_⟩) ?_ ?_
             rotate_left
             ·
              intro w'
              go_simp
              with_reducible rfl
             rotate_left
             ·
              simp only [Act.put, List.setIfInBounds_toArray, List.set_cons_zero, List.set_cons_succ, i64_w, i32_w]
              rfl
             refine pure_ (i := 2) (N := some 16) (v := ?_) (a' := ?_) #[true, true, true, false, false, false, false, false, false, false, false, false, false, false] rfl rfl (any_of HT_.out (by kernel_rfl)) (fun _ _ _ h => h) (Or.inl ⟨by rfl, ?_⟩) ?_ ?_
             rotate_left
             ·
              intro w'
              go_simp
              with_reducible rfl
             rotate_left
             ·
              simp only [Act.put, List.setIfInBounds_toArray, List.set_cons_zero, List.set_cons_succ, i64_w, i32_w]
              rfl
             refine pure_ (i := 3) (N := some 17) (v := ?_) (a' := ?_) #[true, true, true, true, false, false, false, false, false, false, false, false, false, false] rfl rfl (any_of HT_.out (by kernel_rfl)) (fun _ _ _ h => h) (Or.inl ⟨by rfl, ?_⟩) ?_ ?_
             rotate_left
             ·
              intro w'
              go_simp
              with_reducible rfl
             rotate_left
             ·
              simp only [Act.put, List.setIfInBounds_toArray, List.set_cons_zero, List.set_cons_succ, i64_w, i32_w]
              rfl
             refine pure_ (i := 4) (N := some 18) (v := ?_) (a' := ?_) #[true, true, true, true, true, false, false, false, false, false, false, false, false, false] rfl rfl (any_of HT_.out (by kernel_rfl)) (fun _ _ _ h => h) (Or.inl ⟨by rfl, ?_⟩) ?_ ?_
             rotate_left
             ·
              intro w'
              go_simp
              with_reducible rfl
             rotate_left
             ·
              simp only [Act.put, List.setIfInBounds_toArray, List.set_cons_zero, List.set_cons_succ, i64_w, i32_w]
              rfl
             refine pure_ (i := 5) (N := some 19) (v := ?_) (a' := ?_) #[true, true, true, true, true, true, false, false, false, false, false, false, false, false] rfl rfl (any_of HT_.out (by kernel_rfl)) (fun _ _ _ h => h) (Or.inl ⟨by rfl, ?_⟩) ?_ ?_
             rotate_left
             ·
              intro w'
              go_simp
              with_reducible rfl
             rotate_left
             ·
              simp only [Act.put, List.setIfInBounds_toArray, List.set_cons_zero, List.set_cons_succ, i64_w, i32_w]
              rfl
             refine pure_ (i := 6) (N := some 20) (v := ?_) (a' := ?_) #[true, true, true, true, true, true, true, false, false, false, false, false, false, false] rfl rfl (any_of HT_.out (by kernel_rfl)) (fun _ _ _ h => h) (Or.inl ⟨by rfl, ?_⟩) ?_ ?_
             rotate_left
             ·
              intro w'
              go_simp
              with_reducible rfl
             rotate_left
             ·
              simp only [Act.put, List.setIfInBounds_toArray, List.set_cons_zero, List.set_cons_succ, i64_w, i32_w]
              rfl
             refine pure_ (i := 7) (N := some 21) (v := ?_) (a' := ?_) #[true, true, true, true, true, true, true, true, false, false, false, false, false, false] rfl rfl (any_of HT_.out (by kernel_rfl)) (fun _ _ _ h => h) (Or.inl ⟨by rfl, ?_⟩) ?_ ?_
             rotate_left
             ·
              intro w'
              go_simp
              with_reducible rfl
             rotate_left
             ·
              simp only [Act.put, List.setIfInBounds_toArray, List.set_cons_zero, List.set_cons_succ, i64_w, i32_w]
              rfl
             refine pure_ (i := 9) (N := some 23) (v := ?_) (a' := ?_) #[true, true, true, true, true, true, true, true, false, true, false, false, false, false] rfl rfl (any_of HT_.out (by kernel_rfl)) (fun _ _ _ h => h) (Or.inl ⟨by rfl, ?_⟩) ?_ ?_
             rotate_left
             ·
              intro w'
              go_simp
              with_reducible rfl
             rotate_left
             ·
              simp only [Act.put, List.setIfInBounds_toArray, List.set_cons_zero, List.set_cons_succ, i64_w, i32_w]
              rfl
             refine pure_ (i := 10) (N := some 24) (v := ?_) (a' := ?_) #[true, true, true, true, true, true, true, true, false, true, true, false, false, false] rfl rfl (any_of HT_.out (by kernel_rfl)) (fun _ _ _ h => h) (Or.inl ⟨by rfl, ?_⟩) ?_ ?_
             rotate_left
             ·
              intro w'
              go_simp
              with_reducible rfl
             rotate_left
             ·
              simp only [Act.put, List.setIfInBounds_toArray, List.set_cons_zero, List.set_cons_succ, i64_w, i32_w]
              rfl
             refine take_ (i := 8) (N := some 22) (v := ?_) (a' := ?_) #[true, true, true, true, true, true, true, true, true, true, true, false, false, false] rfl rfl (take_ofW HT_.out HW_.out (by kernel_rfl)) (fun _ _ _ h => h) (Or.inl ⟨by rfl, ?_⟩) hHeld ?_ ?_
             rotate_left
             ·
              rintro w' ⟨s0, s1, s2, s3, s4, s5⟩
              go_simp
              with_reducible rfl
             rotate_left
             ·
              simp only [Act.put, List.setIfInBounds_toArray, List.set_cons_zero, List.set_cons_succ, i64_w, i32_w]
              rfl
             refine take_ (i := 11) (N := some 25) (v := ?_) (a' := ?_) #[true, true, true, true, true, true, true, true, true, true, true, true, false, false] rfl rfl (take_ofW HT_.out HW_.out (by kernel_rfl)) (fun _ _ _ h => h) (Or.inl ⟨by rfl, ?_⟩) hHeld ?_ ?_
             rotate_left
             ·
              rintro w' ⟨s0, s1, s2, s3, s4, s5⟩
              go_simp
              with_reducible rfl
             rotate_left
             ·
              simp only [Act.put, List.setIfInBounds_toArray, List.set_cons_zero, List.set_cons_succ, i64_w, i32_w]
              rfl
             refine pure_ (i := 12) (N := some 26) (v := ?_) (a' := ?_) #[true, true, true, true, true, true, true, true, true, true, true, true, true, false] rfl rfl (any_of HT_.out (by kernel_rfl)) (fun _ _ _ h => h) (Or.inl ⟨by rfl, ?_⟩) ?_ ?_
             rotate_left
             ·
              intro w'
              go_simp
              with_reducible rfl
             rotate_left
             ·
              simp only [Act.put, List.setIfInBounds_toArray, List.set_cons_zero, List.set_cons_succ, i64_w, i32_w]
              rfl
             refine pure_ (i := 13) (N := some 27) (v := ?_) (a' := ?_) #[true, true, true, true, true, true, true, true, true, true, true, true, true, true] rfl rfl (any_of HT_.out (by kernel_rfl)) (fun _ _ _ h => h) (Or.inl ⟨by rfl, ?_⟩) ?_ ?_
             rotate_left
             ·
              intro w'
              go_simp
              with_reducible rfl
             rotate_left
             ·
              simp only [Act.put, List.setIfInBounds_toArray, List.set_cons_zero, List.set_cons_succ, i64_w, i32_w]
              rfl
             refine done_ (done_of HT_.out (by kernel_rfl)) ?_
             try go_wp2
             have n0_ := ak_ (Kd.V_drew HO_1.out)
             have n1_ := ak_ (Kd.R_drew HO_4.out)
             have n2_ := ak_ (bl_d HB.out)
             clear HO_1
             clear HO_4
             clear HB
             have HO_1 := n0_
             have HO_4 := n1_
             have HB := n2_
             clear n0_ n1_ n2_
             have p248 : 0 ≤ (0 : Int) := (by omega)
             have q248 : 0 < (x1_1.length : Int) := of_decide_eq_true (by first | (with_reducible assumption) | assumption)
             obtain ⟨ad248, e248, hx248_0, hx248_1, hx248_2⟩ := at_T26 (Kd.V_reads' HO_1.out).2.2 0 p248 q248
             obtain rfl : ad240 = ad248 := (by injection e248)
             have qi248 : (0 < x1_1.length) = True := eq_true (by omega)
             (try rw [show ((0 : Int)).toNat = 0 from rfl] at hx248_0)
             (try rw [show 0 * 3 = 0 from rfl] at hx248_0)
             (try rw [Addr.add_zero'] at hx248_0)
             (try rw [show ((0 : Int)).toNat = 0 from rfl] at hx248_1)
             (try rw [show 0 * 3 = 0 from rfl] at hx248_1)
             (try rw [Addr.add_zero'] at hx248_1)
             (try rw [show ((0 : Int)).toNat = 0 from rfl] at hx248_2)
             (try rw [show 0 * 3 = 0 from rfl] at hx248_2)
             (try rw [Addr.add_zero'] at hx248_2)
             replace p248 := eq_true p248
             replace q248 := eq_true q248
             refine start_ (n := 10) (S := fun w' => w'.cell? ad240 = some (.int .i64 ((rd_T26 x1_1 0).f0)) ∧ w'.cell? ⟨ad240.block, ad240.off + 1, none⟩ = some (.int .i64 ((rd_T26 x1_1 0).f1)) ∧ w'.cell? ⟨ad240.block, ad240.off + 2, none⟩ = some (.string ((rd_T26 x1_1 0).f2))) (ds := []) #[false, false, false, false, false, false, false, false, false, false] (by kernel_rfl) rfl rfl ⟨hx248_0, hx248_1, hx248_2⟩ (fun hHeld => ?_); refine with_tabW rle_Put.tab7 rle_Put.bits7 (fun HT_ HW_ => ?_)
             generalize w18.drew = w19 at HO_1 HO_4 HB hx248_0 hx248_1 hx248_2 hHeld ⊢
             refine pure_ (i := 0) (N := some 30) (v := ?_) (a' := ?_) #[true, false, false, false, false, false, false, false, false, false] rfl rfl (any_of HT_.out (by kernel_rfl)) (fun _ _ _ h => h) (Or.inl ⟨by rfl, ?_⟩) ?_ ?_
             rotate_left
             ·
              intro w'
              go_simp
              with_reducible rfl
             rotate_left
             ·
              simp only [Act.put, List.setIfInBounds_toArray, List.set_cons_zero, List.set_cons_succ, i64_w, i32_w]
              rfl
             refine pure_ (i := 1) (N := some 31) (v := ?_) (a' := ?_) #[true, true, false, false, false, false, false, false, false, false] rfl rfl (any_of HT_.out (by kernel_rfl)) (fun _ _ _ h => h) (Or.inl ⟨by rfl, ?_⟩) ?_ ?_
             rotate_left
             ·
              intro w'
              go_simp
              with_reducible rfl
             rotate_left
             ·
              simp only [Act.put, List.setIfInBounds_toArray, List.set_cons_zero, List.set_cons_succ, i64_w, i32_w]
              rfl
             refine pure_ (i := 2) (N := some 32) (v := ?_) (a' := ?_) #[true, true, true, false, false, false, false, false, false, false] rfl rfl (any_of HT_.out (by kernel_rfl)) (fun _ _ _ h => h) (Or.inl ⟨by rfl, ?_⟩) ?_ ?_
             rotate_left
             ·
              intro w'
              go_simp
              with_reducible rfl
             rotate_left
             ·
              simp only [Act.put, List.setIfInBounds_toArray, List.set_cons_zero, List.set_cons_succ, i64_w, i32_w]
              rfl
             refine pure_ (i := 5) (N := some 35) (v := ?_) (a' := ?_) #[true, true, true, false, false, true, false, false, false, false] rfl rfl (any_of HT_.out (by kernel_rfl)) (fun _ _ _ h => h) (Or.inl ⟨by rfl, ?_⟩) ?_ ?_
             rotate_left
             ·
              intro w'
              go_simp
              with_reducible rfl
             rotate_left
             ·
              simp only [Act.put, List.setIfInBounds_toArray, List.set_cons_zero, List.set_cons_succ, i64_w, i32_w]
              rfl
             refine pure_ (i := 6) (N := some 36) (v := ?_) (a' := ?_) #[true, true, true, false, false, true, true, false, false, false] rfl rfl (any_of HT_.out (by kernel_rfl)) (fun _ _ _ h => h) (Or.inl ⟨by rfl, ?_⟩) ?_ ?_
             rotate_left
             ·
              intro w'
              go_simp
              with_reducible rfl
             rotate_left
             ·
              simp only [Act.put, List.setIfInBounds_toArray, List.set_cons_zero, List.set_cons_succ, i64_w, i32_w]
              rfl
             refine take_ (i := 7) (N := some 37) (v := ?_) (a' := ?_) #[true, true, true, false, false, true, true, true, false, false] rfl rfl (take_ofW HT_.out HW_.out (by kernel_rfl)) (fun _ _ _ h => h) (Or.inl ⟨by rfl, ?_⟩) hHeld ?_ ?_
             rotate_left
             ·
              rintro w' ⟨s0, s1, s2⟩
              go_simp
              with_reducible rfl
             rotate_left
             ·
              simp only [Act.put, List.setIfInBounds_toArray, List.set_cons_zero, List.set_cons_succ, i64_w, i32_w]
              rfl
             refine one_ (i := 3) (N := some 33) #[true, true, true, true, false, true, true, true, false, false] rfl rfl (one_of HT_.out (by kernel_rfl)) (by decide) (fun K hK => ?_)
             refine goes_ Tryd.func31 (by kernel_rfl) rfl #[.int .u64 (IntKind.u64.wrap (x6_2))] (by rfl) rfl rfl (by (try simp only [List.map_toArray, List.map_cons, List.map_nil]); first | done | rfl | (simp only [List.length_drop, List.length_take]; rfl)) ?_
             with_reducible refine (num_Put.calls k2 (IntKind.u64.wrap (x6_2)) t242 _ A13.out).mono ?_
             rintro e w20 ⟨v243, rfl, ho0, hb⟩
             have HS0_ := (hb.cell (World.block_lt_of_cell? _ _ (hHeld.1))).trans (hHeld.1)
             have HS1_ := (hb.cell (World.block_lt_of_cell? _ _ (hHeld.2.1))).trans (hHeld.2.1)
             have HS2_ := (hb.cell (World.block_lt_of_cell? _ _ (hHeld.2.2))).trans (hHeld.2.2)
             refine ⟨_, rfl, ?_⟩
             have n0_ := ak_ (Kd.V_elder' (by (with_reducible repeat (first | apply Kd.V_alloc | apply Kd.V_drewN | apply Kd.V_drew)); exact HO_1.out) (Kd.R_base ho0) hb)
             have n1_ := ak_ (Kd.R_elder' (by (with_reducible repeat (first | apply Kd.R_alloc | apply Kd.R_drewN | apply Kd.R_drew)); exact HO_4.out) (Kd.R_base ho0) hb)
             have n2_ := ak_ (Kd.R_lower (Kd.R_new' (Kd.R_newM (M := fun k_ => (w.heap.size ≤ k_)) ho0 (below_size (by repeat (first | (with_reducible first | exact HB.out | apply bl_a | apply bl_n | apply bl_d) | exact HB.out))) (fun k_ h_ => h_)) (Kd.R_lt (by (with_reducible repeat (first | apply Kd.R_alloc | apply Kd.R_drewN | apply Kd.R_drew)); exact HO_4.out))) (below_size (by repeat (first | (with_reducible first | exact HB.out | apply bl_a | apply bl_n | apply bl_d) | exact HB.out))))
             have n3_ := ak_ (below_step (by repeat (first | (with_reducible first | exact HB.out | apply bl_a | apply bl_n | apply bl_d) | exact HB.out)) hb)
             clear HO_1
             clear HO_4
             clear HB
             have HO_1 := n0_
             have HO_4 := n1_
             have HO244 := n2_
             have HB := n3_
             clear n0_ n1_ n2_ n3_
             (try clear hb)
             (try clear hb2)
             (try clear hk)
             (try clear hi)
             (try clear ho0)
             obtain ⟨Ao22, co22, eo22⟩ := Kd.R_slice HO244.out
             (first | subst eo22 | (injection eo22 with f1_ f2_ f3_; have f4_ := f1_.symm; have f5_ := f3_.symm; clear f1_ f2_ f3_; subst f4_; subst f5_))
             refine hK.out _ _ ⟨HS0_, HS1_, HS2_⟩ (fun hHeld => ?_)
             clear hK K
             refine norm_ (a' := ?_) ?_ ?_
             rotate_left
             ·
              show Act.put _ (some 33) _ = _
              simp only [Act.put, List.setIfInBounds_toArray, List.set_cons_zero, List.set_cons_succ, i64_w, i32_w]
              rfl
             refine one_ (i := 4) (N := some 34) #[true, true, true, true, true, true, true, true, false, false] rfl rfl (one_of HT_.out (by kernel_rfl)) (by decide) (fun K hK => ?_)
             refine Kd.R_append_rows_step (Kd.int .u8) (w0 := w) w.heap.size (by rfl) (.tmp 30) (.tmp 33) 22 5 (.int .u8 0) 1 rfl Tryd.underlying22 info5 rfl (by decide) (by omega) u4 x4_1 t242 _ _ _ (fun k_ => (w.heap.size ≤ k_) ∧ some k_ ≠ (.slice Ao22 t242.length co22 : Value).ownBlock) (fun _ => False) rfl rfl ?aO ?aR (fun _ _ h => h) (fun _ h => h.elim) ?aF ?aB ?aS ?aL ?_
             (case aR => repeat (first | exact (Kd.R_reads' HO244.out).2.2 | (with_reducible refine Kd.C_alloc ?_ _) | (with_reducible refine Kd.C_drewN ?_ _) | (with_reducible refine Kd.C_drew ?_)))
             (case aB => exact (by repeat (first | (with_reducible first | exact HB.out | apply bl_a | apply bl_n | apply bl_d) | exact HB.out)))
             (case aF => exact (fun k_ hk => ⟨(Nat.le_trans (below_size (by repeat (first | (with_reducible first | exact HB.out | apply bl_a | apply bl_n | apply bl_d) | exact HB.out))) hk), Kd.fresh' (Kd.R_lt (by (with_reducible repeat (first | apply Kd.R_alloc | apply Kd.R_drewN | apply Kd.R_drew)); exact HO244.out)) k_ hk⟩))
             (case aO => exact (by (with_reducible repeat (first | apply Kd.R_alloc | apply Kd.R_drewN | apply Kd.R_drew)); exact HO_4.out))
             (case aS => exact (below_size (by repeat (first | (with_reducible first | exact HB.out | apply bl_a | apply bl_n | apply bl_d) | exact HB.out))))
             (case aL => have := LMc14.out; omega)
             intro v246 w21 ho hb hg hat
             have HS0_ := cell_grown hg (hHeld.1) (by have f_ := (Kd.F_in (Kd.V_F HO_1.out) rfl (by have h_ := of_eq_true q248; omega) (by decide)); first | (rw [add_block]; first | exact f_.2 | exact f_.1.2 | exact f_.1.1.2 | exact f_.1.1.1.2) | (show some (Addr.add _ _).block ≠ _; rw [add_block]; first | exact f_.2 | exact f_.1.2 | exact f_.1.1.2 | exact f_.1.1.1.2) | exact f_.2 | exact f_.1.2 | exact f_.1.1.2 | exact f_.1.1.1.2)
             have HS1_ := cell_grown hg (hHeld.2.1) (by have f_ := (Kd.F_in (Kd.V_F HO_1.out) rfl (by have h_ := of_eq_true q248; omega) (by decide)); first | (rw [add_block]; first | exact f_.2 | exact f_.1.2 | exact f_.1.1.2 | exact f_.1.1.1.2) | (show some (Addr.add _ _).block ≠ _; rw [add_block]; first | exact f_.2 | exact f_.1.2 | exact f_.1.1.2 | exact f_.1.1.1.2) | exact f_.2 | exact f_.1.2 | exact f_.1.1.2 | exact f_.1.1.1.2)
             have HS2_ := cell_grown hg (hHeld.2.2) (by have f_ := (Kd.F_in (Kd.V_F HO_1.out) rfl (by have h_ := of_eq_true q248; omega) (by decide)); first | (rw [add_block]; first | exact f_.2 | exact f_.1.2 | exact f_.1.1.2 | exact f_.1.1.1.2) | (show some (Addr.add _ _).block ≠ _; rw [add_block]; first | exact f_.2 | exact f_.1.2 | exact f_.1.1.2 | exact f_.1.1.1.2) | exact f_.2 | exact f_.1.2 | exact f_.1.1.2 | exact f_.1.1.1.2)
             rw [← Ny245.out] at ho
             have n0_ := ak_ (Kd.V_afterv (ok := (fun k_ => (P1_ k_ ∨ w.heap.size ≤ k_) ∧ some k_ ≠ (.slice Ao22 t242.length co22 : Value).ownBlock)) (by (with_reducible repeat (first | apply Kd.V_alloc | apply Kd.V_drewN | apply Kd.V_drew)); exact Kd.V_mono HO_1.out (fun _ hk => ⟨⟨hk.1.1, hk.2⟩, hk.1.2⟩)) hg hat)
             have n1_ := ak_ (Kd.R_after (ok := (fun k_ => (w.heap.size ≤ k_))) (by (with_reducible repeat (first | apply Kd.R_alloc | apply Kd.R_drewN | apply Kd.R_drew)); exact Kd.R_mono HO244.out (fun _ hk => ⟨hk.1.1, hk.2⟩)) hg hat)
             have n2_ := ak_ (hb)
             have n3_ := ak_ (ho)
             clear HO_1
             clear HO244
             clear HB
             clear HO_4
             have HO_1 := n0_
             have HO244 := n1_
             have HB := n2_
             have HO247 := n3_
             clear n0_ n1_ n2_ n3_
             clear ho hb hg hat
             obtain ⟨Ao23, co23, eo23⟩ := Kd.R_slice HO247.out
             (first | subst eo23 | (injection eo23 with f1_ f2_ f3_; have f4_ := f1_.symm; have f5_ := f3_.symm; clear f1_ f2_ f3_; subst f4_; subst f5_))
             refine hK.out _ _ ⟨HS0_, HS1_, HS2_⟩ (fun hHeld => ?_)
             clear hK K
             refine norm_ (a' := ?_) ?_ ?_
             rotate_left
             ·
              show Act.put _ (some 34) _ = _
              simp only [Act.put, List.setIfInBounds_toArray, List.set_cons_zero, List.set_cons_succ, i64_w, i32_w]
              rfl
             refine one_ (i := 8) (N := some 38) #[true, true, true, true, true, true, true, true, true, false] rfl rfl (one_of HT_.out (by kernel_rfl)) (by decide) (fun K hK => ?_)
             refine goes_ Tryd.func45 (by kernel_rfl) rfl #[.slice Ao23 y245.length co23, .agg #[.int .i64 ((rd_T26 x1_1 0).f0), .int .i64 ((rd_T26 x1_1 0).f1), .string ((rd_T26 x1_1 0).f2)]] (by rfl) rfl rfl (by (try simp only [List.map_toArray, List.map_cons, List.map_nil]); first | done | rfl | (simp only [List.length_drop, List.length_take]; rfl)) ?_
             with_reducible refine (rle_one.calls k2 (fun k_ => some k_ = (.slice Ao23 y245.length co23 : Value).ownBlock) (.slice Ao23 y245.length co23) y245 ((rd_T26 x1_1 0).f0) ((rd_T26 x1_1 0).f1) ((rd_T26 x1_1 0).f2) t249 w _ ?side1 ?side2 A15.out).mono ?_
             (case side1 => repeat (first | (with_reducible first | exact HB.out | apply bl_a | apply bl_n | apply bl_d) | exact HB.out))
             (case side2 => exact Kd.R_tight rfl HO247.out)
             rintro e w24 ⟨v250, rfl, ho0, hb, hkp⟩
             have HS0_ := cell_kept (hHeld.1) hkp (by first | (rw [add_block]; exact (fun hs_ => ((Kd.F_in (Kd.V_F HO_1.out) rfl (by have h_ := of_eq_true q248; omega) (by decide)).2) hs_)) | (show ¬ _; simp only [add_block]; exact (fun hs_ => ((Kd.F_in (Kd.V_F HO_1.out) rfl (by have h_ := of_eq_true q248; omega) (by decide)).2) hs_)) | exact (fun hs_ => ((Kd.F_in (Kd.V_F HO_1.out) rfl (by have h_ := of_eq_true q248; omega) (by decide)).2) hs_))
             have HS1_ := cell_kept (hHeld.2.1) hkp (by first | (rw [add_block]; exact (fun hs_ => ((Kd.F_in (Kd.V_F HO_1.out) rfl (by have h_ := of_eq_true q248; omega) (by decide)).2) hs_)) | (show ¬ _; simp only [add_block]; exact (fun hs_ => ((Kd.F_in (Kd.V_F HO_1.out) rfl (by have h_ := of_eq_true q248; omega) (by decide)).2) hs_)) | exact (fun hs_ => ((Kd.F_in (Kd.V_F HO_1.out) rfl (by have h_ := of_eq_true q248; omega) (by decide)).2) hs_))
             have HS2_ := cell_kept (hHeld.2.2) hkp (by first | (rw [add_block]; exact (fun hs_ => ((Kd.F_in (Kd.V_F HO_1.out) rfl (by have h_ := of_eq_true q248; omega) (by decide)).2) hs_)) | (show ¬ _; simp only [add_block]; exact (fun hs_ => ((Kd.F_in (Kd.V_F HO_1.out) rfl (by have h_ := of_eq_true q248; omega) (by decide)).2) hs_)) | exact (fun hs_ => ((Kd.F_in (Kd.V_F HO_1.out) rfl (by have h_ := of_eq_true q248; omega) (by decide)).2) hs_))
             refine ⟨_, rfl, ?_⟩
             have n0_ := ak_ (Kd.V_mono (ok' := fun k_ => (P1_ k_ ∨ w.heap.size ≤ k_) ∧ some k_ ≠ (.slice Ao22 t242.length co22 : Value).ownBlock ∧ some k_ ≠ (v250 : Value).ownBlock) (Kd.V_keptB (HO_1.out) hkp (fun k_ hk_ hs_ => (hk_.2) hs_)) (fun k_ hk_ => ⟨hk_.1.1.1, hk_.1.1.2, fun e_ => Or.elim (ho0.1 k_ e_.symm) (fun hs_ => hk_.2.1 hs_) (fun hn_ => Nat.not_le.2 hk_.2.2 hn_)⟩))
             have n1_ := ak_ (Kd.R_mono (ok' := fun k_ => (w.heap.size ≤ k_) ∧ some k_ ≠ (v250 : Value).ownBlock) (Kd.R_keptB (HO244.out) hkp (fun k_ hk_ hs_ => (hk_.2) hs_)) (fun k_ hk_ => ⟨hk_.1.1, fun e_ => Or.elim (ho0.1 k_ e_.symm) (fun hs_ => hk_.2.1 hs_) (fun hn_ => Nat.not_le.2 hk_.2.2 hn_)⟩))
             have n2_ := ak_ (Kd.R_mono (ok' := fun k_ => (w.heap.size ≤ k_) ∧ some k_ ≠ (.slice Ao22 t242.length co22 : Value).ownBlock) ho0 (fun k_ hk_ => ⟨Or.elim hk_ (fun hs_ => (HO247.out.1 k_ (hs_).symm).1) (fun hn_ => (Nat.le_trans (below_size (by repeat (first | (with_reducible first | exact HB.out | apply bl_a | apply bl_n | apply bl_d) | exact HB.out))) hn_)), Or.elim hk_ (fun hs_ => fun e_ => (((HO244.out).1 k_ e_.symm).2) hs_) (fun hn_ => (Kd.fresh' (Kd.R_lt (by (with_reducible repeat (first | apply Kd.R_alloc | apply Kd.R_drewN | apply Kd.R_drew)); exact HO244.out)) k_ hn_))⟩))
             have n3_ := ak_ (hb)
             clear HO_1
             clear HO244
             clear HB
             clear HO247
             have HO_1 := n0_
             have HO244 := n1_
             have HO251 := n2_
             have HB := n3_
             clear n0_ n1_ n2_ n3_
             (try clear hb)
             (try clear hkp)
             (try clear ho0)
             refine hK.out _ _ ⟨HS0_, HS1_, HS2_⟩ (fun hHeld => ?_)
             clear hK K
             refine norm_ (a' := ?_) ?_ ?_
             rotate_left
             ·
              show Act.put _ (some 38) _ = _
              simp only [Act.put, List.setIfInBounds_toArray, List.set_cons_zero, List.set_cons_succ, i64_w, i32_w]
              rfl
             refine pure_ (i := 9) (N := some 4) (v := ?_) (a' := ?_) #[true, true, true, true, true, true, true, true, true, true] rfl rfl (any_of HT_.out (by kernel_rfl)) (fun _ _ _ h => h) (Or.inl ⟨by rfl, ?_⟩) ?_ ?_
             rotate_left
             ·
              intro w'
              go_simp
              with_reducible rfl
             rotate_left
             ·
              simp only [Act.put, List.setIfInBounds_toArray, List.set_cons_zero, List.set_cons_succ, i64_w, i32_w]
              rfl
             refine done_ (done_of HT_.out (by kernel_rfl)) ?_
             have q25 : (x6_2 : Int) ≤ ((x1_1.length : Int) : Int) := of_decide_eq_true (by first | (with_reducible assumption) | assumption)
             obtain ⟨i025, hi025, _, hsz25, _⟩ := info_parts info26
             have hroom25 : x1_1.length ≤ co7 := (Kd.V_reads' HO_1.out).2.1
             have hC25 : Kd.F k26 _ _ (some ad240) x1_1.length x1_1 := (Kd.V_at (base := w.heap.size) HO_1.out).2.2
             have q025 : (0 : Int) ≤ (x6_2 : Int) := of_decide_eq_true (by first | (with_reducible assumption) | assumption)
             have hcut25 := cut_from (P := Tryd.prog) 23 26 .i64 Tryd.underlying23 hi025 3 hsz25 (some ad240) x1_1.length co7 x6_2 q025 q25
             have hr25 := Kd.F_cut (m := (x6_2 : Int).toNat) (c := co7) hC25 (by omega) hroom25
             obtain ⟨A25, hA25⟩ : ∃ A1, A1 = (if co7 = (x6_2 : Int).toNat then (some ad240) else ((some ad240) : Option Addr).map (·.add ((x6_2 : Int).toNat * 3))) := ⟨_, rfl⟩
             obtain ⟨c25, hc25⟩ : ∃ c1, c1 = co7 - (x6_2 : Int).toNat := ⟨_, rfl⟩
             have hy25 : y252.length = x1_1.length - (x6_2 : Int).toNat := (by rw [Ny252.out, List.length_drop] <;> omega)
             rw [show (x1_1).drop (x6_2 : Int).toNat = y252 from Ny252.out.symm] at hr25
             replace hr25 : Kd.F k26 _ _ A25 y252.length y252 := (by rw [hA25]; exact hr25)
             rw [← hy25, ← hA25, ← hc25] at hcut25
             have HO256 := ak_ (show Kd.V k26 26 _ w.heap.size _ (.slice A25 y252.length c25) y252 from Kd.V_mk (by rw [hy25, hc25]; exact Nat.sub_le_sub_right hroom25 _) hr25)
             have HC256 := ak_ (show y252.length ≤ c25 from by rw [hy25, hc25]; exact Nat.sub_le_sub_right hroom25 _)
             clear hr25 hC25 hroom25 hi025 hsz25 hc25
             have KY25 := ak_ hy25
             have KA25 := ak_ hA25
             clear hy25 hA25
             replace q25 := eq_true q25
             try go_wp2
             go_roundg k2
             case measure => have := HK1.out; have := HK2.out; omega
             case rel => exact ⟨(y252), (t249), H', ⟨by have := HK1.out; have := HK2.out; omega⟩, ⟨by (with_reducible repeat (first | apply Kd.V_alloc | apply Kd.V_drewN | apply Kd.V_drew)); exact Kd.V_mono HO256.out (fun _ hk => ⟨hk.1, hk.2.2⟩)⟩, ⟨by (with_reducible repeat (first | apply Kd.R_alloc | apply Kd.R_drewN | apply Kd.R_drew)); exact Kd.R_mono HO251.out (fun _ hk => hk.1)⟩, ⟨by repeat (first | (with_reducible first | exact HB.out | apply bl_a | apply bl_n | apply bl_d) | exact HB.out)⟩⟩
            ·
             rw [if_neg c17] at H
             exact absurd H (by simp)
           ·
            rw [if_neg c14] at H
            exact absurd H (by simp)
         ·
          rw [if_neg c10] at H
          exact absurd H (by simp)
        ·
         rw [if_neg c9] at H
         exact absurd H (by simp)
       ·
        rw [if_neg c8] at H
        have c8b0 : decide (x6_2 < (x1_1.length : Int)) = false := decide_eq_false c8
        clear c8
        replace H := Option.bind_eq_some_iff.mp H
        obtain ⟨t257, A260, H⟩ := H
        replace H : (if x4_1.length + t257.length < 140737488355328 then (if 0 < (x1_1.length : Int) then ((rle_one.f k2 (x4_1 ++ t257) ((rd_T26 x1_1 0).f0) ((rd_T26 x1_1 0).f1) ((rd_T26 x1_1 0).f2)).bind fun t264 => (if 0 ≤ x6_2 then (if x6_2 ≤ (x1_1.length : Int) then (rle_Put.l0 k2 (x1_1.drop (x6_2 : Int).toNat) t264) else (none)) else (none))) else (none)) else (none)) = some (r1, r2) := H
        have A26 := ak_ A260
        clear A260
        by_cases c27 : x4_1.length + t257.length < 140737488355328
        ·
         rw [if_pos c27] at H
         have LMc27 := ak_ c27
         clear c27
         obtain ⟨y260, hy260⟩ : ∃ y_ : List Int, y_ = (x4_1 ++ t257) := ⟨_, rfl⟩
         replace H : (if 0 < (x1_1.length : Int) then ((rle_one.f k2 y260 ((rd_T26 x1_1 0).f0) ((rd_T26 x1_1 0).f1) ((rd_T26 x1_1 0).f2)).bind fun t264 => (if 0 ≤ x6_2 then (if x6_2 ≤ (x1_1.length : Int) then (rle_Put.l0 k2 (x1_1.drop (x6_2 : Int).toNat) t264) else (none)) else (none))) else (none)) = some (r1, r2) := by first | (rw [hy260]; with_reducible exact H) | (have H2_ := (Option.bind_some _ _).symm.trans H; rw [hy260]; with_reducible exact H2_) | (have H2_ := (Option.bind_some _ _).symm.trans H; with_reducible exact H2_) | with_reducible exact H | (rw [hy260]; exact H) | exact H
         have Ny260 := ak_ hy260
         clear hy260
         by_cases c28 : 0 < (x1_1.length : Int)
         ·
          rw [if_pos c28] at H
          have c28b0 : decide (0 < (x1_1.length : Int)) = true := decide_eq_true c28
          have c28b1 : decide (0 < x1_1.length) = true := decide_eq_true (by omega)
          (try (have c28b1p : (0 < x1_1.length) = True := eq_true (of_decide_eq_true c28b1)))
          clear c28
          replace H := Option.bind_eq_some_iff.mp H
          obtain ⟨t264, A290, H⟩ := H
          replace H : (if 0 ≤ x6_2 then (if x6_2 ≤ (x1_1.length : Int) then (rle_Put.l0 k2 (x1_1.drop (x6_2 : Int).toNat) t264) else (none)) else (none)) = some (r1, r2) := H
          have A29 := ak_ A290
          clear A290
          by_cases c30 : 0 ≤ x6_2
          ·
           rw [if_pos c30] at H
           have c30b0 := eq_true c30
           have c30b1 : decide (0 ≤ x6_2) = true := decide_eq_true c30
           clear c30
           by_cases c31 : x6_2 ≤ (x1_1.length : Int)
           ·
            rw [if_pos c31] at H
            have c31b0 := eq_true c31
            have c31b1 : decide (x6_2 ≤ (x1_1.length : Int)) = true := decide_eq_true c31
            clear c31
            obtain ⟨y267, hy267⟩ : ∃ y_ : List (S26), y_ = (x1_1.drop (x6_2 : Int).toNat) := ⟨_, rfl⟩
            replace H : (rle_Put.l0 k2 y267 t264) = some (r1, r2) := by first | (rw [hy267]; with_reducible exact H) | (have H2_ := (Option.bind_some _ _).symm.trans H; rw [hy267]; with_reducible exact H2_) | (have H2_ := (Option.bind_some _ _).symm.trans H; with_reducible exact H2_) | with_reducible exact H | (rw [hy267]; exact H) | exact H
            have Ny267 := ak_ hy267
            clear hy267
            have H' := ak_ H
            clear H
            try go_wp2
            have n0_ := ak_ (Kd.V_drew HO_1.out)
            have n1_ := ak_ (Kd.R_drew HO_4.out)
            have n2_ := ak_ (bl_d HB.out)
            clear HO_1
            clear HO_4
            clear HB
            have HO_1 := n0_
            have HO_4 := n1_
            have HB := n2_
            clear n0_ n1_ n2_
            refine start_ (n := 14) (S := fun w' => True) (ds := []) #[false, false, false, false, false, false, false, false, false, false, false, false, false, false] (by kernel_rfl) rfl rfl trivial (fun hHeld => ?_); refine with_tabW rle_Put.tab5 rle_Put.bits5 (fun HT_ HW_ => ?_)
            generalize wr.drew = w32 at HO_1 HO_4 HB hHeld ⊢
            refine pure_ (i := 0) (N := some 14) (v := ?_) (a' := ?_) #[true, false, false, false, false, false, false, false, false, false, false, false, false, false] rfl rfl (any_of HT_.out (by kernel_rfl)) (fun _ _ _ h => h) (Or.inl ⟨by rfl, ?_⟩) ?_ ?_
            rotate_left
            ·
             intro w'
             go_simp
             with_reducible rfl
            rotate_left
            ·
             simp only [Act.put, List.setIfInBounds_toArray, List.set_cons_zero, List.set_cons_succ, i64_w, i32_w]
             rfl
            refine pure_ (i := 1) (N := some 15) (v := ?_) (a' := ?_) #[true, true, false, false, false, false, false, false, false, false, false, false, false, false] rfl rfl (any_of HT_.out (by kernel_rfl)) (fun _ _ _ h => h) (Or.inl ⟨by rfl, ?_⟩) ?_ ?_
            rotate_left
            ·
             intro w'
             go_simp
             with_reducible rfl
            rotate_left
            ·
             simp only [Act.put, List.setIfInBounds_toArray, List.set_cons_zero, List.set_cons_succ, i64_w, i32_w]
             rfl
            refine pure_ (i := 2) (N := some 16) (v := ?_) (a' := ?_) #[true, true, true, false, false, false, false, false, false, false, false, false, false, false] rfl rfl (any_of HT_.out (by kernel_rfl)) (fun _ _ _ h => h) (Or.inl ⟨by rfl, ?_⟩) ?_ ?_
            rotate_left
            ·
             intro w'
             go_simp
             with_reducible rfl
            rotate_left
            ·
             simp only [Act.put, List.setIfInBounds_toArray, List.set_cons_zero, List.set_cons_succ, i64_w, i32_w]
             rfl
            refine pure_ (i := 3) (N := some 17) (v := ?_) (a' := ?_) #[true, true, true, true, false, false, false, false, false, false, false, false, false, false] rfl rfl (any_of HT_.out (by kernel_rfl)) (fun _ _ _ h => h) (Or.inl ⟨by rfl, ?_⟩) ?_ ?_
            rotate_left
            ·
             intro w'
             go_simp
             with_reducible rfl
            rotate_left
            ·
             simp only [Act.put, List.setIfInBounds_toArray, List.set_cons_zero, List.set_cons_succ, i64_w, i32_w]
             rfl
            refine pure_ (i := 4) (N := some 18) (v := ?_) (a' := ?_) #[true, true, true, true, true, false, false, false, false, false, false, false, false, false] rfl rfl (any_of HT_.out (by kernel_rfl)) (fun _ _ _ h => h) (Or.inl ⟨by rfl, ?_⟩) ?_ ?_
            rotate_left
            ·
             intro w'
             go_simp
             with_reducible rfl
            rotate_left
            ·
             simp only [Act.put, List.setIfInBounds_toArray, List.set_cons_zero, List.set_cons_succ, i64_w, i32_w]
             rfl
            refine pure_ (i := 5) (N := some 19) (v := undef) (a' := ?_) #[true, true, true, true, true, true, false, false, false, false, false, false, false, false] rfl rfl (any_of HT_.out (by kernel_rfl)) (fun _ _ _ h => h) (Or.inr ⟨by rfl, rfl⟩) ?_ ?_
            rotate_left
            ·
             simp only [Act.put, List.setIfInBounds_toArray, List.set_cons_zero, List.set_cons_succ, i64_w, i32_w]
             rfl
            refine pure_ (i := 6) (N := some 20) (v := undef) (a' := ?_) #[true, true, true, true, true, true, true, false, false, false, false, false, false, false] rfl rfl (any_of HT_.out (by kernel_rfl)) (fun _ _ _ h => h) (Or.inr ⟨by rfl, rfl⟩) ?_ ?_
            rotate_left
            ·
             simp only [Act.put, List.setIfInBounds_toArray, List.set_cons_zero, List.set_cons_succ, i64_w, i32_w]
             rfl
            refine pure_ (i := 7) (N := some 21) (v := undef) (a' := ?_) #[true, true, true, true, true, true, true, true, false, false, false, false, false, false] rfl rfl (any_of HT_.out (by kernel_rfl)) (fun _ _ _ h => h) (Or.inr ⟨by rfl, rfl⟩) ?_ ?_
            rotate_left
            ·
             simp only [Act.put, List.setIfInBounds_toArray, List.set_cons_zero, List.set_cons_succ, i64_w, i32_w]
             rfl
            refine pure_ (i := 8) (N := some 22) (v := undef) (a' := ?_) #[true, true, true, true, true, true, true, true, true, false, false, false, false, false] rfl rfl (any_of HT_.out (by kernel_rfl)) (fun _ _ _ h => h) (Or.inr ⟨by rfl, rfl⟩) ?_ ?_
            rotate_left
            ·
             simp only [Act.put, List.setIfInBounds_toArray, List.set_cons_zero, List.set_cons_succ, i64_w, i32_w]
             rfl
            refine pure_ (i := 9) (N := some 23) (v := undef) (a' := ?_) #[true, true, true, true, true, true, true, true, true, true, false, false, false, false] rfl rfl (any_of HT_.out (by kernel_rfl)) (fun _ _ _ h => h) (Or.inr ⟨by rfl, rfl⟩) ?_ ?_
            rotate_left
            ·
             simp only [Act.put, List.setIfInBounds_toArray, List.set_cons_zero, List.set_cons_succ, i64_w, i32_w]
             rfl
            refine pure_ (i := 10) (N := some 24) (v := undef) (a' := ?_) #[true, true, true, true, true, true, true, true, true, true, true, false, false, false] rfl rfl (any_of HT_.out (by kernel_rfl)) (fun _ _ _ h => h) (Or.inr ⟨by rfl, rfl⟩) ?_ ?_
            rotate_left
            ·
             simp only [Act.put, List.setIfInBounds_toArray, List.set_cons_zero, List.set_cons_succ, i64_w, i32_w]
             rfl
            refine pure_ (i := 11) (N := some 25) (v := undef) (a' := ?_) #[true, true, true, true, true, true, true, true, true, true, true, true, false, false] rfl rfl (any_of HT_.out (by kernel_rfl)) (fun _ _ _ h => h) (Or.inr ⟨by rfl, rfl⟩) ?_ ?_
            rotate_left
            ·
             simp only [Act.put, List.setIfInBounds_toArray, List.set_cons_zero, List.set_cons_succ, i64_w, i32_w]
             rfl
            refine pure_ (i := 12) (N := some 26) (v := undef) (a' := ?_) #[true, true, true, true, true, true, true, true, true, true, true, true, true, false] rfl rfl (any_of HT_.out (by kernel_rfl)) (fun _ _ _ h => h) (Or.inr ⟨by rfl, rfl⟩) ?_ ?_
            rotate_left
            ·
             simp only [Act.put, List.setIfInBounds_toArray, List.set_cons_zero, List.set_cons_succ, i64_w, i32_w]
             rfl
            refine pure_ (i := 13) (N := some 27) (v := ?_) (a' := ?_) #[true, true, true, true, true, true, true, true, true, true, true, true, true, true] rfl rfl (any_of HT_.out (by kernel_rfl)) (fun _ _ _ h => h) (Or.inl ⟨by rfl, ?_⟩) ?_ ?_
            rotate_left
            ·
             intro w'
             go_simp
             with_reducible rfl
            rotate_left
            ·
             simp only [Act.put, List.setIfInBounds_toArray, List.set_cons_zero, List.set_cons_succ, i64_w, i32_w]
             rfl
            refine done_ (done_of HT_.out (by kernel_rfl)) ?_
            try go_wp2
            have n0_ := ak_ (Kd.V_drew HO_1.out)
            have n1_ := ak_ (Kd.R_drew HO_4.out)
            have n2_ := ak_ (bl_d HB.out)
            clear HO_1
            clear HO_4
            clear HB
            have HO_1 := n0_
            have HO_4 := n1_
            have HB := n2_
            clear n0_ n1_ n2_
            have p263 : 0 ≤ (0 : Int) := (by omega)
            have q263 : 0 < (x1_1.length : Int) := of_decide_eq_true (by first | (with_reducible assumption) | assumption)
            obtain ⟨ad263, e263, hx263_0, hx263_1, hx263_2⟩ := at_T26 (Kd.V_reads' HO_1.out).2.2 0 p263 q263
            cases e263
            have qi263 : (0 < x1_1.length) = True := eq_true (by omega)
            (try rw [show ((0 : Int)).toNat = 0 from rfl] at hx263_0)
            (try rw [show 0 * 3 = 0 from rfl] at hx263_0)
            (try rw [Addr.add_zero'] at hx263_0)
            (try rw [show ((0 : Int)).toNat = 0 from rfl] at hx263_1)
            (try rw [show 0 * 3 = 0 from rfl] at hx263_1)
            (try rw [Addr.add_zero'] at hx263_1)
            (try rw [show ((0 : Int)).toNat = 0 from rfl] at hx263_2)
            (try rw [show 0 * 3 = 0 from rfl] at hx263_2)
            (try rw [Addr.add_zero'] at hx263_2)
            replace p263 := eq_true p263
            replace q263 := eq_true q263
            refine start_ (n := 10) (S := fun w' => w'.cell? ad263 = some (.int .i64 ((rd_T26 x1_1 0).f0)) ∧ w'.cell? ⟨ad263.block, ad263.off + 1, none⟩ = some (.int .i64 ((rd_T26 x1_1 0).f1)) ∧ w'.cell? ⟨ad263.block, ad263.off + 2, none⟩ = some (.string ((rd_T26 x1_1 0).f2))) (ds := []) #[false, false, false, false, false, false, false, false, false, false] (by kernel_rfl) rfl rfl ⟨hx263_0, hx263_1, hx263_2⟩ (fun hHeld => ?_); refine with_tabW rle_Put.tab7 rle_Put.bits7 (fun HT_ HW_ => ?_)
            generalize w32.drew = w33 at HO_1 HO_4 HB hx263_0 hx263_1 hx263_2 hHeld ⊢
            refine pure_ (i := 0) (N := some 30) (v := ?_) (a' := ?_) #[true, false, false, false, false, false, false, false, false, false] rfl rfl (any_of HT_.out (by kernel_rfl)) (fun _ _ _ h => h) (Or.inl ⟨by rfl, ?_⟩) ?_ ?_
            rotate_left
            ·
             intro w'
             go_simp
             with_reducible rfl
            rotate_left
            ·
             simp only [Act.put, List.setIfInBounds_toArray, List.set_cons_zero, List.set_cons_succ, i64_w, i32_w]
             rfl
            refine pure_ (i := 1) (N := some 31) (v := ?_) (a' := ?_) #[true, true, false, false, false, false, false, false, false, false] rfl rfl (any_of HT_.out (by kernel_rfl)) (fun _ _ _ h => h) (Or.inl ⟨by rfl, ?_⟩) ?_ ?_
            rotate_left
            ·
             intro w'
             go_simp
             with_reducible rfl
            rotate_left
            ·
             simp only [Act.put, List.setIfInBounds_toArray, List.set_cons_zero, List.set_cons_succ, i64_w, i32_w]
             rfl
            refine pure_ (i := 2) (N := some 32) (v := ?_) (a' := ?_) #[true, true, true, false, false, false, false, false, false, false] rfl rfl (any_of HT_.out (by kernel_rfl)) (fun _ _ _ h => h) (Or.inl ⟨by rfl, ?_⟩) ?_ ?_
            rotate_left
            ·
             intro w'
             go_simp
             with_reducible rfl
            rotate_left
            ·
             simp only [Act.put, List.setIfInBounds_toArray, List.set_cons_zero, List.set_cons_succ, i64_w, i32_w]
             rfl
            refine pure_ (i := 5) (N := some 35) (v := ?_) (a' := ?_) #[true, true, true, false, false, true, false, false, false, false] rfl rfl (any_of HT_.out (by kernel_rfl)) (fun _ _ _ h => h) (Or.inl ⟨by rfl, ?_⟩) ?_ ?_
            rotate_left
            ·
             intro w'
             go_simp
             with_reducible rfl
            rotate_left
            ·
             simp only [Act.put, List.setIfInBounds_toArray, List.set_cons_zero, List.set_cons_succ, i64_w, i32_w]
             rfl
            refine pure_ (i := 6) (N := some 36) (v := ?_) (a' := ?_) #[true, true, true, false, false, true, true, false, false, false] rfl rfl (any_of HT_.out (by kernel_rfl)) (fun _ _ _ h => h) (Or.inl ⟨by rfl, ?_⟩) ?_ ?_
            rotate_left
            ·
             intro w'
             go_simp
             with_reducible rfl
            rotate_left
            ·
             simp only [Act.put, List.setIfInBounds_toArray, List.set_cons_zero, List.set_cons_succ, i64_w, i32_w]
             rfl
            refine take_ (i := 7) (N := some 37) (v := ?_) (a' := ?_) #[true, true, true, false, false, true, true, true, false, false] rfl rfl (take_ofW HT_.out HW_.out (by kernel_rfl)) (fun _ _ _ h => h) (Or.inl ⟨by rfl, ?_⟩) hHeld ?_ ?_
            rotate_left
            ·
             rintro w' ⟨s0, s1, s2⟩
             go_simp
             with_reducible rfl
            rotate_left
            ·
             simp only [Act.put, List.setIfInBounds_toArray, List.set_cons_zero, List.set_cons_succ, i64_w, i32_w]
             rfl
            refine one_ (i := 3) (N := some 33) #[true, true, true, true, false, true, true, true, false, false] rfl rfl (one_of HT_.out (by kernel_rfl)) (by decide) (fun K hK => ?_)
            refine goes_ Tryd.func31 (by kernel_rfl) rfl #[.int .u64 (IntKind.u64.wrap (x6_2))] (by rfl) rfl rfl (by (try simp only [List.map_toArray, List.map_cons, List.map_nil]); first | done | rfl | (simp only [List.length_drop, List.length_take]; rfl)) ?_
            with_reducible refine (num_Put.calls k2 (IntKind.u64.wrap (x6_2)) t257 _ A26.out).mono ?_
            rintro e w34 ⟨v258, rfl, ho0, hb⟩
            have HS0_ := (hb.cell (World.block_lt_of_cell? _ _ (hHeld.1))).trans (hHeld.1)
            have HS1_ := (hb.cell (World.block_lt_of_cell? _ _ (hHeld.2.1))).trans (hHeld.2.1)
            have HS2_ := (hb.cell (World.block_lt_of_cell? _ _ (hHeld.2.2))).trans (hHeld.2.2)
            refine ⟨_, rfl, ?_⟩
            have n0_ := ak_ (Kd.V_elder' (by (with_reducible repeat (first | apply Kd.V_alloc | apply Kd.V_drewN | apply Kd.V_drew)); exact HO_1.out) (Kd.R_base ho0) hb)
            have n1_ := ak_ (Kd.R_elder' (by (with_reducible repeat (first | apply Kd.R_alloc | apply Kd.R_drewN | apply Kd.R_drew)); exact HO_4.out) (Kd.R_base ho0) hb)
            have n2_ := ak_ (Kd.R_lower (Kd.R_new' (Kd.R_newM (M := fun k_ => (w.heap.size ≤ k_)) ho0 (below_size (by repeat (first | (with_reducible first | exact HB.out | apply bl_a | apply bl_n | apply bl_d) | exact HB.out))) (fun k_ h_ => h_)) (Kd.R_lt (by (with_reducible repeat (first | apply Kd.R_alloc | apply Kd.R_drewN | apply Kd.R_drew)); exact HO_4.out))) (below_size (by repeat (first | (with_reducible first | exact HB.out | apply bl_a | apply bl_n | apply bl_d) | exact HB.out))))
            have n3_ := ak_ (below_step (by repeat (first | (with_reducible first | exact HB.out | apply bl_a | apply bl_n | apply bl_d) | exact HB.out)) hb)
            clear HO_1
            clear HO_4
            clear HB
            have HO_1 := n0_
            have HO_4 := n1_
            have HO259 := n2_
            have HB := n3_
            clear n0_ n1_ n2_ n3_
            (try clear hb)
            (try clear hb2)
            (try clear hk)
            (try clear hi)
            (try clear ho0)
            obtain ⟨Ao36, co36, eo36⟩ := Kd.R_slice HO259.out
            (first | subst eo36 | (injection eo36 with f1_ f2_ f3_; have f4_ := f1_.symm; have f5_ := f3_.symm; clear f1_ f2_ f3_; subst f4_; subst f5_))
            refine hK.out _ _ ⟨HS0_, HS1_, HS2_⟩ (fun hHeld => ?_)
            clear hK K
            refine norm_ (a' := ?_) ?_ ?_
            rotate_left
            ·
             show Act.put _ (some 33) _ = _
             simp only [Act.put, List.setIfInBounds_toArray, List.set_cons_zero, List.set_cons_succ, i64_w, i32_w]
             rfl
            refine one_ (i := 4) (N := some 34) #[true, true, true, true, true, true, true, true, false, false] rfl rfl (one_of HT_.out (by kernel_rfl)) (by decide) (fun K hK => ?_)
            refine Kd.R_append_rows_step (Kd.int .u8) (w0 := w) w.heap.size (by rfl) (.tmp 30) (.tmp 33) 22 5 (.int .u8 0) 1 rfl Tryd.underlying22 info5 rfl (by decide) (by omega) u4 x4_1 t257 _ _ _ (fun k_ => (w.heap.size ≤ k_) ∧ some k_ ≠ (.slice Ao36 t257.length co36 : Value).ownBlock) (fun _ => False) rfl rfl ?aO ?aR (fun _ _ h => h) (fun _ h => h.elim) ?aF ?aB ?aS ?aL ?_
            (case aR => repeat (first | exact (Kd.R_reads' HO259.out).2.2 | (with_reducible refine Kd.C_alloc ?_ _) | (with_reducible refine Kd.C_drewN ?_ _) | (with_reducible refine Kd.C_drew ?_)))
            (case aB => exact (by repeat (first | (with_reducible first | exact HB.out | apply bl_a | apply bl_n | apply bl_d) | exact HB.out)))
            (case aF => exact (fun k_ hk => ⟨(Nat.le_trans (below_size (by repeat (first | (with_reducible first | exact HB.out | apply bl_a | apply bl_n | apply bl_d) | exact HB.out))) hk), Kd.fresh' (Kd.R_lt (by (with_reducible repeat (first | apply Kd.R_alloc | apply Kd.R_drewN | apply Kd.R_drew)); exact HO259.out)) k_ hk⟩))
            (case aO => exact (by (with_reducible repeat (first | apply Kd.R_alloc | apply Kd.R_drewN | apply Kd.R_drew)); exact HO_4.out))
            (case aS => exact (below_size (by repeat (first | (with_reducible first | exact HB.out | apply bl_a | apply bl_n | apply bl_d) | exact HB.out))))
            (case aL => have := LMc27.out; omega)
            intro v261 w35 ho hb hg hat
            have HS0_ := cell_grown hg (hHeld.1) (by have f_ := (Kd.F_in (Kd.V_F HO_1.out) rfl (by have h_ := of_eq_true q263; omega) (by decide)); first | (rw [add_block]; first | exact f_.2 | exact f_.1.2 | exact f_.1.1.2 | exact f_.1.1.1.2) | (show some (Addr.add _ _).block ≠ _; rw [add_block]; first | exact f_.2 | exact f_.1.2 | exact f_.1.1.2 | exact f_.1.1.1.2) | exact f_.2 | exact f_.1.2 | exact f_.1.1.2 | exact f_.1.1.1.2)
            have HS1_ := cell_grown hg (hHeld.2.1) (by have f_ := (Kd.F_in (Kd.V_F HO_1.out) rfl (by have h_ := of_eq_true q263; omega) (by decide)); first | (rw [add_block]; first | exact f_.2 | exact f_.1.2 | exact f_.1.1.2 | exact f_.1.1.1.2) | (show some (Addr.add _ _).block ≠ _; rw [add_block]; first | exact f_.2 | exact f_.1.2 | exact f_.1.1.2 | exact f_.1.1.1.2) | exact f_.2 | exact f_.1.2 | exact f_.1.1.2 | exact f_.1.1.1.2)
            have HS2_ := cell_grown hg (hHeld.2.2) (by have f_ := (Kd.F_in (Kd.V_F HO_1.out) rfl (by have h_ := of_eq_true q263; omega) (by decide)); first | (rw [add_block]; first | exact f_.2 | exact f_.1.2 | exact f_.1.1.2 | exact f_.1.1.1.2) | (show some (Addr.add _ _).block ≠ _; rw [add_block]; first | exact f_.2 | exact f_.1.2 | exact f_.1.1.2 | exact f_.1.1.1.2) | exact f_.2 | exact f_.1.2 | exact f_.1.1.2 | exact f_.1.1.1.2)
            rw [← Ny260.out] at ho
            have n0_ := ak_ (Kd.V_afterv (ok := (fun k_ => (P1_ k_ ∨ w.heap.size ≤ k_) ∧ some k_ ≠ (.slice Ao36 t257.length co36 : Value).ownBlock)) (by (with_reducible repeat (first | apply Kd.V_alloc | apply Kd.V_drewN | apply Kd.V_drew)); exact Kd.V_mono HO_1.out (fun _ hk => ⟨⟨hk.1.1, hk.2⟩, hk.1.2⟩)) hg hat)
            have n1_ := ak_ (Kd.R_after (ok := (fun k_ => (w.heap.size ≤ k_))) (by (with_reducible repeat (first | apply Kd.R_alloc | apply Kd.R_drewN | apply Kd.R_drew)); exact Kd.R_mono HO259.out (fun _ hk => ⟨hk.1.1, hk.2⟩)) hg hat)
            have n2_ := ak_ (hb)
            have n3_ := ak_ (ho)
            clear HO_1
            clear HO259
            clear HB
            clear HO_4
            have HO_1 := n0_
            have HO259 := n1_
            have HB := n2_
            have HO262 := n3_
            clear n0_ n1_ n2_ n3_
            clear ho hb hg hat
            obtain ⟨Ao37, co37, eo37⟩ := Kd.R_slice HO262.out
            (first | subst eo37 | (injection eo37 with f1_ f2_ f3_; have f4_ := f1_.symm; have f5_ := f3_.symm; clear f1_ f2_ f3_; subst f4_; subst f5_))
            refine hK.out _ _ ⟨HS0_, HS1_, HS2_⟩ (fun hHeld => ?_)
            clear hK K
            refine norm_ (a' := ?_) ?_ ?_
            rotate_left
            ·
             show Act.put _ (some 34) _ = _
             simp only [Act.put, List.setIfInBounds_toArray, List.set_cons_zero, List.set_cons_succ, i64_w, i32_w]
             rfl
            refine one_ (i := 8) (N := some 38) #[true, true, true, true, true, true, true, true, true, false] rfl rfl (one_of HT_.out (by kernel_rfl)) (by decide) (fun K hK => ?_)
            refine goes_ Tryd.func45 (by kernel_rfl) rfl #[.slice Ao37 y260.length co37, .agg #[.int .i64 ((rd_T26 x1_1 0).f0), .int .i64 ((rd_T26 x1_1 0).f1), .string ((rd_T26 x1_1 0).f2)]] (by rfl) rfl rfl (by (try simp only [List.map_toArray, List.map_cons, List.map_nil]); first | done | rfl | (simp only [List.length_drop, List.length_take]; rfl)) ?_
            with_reducible refine (rle_one.calls k2 (fun k_ => some k_ = (.slice Ao37 y260.length co37 : Value).ownBlock) (.slice Ao37 y260.length co37) y260 ((rd_T26 x1_1 0).f0) ((rd_T26 x1_1 0).f1) ((rd_T26 x1_1 0).f2) t264 w _ ?side1 ?side2 A29.out).mono ?_
            (case side1 => repeat (first | (with_reducible first | exact HB.out | apply bl_a | apply bl_n | apply bl_d) | exact HB.out))
            (case side2 => exact Kd.R_tight rfl HO262.out)
            rintro e w38 ⟨v265, rfl, ho0, hb, hkp⟩
            have HS0_ := cell_kept (hHeld.1) hkp (by first | (rw [add_block]; exact (fun hs_ => ((Kd.F_in (Kd.V_F HO_1.out) rfl (by have h_ := of_eq_true q263; omega) (by decide)).2) hs_)) | (show ¬ _; simp only [add_block]; exact (fun hs_ => ((Kd.F_in (Kd.V_F HO_1.out) rfl (by have h_ := of_eq_true q263; omega) (by decide)).2) hs_)) | exact (fun hs_ => ((Kd.F_in (Kd.V_F HO_1.out) rfl (by have h_ := of_eq_true q263; omega) (by decide)).2) hs_))
            have HS1_ := cell_kept (hHeld.2.1) hkp (by first | (rw [add_block]; exact (fun hs_ => ((Kd.F_in (Kd.V_F HO_1.out) rfl (by have h_ := of_eq_true q263; omega) (by decide)).2) hs_)) | (show ¬ _; simp only [add_block]; exact (fun hs_ => ((Kd.F_in (Kd.V_F HO_1.out) rfl (by have h_ := of_eq_true q263; omega) (by decide)).2) hs_)) | exact (fun hs_ => ((Kd.F_in (Kd.V_F HO_1.out) rfl (by have h_ := of_eq_true q263; omega) (by decide)).2) hs_))
            have HS2_ := cell_kept (hHeld.2.2) hkp (by first | (rw [add_block]; exact (fun hs_ => ((Kd.F_in (Kd.V_F HO_1.out) rfl (by have h_ := of_eq_true q263; omega) (by decide)).2) hs_)) | (show ¬ _; simp only [add_block]; exact (fun hs_ => ((Kd.F_in (Kd.V_F HO_1.out) rfl (by have h_ := of_eq_true q263; omega) (by decide)).2) hs_)) | exact (fun hs_ => ((Kd.F_in (Kd.V_F HO_1.out) rfl (by have h_ := of_eq_true q263; omega) (by decide)).2) hs_))
            refine ⟨_, rfl, ?_⟩
            have n0_ := ak_ (Kd.V_mono (ok' := fun k_ => (P1_ k_ ∨ w.heap.size ≤ k_) ∧ some k_ ≠ (.slice Ao36 t257.length co36 : Value).ownBlock ∧ some k_ ≠ (v265 : Value).ownBlock) (Kd.V_keptB (HO_1.out) hkp (fun k_ hk_ hs_ => (hk_.2) hs_)) (fun k_ hk_ => ⟨hk_.1.1.1, hk_.1.1.2, fun e_ => Or.elim (ho0.1 k_ e_.symm) (fun hs_ => hk_.2.1 hs_) (fun hn_ => Nat.not_le.2 hk_.2.2 hn_)⟩))
            have n1_ := ak_ (Kd.R_mono (ok' := fun k_ => (w.heap.size ≤ k_) ∧ some k_ ≠ (v265 : Value).ownBlock) (Kd.R_keptB (HO259.out) hkp (fun k_ hk_ hs_ => (hk_.2) hs_)) (fun k_ hk_ => ⟨hk_.1.1, fun e_ => Or.elim (ho0.1 k_ e_.symm) (fun hs_ => hk_.2.1 hs_) (fun hn_ => Nat.not_le.2 hk_.2.2 hn_)⟩))
            have n2_ := ak_ (Kd.R_mono (ok' := fun k_ => (w.heap.size ≤ k_) ∧ some k_ ≠ (.slice Ao36 t257.length co36 : Value).ownBlock) ho0 (fun k_ hk_ => ⟨Or.elim hk_ (fun hs_ => (HO262.out.1 k_ (hs_).symm).1) (fun hn_ => (Nat.le_trans (below_size (by repeat (first | (with_reducible first | exact HB.out | apply bl_a | apply bl_n | apply bl_d) | exact HB.out))) hn_)), Or.elim hk_ (fun hs_ => fun e_ => (((HO259.out).1 k_ e_.symm).2) hs_) (fun hn_ => (Kd.fresh' (Kd.R_lt (by (with_reducible repeat (first | apply Kd.R_alloc | apply Kd.R_drewN | apply Kd.R_drew)); exact HO259.out)) k_ hn_))⟩))
            have n3_ := ak_ (hb)
            clear HO_1
            clear HO259
            clear HB
            clear HO262
            have HO_1 := n0_
            have HO259 := n1_
            have HO266 := n2_
            have HB := n3_
            clear n0_ n1_ n2_ n3_
            (try clear hb)
            (try clear hkp)
            (try clear ho0)
            refine hK.out _ _ ⟨HS0_, HS1_, HS2_⟩ (fun hHeld => ?_)
            clear hK K
            refine norm_ (a' := ?_) ?_ ?_
            rotate_left
            ·
             show Act.put _ (some 38) _ = _
             simp only [Act.put, List.setIfInBounds_toArray, List.set_cons_zero, List.set_cons_succ, i64_w, i32_w]
             rfl
            refine pure_ (i := 9) (N := some 4) (v := ?_) (a' := ?_) #[true, true, true, true, true, true, true, true, true, true] rfl rfl (any_of HT_.out (by kernel_rfl)) (fun _ _ _ h => h) (Or.inl ⟨by rfl, ?_⟩) ?_ ?_
            rotate_left
            ·
             intro w'
             go_simp
             with_reducible rfl
            rotate_left
            ·
             simp only [Act.put, List.setIfInBounds_toArray, List.set_cons_zero, List.set_cons_succ, i64_w, i32_w]
             rfl
            refine done_ (done_of HT_.out (by kernel_rfl)) ?_
            have q39 : (x6_2 : Int) ≤ ((x1_1.length : Int) : Int) := of_decide_eq_true (by first | (with_reducible assumption) | assumption)
            obtain ⟨i039, hi039, _, hsz39, _⟩ := info_parts info26
            have hroom39 : x1_1.length ≤ co7 := (Kd.V_reads' HO_1.out).2.1
            have hC39 : Kd.F k26 _ _ (some ad263) x1_1.length x1_1 := (Kd.V_at (base := w.heap.size) HO_1.out).2.2
            have q039 : (0 : Int) ≤ (x6_2 : Int) := of_decide_eq_true (by first | (with_reducible assumption) | assumption)
            have hcut39 := cut_from (P := Tryd.prog) 23 26 .i64 Tryd.underlying23 hi039 3 hsz39 (some ad263) x1_1.length co7 x6_2 q039 q39
            have hr39 := Kd.F_cut (m := (x6_2 : Int).toNat) (c := co7) hC39 (by omega) hroom39
            obtain ⟨A39, hA39⟩ : ∃ A1, A1 = (if co7 = (x6_2 : Int).toNat then (some ad263) else ((some ad263) : Option Addr).map (·.add ((x6_2 : Int).toNat * 3))) := ⟨_, rfl⟩
            obtain ⟨c39, hc39⟩ : ∃ c1, c1 = co7 - (x6_2 : Int).toNat := ⟨_, rfl⟩
            have hy39 : y267.length = x1_1.length - (x6_2 : Int).toNat := (by rw [Ny267.out, List.length_drop] <;> omega)
            rw [show (x1_1).drop (x6_2 : Int).toNat = y267 from Ny267.out.symm] at hr39
            replace hr39 : Kd.F k26 _ _ A39 y267.length y267 := (by rw [hA39]; exact hr39)
            rw [← hy39, ← hA39, ← hc39] at hcut39
            have HO271 := ak_ (show Kd.V k26 26 _ w.heap.size _ (.slice A39 y267.length c39) y267 from Kd.V_mk (by rw [hy39, hc39]; exact Nat.sub_le_sub_right hroom39 _) hr39)
            have HC271 := ak_ (show y267.length ≤ c39 from by rw [hy39, hc39]; exact Nat.sub_le_sub_right hroom39 _)
            clear hr39 hC39 hroom39 hi039 hsz39 hc39
            have KY39 := ak_ hy39
            have KA39 := ak_ hA39
            clear hy39 hA39
            replace q39 := eq_true q39
            try go_wp2
            go_roundg k2
            case measure => have := HK1.out; have := HK2.out; omega
            case rel => exact ⟨(y267), (t264), H', ⟨by have := HK1.out; have := HK2.out; omega⟩, ⟨by (with_reducible repeat (first | apply Kd.V_alloc | apply Kd.V_drewN | apply Kd.V_drew)); exact Kd.V_mono HO271.out (fun _ hk => ⟨hk.1, hk.2.2⟩)⟩, ⟨by (with_reducible repeat (first | apply Kd.R_alloc | apply Kd.R_drewN | apply Kd.R_drew)); exact Kd.R_mono HO266.out (fun _ hk => hk.1)⟩, ⟨by repeat (first | (with_reducible first | exact HB.out | apply bl_a | apply bl_n | apply bl_d) | exact HB.out)⟩⟩
           ·
            rw [if_neg c31] at H
            exact absurd H (by simp)
          ·
           rw [if_neg c30] at H
           exact absurd H (by simp)
         ·
          rw [if_neg c28] at H
          exact absurd H (by simp)
        ·
         rw [if_neg c27] at H
         exact absurd H (by simp)
    ·
     rw [if_neg c6] at H
     have c6b0 : decide (0 < (x1_1.length : Int)) = false := decide_eq_false c6
     have c6b1 : decide (0 < x1_1.length) = false := decide_eq_false (by omega)
     (try (have c6b1p : (0 < x1_1.length) = False := eq_false (of_decide_eq_false c6b1)))
     clear c6
     simp only [Option.some.injEq, Prod.mk.injEq] at H
     obtain ⟨rfl, rfl⟩ := H
     obtain ⟨Ao40, co40, eo40⟩ := Kd.V_slice HO_1.out
     subst eo40
     go_wp2
     go_ret2
     exact ⟨_, by first | rfl | (simp [errW_none, errW_some] <;> rfl) | (simp [*, errW_none, errW_some] <;> rfl), by (with_reducible repeat (first | apply Kd.R_alloc | apply Kd.R_drewN | apply Kd.R_drew)); exact HO_4.out, by repeat (first | (with_reducible first | exact HB.out | apply bl_a | apply bl_n | apply bl_d) | exact HB.out)⟩
 ·
  replace c4 := Bool.eq_false_iff.mpr c4
  subst c4
  have H1 : (some (([] : List Int), false)) = some (r1, r2) := by rw [if_neg (show ¬ (false = true) by decide)] at H; exact H
  clear H
  have H := H1
  clear H1
  simp only [Option.some.injEq, Prod.mk.injEq] at H
  obtain ⟨rfl, rfl⟩ := H
  go_enter Tryd.func24, Tryd.ntmps24
  go_wp2_with (first | ((with_reducible refine gate_callee (f := 44) rfl ?_); refine goesL_ (some 9) rfl rfl Tryd.func44 (by kernel_rfl) rfl #[.int .i64 a0, .slice A1 l1.length c1] rfl (by (try simp only [List.map_toArray, List.map_cons, List.map_nil]); first | done | rfl | (simp only [List.length_drop, List.length_take]; rfl)) ?_; (with_reducible refine (rle_of.calls k a0 _ _ l1 false _ ?side1 ?side2 A3.out).mono ?_); (case side1 => repeat (first | exact (Kd.V_reads' HO1.out).2.2 | (with_reducible refine Kd.C_alloc ?_ _) | (with_reducible refine Kd.C_drewN ?_ _) | (with_reducible refine Kd.C_drew ?_))); (case side2 => exact (Kd.V_reads' HO1.out).2.1); rintro e w41 ⟨rfl, hb⟩; refine ⟨_, rfl, ?_⟩; have n0_ := ak_ (Kd.V_below (by (with_reducible repeat (first | apply Kd.V_alloc | apply Kd.V_drewN | apply Kd.V_drew)); exact HO1.out) hb); have n1_ := ak_ (below_step (by repeat (first | (with_reducible first | exact HB.out | apply bl_a | apply bl_n | apply bl_d) | exact HB.out)) hb); clear HO1; clear HB; have HO1 := n0_; have HB := n1_; clear n0_ n1_; (try clear hb); (try clear hb2); (try clear hk); (try clear hi)))
  go_ret2
  exact ⟨_, by first | rfl | (simp [errW_none, errW_some] <;> rfl) | (simp [*, errW_none, errW_some] <;> rfl), by first | exact Kd.R_nil _ _ _ _ _ | exact Kd.N_nil _ _ _ _ _ | exact Kd.V_nil _ _ _ _ _ | exact Kd.Q_nil _ _ _ _ _ | exact Kd.S_nil _ _ _ _ _, by repeat (first | (with_reducible first | exact HB.out | apply bl_a | apply bl_n | apply bl_d) | exact HB.out)⟩
end Go.Proofs.YtigldipjkejalaaDoor.PRleAll