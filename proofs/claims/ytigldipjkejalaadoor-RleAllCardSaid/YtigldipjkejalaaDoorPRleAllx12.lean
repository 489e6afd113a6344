-- Written by xprint.py (a program of this project) out of the translation. Not trusted: Lean checks it. -- squeezed
import Derived.Test.YtigldipjkejalaaDoorPRleAllx0
import Derived.Test.YtigldipjkejalaaDoorPRleAllx8
import Derived.Test.YtigldipjkejalaaDoorPRleAllx11
namespace Go.Proofs.YtigldipjkejalaaDoor.PRleAll
open Go.RowKit Go.Proofs.YtigldipjkejalaaDoorW.PrintWords Go.Proofs.YtigldipjkejalaaDoorW.PrintLast Go.Proofs.YtigldipjkejalaaDoorW.PrintMore
attribute [local go_sem] max2_int min2_int max_two min_two max_three min_three max_four min_four   -- for this text's walks alone
set_option linter.unusedVariables false
set_option linter.unusedSimpArgs false
def rle_Take.f (k : Nat) (a0 : Int) (a1 : Int) (l2 : List Int) : Option ((List (S26)) × Bool) := (rle_read.f k a0 a1 l2).bind fun bt317 => (if bt317.2.isNone = true then ((errors_IsN.f () 1).bind fun t322 => (some (bt317.1, !t322))) else ((errors_IsS.f (bt317.2.getD 0) 1).bind fun t323 => (some (bt317.1, !t323))))
theorem rle_Take.mono : ∀ a0 a1 a2 k, LeO (rle_Take.f k a0 a1 a2) (rle_Take.f (k + 1) a0 a1 a2) := by
 intro a0 a1 a2 k
 unfold rle_Take.f
 repeat' first
   | (with_reducible exact rle_read.mono _ _ _ _)
   | (with_reducible exact LeO.refl _)
   | (with_reducible exact LeO.none _)
   | (with_reducible refine LeO.ite ?_ ?_)
   | (with_reducible refine LeO.bind ?_ (fun _ => ?_))
   | exact rle_read.mono _ _ _ _
   | exact LeO.none _
   | refine LeO.ite ?_ ?_
   | refine LeO.bind ?_ (fun _ => ?_)
set_option maxHeartbeats 8000000 in
set_option maxRecDepth 100000 in
theorem rle_Take.calls (GA : Nat → Addr) (k : Nat) (a0 : Int) (a1 : Int) (A2 : Option Addr) (c2 : Nat) (l2 : List Int) (r1 : List (S26)) (r2 : Bool) (w : World) (hr2 : Kd.C (Kd.int .u8) w A2 l2.length l2) (hc2 : l2.length ≤ c2) (hG : Glob GA w) (h : rle_Take.f k a0 a1 l2 = some (r1, r2)) :
  Calls Tryd.prog 25 #[.int .i64 a0, .int .i64 a1, .slice A2 l2.length c2] w fun e w' => ∃ v0_ : Value, e = .returned (.tuple #[v0_, .bool r2]) ∧ Kd.R k26 26 w' w.heap.size (fun _ => True) v0_ r1 ∧ Below w.heap.size w w' := by
 have HG := ak_ hG
 clear hG
 have HR2 := ak_ hr2
 have HC2 := ak_ hc2
 clear hr2 hc2
 have HB := ak_ (Below.refl w.heap.size w)
 have H : ((rle_read.f k a0 a1 l2).bind fun bt317 => (if bt317.2.isNone = true then ((errors_IsN.f () 1).bind fun t322 => (some (bt317.1, !t322))) else ((errors_IsS.f (bt317.2.getD 0) 1).bind fun t323 => (some (bt317.1, !t323))))) = some (r1, r2) := h
 clear h
 replace H := Option.bind_eq_some_iff.mp H
 obtain ⟨⟨t317, t320⟩, A40, H⟩ := H
 replace H : (if t320.isNone = true then ((errors_IsN.f () 1).bind fun t322 => (some (t317, !t322))) else ((errors_IsS.f (t320.getD 0) 1).bind fun t323 => (some (t317, !t323)))) = some (r1, r2) := H
 have A4 := ak_ A40
 clear A40
 rcases t320 with _ | q321
 ·
  have H1 : ((errors_IsN.f () 1).bind fun t322 => (some (t317, !t322))) = some (r1, r2) := by rw [if_pos (show (none : Option Int).isNone = true by rfl)] at H; exact H
  clear H
  have H := H1
  clear H1
  try simp only [errW_none, errW_some]
  replace H := Option.bind_eq_some_iff.mp H
  obtain ⟨t322, A50, H⟩ := H
  replace H : (some (t317, !t322)) = some (r1, r2) := H
  have A5 := ak_ A50
  clear A50
  simp only [Option.some.injEq, Prod.mk.injEq] at H
  obtain ⟨rfl, rfl⟩ := H
  go_enter Tryd.func25, Tryd.ntmps25
  go_wp2_with (first | ((with_reducible refine gate_callee (f := 46) rfl ?_); refine goesL_ (some 14) rfl rfl Tryd.func46 (by kernel_rfl) rfl #[.int .i64 a0, .int .i64 a1, .slice A2 l2.length c2] rfl (by (try simp only [List.map_toArray, List.map_cons, List.map_nil]); first | done | rfl | (simp only [List.length_drop, List.length_take]; rfl)) ?_; (with_reducible refine (rle_read.calls GA k a0 a1 (fun k_ => k_ < w.heap.size) _ _ l2 t317 none _ ?side1 ?side2 A4.out).mono ?_); (case side1 => exact Kd.V_mk HC2.out (Kd.F_below (Kd.C_F (Kd.heap_int .u8) HR2.out) (by repeat (first | (with_reducible first | exact HB.out | apply bl_a | apply bl_n | apply bl_d) | exact HB.out)))); (case side2 => exact Glob.below HG.out (by repeat (first | (with_reducible first | exact HB.out | apply bl_a | apply bl_n | apply bl_d) | exact HB.out))); rintro e w6 ⟨v318, rfl, ho0, hb⟩; refine ⟨_, rfl, ?_⟩; have n0_ := ak_ (Kd.R_lower (Kd.R_mono (ok' := fun k_ => True) ho0 (fun _ hk_ => trivial)) (below_size (by repeat (first | (with_reducible first | exact HB.out | apply bl_a | apply bl_n | apply bl_d) | exact HB.out)))); have n1_ := ak_ (below_step (by repeat (first | (with_reducible first | exact HB.out | apply bl_a | apply bl_n | apply bl_d) | exact HB.out)) hb); clear HB; have HO319 := n0_; have HB := n1_; clear n0_ n1_; (try clear hb); (try clear hb2); (try clear hk); (try clear hi); (try clear ho0); (try simp only [errW_none, errW_some]); have hgl7 := (HB.out.cell (World.block_lt_of_cell? w _ HG.out.c1)).trans HG.out.c1) | ((with_reducible refine gate_callee (f := 41) rfl ?_); refine goesL_ (some 20) rfl rfl Tryd.func41 (by kernel_rfl) rfl #[.nilIface, .iface 117 (.pointer (some (GA 1)))] rfl (by (try simp only [List.map_toArray, List.map_cons, List.map_nil]); first | done | rfl | (simp only [List.length_drop, List.length_take]; rfl)) ?_; (with_reducible refine (errors_IsN.calls GA () 1 t322 _ ?side1 A5.out).mono ?_); (case side1 => exact Glob.below HG.out (by repeat (first | (with_reducible first | exact HB.out | apply bl_a | apply bl_n | apply bl_d) | exact HB.out))); rintro e w' ⟨rfl, ⟨nd, rfl⟩⟩; refine ⟨_, rfl, ?_⟩))
  go_ret2
  exact ⟨_, by first | rfl | (simp [errW_none, errW_some] <;> rfl) | (simp [*, errW_none, errW_some] <;> rfl), by (with_reducible repeat (first | apply Kd.R_alloc | apply Kd.R_drewN | apply Kd.R_drew)); exact HO319.out, by repeat (first | (with_reducible first | exact HB.out | apply bl_a | apply bl_n | apply bl_d) | exact HB.out)⟩
 ·
  have H1 : ((errors_IsS.f q321 1).bind fun t323 => (some (t317, !t323))) = some (r1, r2) := by rw [if_neg (show ¬ (some q321).isNone = true by simp)] at H; exact H
  clear H
  have H := H1
  clear H1
  try simp only [errW_none, errW_some]
  replace H := Option.bind_eq_some_iff.mp H
  obtain ⟨t323, A80, H⟩ := H
  replace H : (some (t317, !t323)) = some (r1, r2) := H
  have A8 := ak_ A80
  clear A80
  simp only [Option.some.injEq, Prod.mk.injEq] at H
  obtain ⟨rfl, rfl⟩ := H
  go_enter Tryd.func25, Tryd.ntmps25
  go_wp2_with (first | ((with_reducible refine gate_callee (f := 46) rfl ?_); refine goesL_ (some 14) rfl rfl Tryd.func46 (by kernel_rfl) rfl #[.int .i64 a0, .int .i64 a1, .slice A2 l2.length c2] rfl (by (try simp only [List.map_toArray, List.map_cons, List.map_nil]); first | done | rfl | (simp only [List.length_drop, List.length_take]; rfl)) ?_; (with_reducible refine (rle_read.calls GA k a0 a1 (fun k_ => k_ < w.heap.size) _ _ l2 t317 (some q321) _ ?side1 ?side2 A4.out).mono ?_); (case side1 => exact Kd.V_mk HC2.out (Kd.F_below (Kd.C_F (Kd.heap_int .u8) HR2.out) (by repeat (first | (with_reducible first | exact HB.out | apply bl_a | apply bl_n | apply bl_d) | exact HB.out)))); (case side2 => exact Glob.below HG.out (by repeat (first | (with_reducible first | exact HB.out | apply bl_a | apply bl_n | apply bl_d) | exact HB.out))); rintro e w9 ⟨v318, rfl, ho0, hb⟩; refine ⟨_, rfl, ?_⟩; have n0_ := ak_ (Kd.R_lower (Kd.R_mono (ok' := fun k_ => True) ho0 (fun _ hk_ => trivial)) (below_size (by repeat (first | (with_reducible first | exact HB.out | apply bl_a | apply bl_n | apply bl_d) | exact HB.out)))); have n1_ := ak_ (below_step (by repeat (first | (with_reducible first | exact HB.out | apply bl_a | apply bl_n | apply bl_d) | exact HB.out)) hb); clear HB; have HO319 := n0_; have HB := n1_; clear n0_ n1_; (try clear hb); (try clear hb2); (try clear hk); (try clear hi); (try clear ho0); (try simp only [errW_none, errW_some]); have hgl10 := (HB.out.cell (World.block_lt_of_cell? w _ HG.out.c1)).trans HG.out.c1) | ((with_reducible refine gate_callee (f := 41) rfl ?_); refine goesL_ (some 20) rfl rfl Tryd.func41 (by kernel_rfl) rfl #[.iface (errT q321) (errA GA q321), .iface 117 (.pointer (some (GA 1)))] rfl (by (try simp only [List.map_toArray, List.map_cons, List.map_nil]); first | done | rfl | (simp only [List.length_drop, List.length_take]; rfl)) ?_; (with_reducible refine (errors_IsS.calls GA q321 1 t323 _ ?side1 A8.out).mono ?_); (case side1 => exact Glob.below HG.out (by repeat (first | (with_reducible first | exact HB.out | apply bl_a | apply bl_n | apply bl_d) | exact HB.out))); rintro e w11 ⟨rfl, hb⟩; refine ⟨_, rfl, ?_⟩; have n0_ := ak_ (Kd.R_below (by (with_reducible repeat (first | apply Kd.R_alloc | apply Kd.R_drewN | apply Kd.R_drew)); exact HO319.out) hb); have n1_ := ak_ (below_step (by repeat (first | (with_reducible first | exact HB.out | apply bl_a | apply bl_n | apply bl_d) | exact HB.out)) hb); clear HO319; clear HB; have HO319 := n0_; have HB := n1_; clear n0_ n1_; (try clear hb); (try clear hb2); (try clear hk); (try clear hi)))
  go_ret2
  exact ⟨_, by first | rfl | (simp [errW_none, errW_some] <;> rfl) | (simp [*, errW_none, errW_some] <;> rfl), by (with_reducible repeat (first | apply Kd.R_alloc | apply Kd.R_drewN | apply Kd.R_drew)); exact HO319.out, by repeat (first | (with_reducible first | exact HB.out | apply bl_a | apply bl_n | apply bl_d) | exact HB.out)⟩
def rabbetlaw6_begun.f (k : Nat)  : Option (Bool) := (rle_Put.f k 2 (([(⟨2, 5, (⟨#[]⟩ : ByteArray)⟩ : S26), (⟨2, 5, (⟨#[]⟩ : ByteArray)⟩ : S26)] : List (S26)))).bind fun bt327 => ((rle_Take.f k 2 2 bt327.1).bind fun bt331 => ((rle_Put.f k 2 (([(⟨0, 0, (⟨#[]⟩ : ByteArray)⟩ : S26)] : List (S26)))).bind fun bt338 => (if bt327.2 = true then (if (bt327.1.length : Int) > 0 then (if bt331.2 = true then (if (bt331.1.length : Int) = 2 then (if 1 < (bt331.1.length : Int) then (if ((rd_T26 bt331.1 1).f1) = 5 then (some (!bt338.2)) else (none)) else (none)) else (none)) else (none)) else (none)) else (none))))
theorem rabbetlaw6_begun.mono : ∀ k, LeO (rabbetlaw6_begun.f k ) (rabbetlaw6_begun.f (k + 1) ) := by
 intro  k
 unfold rabbetlaw6_begun.f
 repeat' first
   | (with_reducible exact rle_Put.mono _ _ _)
   | (with_reducible exact rle_Take.mono _ _ _ _)
   | (with_reducible exact LeO.refl _)
   | (with_reducible exact LeO.none _)
   | (with_reducible refine LeO.ite ?_ ?_)
   | (with_reducible refine LeO.bind ?_ (fun _ => ?_))
   | exact rle_Put.mono _ _ _
   | exact rle_Take.mono _ _ _ _
   | exact LeO.none _
   | refine LeO.ite ?_ ?_
   | refine LeO.bind ?_ (fun _ => ?_)
set_option maxHeartbeats 8000000 in
set_option maxRecDepth 100000 in
theorem rabbetlaw6_begun.calls (GA : Nat → Addr) (k : Nat)  (r : Bool) (w : World) (hG : Glob GA w) (h : rabbetlaw6_begun.f k  = some r) :
  Calls Tryd.prog 22 #[] w fun e w' => e = .returned (.bool r) ∧ Below w.heap.size w w' := by
 have hu26 := Tryd.underlying26
 have HG := ak_ hG
 clear hG
 have HB := ak_ (Below.refl w.heap.size w)
 have H : ((rle_Put.f k 2 (([(⟨2, 5, (⟨#[]⟩ : ByteArray)⟩ : S26), (⟨2, 5, (⟨#[]⟩ : ByteArray)⟩ : S26)] : List (S26)))).bind fun bt327 => ((rle_Take.f k 2 2 bt327.1).bind fun bt331 => ((rle_Put.f k 2 (([(⟨0, 0, (⟨#[]⟩ : ByteArray)⟩ : S26)] : List (S26)))).bind fun bt338 => (if bt327.2 = true then (if (bt327.1.length : Int) > 0 then (if bt331.2 = true then (if (bt331.1.length : Int) = 2 then (if 1 < (bt331.1.length : Int) then (if ((rd_T26 bt331.1 1).f1) = 5 then (some (!bt338.2)) else (none)) else (none)) else (none)) else (none)) else (none)) else (none))))) = some r := h
 clear h
 obtain ⟨y324, hy324⟩ : ∃ y_ : List (S26), y_ = (([(⟨2, 5, (⟨#[]⟩ : ByteArray)⟩ : S26), (⟨2, 5, (⟨#[]⟩ : ByteArray)⟩ : S26)] : List (S26))) := ⟨_, rfl⟩
 replace H : ((rle_Put.f k 2 y324).bind fun bt327 => ((rle_Take.f k 2 2 bt327.1).bind fun bt331 => ((rle_Put.f k 2 (([(⟨0, 0, (⟨#[]⟩ : ByteArray)⟩ : S26)] : List (S26)))).bind fun bt338 => (if bt327.2 = true then (if (bt327.1.length : Int) > 0 then (if bt331.2 = true then (if (bt331.1.length : Int) = 2 then (if 1 < (bt331.1.length : Int) then (if ((rd_T26 bt331.1 1).f1) = 5 then (some (!bt338.2)) else (none)) else (none)) else (none)) else (none)) else (none)) else (none))))) = some r := by first | (rw [hy324]; with_reducible exact H) | (have H2_ := (Option.bind_some _ _).symm.trans H; rw [hy324]; with_reducible exact H2_) | (have H2_ := (Option.bind_some _ _).symm.trans H; with_reducible exact H2_) | with_reducible exact H | (rw [hy324]; exact H) | exact H
 have Ny324 := ak_ hy324
 clear hy324
 replace H := Option.bind_eq_some_iff.mp H
 obtain ⟨⟨t327, t330⟩, A10, H⟩ := H
 replace H : ((rle_Take.f k 2 2 t327).bind fun bt331 => ((rle_Put.f k 2 (([(⟨0, 0, (⟨#[]⟩ : ByteArray)⟩ : S26)] : List (S26)))).bind fun bt338 => (if t330 = true then (if (t327.length : Int) > 0 then (if bt331.2 = true then (if (bt331.1.length : Int) = 2 then (if 1 < (bt331.1.length : Int) then (if ((rd_T26 bt331.1 1).f1) = 5 then (some (!bt338.2)) else (none)) else (none)) else (none)) else (none)) else (none)) else (none)))) = some r := H
 have A1 := ak_ A10
 clear A10
 replace H := Option.bind_eq_some_iff.mp H
 obtain ⟨⟨t331, t332⟩, A20, H⟩ := H
 replace H : ((rle_Put.f k 2 (([(⟨0, 0, (⟨#[]⟩ : ByteArray)⟩ : S26)] : List (S26)))).bind fun bt338 => (if t330 = true then (if (t327.length : Int) > 0 then (if t332 = true then (if (t331.length : Int) = 2 then (if 1 < (t331.length : Int) then (if ((rd_T26 t331 1).f1) = 5 then (some (!bt338.2)) else (none)) else (none)) else (none)) else (none)) else (none)) else (none))) = some r := H
 have A2 := ak_ A20
 clear A20
 obtain ⟨y335, hy335⟩ : ∃ y_ : List (S26), y_ = (([(⟨0, 0, (⟨#[]⟩ : ByteArray)⟩ : S26)] : List (S26))) := ⟨_, rfl⟩
 replace H : ((rle_Put.f k 2 y335).bind fun bt338 => (if t330 = true then (if (t327.length : Int) > 0 then (if t332 = true then (if (t331.length : Int) = 2 then (if 1 < (t331.length : Int) then (if ((rd_T26 t331 1).f1) = 5 then (some (!bt338.2)) else (none)) else (none)) else (none)) else (none)) else (none)) else (none))) = some r := by first | (rw [hy335]; with_reducible exact H) | (have H2_ := (Option.bind_some _ _).symm.trans H; rw [hy335]; with_reducible exact H2_) | (have H2_ := (Option.bind_some _ _).symm.trans H; with_reducible exact H2_) | with_reducible exact H | (rw [hy335]; exact H) | exact H
 have Ny335 := ak_ hy335
 clear hy335
 replace H := Option.bind_eq_some_iff.mp H
 obtain ⟨⟨t338, t341⟩, A30, H⟩ := H
 replace H : (if t330 = true then (if (t327.length : Int) > 0 then (if t332 = true then (if (t331.length : Int) = 2 then (if 1 < (t331.length : Int) then (if ((rd_T26 t331 1).f1) = 5 then (some (!t341)) else (none)) else (none)) else (none)) else (none)) else (none)) else (none)) = some r := H
 have A3 := ak_ A30
 clear A30
 by_cases c4 : t330 = true
 ·
  subst c4
  have H1 : (if (t327.length : Int) > 0 then (if t332 = true then (if (t331.length : Int) = 2 then (if 1 < (t331.length : Int) then (if ((rd_T26 t331 1).f1) = 5 then (some (!t341)) else (none)) else (none)) else (none)) else (none)) else (none)) = some r := by rw [if_pos rfl] at H; exact H
  clear H
  have H := H1
  clear H1
  by_cases c5 : (t327.length : Int) > 0
  ·
   rw [if_pos c5] at H
   have c5b0 : decide (0 < (t327.length : Int)) = true := decide_eq_true c5
   have c5b1 : decide (0 < t327.length) = true := decide_eq_true (by omega)
   (try (have c5b1p : (0 < t327.length) = True := eq_true (of_decide_eq_true c5b1)))
   clear c5
   by_cases c6 : t332 = true
   ·
    subst c6
    have H1 : (if (t331.length : Int) = 2 then (if 1 < (t331.length : Int) then (if ((rd_T26 t331 1).f1) = 5 then (some (!t341)) else (none)) else (none)) else (none)) = some r := by rw [if_pos rfl] at H; exact H
    clear H
    have H := H1
    clear H1
    by_cases c7 : (t331.length : Int) = 2
    ·
     rw [if_pos c7] at H
     have c7b0 : ((t331.length : Int) == 2) = true := beq_iff_eq.mpr c7
     have c7b1 : ((t331.length : Int) != 2) = false := bne_eq_false_iff_eq.mpr c7
     clear c7
     by_cases c8 : 1 < (t331.length : Int)
     ·
      rw [if_pos c8] at H
      have c8b0 : decide (1 < (t331.length : Int)) = true := decide_eq_true c8
      have c8b1 : decide (1 < t331.length) = true := decide_eq_true (by omega)
      clear c8
      by_cases c9 : ((rd_T26 t331 1).f1) = 5
      ·
       rw [if_pos c9] at H
       have c9b0 : (((rd_T26 t331 1).f1) == 5) = true := beq_iff_eq.mpr c9
       have c9b1 : (((rd_T26 t331 1).f1) != 5) = false := bne_eq_false_iff_eq.mpr c9
       clear c9
       obtain rfl := Option.some.inj H
       go_enter Tryd.func22, Tryd.ntmps22
       go_wp2_with (first | ((with_reducible refine gate_dst (N := 10) rfl ?_); (try (refine gate_guard (by rfl) ?_; dsimp only)); refine Kd.R_lit k26 _ 26 ?hg (N := 10) ?hd (xs := ([(⟨2, 5, (⟨#[]⟩ : ByteArray)⟩ : S26), (⟨2, 5, (⟨#[]⟩ : ByteArray)⟩ : S26)] : List (S26))) (inner := [.int .i64 2, .int .i64 5, .string (⟨#[]⟩ : ByteArray), .int .i64 2, .int .i64 5, .string (⟨#[]⟩ : ByteArray)]) (ok := fun _ => True) (okp := fun _ => True) ?hr ?hp (fun _ hk => hk) trivial (Below.refl _ _) (Nat.le_refl _) (by simp) ?_; (case hd => rfl); (case hg => rfl); (case hr => first | (go_simp; done) | (go_simp; rfl)); (case hp => exact (Reps.c3 (show Kd.M k26 _ _ _ (⟨2, 5, (⟨#[]⟩ : ByteArray)⟩ : S26) [.int .i64 2, .int .i64 5, .string (⟨#[]⟩ : ByteArray)] from (k26_mkM _ _ _ (⟨2, 5, (⟨#[]⟩ : ByteArray)⟩ : S26) )) (Reps.c3 (show Kd.M k26 _ _ _ (⟨2, 5, (⟨#[]⟩ : ByteArray)⟩ : S26) [.int .i64 2, .int .i64 5, .string (⟨#[]⟩ : ByteArray)] from (k26_mkM _ _ _ (⟨2, 5, (⟨#[]⟩ : ByteArray)⟩ : S26) )) (Reps.none _ _)))); intro v325 w10 ho11 hb hg_ hnew_; clear hg_ hnew_; (first | rw [← Ny324.out] at ho11 | (simp only [Int.reduceToNat] at ho11; rw [← Ny324.out] at ho11)); have n0_ := ak_ (Kd.R_lower ho11 (below_size (by repeat (first | (with_reducible first | exact HB.out | apply bl_a | apply bl_n | apply bl_d) | exact HB.out)))); have n1_ := ak_ (below_step (by repeat (first | (with_reducible first | exact HB.out | apply bl_a | apply bl_n | apply bl_d) | exact HB.out)) hb); clear HB; have HO326 := n0_; have HB := n1_; clear n0_ n1_; clear hb ho11; obtain ⟨Ao12, co12, eo12⟩ := Kd.R_slice HO326.out; subst eo12) | ((with_reducible refine gate_callee (f := 24) rfl ?_); refine goesL_ (some 13) rfl rfl Tryd.func24 (by kernel_rfl) rfl #[.int .i64 2, .slice Ao12 y324.length co12] rfl (by (try simp only [List.map_toArray, List.map_cons, List.map_nil]); first | done | rfl | (simp only [List.length_drop, List.length_take]; rfl)) ?_; (with_reducible refine (rle_Put.calls k 2 (fun k_ => some k_ = (.slice Ao12 y324.length co12 : Value).ownBlock) _ _ y324 t327 true _ ?side1 A1.out).mono ?_); (case side1 => exact Kd.R_V (Kd.R_tight rfl (HO326.out))); rintro e w13 ⟨v328, rfl, ho0, hb⟩; refine ⟨_, rfl, ?_⟩; have n0_ := ak_ (Kd.R_below (by (with_reducible repeat (first | apply Kd.R_alloc | apply Kd.R_drewN | apply Kd.R_drew)); exact HO326.out) hb); have n1_ := ak_ (Kd.R_lower (Kd.R_mono (ok' := fun k_ => True) ho0 (fun _ hk_ => trivial)) (below_size (by repeat (first | (with_reducible first | exact HB.out | apply bl_a | apply bl_n | apply bl_d) | exact HB.out)))); have n2_ := ak_ (below_step (by repeat (first | (with_reducible first | exact HB.out | apply bl_a | apply bl_n | apply bl_d) | exact HB.out)) hb); clear HO326; clear HB; have HO326 := n0_; have HO329 := n1_; have HB := n2_; clear n0_ n1_ n2_; (try clear hb); (try clear hb2); (try clear hk); (try clear hi); (try clear ho0); obtain ⟨Ao14, co14, eo14⟩ := Kd.R_slice HO329.out; subst eo14) | ((with_reducible refine gate_callee (f := 25) rfl ?_); refine goesL_ (some 18) rfl rfl Tryd.func25 (by kernel_rfl) rfl #[.int .i64 2, .int .i64 2, .slice Ao14 t327.length co14] rfl (by (try simp only [List.map_toArray, List.map_cons, List.map_nil]); first | done | rfl | (simp only [List.length_drop, List.length_take]; rfl)) ?_; (with_reducible refine (rle_Take.calls GA k 2 2 _ _ t327 t331 true _ ?side1 ?side2 ?side3 A2.out).mono ?_); (case side1 => repeat (first | exact (Kd.R_reads' HO329.out).2.2 | (with_reducible refine Kd.C_alloc ?_ _) | (with_reducible refine Kd.C_drewN ?_ _) | (with_reducible refine Kd.C_drew ?_))); (case side2 => exact (Kd.R_reads' HO329.out).2.1); (case side3 => exact Glob.below HG.out (by repeat (first | (with_reducible first | exact HB.out | apply bl_a | apply bl_n | apply bl_d) | exact HB.out))); rintro e w15 ⟨v333, rfl, ho0, hb⟩; refine ⟨_, rfl, ?_⟩; have n0_ := ak_ (Kd.R_elder' (by (with_reducible repeat (first | apply Kd.R_alloc | apply Kd.R_drewN | apply Kd.R_drew)); exact HO326.out) (Kd.R_base ho0) hb); have n1_ := ak_ (Kd.R_below (by (with_reducible repeat (first | apply Kd.R_alloc | apply Kd.R_drewN | apply Kd.R_drew)); exact HO329.out) hb); have n2_ := ak_ (Kd.R_lower (Kd.R_new' ho0 (Kd.R_lt (by (with_reducible repeat (first | apply Kd.R_alloc | apply Kd.R_drewN | apply Kd.R_drew)); exact HO326.out))) (below_size (by repeat (first | (with_reducible first | exact HB.out | apply bl_a | apply bl_n | apply bl_d) | exact HB.out)))); have n3_ := ak_ (below_step (by repeat (first | (with_reducible first | exact HB.out | apply bl_a | apply bl_n | apply bl_d) | exact HB.out)) hb); clear HO326; clear HO329; clear HB; have HO326 := n0_; have HO329 := n1_; have HO334 := n2_; have HB := n3_; clear n0_ n1_ n2_ n3_; (try clear hb); (try clear hb2); (try clear hk); (try clear hi); (try clear ho0)) | ((with_reducible refine gate_dst (N := 23) rfl ?_); (try (refine gate_guard (by rfl) ?_; dsimp only)); refine Kd.R_lit k26 _ 26 ?hg (N := 23) ?hd (xs := ([(⟨0, 0, (⟨#[]⟩ : ByteArray)⟩ : S26)] : List (S26))) (inner := [.int .i64 0, .int .i64 0, .string (⟨#[]⟩ : ByteArray)]) (ok := fun _ => True) (okp := fun _ => True) ?hr ?hp (fun _ hk => hk) trivial (Below.refl _ _) (Nat.le_refl _) (by simp) ?_; (case hd => rfl); (case hg => rfl); (case hr => first | (go_simp; done) | (go_simp; rfl)); (case hp => exact (Reps.c3 (show Kd.M k26 _ _ _ (⟨0, 0, (⟨#[]⟩ : ByteArray)⟩ : S26) [.int .i64 0, .int .i64 0, .string (⟨#[]⟩ : ByteArray)] from (k26_mkM _ _ _ (⟨0, 0, (⟨#[]⟩ : ByteArray)⟩ : S26) )) (Reps.none _ _))); intro v336 w16 ho17 hb hg_ hnew_; clear hg_ hnew_; (first | rw [← Ny335.out] at ho17 | (simp only [Int.reduceToNat] at ho17; rw [← Ny335.out] at ho17)); have n0_ := ak_ (Kd.R_elder' (by (with_reducible repeat (first | apply Kd.R_alloc | apply Kd.R_drewN | apply Kd.R_drew)); exact HO326.out) (Kd.R_base ho17) hb); have n1_ := ak_ (Kd.R_below (by (with_reducible repeat (first | apply Kd.R_alloc | apply Kd.R_drewN | apply Kd.R_drew)); exact HO329.out) hb); have n2_ := ak_ (Kd.R_elder' (by (with_reducible repeat (first | apply Kd.R_alloc | apply Kd.R_drewN | apply Kd.R_drew)); exact HO334.out) (Kd.R_base ho17) hb); have n3_ := ak_ (Kd.R_lower (Kd.R_new' (Kd.R_new' ho17 (Kd.R_lt (by (with_reducible repeat (first | apply Kd.R_alloc | apply Kd.R_drewN | apply Kd.R_drew)); exact HO326.out))) (Kd.R_lt (by (with_reducible repeat (first | apply Kd.R_alloc | apply Kd.R_drewN | apply Kd.R_drew)); exact HO334.out))) (below_size (by repeat (first | (with_reducible first | exact HB.out | apply bl_a | apply bl_n | apply bl_d) | exact HB.out)))); have n4_ := ak_ (below_step (by repeat (first | (with_reducible first | exact HB.out | apply bl_a | apply bl_n | apply bl_d) | exact HB.out)) hb); clear HO326; clear HO329; clear HO334; clear HB; have HO326 := n0_; have HO329 := n1_; have HO334 := n2_; have HO337 := n3_; have HB := n4_; clear n0_ n1_ n2_ n3_ n4_; clear hb ho17; obtain ⟨Ao18, co18, eo18⟩ := Kd.R_slice HO337.out; subst eo18) | ((with_reducible refine gate_callee (f := 24) rfl ?_); refine goesL_ (some 24) rfl rfl Tryd.func24 (by kernel_rfl) rfl #[.int .i64 2, .slice Ao18 y335.length co18] rfl (by (try simp only [List.map_toArray, List.map_cons, List.map_nil]); first | done | rfl | (simp only [List.length_drop, List.length_take]; rfl)) ?_; (with_reducible refine (rle_Put.calls k 2 (fun k_ => some k_ = (.slice Ao18 y335.length co18 : Value).ownBlock) _ _ y335 t338 t341 _ ?side1 A3.out).mono ?_); (case side1 => exact Kd.R_V (Kd.R_tight rfl (Kd.R_apart' (HO337.out) (Kd.R_typed HO329.out) (by decide)))); rintro e w19 ⟨v339, rfl, ho0, hb⟩; refine ⟨_, rfl, ?_⟩; have n0_ := ak_ (Kd.R_below (by (with_reducible repeat (first | apply Kd.R_alloc | apply Kd.R_drewN | apply Kd.R_drew)); exact HO326.out) hb); have n1_ := ak_ (Kd.R_elder' (by (with_reducible repeat (first | apply Kd.R_alloc | apply Kd.R_drewN | apply Kd.R_drew)); exact HO329.out) (Kd.R_base ho0) hb); have n2_ := ak_ (Kd.R_below (by (with_reducible repeat (first | apply Kd.R_alloc | apply Kd.R_drewN | apply Kd.R_drew)); exact HO334.out) hb); have n3_ := ak_ (Kd.R_below (by (with_reducible repeat (first | apply Kd.R_alloc | apply Kd.R_drewN | apply Kd.R_drew)); exact HO337.out) hb); have n4_ := ak_ (Kd.R_lower (Kd.R_new' (Kd.R_mono (ok' := fun k_ => True) ho0 (fun _ hk_ => trivial)) (Kd.R_lt (by (with_reducible repeat (first | apply Kd.R_alloc | apply Kd.R_drewN | apply Kd.R_drew)); exact HO329.out))) (below_size (by repeat (first | (with_reducible first | exact HB.out | apply bl_a | apply bl_n | apply bl_d) | exact HB.out)))); have n5_ := ak_ (below_step (by repeat (first | (with_reducible first | exact HB.out | apply bl_a | apply bl_n | apply bl_d) | exact HB.out)) hb); clear HO326; clear HO329; clear HO334; clear HO337; clear HB; have HO326 := n0_; have HO329 := n1_; have HO334 := n2_; have HO337 := n3_; have HO340 := n4_; have HB := n5_; clear n0_ n1_ n2_ n3_ n4_ n5_; (try clear hb); (try clear hb2); (try clear hk); (try clear hi); (try clear ho0); obtain ⟨Ao20, co20, eo20⟩ := Kd.R_slice HO334.out; subst eo20; have p342 : 0 ≤ (1 : Int) := (by omega); have q342 : 1 < (t331.length : Int) := of_decide_eq_true (by first | (with_reducible assumption) | assumption); obtain ⟨ad342, e342, hx342_0, hx342_1, hx342_2⟩ := at_T26 (Kd.R_reads' HO334.out).2.2 1 p342 q342; cases e342; (try simp only [show (1 : Int).toNat = 1 from rfl, Nat.reduceMul, Nat.reduceEqDiff, Go.Addr.add, ↓reduceIte] at hx342_0); (try simp only [show (1 : Int).toNat = 1 from rfl, Nat.reduceMul, Nat.reduceEqDiff, Go.Addr.add, ↓reduceIte] at hx342_1); (try simp only [show (1 : Int).toNat = 1 from rfl, Nat.reduceMul, Nat.reduceEqDiff, Go.Addr.add, ↓reduceIte] at hx342_2); have qi342 : (1 < t331.length) = True := eq_true (by omega); (try rw [show ((1 : Int)).toNat = 1 from rfl] at hx342_0); (try rw [show 1 * 3 = 3 from rfl] at hx342_0); (try rw [show ((1 : Int)).toNat = 1 from rfl] at hx342_1); (try rw [show 1 * 3 = 3 from rfl] at hx342_1); (try rw [show ((1 : Int)).toNat = 1 from rfl] at hx342_2); (try rw [show 1 * 3 = 3 from rfl] at hx342_2); replace p342 := eq_true p342; replace q342 := eq_true q342))
       go_ret
       exact ⟨by first | rfl | (simp [errW_none, errW_some] <;> rfl) | (simp [*, errW_none, errW_some] <;> rfl), by repeat (first | (with_reducible first | exact HB.out | apply bl_a | apply bl_n | apply bl_d) | exact HB.out)⟩
      ·
       rw [if_neg c9] at H
       exact absurd H (by simp)
     ·
      rw [if_neg c8] at H
      exact absurd H (by simp)
    ·
     rw [if_neg c7] at H
     exact absurd H (by simp)
   ·
    replace c6 := Bool.eq_false_iff.mpr c6
    subst c6
    have H1 : (none) = some r := by rw [if_neg (show ¬ (false = true) by decide)] at H; exact H
    clear H
    have H := H1
    clear H1
    exact absurd H (by simp)
  ·
   rw [if_neg c5] at H
   exact absurd H (by simp)
 ·
  replace c4 := Bool.eq_false_iff.mpr c4
  subst c4
  have H1 : (none) = some r := by rw [if_neg (show ¬ (false = true) by decide)] at H; exact H
  clear H
  have H := H1
  clear H1
  exact absurd H (by simp)
/-- A state of type 66 at block g of W; what its slices lead to came in by w0. -/
def IsS66 (w0 W : World) (g : Nat) (f0 : List Int) (f1 : Int) : Prop := ∃ A0 c0, W.heap[g]? = some (.cells #[.slice A0 f0.length c0, .int .i64 f1] 66 (0, 0)) ∧ w0.heap.size ≤ g ∧ Kd.C (Kd.int .u8) w0 A0 f0.length f0
theorem IsS66.grown {w0 W : World} {g : Nat} {f0 : List Int} {f1 : Int} {W1 : World} {row : Option Nat} (h : IsS66 w0 W g f0 f1) (hw : W.grownBy W1 row) (hne : some g ≠ row) : IsS66 w0 W1 g f0 f1 := by
 obtain ⟨A0, c0, hb, hg, hr0⟩ := h
 exact ⟨A0, c0, blk_grown hb hw hne, hg, hr0⟩
theorem IsS66.own_neN {w0 W : World} {g : Nat} {f0 : List Int} {f1 : Int} {α : Type} {d : Kd α} {e : Nat} {base : Nat} {ok : Nat → Prop} {v : Value} {xs : List α} (h : IsS66 w0 W g f0 f1) (ho : Kd.N d e W base ok v xs) (ht : e ≠ 66) : some g ≠ v.ownBlock := by
 obtain ⟨A0, c0, hb, hg, hr0⟩ := h
 exact Kd.N_ne ho hb ht
theorem IsS66.fresh {w0 W : World} {g : Nat} {f0 : List Int} {f1 : Int} (h : IsS66 w0 W g f0 f1) : ∀ k, W.heap.size ≤ k → k ≠ g := by
 obtain ⟨A0, c0, hb, hg, hr0⟩ := h
 exact Kd.freshB hb
theorem IsS66.kept {w0 W : World} {g : Nat} {f0 : List Int} {f1 : Int} {W1 : World} {S : Nat → Prop} (h : IsS66 w0 W g f0 f1) (hk : Kept W W1 S) (hne : ¬ S g) : IsS66 w0 W1 g f0 f1 := by
 obtain ⟨A0, c0, hb, hg, hr0⟩ := h
 exact ⟨A0, c0, blk_kept hb hk hne, hg, hr0⟩
theorem IsS66.below {w0 W : World} {g : Nat} {f0 : List Int} {f1 : Int} {W1 : World} (h : IsS66 w0 W g f0 f1) (hw : Below W.heap.size W W1) : IsS66 w0 W1 g f0 f1 := h.grown (grown_of_below hw none) (by simp)
theorem IsS66.alloc {w0 W : World} {g : Nat} {f0 : List Int} {f1 : Int} (h : IsS66 w0 W g f0 f1) (o : Obj) : IsS66 w0 (W.alloc o) g f0 f1 := h.below (bl_a (Below.refl _ _) o)
theorem IsS66.drewN {w0 W : World} {g : Nat} {f0 : List Int} {f1 : Int} (h : IsS66 w0 W g f0 f1) (m : Nat) : IsS66 w0 (W.drewN m) g f0 f1 := h
theorem IsS66.drew {w0 W : World} {g : Nat} {f0 : List Int} {f1 : Int} (h : IsS66 w0 W g f0 f1) : IsS66 w0 W.drew g f0 f1 := h
theorem IsS66.at_ {w0 W : World} {g : Nat} {f0 : List Int} {f1 : Int} {w' : World} {m : Nat} (hq : W.drewN m = w') (h : IsS66 w0 W g f0 f1) : IsS66 w0 w' g f0 f1 := by subst hq; exact IsS66.drewN h m
theorem IsS66.apart {w0 W : World} {g : Nat} {f0 : List Int} {f1 : Int} {α : Type} {d : Kd α} {e : Nat} {base : Nat} {ok : Nat → Prop} {v : Value} {xs : List α} (h : IsS66 w0 W g f0 f1) (ho : d.R e W base ok v xs) (ht : ∀ q, q ∈ e :: d.E → q ≠ 66) : d.R e W base (fun k => ok k ∧ k ≠ g) v xs := by
 obtain ⟨A0, c0, hb, hg, hr0⟩ := h
 exact Kd.R_types ho hb ht
theorem IsS66.own_ne {w0 W : World} {g : Nat} {f0 : List Int} {f1 : Int} {α : Type} {d : Kd α} {e : Nat} {base : Nat} {ok : Nat → Prop} {v : Value} {xs : List α} (h : IsS66 w0 W g f0 f1) (ho : d.R e W base ok v xs) (ht : e ≠ 66) : some g ≠ v.ownBlock := by
 obtain ⟨A0, c0, hb, hg, hr0⟩ := h
 exact Kd.R_ne ho hb ht
theorem IsS66.apartQ {w0 W : World} {g : Nat} {f0 : List Int} {f1 : Int} {α : Type} {d : Kd α} {e : Nat} {base : Nat} {ok : Nat → Prop} {v : Value} {xs : List α} (h : IsS66 w0 W g f0 f1) (ho : d.Q e W base ok v xs) (ht : ∀ q, q ∈ e :: d.E → q ≠ 66) : d.Q e W base (fun k => ok k ∧ k ≠ g) v xs := by
 obtain ⟨A0, c0, hb, hg, hr0⟩ := h
 exact Kd.Q_types ho hb ht
theorem IsS66.own_neQ {w0 W : World} {g : Nat} {f0 : List Int} {f1 : Int} {α : Type} {d : Kd α} {e : Nat} {base : Nat} {ok : Nat → Prop} {v : Value} {xs : List α} (h : IsS66 w0 W g f0 f1) (ho : d.Q e W base ok v xs) (ht : e ≠ 66) : some g ≠ v.ownBlock := by
 obtain ⟨A0, c0, hb, hg, hr0⟩ := h
 exact Kd.Q_ne ho hb ht
theorem IsS66.apartS {w0 W : World} {g : Nat} {f0 : List Int} {f1 : Int} {α : Type} {d : Kd α} {e : Nat} {base : Nat} {ok : Nat → Prop} {v : Value} {xs : List α} (h : IsS66 w0 W g f0 f1) (ho : d.S e W base ok v xs) (ht : ∀ q, q ∈ e :: d.E → q ≠ 66) : d.S e W base (fun k => ok k ∧ k ≠ g) v xs := by
 obtain ⟨A0, c0, hb, hg, hr0⟩ := h
 exact Kd.S_types ho hb ht
theorem IsS66.own_neS {w0 W : World} {g : Nat} {f0 : List Int} {f1 : Int} {α : Type} {d : Kd α} {e : Nat} {base : Nat} {ok : Nat → Prop} {v : Value} {xs : List α} (h : IsS66 w0 W g f0 f1) (ho : d.S e W base ok v xs) (ht : e ≠ 66) : some g ≠ v.ownBlock := by
 obtain ⟨A0, c0, hb, hg, hr0⟩ := h
 exact Kd.S_ne ho hb ht
theorem IsS66.lt {w0 W : World} {g : Nat} {f0 : List Int} {f1 : Int} (h : IsS66 w0 W g f0 f1) : g < W.heap.size := by
 obtain ⟨A0, c0, hb, hg, hr0⟩ := h
 exact blk_lt hb
theorem IsS66.ge {w0 W : World} {g : Nat} {f0 : List Int} {f1 : Int} (h : IsS66 w0 W g f0 f1) : w0.heap.size ≤ g := by
 obtain ⟨A0, c0, hb, hg, hr0⟩ := h
 exact hg
theorem IsS66.ne_blk {w0 W : World} {g : Nat} {f0 : List Int} {f1 : Int} {a : Nat} {cs : Array Value} {t : TypeId} {fr : Nat × Nat} (h : IsS66 w0 W g f0 f1) (hb2 : W.heap[a]? = some (.cells cs t fr)) (ht : t ≠ 66) : g ≠ a := by
 obtain ⟨A0, c0, hb, hg, hr0⟩ := h
 rintro rfl
 rw [hb] at hb2
 injection hb2 with hb2
 injection hb2 with _ ht2
 exact ht ht2.symm
theorem IsS66.far {w0 W : World} {g : Nat} {f0 : List Int} {f1 : Int} {p : Addr} (h : IsS66 w0 W g f0 f1) (hne : g ≠ p.block) (u : Value) : IsS66 w0 (W.setCell p u) g f0 f1 := by
 obtain ⟨A0, c0, hb, hg, hr0⟩ := h
 exact ⟨A0, c0, blk_far hb hne u, hg, hr0⟩
theorem cellS66_0 {W : World} {g : Nat} {A0 : Option Addr} {c0 : Nat} {f0 : List Int} {f1 : Int} (h : W.heap[g]? = some (.cells #[.slice A0 f0.length c0, .int .i64 f1] 66 (0, 0))) : W.cell? ⟨g, 0, none⟩ = some (.slice A0 f0.length c0) := (blk_cell h 0).trans rfl
theorem cellS66_1 {W : World} {g : Nat} {A0 : Option Addr} {c0 : Nat} {f0 : List Int} {f1 : Int} (h : W.heap[g]? = some (.cells #[.slice A0 f0.length c0, .int .i64 f1] 66 (0, 0))) : W.cell? ⟨g, 1, none⟩ = some (.int .i64 f1) := (blk_cell h 1).trans rfl
theorem IsS66.set_1 {w0 W : World} {g : Nat} {f0 : List Int} {f1 : Int} (h : IsS66 w0 W g f0 f1) (x : Int) : IsS66 w0 (W.setCell ⟨g, 1, none⟩ (.int .i64 x)) g f0 x := by
 obtain ⟨A0, c0, hb, hg, hr0⟩ := h
 exact ⟨A0, c0, by simpa using blk_set hb 1 (.int .i64 x), hg, hr0⟩
theorem IsS66.new (w0 W : World) (A0 : Option Addr) (c0 : Nat) (f0 : List Int) (f1 : Int) (hB : Below w0.heap.size w0 W) (hr0 : Kd.C (Kd.int .u8) w0 A0 f0.length f0) : IsS66 w0 (W.alloc (.cells #[.slice A0 f0.length c0, .int .i64 f1] 66)) W.heap.size f0 f1 := ⟨A0, c0, by simpa using heap_alloc_new W _, hB.size, hr0⟩
def rabbetplay_Made.f (l0 : List Int) : Option (List Int × Int) := some (l0, 0)
set_option maxHeartbeats 8000000 in
set_option maxRecDepth 100000 in
theorem rabbetplay_Made.calls (A0 : Option Addr) (c0 : Nat) (l0 : List Int) (r1 : List Int) (r2 : Int) (w0 w : World) (hB : Below w0.heap.size w0 w) (hr0 : Kd.C (Kd.int .u8) w0 A0 l0.length l0) (hc0 : l0.length ≤ c0) (h : rabbetplay_Made.f l0 = some (r1, r2)) :
  Calls Tryd.prog 26 #[.slice A0 l0.length c0] w fun e w' => ∃ g_ : Nat, e = .returned (.pointer (some ⟨g_, 0, none⟩)) ∧ IsS66 w0 w' g_ r1 r2 ∧ Below w0.heap.size w0 w' ∧ Below w.heap.size w w' := by
 have hu66 := Tryd.underlying66
 have HR0 := ak_ hr0
 have HC0 := ak_ hc0
 clear hr0 hc0
 have HBW := ak_ (Below.refl w.heap.size w)
 have HW0 := ak_ hB.size
 have HB := ak_ hB
 clear hB
 have H : (some (l0, 0)) = some (r1, r2) := h
 clear h
 simp only [Option.some.injEq, Prod.mk.injEq] at H
 obtain ⟨rfl, rfl⟩ := H
 go_enter Tryd.func26, Tryd.ntmps26
 go_wp2_with (first | ((with_reducible refine gate_dst (N := 5) rfl ?_); refine box_event ?hg (N := 5) ?hd (cs := #[.slice A0 l0.length c0, .int .i64 0]) (t := 66) ?hr ?_; (case hd => rfl); (case hg => rfl); (case hr => first | (go_simp; done) | (go_simp; rfl)); intro gb343 hg w2 hbox hb; have n0_ := ak_ (below_step HBW.out hb); have n1_ := ak_ (below_step (by repeat (first | (with_reducible first | exact HB.out | apply bl_a | apply bl_n | apply bl_d) | exact HB.out)) hb); have n2_ := ak_ (hbox); have n3_ := ak_ ((by rw [hg]; exact (below_size (by repeat (first | (with_reducible first | exact HBW.out | apply bl_a | apply bl_n | apply bl_d) | exact HBW.out))) : w.heap.size ≤ gb343)); have n4_ := ak_ ((Nat.le_trans HW0.out (by rw [hg]; exact (below_size (by repeat (first | (with_reducible first | exact HBW.out | apply bl_a | apply bl_n | apply bl_d) | exact HBW.out))) : w.heap.size ≤ gb343) : w0.heap.size ≤ gb343)); clear HBW; clear HB; have HBW := n0_; have HB := n1_; have BK343 := n2_; have GW343 := n3_; have GE343 := n4_; clear n0_ n1_ n2_ n3_ n4_; clear hb hbox hg))
 go_ret
 exact ⟨_, rfl, (show IsS66 w0 _ gb343 l0 0 from ⟨_, _, by (with_reducible repeat (first | refine bk_n ?_ _ | refine bk_d ?_ | refine bk_a ?_ _)); exact BK343.out, GE343.out, HR0.out⟩), by repeat (first | (with_reducible first | exact HB.out | apply bl_a | apply bl_n | apply bl_d | refine below_set ?_ GE343.out) | exact HB.out), by repeat (first | (with_reducible first | exact HBW.out | apply bl_a | apply bl_n | apply bl_d | refine below_set ?_ GW343.out) | exact HBW.out)⟩
def rabbetplay_Picks_Num.f (s0_0 : List Int) (s0_1 : Int) (a1 : Int) : Option (Int × Int) := if s0_1 ≥ (s0_0.length : Int) then (some (0, s0_1)) else (if 0 ≤ (wrap64 ((wrap64 (s0_1 + 1)) - 1)) then (if (wrap64 ((wrap64 (s0_1 + 1)) - 1)) < (s0_0.length : Int) then (if a1 = 0 then (none) else (some (Int.tmod (wrap64 (rd s0_0 (wrap64 ((wrap64 (s0_1 + 1)) - 1)))) a1, wrap64 (s0_1 + 1)))) else (none)) else (none))
set_option maxHeartbeats 8000000 in
set_option maxRecDepth 100000 in
theorem rabbetplay_Picks_Num.calls (g : Nat) (s0_0 : List Int) (s0_1 : Int) (a1 : Int) (r1 : Int) (r2 : Int) (w0 w : World) (hI : IsS66 w0 w g s0_0 s0_1) (hB : Below w0.heap.size w0 w) (h : rabbetplay_Picks_Num.f s0_0 s0_1 a1 = some (r1, r2)) :
  Calls Tryd.prog 47 #[.pointer (some ⟨g, 0, none⟩), .int .i64 a1] w fun e w' => e = .returned (.int .i64 r1) ∧ IsS66 w0 w' g s0_0 r2 ∧ Below w0.heap.size w0 w' ∧ KeepBut w w' g none := by
 have HI0 := ak_ hI
 have HK := ak_ (KeepBut.refl w g none)
 have HL := ak_ hB.size
 clear hI
 have HW0 := ak_ hB.size
 have HB := ak_ hB
 clear hB
 have H : (if s0_1 ≥ (s0_0.length : Int) then (some (0, s0_1)) else (if 0 ≤ (wrap64 ((wrap64 (s0_1 + 1)) - 1)) then (if (wrap64 ((wrap64 (s0_1 + 1)) - 1)) < (s0_0.length : Int) then (if a1 = 0 then (none) else (some (Int.tmod (wrap64 (rd s0_0 (wrap64 ((wrap64 (s0_1 + 1)) - 1)))) a1, wrap64 (s0_1 + 1)))) else (none)) else (none))) = some (r1, r2) := h
 clear h
 by_cases c3 : s0_1 ≥ (s0_0.length : Int)
 ·
  rw [if_pos c3] at H
  have c3b0 : decide ((s0_0.length : Int) ≤ s0_1) = true := decide_eq_true c3
  clear c3
  simp only [Option.some.injEq, Prod.mk.injEq] at H
  obtain ⟨rfl, rfl⟩ := H
  obtain ⟨ASz4_0, cSz4_0, HGz4, hgz4, HSz4_0⟩ := HI0.out
  have hcz4_0 := cellS66_0 HGz4
  have hcz4_1 := cellS66_1 HGz4
  have hfz4_1 := blk_frozen HGz4 1
  clear HGz4 hgz4
  go_enter Tryd.func47, Tryd.ntmps47
  go_wp2
  repeat (go_quiet (fail); try go_wp2)
  go_ret
  exact ⟨by first | rfl | (simp [errW_none, errW_some] <;> rfl) | (simp [*, errW_none, errW_some] <;> rfl), by repeat (first | (with_reducible first | exact HI0.out | apply IsS66.alloc | apply IsS66.drewN | apply IsS66.drew | apply IsS66.set_1) | exact HI0.out), by repeat (first | (with_reducible first | exact HB.out | apply bl_a | apply bl_n | apply bl_d | refine below_set ?_ (IsS66.ge HI0.out)) | exact HB.out), by repeat (first | (with_reducible first | exact HK.out | apply KeepBut.set_ | apply keep_drewN | apply keep_drew | apply keep_alloc) | exact HK.out)⟩
 ·
  rw [if_neg c3] at H
  have c3b0 : decide ((s0_0.length : Int) ≤ s0_1) = false := decide_eq_false c3
  clear c3
  obtain ⟨ji5, hji5⟩ : ∃ j_ : Int, (wrap64 ((wrap64 (s0_1 + 1)) - 1)) = j_ := ⟨_, rfl⟩
  replace H : (if 0 ≤ (ji5) then (if (ji5) < (s0_0.length : Int) then (if a1 = 0 then (none) else (some (Int.tmod (wrap64 (rd s0_0 (ji5))) a1, wrap64 (s0_1 + 1)))) else (none)) else (none)) = some (r1, r2) := by first | (rw [hji5] at H; exact H) | (simp only [hji5] at H ⊢; exact H) | exact H
  have hji5w : (IntKind.i64.wrap ((wrap64 (s0_1 + 1)) - 1)) = ji5 := (i64_w _).trans hji5
  by_cases c6 : 0 ≤ (ji5)
  ·
   rw [if_pos c6] at H
   have c6b0 : decide (0 ≤ (ji5)) = true := decide_eq_true c6
   clear c6
   by_cases c7 : (ji5) < (s0_0.length : Int)
   ·
    rw [if_pos c7] at H
    have c7b0 : decide ((ji5) < (s0_0.length : Int)) = true := decide_eq_true c7
    clear c7
    by_cases c8 : a1 = 0
    ·
     rw [if_pos c8] at H
     exact absurd H (by simp)
    ·
     rw [if_neg c8] at H
     have c8b0 : (a1 == 0) = false := beq_eq_false_iff_ne.mpr c8
     have c8b1 : (a1 != 0) = true := bne_iff_ne.mpr c8
     simp only [Option.some.injEq, Prod.mk.injEq] at H
     obtain ⟨rfl, rfl⟩ := H
     obtain ⟨ASz9_0, cSz9_0, HGz9, hgz9, HSz9_0⟩ := HI0.out
     have hcz9_0 := cellS66_0 HGz9
     have hcz9_1 := cellS66_1 HGz9
     have hfz9_1 := blk_frozen HGz9 1
     clear HGz9 hgz9
     have p344 : 0 ≤ ((ji5) : Int) := of_decide_eq_true (by first | (with_reducible assumption) | assumption)
     have q344 : (ji5) < (s0_0.length : Int) := of_decide_eq_true (by first | (with_reducible assumption) | assumption)
     obtain ⟨ad344, e344, hx344_0⟩ := Kd.at_int HSz9_0 (ji5) p344 q344
     cases e344
     have hn344_0 : ad344.block ≠ g := Nat.ne_of_lt (Nat.lt_of_lt_of_le (by have := World.block_lt_of_cell? _ _ hx344_0; first | rwa [add_block] at this | exact this) (IsS66.ge HI0.out))
     replace hx344_0 := pw_cell_below HB.out hx344_0
     replace hx344_0 := (cell_far (p := ⟨g, 1, none⟩) (by first | (rw [add_block]; exact hn344_0) | (show (Addr.add _ _).block ≠ _; rw [add_block]; exact hn344_0) | exact hn344_0) (.int .i64 (wrap64 (s0_1 + 1)))).trans hx344_0
     (try have hy344_0 := fun (n_ : Nat) => (show (((w.drewN n_).setCell ⟨g, 1, none⟩ (.int .i64 (wrap64 (s0_1 + 1))))).cell? _ = some _ from hx344_0))
     clear hn344_0
     replace p344 := eq_true p344
     replace q344 := eq_true q344
     go_enter Tryd.func47, Tryd.ntmps47
     go_wp2
     repeat (go_quiet (fail); try go_wp2)
     go_ret
     exact ⟨by first | rfl | (simp [errW_none, errW_some] <;> rfl) | (simp only [← hji5]; first | rfl | (simp [errW_none, errW_some] <;> rfl)) | (simp [*, errW_none, errW_some] <;> rfl), by repeat (first | (with_reducible first | exact HI0.out | apply IsS66.alloc | apply IsS66.drewN | apply IsS66.drew | apply IsS66.set_1) | exact HI0.out), by repeat (first | (with_reducible first | exact HB.out | apply bl_a | apply bl_n | apply bl_d | refine below_set ?_ (IsS66.ge HI0.out)) | exact HB.out), by repeat (first | (with_reducible first | exact HK.out | apply KeepBut.set_ | apply keep_drewN | apply keep_drew | apply keep_alloc) | exact HK.out)⟩
   ·
    rw [if_neg c7] at H
    exact absurd H (by simp)
  ·
   rw [if_neg c6] at H
   exact absurd H (by simp)
def rabbetplay_Picks_Over.f (s0_0 : List Int) (s0_1 : Int) : Option (Bool × Int) := some (decide (s0_1 ≥ (s0_0.length : Int)), s0_1)
set_option maxHeartbeats 8000000 in
set_option maxRecDepth 100000 in
theorem rabbetplay_Picks_Over.calls (g : Nat) (s0_0 : List Int) (s0_1 : Int) (r1 : Bool) (r2 : Int) (w0 w : World) (hI : IsS66 w0 w g s0_0 s0_1) (hB : Below w0.heap.size w0 w) (h : rabbetplay_Picks_Over.f s0_0 s0_1 = some (r1, r2)) :
  Calls Tryd.prog 48 #[.pointer (some ⟨g, 0, none⟩)] w fun e w' => e = .returned (.bool r1) ∧ IsS66 w0 w' g s0_0 r2 ∧ Below w0.heap.size w0 w' ∧ KeepBut w w' g none := by
 have HI0 := ak_ hI
 have HK := ak_ (KeepBut.refl w g none)
 have HL := ak_ hB.size
 clear hI
 have HW0 := ak_ hB.size
 have HB := ak_ hB
 clear hB
 have H : (some (decide (s0_1 ≥ (s0_0.length : Int)), s0_1)) = some (r1, r2) := h
 clear h
 simp only [Option.some.injEq, Prod.mk.injEq] at H
 obtain ⟨rfl, rfl⟩ := H
 obtain ⟨ASz2_0, cSz2_0, HGz2, hgz2, HSz2_0⟩ := HI0.out
 have hcz2_0 := cellS66_0 HGz2
 have hcz2_1 := cellS66_1 HGz2
 have hfz2_1 := blk_frozen HGz2 1
 clear HGz2 hgz2
 go_enter Tryd.func48, Tryd.ntmps48
 go_wp2
 repeat (go_quiet (fail); try go_wp2)
 go_ret
 exact ⟨by first | rfl | (simp [errW_none, errW_some] <;> rfl) | (simp [*, errW_none, errW_some] <;> rfl), by repeat (first | (with_reducible first | exact HI0.out | apply IsS66.alloc | apply IsS66.drewN | apply IsS66.drew | apply IsS66.set_1) | exact HI0.out), by repeat (first | (with_reducible first | exact HB.out | apply bl_a | apply bl_n | apply bl_d | refine below_set ?_ (IsS66.ge HI0.out)) | exact HB.out), by repeat (first | (with_reducible first | exact HK.out | apply KeepBut.set_ | apply keep_drewN | apply keep_drew | apply keep_alloc) | exact HK.out)⟩
def rabbetplay_Picks_Value.j0 : Nat → Int → Int → Bool → List Int → Int → Option (Int × Int × ByteArray × Int)
 | 0, _, _, _, _, _ => none
 | k + 1, x1, x5, x14, x1000, x1001 => if x14 = true then (some (0, 0, (⟨#[]⟩ : ByteArray), x1001)) else (if x1 = 1 then ((some (([0, 1, 2, 3, (-1), 100, (-32768), 32767, 5] : List Int) : List Int)).bind fun y350 => (if 0 ≤ x5 then (if x5 < (y350.length : Int) then (some (x1, rd y350 x5, (⟨#[]⟩ : ByteArray), x1001)) else (none)) else (none))) else (if x1 = 2 then ((some (([0, 1, 2, 3, (-1), 1000000, (-9223372036854775808), 9223372036854775807, 4611686018427387904] : List Int) : List Int)).bind fun y354 => (if 0 ≤ x5 then (if x5 < (y354.length : Int) then (some (x1, rd y354 x5, (⟨#[]⟩ : ByteArray), x1001)) else (none)) else (none))) else (if x1 = 3 then (some (x1, Int.tmod x5 2, (⟨#[]⟩ : ByteArray), x1001)) else ((some (([(⟨#[]⟩ : ByteArray), (⟨#[97]⟩ : ByteArray), (⟨#[98]⟩ : ByteArray), (⟨#[97, 58, 98]⟩ : ByteArray), (⟨#[97, 98]⟩ : ByteArray), (⟨#[120, 58, 121, 58, 122]⟩ : ByteArray), (⟨#[58]⟩ : ByteArray), (⟨#[116, 119, 101, 110, 116, 121, 45, 98, 121, 116, 101, 115, 45, 111, 102, 45, 116, 101, 120, 116]⟩ : ByteArray), (⟨#[99]⟩ : ByteArray)] : List ByteArray) : List ByteArray)).bind fun y358 => (if 0 ≤ x5 then (if x5 < (y358.length : Int) then (some (4, 0, rdOf ByteArray.empty y358 x5, x1001)) else (none)) else (none))))))
def rabbetplay_Picks_Value.f (k : Nat) (s0_0 : List Int) (s0_1 : Int) (a1 : Int) : Option (Int × Int × ByteArray × Int) := (rabbetplay_Picks_Num.f s0_0 s0_1 9).bind fun bt346 => (if bt346.1 = 0 then ((rabbetplay_Picks_Over.f s0_0 bt346.2).bind fun bt348 => (rabbetplay_Picks_Value.j0 k a1 bt346.1 (!bt348.1) s0_0 bt348.2)) else (rabbetplay_Picks_Value.j0 k a1 bt346.1 false s0_0 bt346.2))
theorem rabbetplay_Picks_Value.mono_l : ∀ k, (∀ y0 y1 y2 y3 y4, LeO (rabbetplay_Picks_Value.j0 k y0 y1 y2 y3 y4) (rabbetplay_Picks_Value.j0 (k + 1) y0 y1 y2 y3 y4))
 | 0 => fun _ _ _ _ _ r h => by simp [rabbetplay_Picks_Value.j0] at h
 | k + 1 => by
  have ih0 := rabbetplay_Picks_Value.mono_l k
  ·
   intro y0 y1 y2 y3 y4
   unfold rabbetplay_Picks_Value.j0
   repeat' first
   | (with_reducible exact ih0 _ _ _ _ _)
   | (with_reducible exact LeO.refl _)
   | (with_reducible exact LeO.none _)
   | (with_reducible refine LeO.ite ?_ ?_)
   | (with_reducible refine LeO.bind ?_ (fun _ => ?_))
   | exact ih0 _ _ _ _ _
   | exact LeO.none _
   | refine LeO.ite ?_ ?_
   | refine LeO.bind ?_ (fun _ => ?_)
theorem rabbetplay_Picks_Value.mono : ∀ a0 a1 a2 k, LeO (rabbetplay_Picks_Value.f k a0 a1 a2) (rabbetplay_Picks_Value.f (k + 1) a0 a1 a2) := by
 intro a0 a1 a2 k
 have ih0 := rabbetplay_Picks_Value.mono_l k
 unfold rabbetplay_Picks_Value.f
 repeat' first
   | (with_reducible exact ih0 _ _ _ _ _)
   | (with_reducible exact LeO.refl _)
   | (with_reducible exact LeO.none _)
   | (with_reducible refine LeO.ite ?_ ?_)
   | (with_reducible refine LeO.bind ?_ (fun _ => ?_))
   | exact ih0 _ _ _ _ _
   | exact LeO.none _
   | refine LeO.ite ?_ ?_
   | refine LeO.bind ?_ (fun _ => ?_)
set_option maxHeartbeats 8000000 in
set_option maxRecDepth 100000 in
theorem rabbetplay_Picks_Value.calls (k : Nat) (g : Nat) (s0_0 : List Int) (s0_1 : Int) (a1 : Int) (r1 : Int) (r2 : Int) (r3 : ByteArray) (r4 : Int) (w0 w : World) (hI : IsS66 w0 w g s0_0 s0_1) (hB : Below w0.heap.size w0 w) (h : rabbetplay_Picks_Value.f k s0_0 s0_1 a1 = some (r1, r2, r3, r4)) :
  Calls Tryd.prog 27 #[.pointer (some ⟨g, 0, none⟩), .int .i64 a1] w fun e w' => e = .returned (.agg #[.int .i64 r1, .int .i64 r2, .string r3]) ∧ IsS66 w0 w' g s0_0 r4 ∧ Below w0.heap.size w0 w' ∧ KeepBut w w' g none := by
 have hu26 := Tryd.underlying26
 have HI0 := ak_ hI
 have HK := ak_ (KeepBut.refl w g none)
 have HL := ak_ hB.size
 clear hI
 have HW0 := ak_ hB.size
 have HB := ak_ hB
 clear hB
 have H : ((rabbetplay_Picks_Num.f s0_0 s0_1 9).bind fun bt346 => (if bt346.1 = 0 then ((rabbetplay_Picks_Over.f s0_0 bt346.2).bind fun bt348 => (rabbetplay_Picks_Value.j0 k a1 bt346.1 (!bt348.1) s0_0 bt348.2)) else (rabbetplay_Picks_Value.j0 k a1 bt346.1 false s0_0 bt346.2))) = some (r1, r2, r3, r4) := h
 clear h
 replace H := Option.bind_eq_some_iff.mp H
 obtain ⟨⟨t346, t347⟩, A30, H⟩ := H
 replace H : (if t346 = 0 then ((rabbetplay_Picks_Over.f s0_0 t347).bind fun bt348 => (rabbetplay_Picks_Value.j0 k a1 t346 (!bt348.1) s0_0 bt348.2)) else (rabbetplay_Picks_Value.j0 k a1 t346 false s0_0 t347)) = some (r1, r2, r3, r4) := H
 have A3 := ak_ A30
 clear A30
 have HC4 := ak_ H
 clear H
 go_enter Tryd.func27, Tryd.ntmps27
 go_upto_region 2 with (first | ((with_reducible refine gate_dst (N := 4) rfl ?_); refine box_event ?hg (N := 4) ?hd (cs := #[.int .i64 0, .int .i64 0, .string (⟨#[]⟩ : ByteArray)]) (t := 26) ?hr ?_; (case hd => rfl); (case hg => rfl); (case hr => first | (go_simp; done) | (go_simp; rfl)); intro gb345 hg w5 hbox hb; have n0_ := ak_ (IsS66.below (by repeat (first | (with_reducible first | exact HI0.out | apply IsS66.alloc | apply IsS66.drewN | apply IsS66.drew | apply IsS66.set_1) | exact HI0.out)) hb); have n1_ := ak_ (KeepBut.trans (by repeat (first | (with_reducible first | exact HK.out | apply KeepBut.set_ | apply keep_drewN | apply keep_drew | apply keep_alloc) | exact HK.out)) (KeepBut.of_below hb g none) (.inl rfl)); have n2_ := ak_ (below_step (by repeat (first | (with_reducible first | exact HB.out | apply bl_a | apply bl_n | apply bl_d | refine below_set ?_ (IsS66.ge HI0.out)) | exact HB.out)) hb); have n3_ := ak_ (hbox); have n4_ := ak_ ((by rw [hg]; exact (keep_size (w := w) (g := g) (row := none) (by repeat (first | (with_reducible first | exact HK.out | apply KeepBut.set_ | apply keep_drewN | apply keep_drew | apply keep_alloc) | exact HK.out))) : w.heap.size ≤ gb345)); have n5_ := ak_ ((Nat.le_trans HW0.out (by rw [hg]; exact (keep_size (w := w) (g := g) (row := none) (by repeat (first | (with_reducible first | exact HK.out | apply KeepBut.set_ | apply keep_drewN | apply keep_drew | apply keep_alloc) | exact HK.out))) : w.heap.size ≤ gb345) : w0.heap.size ≤ gb345)); have n6_ := ak_ ((by rw [hg]; exact Nat.ne_of_lt (IsS66.lt (show IsS66 w0 _ g s0_0 s0_1 from by repeat (first | (with_reducible first | exact HI0.out | apply IsS66.alloc | apply IsS66.drewN | apply IsS66.drew | apply IsS66.set_1) | exact HI0.out))) : g ≠ gb345)); have n7_ := ak_ ((by rw [hg]; exact Nat.ne_of_gt (IsS66.lt (show IsS66 w0 _ g s0_0 s0_1 from by repeat (first | (with_reducible first | exact HI0.out | apply IsS66.alloc | apply IsS66.drewN | apply IsS66.drew | apply IsS66.set_1) | exact HI0.out))) : gb345 ≠ g)); clear HI0; clear HK; clear HB; have HI0 := n0_; have HK := n1_; have HB := n2_; have BK345 := n3_; have GW345 := n4_; have GE345 := n5_; have NB0_345 := n6_; have NB345_0 := n7_; clear n0_ n1_ n2_ n3_ n4_ n5_ n6_ n7_; clear hb hbox hg) | ((with_reducible refine gate_callee (f := 47) rfl ?_); refine goesL_ (some 7) rfl rfl Tryd.func47 (by kernel_rfl) rfl #[.pointer (some ⟨g, 0, none⟩), .int .i64 9] rfl (by (try simp only [List.map_toArray, List.map_cons, List.map_nil]); first | done | rfl | (simp only [List.length_drop, List.length_take]; rfl)) ?_; (with_reducible refine (rabbetplay_Picks_Num.calls g s0_0 s0_1 9 t346 t347 w0 _ ?side1 ?side2 A3.out).mono ?_); (case side1 => repeat (first | (with_reducible first | exact HI0.out | apply IsS66.alloc | apply IsS66.drewN | apply IsS66.drew | apply IsS66.set_1 | refine IsS66.far ?_ NB0_345.out _) | exact HI0.out)); (case side2 => repeat (first | (with_reducible first | exact HB.out | apply bl_a | apply bl_n | apply bl_d | refine below_set ?_ (IsS66.ge HI0.out) | refine below_set ?_ GE345.out) | exact HB.out)); rintro e w6 ⟨rfl, hi, hb, hk⟩; refine ⟨_, rfl, ?_⟩; have n0_ := ak_ (KeepBut.blk hk (g' := gb345) (o := .cells #[.int .i64 0, .int .i64 0, .string (⟨#[]⟩ : ByteArray)] 26 (0, 0)) (by (with_reducible repeat (first | refine bk_n ?_ _ | refine bk_d ?_ | refine bk_a ?_ _)); exact BK345.out) NB345_0.out (by simp)); have n1_ := ak_ (KeepBut.trans (by repeat (first | (with_reducible first | exact HK.out | apply KeepBut.set_ | apply keep_drewN | apply keep_drew | apply keep_alloc | refine keep_far ?_ GW345.out _) | exact HK.out)) hk (.inl rfl)); have n2_ := ak_ (hb); have n3_ := ak_ (hi); clear BK345; clear HK; clear HB; clear HI0; have BK345 := n0_; have HK := n1_; have HB := n2_; have HI0 := n3_; clear n0_ n1_ n2_ n3_; (try clear hb); (try clear hb2); (try clear hk); (try clear hi)))
 (try simp only [Act.put, List.setIfInBounds_toArray, List.set_cons_zero, List.set_cons_succ])
 go_cut [14] (fun v14 wc => ∃ (kq : Nat) (x14_3 : Bool) (x1001_3 : Int), v14 = .bool x14_3 ∧ Aside0 (rabbetplay_Picks_Value.j0 kq a1 t346 x14_3 s0_0 x1001_3 = some (r1, r2, r3, r4)) ∧ Aside0 (kq ≤ k) ∧ Aside0 (wc.heap[gb345]? = some (.cells #[.int .i64 0, .int .i64 0, .string (⟨#[]⟩ : ByteArray)] 26 (0, 0))) ∧ Aside0 (IsS66 w0 wc g s0_0 x1001_3) ∧ Aside0 (KeepBut w wc g none) ∧ Aside0 (Below w0.heap.size w0 wc))
 case first =>
  have H := HC4.out
  clear HC4
  by_cases c7 : t346 = 0
  ·
   rw [if_pos c7] at H
   have c7b0 : (t346 == 0) = true := beq_iff_eq.mpr c7
   have c7b1 : (t346 != 0) = false := bne_eq_false_iff_eq.mpr c7
   clear c7
   (first | rw [c7b0] | rw [c7b1] | (simp only [i64_w, i32_w]; rw [c7b0]) | skip)
   replace H := Option.bind_eq_some_iff.mp H
   obtain ⟨⟨t348, t349⟩, A80, H⟩ := H
   replace H : (rabbetplay_Picks_Value.j0 k a1 t346 (!t348) s0_0 t349) = some (r1, r2, r3, r4) := H
   have A8 := ak_ A80
   clear A80
   have H' := ak_ H
   clear H
   go_wp2_with (first | (go_at_call 48; (with_reducible refine (rabbetplay_Picks_Over.calls g s0_0 t347 t348 t349 w0 _ ?side1 ?side2 A8.out).mono ?_); (case side1 => repeat (first | (with_reducible first | exact HI0.out | apply IsS66.alloc | apply IsS66.drewN | apply IsS66.drew | apply IsS66.set_1 | refine IsS66.far ?_ NB0_345.out _) | exact HI0.out)); (case side2 => repeat (first | (with_reducible first | exact HB.out | apply bl_a | apply bl_n | apply bl_d | refine below_set ?_ (IsS66.ge HI0.out) | refine below_set ?_ GE345.out) | exact HB.out)); rintro e w9 ⟨rfl, hi, hb, hk⟩; have n0_ := ak_ (KeepBut.blk hk (g' := gb345) (o := .cells #[.int .i64 0, .int .i64 0, .string (⟨#[]⟩ : ByteArray)] 26 (0, 0)) (by (with_reducible repeat (first | refine bk_n ?_ _ | refine bk_d ?_ | refine bk_a ?_ _)); exact BK345.out) NB345_0.out (by simp)); have n1_ := ak_ (KeepBut.trans (by repeat (first | (with_reducible first | exact HK.out | apply KeepBut.set_ | apply keep_drewN | apply keep_drew | apply keep_alloc | refine keep_far ?_ GW345.out _) | exact HK.out)) hk (.inl rfl)); have n2_ := ak_ (hb); have n3_ := ak_ (hi); clear BK345; clear HK; clear HB; clear HI0; have BK345 := n0_; have HK := n1_; have HB := n2_; have HI0 := n3_; clear n0_ n1_ n2_ n3_; (try clear hb); (try clear hb2); (try clear hk); (try clear hi)))
   go_meet
   case rel => exact ⟨_, (!t348), (t349), (by first | rfl | (simp; done) | (simp [*]; done)), H', ⟨by first | omega | exact Nat.le_refl _⟩, ⟨by (with_reducible repeat (first | refine bk_n ?_ _ | refine bk_d ?_ | refine bk_a ?_ _)); exact BK345.out⟩, ⟨by repeat (first | (with_reducible first | exact HI0.out | apply IsS66.alloc | apply IsS66.drewN | apply IsS66.drew | apply IsS66.set_1 | refine IsS66.far ?_ NB0_345.out _) | exact HI0.out)⟩, ⟨by repeat (first | (with_reducible first | exact HK.out | apply KeepBut.set_ | apply keep_drewN | apply keep_drew | apply keep_alloc | refine keep_far ?_ GW345.out _) | exact HK.out)⟩, ⟨by repeat (first | (with_reducible first | exact HB.out | apply bl_a | apply bl_n | apply bl_d | refine below_set ?_ (IsS66.ge HI0.out) | refine below_set ?_ GE345.out) | exact HB.out)⟩⟩
  ·
   rw [if_neg c7] at H
   have c7b0 : (t346 == 0) = false := beq_eq_false_iff_ne.mpr c7
   have c7b1 : (t346 != 0) = true := bne_iff_ne.mpr c7
   (first | rw [c7b0] | rw [c7b1] | (simp only [i64_w, i32_w]; rw [c7b0]) | skip)
   have H' := ak_ H
   clear H
   go_wp2
   go_meet
   case rel => exact ⟨_, (false), (t347), (by first | rfl | (simp; done) | (simp [*]; done)), H', ⟨by first | omega | exact Nat.le_refl _⟩, ⟨by (with_reducible repeat (first | refine bk_n ?_ _ | refine bk_d ?_ | refine bk_a ?_ _)); exact BK345.out⟩, ⟨by repeat (first | (with_reducible first | exact HI0.out | apply IsS66.alloc | apply IsS66.drewN | apply IsS66.drew | apply IsS66.set_1 | refine IsS66.far ?_ NB0_345.out _) | exact HI0.out)⟩, ⟨by repeat (first | (with_reducible first | exact HK.out | apply KeepBut.set_ | apply keep_drewN | apply keep_drew | apply keep_alloc | refine keep_far ?_ GW345.out _) | exact HK.out)⟩, ⟨by repeat (first | (with_reducible first | exact HB.out | apply bl_a | apply bl_n | apply bl_d | refine below_set ?_ (IsS66.ge HI0.out) | refine below_set ?_ GE345.out) | exact HB.out)⟩⟩
 case rest =>
  clear HC4
  try clear c2
  try clear p2
  try clear c4
  try clear c7
  try clear c7b0
  try clear c7b1
  obtain ⟨kq, x14_3, x1001_3, rfl, HA, HJ3, BK345, HI0, HK, HB⟩ := hcut
  cases kq with
  | zero => exact absurd HA.out (by simp [rabbetplay_Picks_Value.j0])
  | succ kj3 =>
   have H := HA.out
   clear HA
   simp only [rabbetplay_Picks_Value.j0] at H
   by_cases c10 : x14_3 = true
   ·
    subst c10
    have H1 : (some (0, 0, (⟨#[]⟩ : ByteArray), x1001_3)) = some (r1, r2, r3, r4) := by rw [if_pos rfl] at H; exact H
    clear H
    have H := H1
    clear H1
    simp only [Option.some.injEq, Prod.mk.injEq] at H
    obtain ⟨rfl, rfl, rfl, rfl⟩ := H
    have hnb11 := NB345_0.out
    have hnc11 := NB0_345.out
    have hcz12_0 : wc.cell? ⟨gb345, 0, none⟩ = some (.int .i64 0) := (blk_cell BK345.out 0).trans rfl
    have hcz12_1 : wc.cell? ⟨gb345, 1, none⟩ = some (.int .i64 0) := (blk_cell BK345.out 1).trans rfl
    have hcz12_2 : wc.cell? ⟨gb345, 2, none⟩ = some (.string (⟨#[]⟩ : ByteArray)) := (blk_cell BK345.out 2).trans rfl
    have hfz12_0 := blk_frozen BK345.out 0
    have hfz12_1 := blk_frozen BK345.out 1
    have hfz12_2 := blk_frozen BK345.out 2
    go_wp2
    refine bodyPost_ret (results_cell_row rfl _ _ gb345 26 #[.int .i64 0, .int .i64 0, .string (⟨#[]⟩ : ByteArray)] (0, 0) _ rfl (by (with_reducible repeat (first | refine bk_n ?_ _ | refine bk_d ?_ | refine bk_a ?_ _)); refine blk_put (cs := #[.int .i64 0, .int .i64 0, .string (⟨#[]⟩ : ByteArray)]) ?_ 2 _ rfl; (with_reducible repeat (first | refine bk_n ?_ _ | refine bk_d ?_ | refine bk_a ?_ _)); refine blk_put (cs := #[.int .i64 0, .int .i64 0, .string (⟨#[]⟩ : ByteArray)]) ?_ 1 _ rfl; (with_reducible repeat (first | refine bk_n ?_ _ | refine bk_d ?_ | refine bk_a ?_ _)); refine blk_put (cs := #[.int .i64 0, .int .i64 0, .string (⟨#[]⟩ : ByteArray)]) ?_ 0 _ rfl; (with_reducible repeat (first | refine bk_n ?_ _ | refine bk_d ?_ | refine bk_a ?_ _)); exact BK345.out) Tryd.underlying26 rfl (by kernel_rfl)) rfl ?_
    exact ⟨by first | rfl | (simp [errW_none, errW_some] <;> rfl) | (simp [*, errW_none, errW_some] <;> rfl), by repeat (first | (with_reducible first | exact HI0.out | apply IsS66.alloc | apply IsS66.drewN | apply IsS66.drew | apply IsS66.set_1 | refine IsS66.far ?_ NB0_345.out _) | exact HI0.out), by repeat (first | (with_reducible first | exact HB.out | apply bl_a | apply bl_n | apply bl_d | refine below_set ?_ (IsS66.ge HI0.out) | refine below_set ?_ GE345.out) | exact HB.out), by repeat (first | (with_reducible first | exact HK.out | apply KeepBut.set_ | apply keep_drewN | apply keep_drew | apply keep_alloc | refine keep_far ?_ GW345.out _) | exact HK.out)⟩
   ·
    replace c10 := Bool.eq_false_iff.mpr c10
    subst c10
    have H1 : (if a1 = 1 then ((some (([0, 1, 2, 3, (-1), 100, (-32768), 32767, 5] : List Int) : List Int)).bind fun y350 => (if 0 ≤ t346 then (if t346 < (y350.length : Int) then (some (a1, rd y350 t346, (⟨#[]⟩ : ByteArray), x1001_3)) else (none)) else (none))) else (if a1 = 2 then ((some (([0, 1, 2, 3, (-1), 1000000, (-9223372036854775808), 9223372036854775807, 4611686018427387904] : List Int) : List Int)).bind fun y354 => (if 0 ≤ t346 then (if t346 < (y354.length : Int) then (some (a1, rd y354 t346, (⟨#[]⟩ : ByteArray), x1001_3)) else (none)) else (none))) else (if a1 = 3 then (some (a1, Int.tmod t346 2, (⟨#[]⟩ : ByteArray), x1001_3)) else ((some (([(⟨#[]⟩ : ByteArray), (⟨#[97]⟩ : ByteArray), (⟨#[98]⟩ : ByteArray), (⟨#[97, 58, 98]⟩ : ByteArray), (⟨#[97, 98]⟩ : ByteArray), (⟨#[120, 58, 121, 58, 122]⟩ : ByteArray), (⟨#[58]⟩ : ByteArray), (⟨#[116, 119, 101, 110, 116, 121, 45, 98, 121, 116, 101, 115, 45, 111, 102, 45, 116, 101, 120, 116]⟩ : ByteArray), (⟨#[99]⟩ : ByteArray)] : List ByteArray) : List ByteArray)).bind fun y358 => (if 0 ≤ t346 then (if t346 < (y358.length : Int) then (some (4, 0, rdOf ByteArray.empty y358 t346, x1001_3)) else (none)) else (none)))))) = some (r1, r2, r3, r4) := by rw [if_neg (show ¬ (false = true) by decide)] at H; exact H
    clear H
    have H := H1
    clear H1
    by_cases c13 : a1 = 1
    ·
     rw [if_pos c13] at H
     have c13b0 : (a1 == 1) = true := beq_iff_eq.mpr c13
     have c13b1 : (a1 != 1) = false := bne_eq_false_iff_eq.mpr c13
     clear c13
     obtain ⟨y350, hy350⟩ : ∃ y_ : List Int, y_ = (([0, 1, 2, 3, (-1), 100, (-32768), 32767, 5] : List Int)) := ⟨_, rfl⟩
     replace H : (if 0 ≤ t346 then (if t346 < (y350.length : Int) then (some (a1, rd y350 t346, (⟨#[]⟩ : ByteArray), x1001_3)) else (none)) else (none)) = some (r1, r2, r3, r4) := by first | (rw [hy350]; with_reducible exact H) | (have H2_ := (Option.bind_some _ _).symm.trans H; rw [hy350]; with_reducible exact H2_) | (have H2_ := (Option.bind_some _ _).symm.trans H; with_reducible exact H2_) | with_reducible exact H | (rw [hy350]; exact H) | exact H
     have Ny350 := ak_ hy350
     clear hy350
     by_cases c14 : 0 ≤ t346
     ·
      rw [if_pos c14] at H
      have c14b0 : decide (0 ≤ t346) = true := decide_eq_true c14
      clear c14
      by_cases c15 : t346 < (y350.length : Int)
      ·
       rw [if_pos c15] at H
       have c15b0 : decide (t346 < (y350.length : Int)) = true := decide_eq_true c15
       clear c15
       simp only [Option.some.injEq, Prod.mk.injEq] at H
       obtain ⟨rfl, rfl, rfl, rfl⟩ := H
       go_wp2_with (first | ((with_reducible refine gate_dst (N := 20) rfl ?_); refine Kd.R_lit (Kd.int .i64) _ 2 ?hg (N := 20) ?hd (xs := ([0, 1, 2, 3, (-1), 100, (-32768), 32767, 5] : List Int)) (inner := [.int .i64 0, .int .i64 1, .int .i64 2, .int .i64 3, .int .i64 (-1), .int .i64 100, .int .i64 (-32768), .int .i64 32767, .int .i64 5]) (ok := fun _ => True) (okp := fun _ => True) ?hr ?hp (fun _ hk => hk) trivial (Below.refl _ _) (Nat.le_refl _) (by simp) ?_; (case hd => rfl); (case hg => rfl); (case hr => first | (go_simp; done) | (go_simp; rfl)); (case hp => exact (Reps.one (show Kd.M (Kd.int .i64) _ _ _ 0 [.int .i64 0] from rfl) (Reps.one (show Kd.M (Kd.int .i64) _ _ _ 1 [.int .i64 1] from rfl) (Reps.one (show Kd.M (Kd.int .i64) _ _ _ 2 [.int .i64 2] from rfl) (Reps.one (show Kd.M (Kd.int .i64) _ _ _ 3 [.int .i64 3] from rfl) (Reps.one (show Kd.M (Kd.int .i64) _ _ _ (-1) [.int .i64 (-1)] from rfl) (Reps.one (show Kd.M (Kd.int .i64) _ _ _ 100 [.int .i64 100] from rfl) (Reps.one (show Kd.M (Kd.int .i64) _ _ _ (-32768) [.int .i64 (-32768)] from rfl) (Reps.one (show Kd.M (Kd.int .i64) _ _ _ 32767 [.int .i64 32767] from rfl) (Reps.one (show Kd.M (Kd.int .i64) _ _ _ 5 [.int .i64 5] from rfl) (Reps.none _ _))))))))))); intro v351 w16 ho17 hb hg_ hnew_; clear hg_ hnew_; (first | rw [← Ny350.out] at ho17 | (simp only [Int.reduceToNat] at ho17; rw [← Ny350.out] at ho17)); have n0_ := ak_ (Kd.R_lower ho17 (keep_size (w := w) (g := g) (row := none) (by repeat (first | (with_reducible first | exact HK.out | apply KeepBut.set_ | apply keep_drewN | apply keep_drew | apply keep_alloc | refine keep_far ?_ GW345.out _) | exact HK.out)))); have n1_ := ak_ (blk_below (g := gb345) (o := .cells #[.int .i64 0, .int .i64 0, .string (⟨#[]⟩ : ByteArray)] 26 (0, 0)) (by (with_reducible repeat (first | refine bk_n ?_ _ | refine bk_d ?_ | refine bk_a ?_ _)); exact BK345.out) hb); have n2_ := ak_ (IsS66.below (by repeat (first | (with_reducible first | exact HI0.out | apply IsS66.alloc | apply IsS66.drewN | apply IsS66.drew | apply IsS66.set_1 | refine IsS66.far ?_ NB0_345.out _) | exact HI0.out)) hb); have n3_ := ak_ (KeepBut.trans (by repeat (first | (with_reducible first | exact HK.out | apply KeepBut.set_ | apply keep_drewN | apply keep_drew | apply keep_alloc | refine keep_far ?_ GW345.out _) | exact HK.out)) (KeepBut.of_below hb g none) (.inl rfl)); have n4_ := ak_ (below_step (by repeat (first | (with_reducible first | exact HB.out | apply bl_a | apply bl_n | apply bl_d | refine below_set ?_ (IsS66.ge HI0.out) | refine below_set ?_ GE345.out) | exact HB.out)) hb); clear BK345; clear HI0; clear HK; clear HB; have HO352 := n0_; have BK345 := n1_; have HI0 := n2_; have HK := n3_; have HB := n4_; clear n0_ n1_ n2_ n3_ n4_; clear hb ho17; obtain ⟨Ao18, co18, eo18⟩ := Kd.R_slice HO352.out; subst eo18; have p353 : 0 ≤ (t346 : Int) := of_decide_eq_true (by first | (with_reducible assumption) | assumption); have q353 : t346 < (y350.length : Int) := of_decide_eq_true (by first | (with_reducible assumption) | assumption); obtain ⟨ad353, e353, hx353_0⟩ := Kd.at_int (Kd.R_reads' HO352.out).2.2 t346 p353 q353; cases e353; replace p353 := eq_true p353; replace q353 := eq_true q353; have hnb19 := NB345_0.out; have hnc19 := NB0_345.out; have hcz20_0 : w16.cell? ⟨gb345, 0, none⟩ = some (.int .i64 0) := (blk_cell BK345.out 0).trans rfl; have hcz20_1 : w16.cell? ⟨gb345, 1, none⟩ = some (.int .i64 0) := (blk_cell BK345.out 1).trans rfl; have hcz20_2 : w16.cell? ⟨gb345, 2, none⟩ = some (.string (⟨#[]⟩ : ByteArray)) := (blk_cell BK345.out 2).trans rfl; have hfz20_0 := blk_frozen BK345.out 0; have hfz20_1 := blk_frozen BK345.out 1; have hfz20_2 := blk_frozen BK345.out 2))
       refine bodyPost_ret (results_cell_row rfl _ _ gb345 26 #[.int .i64 a1, .int .i64 (rd y350 t346), .string (⟨#[]⟩ : ByteArray)] (0, 0) _ rfl (by (with_reducible repeat (first | refine bk_n ?_ _ | refine bk_d ?_ | refine bk_a ?_ _)); refine blk_put (cs := #[.int .i64 a1, .int .i64 (rd y350 t346), .string (⟨#[]⟩ : ByteArray)]) ?_ 2 _ rfl; (with_reducible repeat (first | refine bk_n ?_ _ | refine bk_d ?_ | refine bk_a ?_ _)); refine blk_put (cs := #[.int .i64 a1, .int .i64 0, .string (⟨#[]⟩ : ByteArray)]) ?_ 1 _ rfl; (with_reducible repeat (first | refine bk_n ?_ _ | refine bk_d ?_ | refine bk_a ?_ _)); refine blk_put (cs := #[.int .i64 0, .int .i64 0, .string (⟨#[]⟩ : ByteArray)]) ?_ 0 _ rfl; (with_reducible repeat (first | refine bk_n ?_ _ | refine bk_d ?_ | refine bk_a ?_ _)); exact BK345.out) Tryd.underlying26 rfl (by kernel_rfl)) rfl ?_
       exact ⟨by first | rfl | (simp [errW_none, errW_some] <;> rfl) | (simp [*, errW_none, errW_some] <;> rfl), by repeat (first | (with_reducible first | exact HI0.out | apply IsS66.alloc | apply IsS66.drewN | apply IsS66.drew | apply IsS66.set_1 | refine IsS66.far ?_ NB0_345.out _) | exact HI0.out), by repeat (first | (with_reducible first | exact HB.out | apply bl_a | apply bl_n | apply bl_d | refine below_set ?_ (IsS66.ge HI0.out) | refine below_set ?_ GE345.out) | exact HB.out), by repeat (first | (with_reducible first | exact HK.out | apply KeepBut.set_ | apply keep_drewN | apply keep_drew | apply keep_alloc | refine keep_far ?_ GW345.out _) | exact HK.out)⟩
      ·
       rw [if_neg c15] at H
       exact absurd H (by simp)
     ·
      rw [if_neg c14] at H
      exact absurd H (by simp)
    ·
     rw [if_neg c13] at H
     have c13b0 : (a1 == 1) = false := beq_eq_false_iff_ne.mpr c13
     have c13b1 : (a1 != 1) = true := bne_iff_ne.mpr c13
     by_cases c21 : a1 = 2
     ·
      rw [if_pos c21] at H
      have c21b0 : (a1 == 2) = true := beq_iff_eq.mpr c21
      have c21b1 : (a1 != 2) = false := bne_eq_false_iff_eq.mpr c21
      clear c21
      obtain ⟨y354, hy354⟩ : ∃ y_ : List Int, y_ = (([0, 1, 2, 3, (-1), 1000000, (-9223372036854775808), 9223372036854775807, 4611686018427387904] : List Int)) := ⟨_, rfl⟩
      replace H : (if 0 ≤ t346 then (if t346 < (y354.length : Int) then (some (a1, rd y354 t346, (⟨#[]⟩ : ByteArray), x1001_3)) else (none)) else (none)) = some (r1, r2, r3, r4) := by first | (rw [hy354]; with_reducible exact H) | (have H2_ := (Option.bind_some _ _).symm.trans H; rw [hy354]; with_reducible exact H2_) | (have H2_ := (Option.bind_some _ _).symm.trans H; with_reducible exact H2_) | with_reducible exact H | (rw [hy354]; exact H) | exact H
      have Ny354 := ak_ hy354
      clear hy354
      by_cases c22 : 0 ≤ t346
      ·
       rw [if_pos c22] at H
       have c22b0 : decide (0 ≤ t346) = true := decide_eq_true c22
       clear c22
       by_cases c23 : t346 < (y354.length : Int)
       ·
        rw [if_pos c23] at H
        have c23b0 : decide (t346 < (y354.length : Int)) = true := decide_eq_true c23
        clear c23
        simp only [Option.some.injEq, Prod.mk.injEq] at H
        obtain ⟨rfl, rfl, rfl, rfl⟩ := H
        go_wp2_with (first | ((with_reducible refine gate_dst (N := 28) rfl ?_); refine Kd.R_lit (Kd.int .i64) _ 2 ?hg (N := 28) ?hd (xs := ([0, 1, 2, 3, (-1), 1000000, (-9223372036854775808), 9223372036854775807, 4611686018427387904] : List Int)) (inner := [.int .i64 0, .int .i64 1, .int .i64 2, .int .i64 3, .int .i64 (-1), .int .i64 1000000, .int .i64 (-9223372036854775808), .int .i64 9223372036854775807, .int .i64 4611686018427387904]) (ok := fun _ => True) (okp := fun _ => True) ?hr ?hp (fun _ hk => hk) trivial (Below.refl _ _) (Nat.le_refl _) (by simp) ?_; (case hd => rfl); (case hg => rfl); (case hr => first | (go_simp; done) | (go_simp; rfl)); (case hp => exact (Reps.one (show Kd.M (Kd.int .i64) _ _ _ 0 [.int .i64 0] from rfl) (Reps.one (show Kd.M (Kd.int .i64) _ _ _ 1 [.int .i64 1] from rfl) (Reps.one (show Kd.M (Kd.int .i64) _ _ _ 2 [.int .i64 2] from rfl) (Reps.one (show Kd.M (Kd.int .i64) _ _ _ 3 [.int .i64 3] from rfl) (Reps.one (show Kd.M (Kd.int .i64) _ _ _ (-1) [.int .i64 (-1)] from rfl) (Reps.one (show Kd.M (Kd.int .i64) _ _ _ 1000000 [.int .i64 1000000] from rfl) (Reps.one (show Kd.M (Kd.int .i64) _ _ _ (-9223372036854775808) [.int .i64 (-9223372036854775808)] from rfl) (Reps.one (show Kd.M (Kd.int .i64) _ _ _ 9223372036854775807 [.int .i64 9223372036854775807] from rfl) (Reps.one (show Kd.M (Kd.int .i64) _ _ _ 4611686018427387904 [.int .i64 4611686018427387904] from rfl) (Reps.none _ _))))))))))); intro v355 w24 ho25 hb hg_ hnew_; clear hg_ hnew_; (first | rw [← Ny354.out] at ho25 | (simp only [Int.reduceToNat] at ho25; rw [← Ny354.out] at ho25)); have n0_ := ak_ (Kd.R_lower ho25 (keep_size (w := w) (g := g) (row := none) (by repeat (first | (with_reducible first | exact HK.out | apply KeepBut.set_ | apply keep_drewN | apply keep_drew | apply keep_alloc | refine keep_far ?_ GW345.out _) | exact HK.out)))); have n1_ := ak_ (blk_below (g := gb345) (o := .cells #[.int .i64 0, .int .i64 0, .string (⟨#[]⟩ : ByteArray)] 26 (0, 0)) (by (with_reducible repeat (first | refine bk_n ?_ _ | refine bk_d ?_ | refine bk_a ?_ _)); exact BK345.out) hb); have n2_ := ak_ (IsS66.below (by repeat (first | (with_reducible first | exact HI0.out | apply IsS66.alloc | apply IsS66.drewN | apply IsS66.drew | apply IsS66.set_1 | refine IsS66.far ?_ NB0_345.out _) | exact HI0.out)) hb); have n3_ := ak_ (KeepBut.trans (by repeat (first | (with_reducible first | exact HK.out | apply KeepBut.set_ | apply keep_drewN | apply keep_drew | apply keep_alloc | refine keep_far ?_ GW345.out _) | exact HK.out)) (KeepBut.of_below hb g none) (.inl rfl)); have n4_ := ak_ (below_step (by repeat (first | (with_reducible first | exact HB.out | apply bl_a | apply bl_n | apply bl_d | refine below_set ?_ (IsS66.ge HI0.out) | refine below_set ?_ GE345.out) | exact HB.out)) hb); clear BK345; clear HI0; clear HK; clear HB; have HO356 := n0_; have BK345 := n1_; have HI0 := n2_; have HK := n3_; have HB := n4_; clear n0_ n1_ n2_ n3_ n4_; clear hb ho25; obtain ⟨Ao26, co26, eo26⟩ := Kd.R_slice HO356.out; subst eo26; have p357 : 0 ≤ (t346 : Int) := of_decide_eq_true (by first | (with_reducible assumption) | assumption); have q357 : t346 < (y354.length : Int) := of_decide_eq_true (by first | (with_reducible assumption) | assumption); obtain ⟨ad357, e357, hx357_0⟩ := Kd.at_int (Kd.R_reads' HO356.out).2.2 t346 p357 q357; cases e357; replace p357 := eq_true p357; replace q357 := eq_true q357; have hnb27 := NB345_0.out; have hnc27 := NB0_345.out; have hcz28_0 : w24.cell? ⟨gb345, 0, none⟩ = some (.int .i64 0) := (blk_cell BK345.out 0).trans rfl; have hcz28_1 : w24.cell? ⟨gb345, 1, none⟩ = some (.int .i64 0) := (blk_cell BK345.out 1).trans rfl; have hcz28_2 : w24.cell? ⟨gb345, 2, none⟩ = some (.string (⟨#[]⟩ : ByteArray)) := (blk_cell BK345.out 2).trans rfl; have hfz28_0 := blk_frozen BK345.out 0; have hfz28_1 := blk_frozen BK345.out 1; have hfz28_2 := blk_frozen BK345.out 2))
        refine bodyPost_ret (results_cell_row rfl _ _ gb345 26 #[.int .i64 a1, .int .i64 (rd y354 t346), .string (⟨#[]⟩ : ByteArray)] (0, 0) _ rfl (by (with_reducible repeat (first | refine bk_n ?_ _ | refine bk_d ?_ | refine bk_a ?_ _)); refine blk_put (cs := #[.int .i64 a1, .int .i64 (rd y354 t346), .string (⟨#[]⟩ : ByteArray)]) ?_ 2 _ rfl; (with_reducible repeat (first | refine bk_n ?_ _ | refine bk_d ?_ | refine bk_a ?_ _)); refine blk_put (cs := #[.int .i64 a1, .int .i64 0, .string (⟨#[]⟩ : ByteArray)]) ?_ 1 _ rfl; (with_reducible repeat (first | refine bk_n ?_ _ | refine bk_d ?_ | refine bk_a ?_ _)); refine blk_put (cs := #[.int .i64 0, .int .i64 0, .string (⟨#[]⟩ : ByteArray)]) ?_ 0 _ rfl; (with_reducible repeat (first | refine bk_n ?_ _ | refine bk_d ?_ | refine bk_a ?_ _)); exact BK345.out) Tryd.underlying26 rfl (by kernel_rfl)) rfl ?_
        exact ⟨by first | rfl | (simp [errW_none, errW_some] <;> rfl) | (simp [*, errW_none, errW_some] <;> rfl), by repeat (first | (with_reducible first | exact HI0.out | apply IsS66.alloc | apply IsS66.drewN | apply IsS66.drew | apply IsS66.set_1 | refine IsS66.far ?_ NB0_345.out _) | exact HI0.out), by repeat (first | (with_reducible first | exact HB.out | apply bl_a | apply bl_n | apply bl_d | refine below_set ?_ (IsS66.ge HI0.out) | refine below_set ?_ GE345.out) | exact HB.out), by repeat (first | (with_reducible first | exact HK.out | apply KeepBut.set_ | apply keep_drewN | apply keep_drew | apply keep_alloc | refine keep_far ?_ GW345.out _) | exact HK.out)⟩
       ·
        rw [if_neg c23] at H
        exact absurd H (by simp)
      ·
       rw [if_neg c22] at H
       exact absurd H (by simp)
     ·
      rw [if_neg c21] at H
      have c21b0 : (a1 == 2) = false := beq_eq_false_iff_ne.mpr c21
      have c21b1 : (a1 != 2) = true := bne_iff_ne.mpr c21
      by_cases c29 : a1 = 3
      ·
       rw [if_pos c29] at H
       have c29b0 : (a1 == 3) = true := beq_iff_eq.mpr c29
       have c29b1 : (a1 != 3) = false := bne_eq_false_iff_eq.mpr c29
       clear c29
       simp only [Option.some.injEq, Prod.mk.injEq] at H
       obtain ⟨rfl, rfl, rfl, rfl⟩ := H
       have hnb30 := NB345_0.out
       have hnc30 := NB0_345.out
       have hcz31_0 : wc.cell? ⟨gb345, 0, none⟩ = some (.int .i64 0) := (blk_cell BK345.out 0).trans rfl
       have hcz31_1 : wc.cell? ⟨gb345, 1, none⟩ = some (.int .i64 0) := (blk_cell BK345.out 1).trans rfl
       have hcz31_2 : wc.cell? ⟨gb345, 2, none⟩ = some (.string (⟨#[]⟩ : ByteArray)) := (blk_cell BK345.out 2).trans rfl
       have hfz31_0 := blk_frozen BK345.out 0
       have hfz31_1 := blk_frozen BK345.out 1
       have hfz31_2 := blk_frozen BK345.out 2
       go_wp2
       refine bodyPost_ret (results_cell_row rfl _ _ gb345 26 #[.int .i64 a1, .int .i64 (Int.tmod t346 2), .string (⟨#[]⟩ : ByteArray)] (0, 0) _ rfl (by (with_reducible repeat (first | refine bk_n ?_ _ | refine bk_d ?_ | refine bk_a ?_ _)); refine blk_put (cs := #[.int .i64 a1, .int .i64 (Int.tmod t346 2), .string (⟨#[]⟩ : ByteArray)]) ?_ 2 _ rfl; (with_reducible repeat (first | refine bk_n ?_ _ | refine bk_d ?_ | refine bk_a ?_ _)); refine blk_put (cs := #[.int .i64 a1, .int .i64 0, .string (⟨#[]⟩ : ByteArray)]) ?_ 1 _ rfl; (with_reducible repeat (first | refine bk_n ?_ _ | refine bk_d ?_ | refine bk_a ?_ _)); refine blk_put (cs := #[.int .i64 0, .int .i64 0, .string (⟨#[]⟩ : ByteArray)]) ?_ 0 _ rfl; (with_reducible repeat (first | refine bk_n ?_ _ | refine bk_d ?_ | refine bk_a ?_ _)); exact BK345.out) Tryd.underlying26 rfl (by kernel_rfl)) rfl ?_
       exact ⟨by first | rfl | (simp [errW_none, errW_some] <;> rfl) | (simp [*, errW_none, errW_some] <;> rfl), by repeat (first | (with_reducible first | exact HI0.out | apply IsS66.alloc | apply IsS66.drewN | apply IsS66.drew | apply IsS66.set_1 | refine IsS66.far ?_ NB0_345.out _) | exact HI0.out), by repeat (first | (with_reducible first | exact HB.out | apply bl_a | apply bl_n | apply bl_d | refine below_set ?_ (IsS66.ge HI0.out) | refine below_set ?_ GE345.out) | exact HB.out), by repeat (first | (with_reducible first | exact HK.out | apply KeepBut.set_ | apply keep_drewN | apply keep_drew | apply keep_alloc | refine keep_far ?_ GW345.out _) | exact HK.out)⟩
      ·
       rw [if_neg c29] at H
       have c29b0 : (a1 == 3) = false := beq_eq_false_iff_ne.mpr c29
       have c29b1 : (a1 != 3) = true := bne_iff_ne.mpr c29
       obtain ⟨y358, hy358⟩ : ∃ y_ : List ByteArray, y_ = (([(⟨#[]⟩ : ByteArray), (⟨#[97]⟩ : ByteArray), (⟨#[98]⟩ : ByteArray), (⟨#[97, 58, 98]⟩ : ByteArray), (⟨#[97, 98]⟩ : ByteArray), (⟨#[120, 58, 121, 58, 122]⟩ : ByteArray), (⟨#[58]⟩ : ByteArray), (⟨#[116, 119, 101, 110, 116, 121, 45, 98, 121, 116, 101, 115, 45, 111, 102, 45, 116, 101, 120, 116]⟩ : ByteArray), (⟨#[99]⟩ : ByteArray)] : List ByteArray)) := ⟨_, rfl⟩
       replace H : (if 0 ≤ t346 then (if t346 < (y358.length : Int) then (some (4, 0, rdOf ByteArray.empty y358 t346, x1001_3)) else (none)) else (none)) = some (r1, r2, r3, r4) := by first | (rw [hy358]; with_reducible exact H) | (have H2_ := (Option.bind_some _ _).symm.trans H; rw [hy358]; with_reducible exact H2_) | (have H2_ := (Option.bind_some _ _).symm.trans H; with_reducible exact H2_) | with_reducible exact H | (rw [hy358]; exact H) | exact H
       have Ny358 := ak_ hy358
       clear hy358
       by_cases c32 : 0 ≤ t346
       ·
        rw [if_pos c32] at H
        have c32b0 : decide (0 ≤ t346) = true := decide_eq_true c32
        clear c32
        by_cases c33 : t346 < (y358.length : Int)
        ·
         rw [if_pos c33] at H
         have c33b0 : decide (t346 < (y358.length : Int)) = true := decide_eq_true c33
         clear c33
         simp only [Option.some.injEq, Prod.mk.injEq] at H
         obtain ⟨rfl, rfl, rfl, rfl⟩ := H
         go_wp2_with (first | ((with_reducible refine gate_dst (N := 39) rfl ?_); refine Kd.R_lit Kd.string _ 9 ?hg (N := 39) ?hd (xs := ([(⟨#[]⟩ : ByteArray), (⟨#[97]⟩ : ByteArray), (⟨#[98]⟩ : ByteArray), (⟨#[97, 58, 98]⟩ : ByteArray), (⟨#[97, 98]⟩ : ByteArray), (⟨#[120, 58, 121, 58, 122]⟩ : ByteArray), (⟨#[58]⟩ : ByteArray), (⟨#[116, 119, 101, 110, 116, 121, 45, 98, 121, 116, 101, 115, 45, 111, 102, 45, 116, 101, 120, 116]⟩ : ByteArray), (⟨#[99]⟩ : ByteArray)] : List ByteArray)) (inner := [.string (⟨#[]⟩ : ByteArray), .string (⟨#[97]⟩ : ByteArray), .string (⟨#[98]⟩ : ByteArray), .string (⟨#[97, 58, 98]⟩ : ByteArray), .string (⟨#[97, 98]⟩ : ByteArray), .string (⟨#[120, 58, 121, 58, 122]⟩ : ByteArray), .string (⟨#[58]⟩ : ByteArray), .string (⟨#[116, 119, 101, 110, 116, 121, 45, 98, 121, 116, 101, 115, 45, 111, 102, 45, 116, 101, 120, 116]⟩ : ByteArray), .string (⟨#[99]⟩ : ByteArray)]) (ok := fun _ => True) (okp := fun _ => True) ?hr ?hp (fun _ hk => hk) trivial (Below.refl _ _) (Nat.le_refl _) (by simp) ?_; (case hd => rfl); (case hg => rfl); (case hr => first | (go_simp; done) | (go_simp; rfl)); (case hp => exact (Reps.one (show Kd.M Kd.string _ _ _ (⟨#[]⟩ : ByteArray) [.string (⟨#[]⟩ : ByteArray)] from rfl) (Reps.one (show Kd.M Kd.string _ _ _ (⟨#[97]⟩ : ByteArray) [.string (⟨#[97]⟩ : ByteArray)] from rfl) (Reps.one (show Kd.M Kd.string _ _ _ (⟨#[98]⟩ : ByteArray) [.string (⟨#[98]⟩ : ByteArray)] from rfl) (Reps.one (show Kd.M Kd.string _ _ _ (⟨#[97, 58, 98]⟩ : ByteArray) [.string (⟨#[97, 58, 98]⟩ : ByteArray)] from rfl) (Reps.one (show Kd.M Kd.string _ _ _ (⟨#[97, 98]⟩ : ByteArray) [.string (⟨#[97, 98]⟩ : ByteArray)] from rfl) (Reps.one (show Kd.M Kd.string _ _ _ (⟨#[120, 58, 121, 58, 122]⟩ : ByteArray) [.string (⟨#[120, 58, 121, 58, 122]⟩ : ByteArray)] from rfl) (Reps.one (show Kd.M Kd.string _ _ _ (⟨#[58]⟩ : ByteArray) [.string (⟨#[58]⟩ : ByteArray)] from rfl) (Reps.one (show Kd.M Kd.string _ _ _ (⟨#[116, 119, 101, 110, 116, 121, 45, 98, 121, 116, 101, 115, 45, 111, 102, 45, 116, 101, 120, 116]⟩ : ByteArray) [.string (⟨#[116, 119, 101, 110, 116, 121, 45, 98, 121, 116, 101, 115, 45, 111, 102, 45, 116, 101, 120, 116]⟩ : ByteArray)] from rfl) (Reps.one (show Kd.M Kd.string _ _ _ (⟨#[99]⟩ : ByteArray) [.string (⟨#[99]⟩ : ByteArray)] from rfl) (Reps.none _ _))))))))))); intro v359 w34 ho35 hb hg_ hnew_; clear hg_ hnew_; (first | rw [← Ny358.out] at ho35 | (simp only [Int.reduceToNat] at ho35; rw [← Ny358.out] at ho35)); have n0_ := ak_ (Kd.R_lower ho35 (keep_size (w := w) (g := g) (row := none) (by repeat (first | (with_reducible first | exact HK.out | apply KeepBut.set_ | apply keep_drewN | apply keep_drew | apply keep_alloc | refine keep_far ?_ GW345.out _) | exact HK.out)))); have n1_ := ak_ (blk_below (g := gb345) (o := .cells #[.int .i64 0, .int .i64 0, .string (⟨#[]⟩ : ByteArray)] 26 (0, 0)) (by (with_reducible repeat (first | refine bk_n ?_ _ | refine bk_d ?_ | refine bk_a ?_ _)); exact BK345.out) hb); have n2_ := ak_ (IsS66.below (by repeat (first | (with_reducible first | exact HI0.out | apply IsS66.alloc | apply IsS66.drewN | apply IsS66.drew | apply IsS66.set_1 | refine IsS66.far ?_ NB0_345.out _) | exact HI0.out)) hb); have n3_ := ak_ (KeepBut.trans (by repeat (first | (with_reducible first | exact HK.out | apply KeepBut.set_ | apply keep_drewN | apply keep_drew | apply keep_alloc | refine keep_far ?_ GW345.out _) | exact HK.out)) (KeepBut.of_below hb g none) (.inl rfl)); have n4_ := ak_ (below_step (by repeat (first | (with_reducible first | exact HB.out | apply bl_a | apply bl_n | apply bl_d | refine below_set ?_ (IsS66.ge HI0.out) | refine below_set ?_ GE345.out) | exact HB.out)) hb); clear BK345; clear HI0; clear HK; clear HB; have HO360 := n0_; have BK345 := n1_; have HI0 := n2_; have HK := n3_; have HB := n4_; clear n0_ n1_ n2_ n3_ n4_; clear hb ho35; obtain ⟨Ao36, co36, eo36⟩ := Kd.R_slice HO360.out; subst eo36; have p361 : 0 ≤ (t346 : Int) := of_decide_eq_true (by first | (with_reducible assumption) | assumption); have q361 : t346 < (y358.length : Int) := of_decide_eq_true (by first | (with_reducible assumption) | assumption); obtain ⟨ad361, e361, hx361_0⟩ := Kd.at_string (Kd.R_reads' HO360.out).2.2 t346 p361 q361; cases e361; replace p361 := eq_true p361; replace q361 := eq_true q361; have hnb37 := NB345_0.out; have hnc37 := NB0_345.out; have hcz38_0 : w34.cell? ⟨gb345, 0, none⟩ = some (.int .i64 0) := (blk_cell BK345.out 0).trans rfl; have hcz38_1 : w34.cell? ⟨gb345, 1, none⟩ = some (.int .i64 0) := (blk_cell BK345.out 1).trans rfl; have hcz38_2 : w34.cell? ⟨gb345, 2, none⟩ = some (.string (⟨#[]⟩ : ByteArray)) := (blk_cell BK345.out 2).trans rfl; have hfz38_0 := blk_frozen BK345.out 0; have hfz38_1 := blk_frozen BK345.out 1; have hfz38_2 := blk_frozen BK345.out 2))
         refine bodyPost_ret (results_cell_row rfl _ _ gb345 26 #[.int .i64 4, .int .i64 0, .string (rdOf ByteArray.empty y358 t346)] (0, 0) _ rfl (by (with_reducible repeat (first | refine bk_n ?_ _ | refine bk_d ?_ | refine bk_a ?_ _)); refine blk_put (cs := #[.int .i64 4, .int .i64 0, .string (⟨#[]⟩ : ByteArray)]) ?_ 2 _ rfl; (with_reducible repeat (first | refine bk_n ?_ _ | refine bk_d ?_ | refine bk_a ?_ _)); refine blk_put (cs := #[.int .i64 4, .int .i64 0, .string (⟨#[]⟩ : ByteArray)]) ?_ 1 _ rfl; (with_reducible repeat (first | refine bk_n ?_ _ | refine bk_d ?_ | refine bk_a ?_ _)); refine blk_put (cs := #[.int .i64 0, .int .i64 0, .string (⟨#[]⟩ : ByteArray)]) ?_ 0 _ rfl; (with_reducible repeat (first | refine bk_n ?_ _ | refine bk_d ?_ | refine bk_a ?_ _)); exact BK345.out) Tryd.underlying26 rfl (by kernel_rfl)) rfl ?_
         exact ⟨by first | rfl | (simp [errW_none, errW_some] <;> rfl) | (simp [*, errW_none, errW_some] <;> rfl), by repeat (first | (with_reducible first | exact HI0.out | apply IsS66.alloc | apply IsS66.drewN | apply IsS66.drew | apply IsS66.set_1 | refine IsS66.far ?_ NB0_345.out _) | exact HI0.out), by repeat (first | (with_reducible first | exact HB.out | apply bl_a | apply bl_n | apply bl_d | refine below_set ?_ (IsS66.ge HI0.out) | refine below_set ?_ GE345.out) | exact HB.out), by repeat (first | (with_reducible first | exact HK.out | apply KeepBut.set_ | apply keep_drewN | apply keep_drew | apply keep_alloc | refine keep_far ?_ GW345.out _) | exact HK.out)⟩
        ·
         rw [if_neg c33] at H
         exact absurd H (by simp)
       ·
        rw [if_neg c32] at H
        exact absurd H (by simp)
def rabbetlaw6_some.l0 : Nat → Int → Int → List (S26) → Int → List Int → Int → Option ((List (S26)))
 | 0, _, _, _, _, _, _ => none
 | k + 1, x1, x2, x8, x9, x365000, x365001 => if x9 < x2 then ((rabbetplay_Picks_Value.f k x365000 x365001 x1).bind fun bt365 => (if bt365.1 = 0 then (rabbetlaw6_some.l0 k x1 x2 x8 (wrap64 (x9 + 1)) x365000 bt365.2.2.2) else (if x8.length < 4398046511104 then (rabbetlaw6_some.l0 k x1 x2 (x8 ++ [(⟨bt365.1, bt365.2.1, bt365.2.2.1⟩ : S26)]) (wrap64 (x9 + 1)) x365000 bt365.2.2.2) else (none)))) else (some x8)
def rabbetlaw6_some.f (k : Nat) (l0 : List Int) (a1 : Int) (a2 : Int) : Option ((List (S26))) := (rabbetplay_Made.f l0).bind fun bt362 => (rabbetlaw6_some.l0 k a1 a2 ([] : List (S26)) 0 bt362.1 bt362.2)
theorem rabbetlaw6_some.mono_l : ∀ k, (∀ y0 y1 y2 y3 y4 y5, LeO (rabbetlaw6_some.l0 k y0 y1 y2 y3 y4 y5) (rabbetlaw6_some.l0 (k + 1) y0 y1 y2 y3 y4 y5))
 | 0 => fun _ _ _ _ _ _ r h => by simp [rabbetlaw6_some.l0] at h
 | k + 1 => by
  have ih0 := rabbetlaw6_some.mono_l k
  ·
   intro y0 y1 y2 y3 y4 y5
   unfold rabbetlaw6_some.l0
   repeat' first
   | (with_reducible exact ih0 _ _ _ _ _ _)
   | (with_reducible exact rabbetplay_Picks_Value.mono _ _ _ _)
   | (with_reducible exact LeO.refl _)
   | (with_reducible exact LeO.none _)
   | (with_reducible refine LeO.ite ?_ ?_)
   | (with_reducible refine LeO.bind ?_ (fun _ => ?_))
   | exact ih0 _ _ _ _ _ _
   | exact rabbetplay_Picks_Value.mono _ _ _ _
   | exact LeO.none _
   | refine LeO.ite ?_ ?_
   | refine LeO.bind ?_ (fun _ => ?_)
theorem rabbetlaw6_some.mono : ∀ a0 a1 a2 k, LeO (rabbetlaw6_some.f k a0 a1 a2) (rabbetlaw6_some.f (k + 1) a0 a1 a2) := by
 intro a0 a1 a2 k
 have ih0 := rabbetlaw6_some.mono_l k
 unfold rabbetlaw6_some.f
 repeat' first
   | (with_reducible exact ih0 _ _ _ _ _ _)
   | (with_reducible exact rabbetplay_Picks_Value.mono _ _ _ _)
   | (with_reducible exact LeO.refl _)
   | (with_reducible exact LeO.none _)
   | (with_reducible refine LeO.ite ?_ ?_)
   | (with_reducible refine LeO.bind ?_ (fun _ => ?_))
   | exact ih0 _ _ _ _ _ _
   | exact rabbetplay_Picks_Value.mono _ _ _ _
   | exact LeO.none _
   | refine LeO.ite ?_ ?_
   | refine LeO.bind ?_ (fun _ => ?_)
set_option maxHeartbeats 8000000 in
set_option maxRecDepth 100000 in
theorem rabbetlaw6_some.calls (k : Nat) (A0 : Option Addr) (c0 : Nat) (l0 : List Int) (a1 : Int) (a2 : Int) (r : List (S26)) (w : World) (hr0 : Kd.C (Kd.int .u8) w A0 l0.length l0) (hc0 : l0.length ≤ c0) (h : rabbetlaw6_some.f k l0 a1 a2 = some r) :
  Calls Tryd.prog 23 #[.slice A0 l0.length c0, .int .i64 a1, .int .i64 a2] w fun e w' => ∃ v0_ : Value, e = .returned (v0_) ∧ Kd.R k26 26 w' w.heap.size (fun _ => True) v0_ r ∧ Below w.heap.size w w' := by
 have hu26 := Tryd.underlying26
 have HR0 := ak_ hr0
 have HC0 := ak_ hc0
 clear hr0 hc0
 have HB := ak_ (Below.refl w.heap.size w)
 have H : ((rabbetplay_Made.f l0).bind fun bt362 => (rabbetlaw6_some.l0 k a1 a2 ([] : List (S26)) 0 bt362.1 bt362.2)) = some r := h
 clear h
 replace H := Option.bind_eq_some_iff.mp H
 obtain ⟨⟨t362, t363⟩, A40, H⟩ := H
 replace H : (rabbetlaw6_some.l0 k a1 a2 ([] : List (S26)) 0 t362 t363) = some r := H
 have A4 := ak_ A40
 clear A40
 have H' := ak_ H
 clear H
 go_enter Tryd.func23, Tryd.ntmps23
 go_wp2_with (first | ((with_reducible refine gate_callee (f := 26) rfl ?_); refine goesL_ (some 12) rfl rfl Tryd.func26 (by kernel_rfl) rfl #[.slice A0 l0.length c0] rfl (by (try simp only [List.map_toArray, List.map_cons, List.map_nil]); first | done | rfl | (simp only [List.length_drop, List.length_take]; rfl)) ?_; (with_reducible refine (rabbetplay_Made.calls _ _ l0 t362 t363 w _ ?side1 ?side2 ?side3 A4.out).mono ?_); (case side1 => repeat (first | (with_reducible first | exact HB.out | apply bl_a | apply bl_n | apply bl_d) | exact HB.out)); (case side2 => exact HR0.out); (case side3 => exact HC0.out); rintro e w5 ⟨g364, rfl, hi, hb, hb2⟩; refine ⟨_, rfl, ?_⟩; have n0_ := ak_ (hb); have n1_ := ak_ (hi); clear HB; have HB := n0_; have HI364 := n1_; clear n0_ n1_; (try clear hb); (try clear hb2); (try clear hk); (try clear hi)))
 go_loopg [8, 9] k (fun kq v8 v9 w' => ∃ (x8_1 : List (S26)) (x9_1 : Int) (x365001_1 : Int), v9 = .int .i64 x9_1 ∧ Aside0 (rabbetlaw6_some.l0 kq a1 a2 x8_1 x9_1 t362 x365001_1 = some r) ∧ Aside0 (kq ≤ k) ∧ Aside0 (Kd.R k26 26 w' w.heap.size (fun _ => True) v8 x8_1) ∧ Aside0 (IsS66 w w' g364 t362 x365001_1) ∧ Aside0 (Below w.heap.size w w'))
 case atStart => exact ⟨(([] : List (S26))), (0), (t363), (by first | rfl | (simp; done) | (simp [*]; done)), H', ⟨Nat.le_refl _⟩, ⟨by first | exact Kd.R_nil _ _ _ _ _ | exact Kd.N_nil _ _ _ _ _ | exact Kd.V_nil _ _ _ _ _ | exact Kd.Q_nil _ _ _ _ _ | exact Kd.S_nil _ _ _ _ _⟩, ⟨by repeat (first | (with_reducible first | exact HI364.out | apply IsS66.alloc | apply IsS66.drewN | apply IsS66.drew | apply IsS66.set_1) | exact HI364.out)⟩, ⟨by repeat (first | (with_reducible first | exact HB.out | apply bl_a | apply bl_n | apply bl_d | refine below_set ?_ (IsS66.ge HI364.out)) | exact HB.out)⟩⟩
 case round =>
  clear H'
  try clear c2
  try clear p2
  obtain ⟨x8_1, x9_1, x365001_1, rfl, HA, HK1, HO_8, HI364, HB⟩ := hrel
  cases gk with
  | zero => exact absurd HA.out (by simp [rabbetlaw6_some.l0])
  | succ k1 =>
   have H := HA.out
   clear HA
   simp only [rabbetlaw6_some.l0] at H
   by_cases c6 : x9_1 < a2
   ·
    rw [if_pos c6] at H
    have c6b0 : decide (x9_1 < a2) = true := decide_eq_true c6
    clear c6
    replace H := Option.bind_eq_some_iff.mp H
    obtain ⟨⟨t365, t366, t367, t368⟩, A70, H⟩ := H
    replace H : (if t365 = 0 then (rabbetlaw6_some.l0 k1 a1 a2 x8_1 (wrap64 (x9_1 + 1)) t362 t368) else (if x8_1.length < 4398046511104 then (rabbetlaw6_some.l0 k1 a1 a2 (x8_1 ++ [(⟨t365, t366, t367⟩ : S26)]) (wrap64 (x9_1 + 1)) t362 t368) else (none))) = some r := H
    have A7 := ak_ A70
    clear A70
    by_cases c8 : t365 = 0
    ·
     rw [if_pos c8] at H
     have c8b0 : (t365 == 0) = true := beq_iff_eq.mpr c8
     have c8b1 : (t365 != 0) = false := bne_eq_false_iff_eq.mpr c8
     clear c8
     have H' := ak_ H
     clear H
     go_wp2_with (first | ((with_reducible refine gate_callee (f := 27) rfl ?_); refine goesL_ (some 20) rfl rfl Tryd.func27 (by kernel_rfl) rfl #[.pointer (some ⟨g364, 0, none⟩), .int .i64 a1] rfl (by (try simp only [List.map_toArray, List.map_cons, List.map_nil]); first | done | rfl | (simp only [List.length_drop, List.length_take]; rfl)) ?_; (with_reducible refine (rabbetplay_Picks_Value.calls k1 g364 t362 x365001_1 a1 t365 t366 t367 t368 w _ ?side1 ?side2 A7.out).mono ?_); (case side1 => repeat (first | (with_reducible first | exact HI364.out | apply IsS66.alloc | apply IsS66.drewN | apply IsS66.drew | apply IsS66.set_1) | exact HI364.out)); (case side2 => repeat (first | (with_reducible first | exact HB.out | apply bl_a | apply bl_n | apply bl_d | refine below_set ?_ (IsS66.ge HI364.out)) | exact HB.out)); rintro e w9 ⟨rfl, hi, hb, hk⟩; refine ⟨_, rfl, ?_⟩; have n0_ := ak_ (Kd.R_mono (Kd.R_keep (IsS66.apart (show IsS66 w _ g364 t362 x365001_1 from by repeat (first | (with_reducible first | exact HI364.out | apply IsS66.alloc | apply IsS66.drewN | apply IsS66.drew | apply IsS66.set_1) | exact HI364.out)) (by (with_reducible repeat (first | apply Kd.R_alloc | apply Kd.R_drewN | apply Kd.R_drew)); exact HO_8.out) (by decide)) hk (fun _ h => h.2)) (fun _ h => h.1)); have n1_ := ak_ (hb); have n2_ := ak_ (hi); clear HO_8; clear HB; clear HI364; have HO_8 := n0_; have HB := n1_; have HI364 := n2_; clear n0_ n1_ n2_; (try clear hb); (try clear hb2); (try clear hk); (try clear hi)) | ((with_reducible refine gate_dst (N := 10) rfl ?_); refine box_event ?hg (N := 10) ?hd (cs := #[.int .i64 0, .int .i64 0, .string (⟨#[]⟩ : ByteArray)]) (t := 26) ?hr ?_; (case hd => rfl); (case hg => rfl); (case hr => first | (go_simp; done) | (go_simp; rfl)); intro gb369 hg w10 hbox hb; have n0_ := ak_ (Kd.R_below (Kd.R_elderB (by (with_reducible repeat (first | apply Kd.R_alloc | apply Kd.R_drewN | apply Kd.R_drew)); exact HO_8.out) gb369 (Nat.le_of_eq hg.symm)) hb); have n1_ := ak_ (IsS66.below (by repeat (first | (with_reducible first | exact HI364.out | apply IsS66.alloc | apply IsS66.drewN | apply IsS66.drew | apply IsS66.set_1) | exact HI364.out)) hb); have n2_ := ak_ (below_step (by repeat (first | (with_reducible first | exact HB.out | apply bl_a | apply bl_n | apply bl_d | refine below_set ?_ (IsS66.ge HI364.out)) | exact HB.out)) hb); have n3_ := ak_ (hbox); have n4_ := ak_ ((by rw [hg]; exact (below_size (by repeat (first | (with_reducible first | exact HB.out | apply bl_a | apply bl_n | apply bl_d | refine below_set ?_ (IsS66.ge HI364.out)) | exact HB.out))) : w.heap.size ≤ gb369)); have n5_ := ak_ ((by rw [hg]; exact (below_size (by repeat (first | (with_reducible first | exact HB.out | apply bl_a | apply bl_n | apply bl_d | refine below_set ?_ (IsS66.ge HI364.out)) | exact HB.out))) : w.heap.size ≤ gb369)); have n6_ := ak_ ((by rw [hg]; exact Nat.ne_of_lt (IsS66.lt (show IsS66 w _ g364 t362 t368 from by repeat (first | (with_reducible first | exact HI364.out | apply IsS66.alloc | apply IsS66.drewN | apply IsS66.drew | apply IsS66.set_1) | exact HI364.out))) : g364 ≠ gb369)); have n7_ := ak_ ((by rw [hg]; exact Nat.ne_of_gt (IsS66.lt (show IsS66 w _ g364 t362 t368 from by repeat (first | (with_reducible first | exact HI364.out | apply IsS66.alloc | apply IsS66.drewN | apply IsS66.drew | apply IsS66.set_1) | exact HI364.out))) : gb369 ≠ g364)); clear HO_8; clear HI364; clear HB; have HO_8 := n0_; have HI364 := n1_; have HB := n2_; have BK369 := n3_; have GW369 := n4_; have GE369 := n5_; have NB364_369 := n6_; have NB369_364 := n7_; clear n0_ n1_ n2_ n3_ n4_ n5_ n6_ n7_; clear hb hbox hg; have hnb11 := NB369_364.out; have hnc11 := NB364_369.out; have hcz12_0 : w10.cell? ⟨gb369, 0, none⟩ = some (.int .i64 0) := (blk_cell BK369.out 0).trans rfl; have hcz12_1 : w10.cell? ⟨gb369, 1, none⟩ = some (.int .i64 0) := (blk_cell BK369.out 1).trans rfl; have hcz12_2 : w10.cell? ⟨gb369, 2, none⟩ = some (.string (⟨#[]⟩ : ByteArray)) := (blk_cell BK369.out 2).trans rfl; have hfz12_0 := blk_frozen BK369.out 0; have hfz12_1 := blk_frozen BK369.out 1; have hfz12_2 := blk_frozen BK369.out 2))
     go_roundg k1
     case measure => have := HK1.out; omega
     case rel => exact ⟨(x8_1), (wrap64 (x9_1 + 1)), (t368), (by first | rfl | (simp; done) | (simp [*]; done)), H', ⟨by have := HK1.out; omega⟩, ⟨by (with_reducible repeat (first | apply Kd.R_alloc | apply Kd.R_drewN | apply Kd.R_drew)); exact Kd.R_mono (Kd.R_far (p := ⟨gb369, 2, none⟩) (Kd.R_far (p := ⟨gb369, 1, none⟩) (Kd.R_far (p := ⟨gb369, 0, none⟩) (Kd.R_mono HO_8.out (fun k_ hk => (⟨hk, hk.2⟩ : _ ∧ k_ ≠ gb369))) (fun _ hk => hk.2) (.int .i64 t365)) (fun _ hk => hk.2) (.int .i64 t366)) (fun _ hk => hk.2) (.string t367)) (fun _ hk => trivial)⟩, ⟨by repeat (first | (with_reducible first | exact HI364.out | apply IsS66.alloc | apply IsS66.drewN | apply IsS66.drew | apply IsS66.set_1 | refine IsS66.far ?_ NB364_369.out _) | exact HI364.out)⟩, ⟨by repeat (first | (with_reducible first | exact HB.out | apply bl_a | apply bl_n | apply bl_d | refine below_set ?_ (IsS66.ge HI364.out) | refine below_set ?_ GE369.out) | exact HB.out)⟩⟩
    ·
     rw [if_neg c8] at H
     have c8b0 : (t365 == 0) = false := beq_eq_false_iff_ne.mpr c8
     have c8b1 : (t365 != 0) = true := bne_iff_ne.mpr c8
     by_cases c13 : x8_1.length < 4398046511104
     ·
      rw [if_pos c13] at H
      have LMc13 := ak_ c13
      clear c13
      obtain ⟨y370, hy370⟩ : ∃ y_ : List (S26), y_ = (x8_1 ++ [(⟨t365, t366, t367⟩ : S26)]) := ⟨_, rfl⟩
      replace H : (rabbetlaw6_some.l0 k1 a1 a2 y370 (wrap64 (x9_1 + 1)) t362 t368) = some r := by first | (rw [hy370]; with_reducible exact H) | (have H2_ := (Option.bind_some _ _).symm.trans H; rw [hy370]; with_reducible exact H2_) | (have H2_ := (Option.bind_some _ _).symm.trans H; with_reducible exact H2_) | with_reducible exact H | (rw [hy370]; exact H) | exact H
      have Ny370 := ak_ hy370
      clear hy370
      have H' := ak_ H
      clear H
      go_wp2_with (first | ((with_reducible refine gate_callee (f := 27) rfl ?_); refine goesL_ (some 20) rfl rfl Tryd.func27 (by kernel_rfl) rfl #[.pointer (some ⟨g364, 0, none⟩), .int .i64 a1] rfl (by (try simp only [List.map_toArray, List.map_cons, List.map_nil]); first | done | rfl | (simp only [List.length_drop, List.length_take]; rfl)) ?_; (with_reducible refine (rabbetplay_Picks_Value.calls k1 g364 t362 x365001_1 a1 t365 t366 t367 t368 w _ ?side1 ?side2 A7.out).mono ?_); (case side1 => repeat (first | (with_reducible first | exact HI364.out | apply IsS66.alloc | apply IsS66.drewN | apply IsS66.drew | apply IsS66.set_1) | exact HI364.out)); (case side2 => repeat (first | (with_reducible first | exact HB.out | apply bl_a | apply bl_n | apply bl_d | refine below_set ?_ (IsS66.ge HI364.out)) | exact HB.out)); rintro e w14 ⟨rfl, hi, hb, hk⟩; refine ⟨_, rfl, ?_⟩; have n0_ := ak_ (Kd.R_mono (Kd.R_keep (IsS66.apart (show IsS66 w _ g364 t362 x365001_1 from by repeat (first | (with_reducible first | exact HI364.out | apply IsS66.alloc | apply IsS66.drewN | apply IsS66.drew | apply IsS66.set_1) | exact HI364.out)) (by (with_reducible repeat (first | apply Kd.R_alloc | apply Kd.R_drewN | apply Kd.R_drew)); exact HO_8.out) (by decide)) hk (fun _ h => h.2)) (fun _ h => h.1)); have n1_ := ak_ (hb); have n2_ := ak_ (hi); clear HO_8; clear HB; clear HI364; have HO_8 := n0_; have HB := n1_; have HI364 := n2_; clear n0_ n1_ n2_; (try clear hb); (try clear hb2); (try clear hk); (try clear hi)) | ((with_reducible refine gate_dst (N := 10) rfl ?_); refine box_event ?hg (N := 10) ?hd (cs := #[.int .i64 0, .int .i64 0, .string (⟨#[]⟩ : ByteArray)]) (t := 26) ?hr ?_; (case hd => rfl); (case hg => rfl); (case hr => first | (go_simp; done) | (go_simp; rfl)); intro gb369 hg w15 hbox hb; have n0_ := ak_ (Kd.R_below (Kd.R_elderB (by (with_reducible repeat (first | apply Kd.R_alloc | apply Kd.R_drewN | apply Kd.R_drew)); exact HO_8.out) gb369 (Nat.le_of_eq hg.symm)) hb); have n1_ := ak_ (IsS66.below (by repeat (first | (with_reducible first | exact HI364.out | apply IsS66.alloc | apply IsS66.drewN | apply IsS66.drew | apply IsS66.set_1) | exact HI364.out)) hb); have n2_ := ak_ (below_step (by repeat (first | (with_reducible first | exact HB.out | apply bl_a | apply bl_n | apply bl_d | refine below_set ?_ (IsS66.ge HI364.out)) | exact HB.out)) hb); have n3_ := ak_ (hbox); have n4_ := ak_ ((by rw [hg]; exact (below_size (by repeat (first | (with_reducible first | exact HB.out | apply bl_a | apply bl_n | apply bl_d | refine below_set ?_ (IsS66.ge HI364.out)) | exact HB.out))) : w.heap.size ≤ gb369)); have n5_ := ak_ ((by rw [hg]; exact (below_size (by repeat (first | (with_reducible first | exact HB.out | apply bl_a | apply bl_n | apply bl_d | refine below_set ?_ (IsS66.ge HI364.out)) | exact HB.out))) : w.heap.size ≤ gb369)); have n6_ := ak_ ((by rw [hg]; exact Nat.ne_of_lt (IsS66.lt (show IsS66 w _ g364 t362 t368 from by repeat (first | (with_reducible first | exact HI364.out | apply IsS66.alloc | apply IsS66.drewN | apply IsS66.drew | apply IsS66.set_1) | exact HI364.out))) : g364 ≠ gb369)); have n7_ := ak_ ((by rw [hg]; exact Nat.ne_of_gt (IsS66.lt (show IsS66 w _ g364 t362 t368 from by repeat (first | (with_reducible first | exact HI364.out | apply IsS66.alloc | apply IsS66.drewN | apply IsS66.drew | apply IsS66.set_1) | exact HI364.out))) : gb369 ≠ g364)); clear HO_8; clear HI364; clear HB; have HO_8 := n0_; have HI364 := n1_; have HB := n2_; have BK369 := n3_; have GW369 := n4_; have GE369 := n5_; have NB364_369 := n6_; have NB369_364 := n7_; clear n0_ n1_ n2_ n3_ n4_ n5_ n6_ n7_; clear hb hbox hg; have hnb16 := NB369_364.out; have hnc16 := NB364_369.out; have hcz17_0 : w15.cell? ⟨gb369, 0, none⟩ = some (.int .i64 0) := (blk_cell BK369.out 0).trans rfl; have hcz17_1 : w15.cell? ⟨gb369, 1, none⟩ = some (.int .i64 0) := (blk_cell BK369.out 1).trans rfl; have hcz17_2 : w15.cell? ⟨gb369, 2, none⟩ = some (.string (⟨#[]⟩ : ByteArray)) := (blk_cell BK369.out 2).trans rfl; have hfz17_0 := blk_frozen BK369.out 0; have hfz17_1 := blk_frozen BK369.out 1; have hfz17_2 := blk_frozen BK369.out 2) | ((with_reducible refine gate_builtin (b := .append) (xs := #[.tmp 24, .tmp 26]) rfl ?_); at_builtin; refine Kd.R_append k26 (w0 := w) w.heap.size rfl (.tmp 24) (.tmp 26) 23 26 (.agg #[(.int .i64 0), (.int .i64 0), (.string ⟨#[]⟩)]) 32 rfl Tryd.underlying23 info26 rfl (by decide) (by omega) u8 x8_1 (⟨t365, t366, t367⟩ : S26) [.int .i64 t365, .int .i64 t366, .string t367] (fun k_ => k_ ≠ gb369) (fun _ => False) rfl (by first | (go_simp; done) | (go_simp; rfl)) ?aP (fun _ hk => hk.elim) ?aF ?aO ?aB ?aS ?aL ?_; (case aP => exact k26_mkM _ _ _ (⟨t365, t366, t367⟩ : S26)); (case aB => exact (by repeat (first | (with_reducible first | exact HB.out | apply bl_a | apply bl_n | apply bl_d | refine below_set ?_ (IsS66.ge HI364.out) | refine below_set ?_ GE369.out) | exact HB.out))); (case aF => exact (fun k_ hk => Kd.freshB (g := gb369) (o := .cells #[.int .i64 t365, .int .i64 t366, .string t367] 26 (0, 0)) (by (with_reducible repeat (first | refine bk_n ?_ _ | refine bk_d ?_ | refine bk_a ?_ _)); refine blk_put (cs := #[.int .i64 t365, .int .i64 t366, .string (⟨#[]⟩ : ByteArray)]) ?_ 2 _ rfl; (with_reducible repeat (first | refine bk_n ?_ _ | refine bk_d ?_ | refine bk_a ?_ _)); refine blk_put (cs := #[.int .i64 t365, .int .i64 0, .string (⟨#[]⟩ : ByteArray)]) ?_ 1 _ rfl; (with_reducible repeat (first | refine bk_n ?_ _ | refine bk_d ?_ | refine bk_a ?_ _)); refine blk_put (cs := #[.int .i64 0, .int .i64 0, .string (⟨#[]⟩ : ByteArray)]) ?_ 0 _ rfl; (with_reducible repeat (first | refine bk_n ?_ _ | refine bk_d ?_ | refine bk_a ?_ _)); exact BK369.out) k_ hk)); (case aO => exact (by (with_reducible repeat (first | apply Kd.R_alloc | apply Kd.R_drewN | apply Kd.R_drew)); exact Kd.R_mono (Kd.R_far (p := ⟨gb369, 2, none⟩) (Kd.R_far (p := ⟨gb369, 1, none⟩) (Kd.R_far (p := ⟨gb369, 0, none⟩) (Kd.R_mono HO_8.out (fun k_ hk => (⟨hk, hk.2⟩ : _ ∧ k_ ≠ gb369))) (fun _ hk => hk.2) (.int .i64 t365)) (fun _ hk => hk.2) (.int .i64 t366)) (fun _ hk => hk.2) (.string t367)) (fun _ hk => hk.1.2))); (case aS => exact (below_size (by repeat (first | (with_reducible first | exact HB.out | apply bl_a | apply bl_n | apply bl_d | refine below_set ?_ (IsS66.ge HI364.out) | refine below_set ?_ GE369.out) | exact HB.out)))); (case aL => have := LMc13.out; omega); intro v371 w18 ho hb hg hat; rw [← Ny370.out] at ho; have n0_ := ak_ (IsS66.grown (show IsS66 w _ g364 t362 t368 from by repeat (first | (with_reducible first | exact HI364.out | apply IsS66.alloc | apply IsS66.drewN | apply IsS66.drew | apply IsS66.set_1 | refine IsS66.far ?_ NB364_369.out _) | exact HI364.out)) hg (IsS66.own_ne HI364.out HO_8.out (by decide))); have n1_ := ak_ (blk_grown (g := gb369) (o := .cells #[.int .i64 t365, .int .i64 t366, .string t367] 26 (0, 0)) (by (with_reducible repeat (first | refine bk_n ?_ _ | refine bk_d ?_ | refine bk_a ?_ _)); refine blk_put (cs := #[.int .i64 t365, .int .i64 t366, .string (⟨#[]⟩ : ByteArray)]) ?_ 2 _ rfl; (with_reducible repeat (first | refine bk_n ?_ _ | refine bk_d ?_ | refine bk_a ?_ _)); refine blk_put (cs := #[.int .i64 t365, .int .i64 0, .string (⟨#[]⟩ : ByteArray)]) ?_ 1 _ rfl; (with_reducible repeat (first | refine bk_n ?_ _ | refine bk_d ?_ | refine bk_a ?_ _)); refine blk_put (cs := #[.int .i64 0, .int .i64 0, .string (⟨#[]⟩ : ByteArray)]) ?_ 0 _ rfl; (with_reducible repeat (first | refine bk_n ?_ _ | refine bk_d ?_ | refine bk_a ?_ _)); exact BK369.out) hg (Kd.R_away HO_8.out (fun _ hk => hk.2))); have n2_ := ak_ (hb); have n3_ := ak_ (ho); clear HI364; clear BK369; clear HB; clear HO_8; have HI364 := n0_; have BK369 := n1_; have HB := n2_; have HO372 := n3_; clear n0_ n1_ n2_ n3_; clear ho hb hg hat))
      go_roundg k1
      case measure => have := HK1.out; omega
      case rel => exact ⟨(y370), (wrap64 (x9_1 + 1)), (t368), (by first | rfl | (simp; done) | (simp [*]; done)), H', ⟨by have := HK1.out; omega⟩, ⟨by (with_reducible repeat (first | apply Kd.R_alloc | apply Kd.R_drewN | apply Kd.R_drew)); exact Kd.R_mono HO372.out (fun _ hk => trivial)⟩, ⟨by repeat (first | (with_reducible first | exact HI364.out | apply IsS66.alloc | apply IsS66.drewN | apply IsS66.drew | apply IsS66.set_1 | refine IsS66.far ?_ NB364_369.out _) | exact HI364.out)⟩, ⟨by repeat (first | (with_reducible first | exact HB.out | apply bl_a | apply bl_n | apply bl_d | refine below_set ?_ (IsS66.ge HI364.out) | refine below_set ?_ GE369.out) | exact HB.out)⟩⟩
     ·
      rw [if_neg c13] at H
      exact absurd H (by simp)
   ·
    rw [if_neg c6] at H
    have c6b0 : decide (x9_1 < a2) = false := decide_eq_false c6
    clear c6
    obtain rfl := Option.some.inj H
    go_wp2
    go_ret
    exact ⟨_, by first | rfl | (simp [errW_none, errW_some] <;> rfl) | (simp [*, errW_none, errW_some] <;> rfl), by (with_reducible repeat (first | apply Kd.R_alloc | apply Kd.R_drewN | apply Kd.R_drew)); exact HO_8.out, by repeat (first | (with_reducible first | exact HB.out | apply bl_a | apply bl_n | apply bl_d | refine below_set ?_ (IsS66.ge HI364.out)) | exact HB.out)⟩
end Go.Proofs.YtigldipjkejalaaDoor.PRleAll