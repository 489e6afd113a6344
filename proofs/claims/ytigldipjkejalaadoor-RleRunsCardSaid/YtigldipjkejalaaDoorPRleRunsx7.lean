-- Written by xprint.py (a program of this project) out of the translation. Not trusted: Lean checks it.
import Derived.Test.YtigldipjkejalaaDoorPRleRunsx0
import Derived.Test.YtigldipjkejalaaDoorPRleRunsx3
import Derived.Test.YtigldipjkejalaaDoorPRleRunsx6
namespace Go.Proofs.YtigldipjkejalaaDoor.PRleRuns
open Go.RowKit Go.Proofs.YtigldipjkejalaaDoorW.PrintWords Go.Proofs.YtigldipjkejalaaDoorW.PrintLast Go.Proofs.YtigldipjkejalaaDoorW.PrintMore
attribute [local go_sem] max2_int min2_int max_two min_two max_three min_three max_four min_four   -- for this text's walks alone
set_option linter.unusedVariables false
set_option linter.unusedSimpArgs false

/-! ### rle_Take: function 25 -/
def rle_Take.f (k : Nat) (a0 : Int) (a1 : Int) (l2 : List Int) : Option ((List (S26)) × Bool) := (rle_read.f k a0 a1 l2).bind fun bt206 => (if bt206.2.isNone = true then ((errors_IsN.f () 1).bind fun t211 => (some (bt206.1, !t211))) else ((errors_IsS.f (bt206.2.getD 0) 1).bind fun t212 => (some (bt206.1, !t212))))
theorem rle_Take.mono : ∀ a0 a1 a2 k, LeO (rle_Take.f k a0 a1 a2) (rle_Take.f (k + 1) a0 a1 a2) := by
  intro a0 a1 a2 k
  unfold rle_Take.f
  repeat' first
      | (with_reducible exact rle_read.mono _ _ _ _)
      | (with_reducible exact LeO.refl _)
      | (with_reducible exact LeO.none _)
      | (with_reducible refine LeO.ite ?_ ?_)
      | (with_reducible refine LeO.bind ?_ (fun _ => ?_))
      | exact rle_read.mono _ _ _ _
      | exact LeO.none _
      | refine LeO.ite ?_ ?_
      | refine LeO.bind ?_ (fun _ => ?_)
set_option maxHeartbeats 8000000 in
set_option maxRecDepth 100000 in
theorem rle_Take.calls (GA : Nat → Addr) (k : Nat) (a0 : Int) (a1 : Int) (A2 : Option Addr) (c2 : Nat) (l2 : List Int) (r1 : List (S26)) (r2 : Bool) (w : World) (hr2 : Kd.C (Kd.int .u8) w A2 l2.length l2) (hc2 : l2.length ≤ c2) (hG : Glob GA w) (h : rle_Take.f k a0 a1 l2 = some (r1, r2)) :
    Calls Tryd.prog 25 #[.int .i64 a0, .int .i64 a1, .slice A2 l2.length c2] w fun e w' => ∃ v0_ : Value, e = .returned (.tuple #[v0_, .bool r2]) ∧ Kd.R k26 26 w' w.heap.size (fun _ => True) v0_ r1 ∧ Below w.heap.size w w' := by
  have HG := Aside0.mk hG
  clear hG
  have HR2 := Aside0.mk hr2
  have HC2 := Aside0.mk hc2
  clear hr2 hc2
  have HB := Aside0.mk (Below.refl w.heap.size w)
  have H : ((rle_read.f k a0 a1 l2).bind fun bt206 => (if bt206.2.isNone = true then ((errors_IsN.f () 1).bind fun t211 => (some (bt206.1, !t211))) else ((errors_IsS.f (bt206.2.getD 0) 1).bind fun t212 => (some (bt206.1, !t212))))) = some (r1, r2) := h
  clear h
  replace H := Option.bind_eq_some_iff.mp H
  obtain ⟨⟨t206, t209⟩, A40, H⟩ := H
  replace H : (if t209.isNone = true then ((errors_IsN.f () 1).bind fun t211 => (some (t206, !t211))) else ((errors_IsS.f (t209.getD 0) 1).bind fun t212 => (some (t206, !t212)))) = some (r1, r2) := H
  have A4 := Aside0.mk A40
  clear A40
  rcases t209 with _ | q210
  · have H1 : ((errors_IsN.f () 1).bind fun t211 => (some (t206, !t211))) = some (r1, r2) := by rw [if_pos (show (none : Option Int).isNone = true by rfl)] at H; exact H
    clear H
    have H := H1
    clear H1
    try simp only [errW_none, errW_some]
    replace H := Option.bind_eq_some_iff.mp H
    obtain ⟨t211, A50, H⟩ := H
    replace H : (some (t206, !t211)) = some (r1, r2) := H
    have A5 := Aside0.mk A50
    clear A50
    simp only [Option.some.injEq, Prod.mk.injEq] at H
    obtain ⟨rfl, rfl⟩ := H
    go_enter Tryd.func25, Tryd.ntmps25
    go_wp2_with (first | ((with_reducible refine gate_callee (f := 46) rfl ?_); refine goesL_ (some 14) rfl rfl Tryd.func46 (by kernel_rfl) rfl #[.int .i64 a0, .int .i64 a1, .slice A2 l2.length c2] rfl (by (try simp only [List.map_toArray, List.map_cons, List.map_nil]); first | done | rfl | (simp only [List.length_drop, List.length_take]; rfl)) ?_; (with_reducible refine (rle_read.calls GA k a0 a1 (fun k_ => k_ < w.heap.size) _ _ l2 t206 none _ ?side1 ?side2 A4.out).mono ?_); (case side1 => exact Kd.V_mk HC2.out (Kd.F_below (Kd.C_F (Kd.heap_int .u8) HR2.out) (by repeat (first | (with_reducible first | exact HB.out | apply below_alloc | apply pw_below_drewN | apply below_drew1) | exact HB.out)))); (case side2 => exact Glob.below HG.out (by repeat (first | (with_reducible first | exact HB.out | apply below_alloc | apply pw_below_drewN | apply below_drew1) | exact HB.out))); rintro e w6 ⟨v207, rfl, ho0, hb⟩; refine ⟨_, rfl, ?_⟩; have n0_ := Aside0.mk (Kd.R_lower (Kd.R_mono (ok' := fun k_ => True) ho0 (fun _ hk_ => trivial)) (below_size (by repeat (first | (with_reducible first | exact HB.out | apply below_alloc | apply pw_below_drewN | apply below_drew1) | exact HB.out)))); have n1_ := Aside0.mk (below_step (by repeat (first | (with_reducible first | exact HB.out | apply below_alloc | apply pw_below_drewN | apply below_drew1) | exact HB.out)) hb); clear HB; have HO208 := n0_; have HB := n1_; clear n0_ n1_; (try clear hb); (try clear hb2); (try clear hk); (try clear hi); (try clear ho0); (try simp only [errW_none, errW_some]); have hgl7 := (HB.out.cell (World.block_lt_of_cell? w _ HG.out.c1)).trans HG.out.c1) | ((with_reducible refine gate_callee (f := 41) rfl ?_); refine goesL_ (some 20) rfl rfl Tryd.func41 (by kernel_rfl) rfl #[.nilIface, .iface 117 (.pointer (some (GA 1)))] rfl (by (try simp only [List.map_toArray, List.map_cons, List.map_nil]); first | done | rfl | (simp only [List.length_drop, List.length_take]; rfl)) ?_; (with_reducible refine (errors_IsN.calls GA () 1 t211 _ ?side1 A5.out).mono ?_); (case side1 => exact Glob.below HG.out (by repeat (first | (with_reducible first | exact HB.out | apply below_alloc | apply pw_below_drewN | apply below_drew1) | exact HB.out))); rintro e w' ⟨rfl, ⟨nd, rfl⟩⟩; refine ⟨_, rfl, ?_⟩))
    go_ret2
    exact ⟨_, by first | rfl | (simp [errW_none, errW_some] <;> rfl) | (simp [*, errW_none, errW_some] <;> rfl), by (with_reducible repeat (first | apply Kd.R_alloc | apply Kd.R_drewN | apply Kd.R_drew)); exact HO208.out, by repeat (first | (with_reducible first | exact HB.out | apply below_alloc | apply pw_below_drewN | apply below_drew1) | exact HB.out)⟩
  · have H1 : ((errors_IsS.f q210 1).bind fun t212 => (some (t206, !t212))) = some (r1, r2) := by rw [if_neg (show ¬ (some q210).isNone = true by simp)] at H; exact H
    clear H
    have H := H1
    clear H1
    try simp only [errW_none, errW_some]
    replace H := Option.bind_eq_some_iff.mp H
    obtain ⟨t212, A80, H⟩ := H
    replace H : (some (t206, !t212)) = some (r1, r2) := H
    have A8 := Aside0.mk A80
    clear A80
    simp only [Option.some.injEq, Prod.mk.injEq] at H
    obtain ⟨rfl, rfl⟩ := H
    go_enter Tryd.func25, Tryd.ntmps25
    go_wp2_with (first | ((with_reducible refine gate_callee (f := 46) rfl ?_); refine goesL_ (some 14) rfl rfl Tryd.func46 (by kernel_rfl) rfl #[.int .i64 a0, .int .i64 a1, .slice A2 l2.length c2] rfl (by (try simp only [List.map_toArray, List.map_cons, List.map_nil]); first | done | rfl | (simp only [List.length_drop, List.length_take]; rfl)) ?_; (with_reducible refine (rle_read.calls GA k a0 a1 (fun k_ => k_ < w.heap.size) _ _ l2 t206 (some q210) _ ?side1 ?side2 A4.out).mono ?_); (case side1 => exact Kd.V_mk HC2.out (Kd.F_below (Kd.C_F (Kd.heap_int .u8) HR2.out) (by repeat (first | (with_reducible first | exact HB.out | apply below_alloc | apply pw_below_drewN | apply below_drew1) | exact HB.out)))); (case side2 => exact Glob.below HG.out (by repeat (first | (with_reducible first | exact HB.out | apply below_alloc | apply pw_below_drewN | apply below_drew1) | exact HB.out))); rintro e w9 ⟨v207, rfl, ho0, hb⟩; refine ⟨_, rfl, ?_⟩; have n0_ := Aside0.mk (Kd.R_lower (Kd.R_mono (ok' := fun k_ => True) ho0 (fun _ hk_ => trivial)) (below_size (by repeat (first | (with_reducible first | exact HB.out | apply below_alloc | apply pw_below_drewN | apply below_drew1) | exact HB.out)))); have n1_ := Aside0.mk (below_step (by repeat (first | (with_reducible first | exact HB.out | apply below_alloc | apply pw_below_drewN | apply below_drew1) | exact HB.out)) hb); clear HB; have HO208 := n0_; have HB := n1_; clear n0_ n1_; (try clear hb); (try clear hb2); (try clear hk); (try clear hi); (try clear ho0); (try simp only [errW_none, errW_some]); have hgl10 := (HB.out.cell (World.block_lt_of_cell? w _ HG.out.c1)).trans HG.out.c1) | ((with_reducible refine gate_callee (f := 41) rfl ?_); refine goesL_ (some 20) rfl rfl Tryd.func41 (by kernel_rfl) rfl #[.iface (errT q210) (errA GA q210), .iface 117 (.pointer (some (GA 1)))] rfl (by (try simp only [List.map_toArray, List.map_cons, List.map_nil]); first | done | rfl | (simp only [List.length_drop, List.length_take]; rfl)) ?_; (with_reducible refine (errors_IsS.calls GA q210 1 t212 _ ?side1 A8.out).mono ?_); (case side1 => exact Glob.below HG.out (by repeat (first | (with_reducible first | exact HB.out | apply below_alloc | apply pw_below_drewN | apply below_drew1) | exact HB.out))); rintro e w11 ⟨rfl, hb⟩; refine ⟨_, rfl, ?_⟩; have n0_ := Aside0.mk (Kd.R_below (by (with_reducible repeat (first | apply Kd.R_alloc | apply Kd.R_drewN | apply Kd.R_drew)); exact HO208.out) hb); have n1_ := Aside0.mk (below_step (by repeat (first | (with_reducible first | exact HB.out | apply below_alloc | apply pw_below_drewN | apply below_drew1) | exact HB.out)) hb); clear HO208; clear HB; have HO208 := n0_; have HB := n1_; clear n0_ n1_; (try clear hb); (try clear hb2); (try clear hk); (try clear hi)))
    go_ret2
    exact ⟨_, by first | rfl | (simp [errW_none, errW_some] <;> rfl) | (simp [*, errW_none, errW_some] <;> rfl), by (with_reducible repeat (first | apply Kd.R_alloc | apply Kd.R_drewN | apply Kd.R_drew)); exact HO208.out, by repeat (first | (with_reducible first | exact HB.out | apply below_alloc | apply pw_below_drewN | apply below_drew1) | exact HB.out)⟩

/-! ### rabbetlaw6_begun: function 22 -/
def rabbetlaw6_begun.f (k : Nat)  : Option (Bool) := (rle_Put.f k 2 (([(⟨2, 5, (⟨#[]⟩ : ByteArray)⟩ : S26), (⟨2, 5, (⟨#[]⟩ : ByteArray)⟩ : S26)] : List (S26)))).bind fun bt216 => ((rle_Take.f k 2 2 bt216.1).bind fun bt220 => ((rle_Put.f k 2 (([(⟨0, 0, (⟨#[]⟩ : ByteArray)⟩ : S26)] : List (S26)))).bind fun bt227 => (if bt216.2 = true then (if (bt216.1.length : Int) > 0 then (if bt220.2 = true then (if (bt220.1.length : Int) = 2 then (if 1 < (bt220.1.length : Int) then (if ((rd_T26 bt220.1 1).f1) = 5 then (some (!bt227.2)) else (none)) else (none)) else (none)) else (none)) else (none)) else (none))))
theorem rabbetlaw6_begun.mono : ∀ k, LeO (rabbetlaw6_begun.f k ) (rabbetlaw6_begun.f (k + 1) ) := by
  intro  k
  unfold rabbetlaw6_begun.f
  repeat' first
      | (with_reducible exact rle_Put.mono _ _ _)
      | (with_reducible exact rle_Take.mono _ _ _ _)
      | (with_reducible exact LeO.refl _)
      | (with_reducible exact LeO.none _)
      | (with_reducible refine LeO.ite ?_ ?_)
      | (with_reducible refine LeO.bind ?_ (fun _ => ?_))
      | exact rle_Put.mono _ _ _
      | exact rle_Take.mono _ _ _ _
      | exact LeO.none _
      | refine LeO.ite ?_ ?_
      | refine LeO.bind ?_ (fun _ => ?_)
set_option maxHeartbeats 8000000 in
set_option maxRecDepth 100000 in
theorem rabbetlaw6_begun.calls (GA : Nat → Addr) (k : Nat)  (r : Bool) (w : World) (hG : Glob GA w) (h : rabbetlaw6_begun.f k  = some r) :
    Calls Tryd.prog 22 #[] w fun e w' => e = .returned (.bool r) ∧ Below w.heap.size w w' := by
  have hu26 := Tryd.underlying26
  have HG := Aside0.mk hG
  clear hG
  have HB := Aside0.mk (Below.refl w.heap.size w)
  have H : ((rle_Put.f k 2 (([(⟨2, 5, (⟨#[]⟩ : ByteArray)⟩ : S26), (⟨2, 5, (⟨#[]⟩ : ByteArray)⟩ : S26)] : List (S26)))).bind fun bt216 => ((rle_Take.f k 2 2 bt216.1).bind fun bt220 => ((rle_Put.f k 2 (([(⟨0, 0, (⟨#[]⟩ : ByteArray)⟩ : S26)] : List (S26)))).bind fun bt227 => (if bt216.2 = true then (if (bt216.1.length : Int) > 0 then (if bt220.2 = true then (if (bt220.1.length : Int) = 2 then (if 1 < (bt220.1.length : Int) then (if ((rd_T26 bt220.1 1).f1) = 5 then (some (!bt227.2)) else (none)) else (none)) else (none)) else (none)) else (none)) else (none))))) = some r := h
  clear h
  obtain ⟨y213, hy213⟩ : ∃ y_ : List (S26), y_ = (([(⟨2, 5, (⟨#[]⟩ : ByteArray)⟩ : S26), (⟨2, 5, (⟨#[]⟩ : ByteArray)⟩ : S26)] : List (S26))) := ⟨_, rfl⟩
  replace H : ((rle_Put.f k 2 y213).bind fun bt216 => ((rle_Take.f k 2 2 bt216.1).bind fun bt220 => ((rle_Put.f k 2 (([(⟨0, 0, (⟨#[]⟩ : ByteArray)⟩ : S26)] : List (S26)))).bind fun bt227 => (if bt216.2 = true then (if (bt216.1.length : Int) > 0 then (if bt220.2 = true then (if (bt220.1.length : Int) = 2 then (if 1 < (bt220.1.length : Int) then (if ((rd_T26 bt220.1 1).f1) = 5 then (some (!bt227.2)) else (none)) else (none)) else (none)) else (none)) else (none)) else (none))))) = some r := by first | (rw [hy213]; with_reducible exact H) | (have H2_ := (Option.bind_some _ _).symm.trans H; rw [hy213]; with_reducible exact H2_) | (have H2_ := (Option.bind_some _ _).symm.trans H; with_reducible exact H2_) | with_reducible exact H | (rw [hy213]; exact H) | exact H
  have Ny213 := Aside0.mk hy213
  clear hy213
  replace H := Option.bind_eq_some_iff.mp H
  obtain ⟨⟨t216, t219⟩, A10, H⟩ := H
  replace H : ((rle_Take.f k 2 2 t216).bind fun bt220 => ((rle_Put.f k 2 (([(⟨0, 0, (⟨#[]⟩ : ByteArray)⟩ : S26)] : List (S26)))).bind fun bt227 => (if t219 = true then (if (t216.length : Int) > 0 then (if bt220.2 = true then (if (bt220.1.length : Int) = 2 then (if 1 < (bt220.1.length : Int) then (if ((rd_T26 bt220.1 1).f1) = 5 then (some (!bt227.2)) else (none)) else (none)) else (none)) else (none)) else (none)) else (none)))) = some r := H
  have A1 := Aside0.mk A10
  clear A10
  replace H := Option.bind_eq_some_iff.mp H
  obtain ⟨⟨t220, t221⟩, A20, H⟩ := H
  replace H : ((rle_Put.f k 2 (([(⟨0, 0, (⟨#[]⟩ : ByteArray)⟩ : S26)] : List (S26)))).bind fun bt227 => (if t219 = true then (if (t216.length : Int) > 0 then (if t221 = true then (if (t220.length : Int) = 2 then (if 1 < (t220.length : Int) then (if ((rd_T26 t220 1).f1) = 5 then (some (!bt227.2)) else (none)) else (none)) else (none)) else (none)) else (none)) else (none))) = some r := H
  have A2 := Aside0.mk A20
  clear A20
  obtain ⟨y224, hy224⟩ : ∃ y_ : List (S26), y_ = (([(⟨0, 0, (⟨#[]⟩ : ByteArray)⟩ : S26)] : List (S26))) := ⟨_, rfl⟩
  replace H : ((rle_Put.f k 2 y224).bind fun bt227 => (if t219 = true then (if (t216.length : Int) > 0 then (if t221 = true then (if (t220.length : Int) = 2 then (if 1 < (t220.length : Int) then (if ((rd_T26 t220 1).f1) = 5 then (some (!bt227.2)) else (none)) else (none)) else (none)) else (none)) else (none)) else (none))) = some r := by first | (rw [hy224]; with_reducible exact H) | (have H2_ := (Option.bind_some _ _).symm.trans H; rw [hy224]; with_reducible exact H2_) | (have H2_ := (Option.bind_some _ _).symm.trans H; with_reducible exact H2_) | with_reducible exact H | (rw [hy224]; exact H) | exact H
  have Ny224 := Aside0.mk hy224
  clear hy224
  replace H := Option.bind_eq_some_iff.mp H
  obtain ⟨⟨t227, t230⟩, A30, H⟩ := H
  replace H : (if t219 = true then (if (t216.length : Int) > 0 then (if t221 = true then (if (t220.length : Int) = 2 then (if 1 < (t220.length : Int) then (if ((rd_T26 t220 1).f1) = 5 then (some (!t230)) else (none)) else (none)) else (none)) else (none)) else (none)) else (none)) = some r := H
  have A3 := Aside0.mk A30
  clear A30
  by_cases c4 : t219 = true
  · subst c4
    have H1 : (if (t216.length : Int) > 0 then (if t221 = true then (if (t220.length : Int) = 2 then (if 1 < (t220.length : Int) then (if ((rd_T26 t220 1).f1) = 5 then (some (!t230)) else (none)) else (none)) else (none)) else (none)) else (none)) = some r := by rw [if_pos rfl] at H; exact H
    clear H
    have H := H1
    clear H1
    by_cases c5 : (t216.length : Int) > 0
    · rw [if_pos c5] at H
      have c5b0 : decide (0 < (t216.length : Int)) = true := decide_eq_true c5
      have c5b1 : decide (0 < t216.length) = true := decide_eq_true (by omega)
      (try (have c5b1p : (0 < t216.length) = True := eq_true (of_decide_eq_true c5b1)))
      clear c5
      by_cases c6 : t221 = true
      · subst c6
        have H1 : (if (t220.length : Int) = 2 then (if 1 < (t220.length : Int) then (if ((rd_T26 t220 1).f1) = 5 then (some (!t230)) else (none)) else (none)) else (none)) = some r := by rw [if_pos rfl] at H; exact H
        clear H
        have H := H1
        clear H1
        by_cases c7 : (t220.length : Int) = 2
        · rw [if_pos c7] at H
          have c7b0 : ((t220.length : Int) == 2) = true := beq_iff_eq.mpr c7
          have c7b1 : ((t220.length : Int) != 2) = false := bne_eq_false_iff_eq.mpr c7
          clear c7
          by_cases c8 : 1 < (t220.length : Int)
          · rw [if_pos c8] at H
            have c8b0 : decide (1 < (t220.length : Int)) = true := decide_eq_true c8
            have c8b1 : decide (1 < t220.length) = true := decide_eq_true (by omega)
            clear c8
            by_cases c9 : ((rd_T26 t220 1).f1) = 5
            · rw [if_pos c9] at H
              have c9b0 : (((rd_T26 t220 1).f1) == 5) = true := beq_iff_eq.mpr c9
              have c9b1 : (((rd_T26 t220 1).f1) != 5) = false := bne_eq_false_iff_eq.mpr c9
              clear c9
              obtain rfl := Option.some.inj H
              go_enter Tryd.func22, Tryd.ntmps22
              go_wp2_with (first | ((with_reducible refine gate_dst (N := 10) rfl ?_); (try (refine gate_guard (by rfl) ?_; dsimp only)); refine Kd.R_lit k26 _ 26 ?hg (N := 10) ?hd (xs := ([(⟨2, 5, (⟨#[]⟩ : ByteArray)⟩ : S26), (⟨2, 5, (⟨#[]⟩ : ByteArray)⟩ : S26)] : List (S26))) (inner := [.int .i64 2, .int .i64 5, .string (⟨#[]⟩ : ByteArray), .int .i64 2, .int .i64 5, .string (⟨#[]⟩ : ByteArray)]) (ok := fun _ => True) (okp := fun _ => True) ?hr ?hp (fun _ hk => hk) trivial (Below.refl _ _) (Nat.le_refl _) (by simp) ?_; (case hd => rfl); (case hg => rfl); (case hr => first | (go_simp; done) | (go_simp; rfl)); (case hp => exact (Reps.c3 (show Kd.M k26 _ _ _ (⟨2, 5, (⟨#[]⟩ : ByteArray)⟩ : S26) [.int .i64 2, .int .i64 5, .string (⟨#[]⟩ : ByteArray)] from (k26_mkM _ _ _ (⟨2, 5, (⟨#[]⟩ : ByteArray)⟩ : S26) )) (Reps.c3 (show Kd.M k26 _ _ _ (⟨2, 5, (⟨#[]⟩ : ByteArray)⟩ : S26) [.int .i64 2, .int .i64 5, .string (⟨#[]⟩ : ByteArray)] from (k26_mkM _ _ _ (⟨2, 5, (⟨#[]⟩ : ByteArray)⟩ : S26) )) (Reps.none _ _)))); intro v214 w10 ho11 hb hg_ hnew_; clear hg_ hnew_; (first | rw [← Ny213.out] at ho11 | (simp only [Int.reduceToNat] at ho11; rw [← Ny213.out] at ho11)); have n0_ := Aside0.mk (Kd.R_lower ho11 (below_size (by repeat (first | (with_reducible first | exact HB.out | apply below_alloc | apply pw_below_drewN | apply below_drew1) | exact HB.out)))); have n1_ := Aside0.mk (below_step (by repeat (first | (with_reducible first | exact HB.out | apply below_alloc | apply pw_below_drewN | apply below_drew1) | exact HB.out)) hb); clear HB; have HO215 := n0_; have HB := n1_; clear n0_ n1_; clear hb ho11; obtain ⟨Ao12, co12, eo12⟩ := Kd.R_slice HO215.out; subst eo12) | ((with_reducible refine gate_callee (f := 24) rfl ?_); refine goesL_ (some 13) rfl rfl Tryd.func24 (by kernel_rfl) rfl #[.int .i64 2, .slice Ao12 y213.length co12] rfl (by (try simp only [List.map_toArray, List.map_cons, List.map_nil]); first | done | rfl | (simp only [List.length_drop, List.length_take]; rfl)) ?_; (with_reducible refine (rle_Put.calls k 2 (fun k_ => some k_ = (.slice Ao12 y213.length co12 : Value).ownBlock) _ _ y213 t216 true _ ?side1 A1.out).mono ?_); (case side1 => exact Kd.R_V (Kd.R_tight rfl (HO215.out))); rintro e w13 ⟨v217, rfl, ho0, hb⟩; refine ⟨_, rfl, ?_⟩; have n0_ := Aside0.mk (Kd.R_below (by (with_reducible repeat (first | apply Kd.R_alloc | apply Kd.R_drewN | apply Kd.R_drew)); exact HO215.out) hb); have n1_ := Aside0.mk (Kd.R_lower (Kd.R_mono (ok' := fun k_ => True) ho0 (fun _ hk_ => trivial)) (below_size (by repeat (first | (with_reducible first | exact HB.out | apply below_alloc | apply pw_below_drewN | apply below_drew1) | exact HB.out)))); have n2_ := Aside0.mk (below_step (by repeat (first | (with_reducible first | exact HB.out | apply below_alloc | apply pw_below_drewN | apply below_drew1) | exact HB.out)) hb); clear HO215; clear HB; have HO215 := n0_; have HO218 := n1_; have HB := n2_; clear n0_ n1_ n2_; (try clear hb); (try clear hb2); (try clear hk); (try clear hi); (try clear ho0); obtain ⟨Ao14, co14, eo14⟩ := Kd.R_slice HO218.out; subst eo14) | ((with_reducible refine gate_callee (f := 25) rfl ?_); refine goesL_ (some 18) rfl rfl Tryd.func25 (by kernel_rfl) rfl #[.int .i64 2, .int .i64 2, .slice Ao14 t216.length co14] rfl (by (try simp only [List.map_toArray, List.map_cons, List.map_nil]); first | done | rfl | (simp only [List.length_drop, List.length_take]; rfl)) ?_; (with_reducible refine (rle_Take.calls GA k 2 2 _ _ t216 t220 true _ ?side1 ?side2 ?side3 A2.out).mono ?_); (case side1 => repeat (first | exact (Kd.R_reads' HO218.out).2.2 | (with_reducible refine Kd.C_alloc ?_ _) | (with_reducible refine Kd.C_drewN ?_ _) | (with_reducible refine Kd.C_drew ?_))); (case side2 => exact (Kd.R_reads' HO218.out).2.1); (case side3 => exact Glob.below HG.out (by repeat (first | (with_reducible first | exact HB.out | apply below_alloc | apply pw_below_drewN | apply below_drew1) | exact HB.out))); rintro e w15 ⟨v222, rfl, ho0, hb⟩; refine ⟨_, rfl, ?_⟩; have n0_ := Aside0.mk (Kd.R_elder' (by (with_reducible repeat (first | apply Kd.R_alloc | apply Kd.R_drewN | apply Kd.R_drew)); exact HO215.out) (Kd.R_base ho0) hb); have n1_ := Aside0.mk (Kd.R_below (by (with_reducible repeat (first | apply Kd.R_alloc | apply Kd.R_drewN | apply Kd.R_drew)); exact HO218.out) hb); have n2_ := Aside0.mk (Kd.R_lower (Kd.R_new' ho0 (Kd.R_lt (by (with_reducible repeat (first | apply Kd.R_alloc | apply Kd.R_drewN | apply Kd.R_drew)); exact HO215.out))) (below_size (by repeat (first | (with_reducible first | exact HB.out | apply below_alloc | apply pw_below_drewN | apply below_drew1) | exact HB.out)))); have n3_ := Aside0.mk (below_step (by repeat (first | (with_reducible first | exact HB.out | apply below_alloc | apply pw_below_drewN | apply below_drew1) | exact HB.out)) hb); clear HO215; clear HO218; clear HB; have HO215 := n0_; have HO218 := n1_; have HO223 := n2_; have HB := n3_; clear n0_ n1_ n2_ n3_; (try clear hb); (try clear hb2); (try clear hk); (try clear hi); (try clear ho0)) | ((with_reducible refine gate_dst (N := 23) rfl ?_); (try (refine gate_guard (by rfl) ?_; dsimp only)); refine Kd.R_lit k26 _ 26 ?hg (N := 23) ?hd (xs := ([(⟨0, 0, (⟨#[]⟩ : ByteArray)⟩ : S26)] : List (S26))) (inner := [.int .i64 0, .int .i64 0, .string (⟨#[]⟩ : ByteArray)]) (ok := fun _ => True) (okp := fun _ => True) ?hr ?hp (fun _ hk => hk) trivial (Below.refl _ _) (Nat.le_refl _) (by simp) ?_; (case hd => rfl); (case hg => rfl); (case hr => first | (go_simp; done) | (go_simp; rfl)); (case hp => exact (Reps.c3 (show Kd.M k26 _ _ _ (⟨0, 0, (⟨#[]⟩ : ByteArray)⟩ : S26) [.int .i64 0, .int .i64 0, .string (⟨#[]⟩ : ByteArray)] from (k26_mkM _ _ _ (⟨0, 0, (⟨#[]⟩ : ByteArray)⟩ : S26) )) (Reps.none _ _))); intro v225 w16 ho17 hb hg_ hnew_; clear hg_ hnew_; (first | rw [← Ny224.out] at ho17 | (simp only [Int.reduceToNat] at ho17; rw [← Ny224.out] at ho17)); have n0_ := Aside0.mk (Kd.R_elder' (by (with_reducible repeat (first | apply Kd.R_alloc | apply Kd.R_drewN | apply Kd.R_drew)); exact HO215.out) (Kd.R_base ho17) hb); have n1_ := Aside0.mk (Kd.R_below (by (with_reducible repeat (first | apply Kd.R_alloc | apply Kd.R_drewN | apply Kd.R_drew)); exact HO218.out) hb); have n2_ := Aside0.mk (Kd.R_elder' (by (with_reducible repeat (first | apply Kd.R_alloc | apply Kd.R_drewN | apply Kd.R_drew)); exact HO223.out) (Kd.R_base ho17) hb); have n3_ := Aside0.mk (Kd.R_lower (Kd.R_new' (Kd.R_new' ho17 (Kd.R_lt (by (with_reducible repeat (first | apply Kd.R_alloc | apply Kd.R_drewN | apply Kd.R_drew)); exact HO215.out))) (Kd.R_lt (by (with_reducible repeat (first | apply Kd.R_alloc | apply Kd.R_drewN | apply Kd.R_drew)); exact HO223.out))) (below_size (by repeat (first | (with_reducible first | exact HB.out | apply below_alloc | apply pw_below_drewN | apply below_drew1) | exact HB.out)))); have n4_ := Aside0.mk (below_step (by repeat (first | (with_reducible first | exact HB.out | apply below_alloc | apply pw_below_drewN | apply below_drew1) | exact HB.out)) hb); clear HO215; clear HO218; clear HO223; clear HB; have HO215 := n0_; have HO218 := n1_; have HO223 := n2_; have HO226 := n3_; have HB := n4_; clear n0_ n1_ n2_ n3_ n4_; clear hb ho17; obtain ⟨Ao18, co18, eo18⟩ := Kd.R_slice HO226.out; subst eo18) | ((with_reducible refine gate_callee (f := 24) rfl ?_); refine goesL_ (some 24) rfl rfl Tryd.func24 (by kernel_rfl) rfl #[.int .i64 2, .slice Ao18 y224.length co18] rfl (by (try simp only [List.map_toArray, List.map_cons, List.map_nil]); first | done | rfl | (simp only [List.length_drop, List.length_take]; rfl)) ?_; (with_reducible refine (rle_Put.calls k 2 (fun k_ => some k_ = (.slice Ao18 y224.length co18 : Value).ownBlock) _ _ y224 t227 t230 _ ?side1 A3.out).mono ?_); (case side1 => exact Kd.R_V (Kd.R_tight rfl (Kd.R_apart' (HO226.out) (Kd.R_typed HO218.out) (by decide)))); rintro e w19 ⟨v228, rfl, ho0, hb⟩; refine ⟨_, rfl, ?_⟩; have n0_ := Aside0.mk (Kd.R_below (by (with_reducible repeat (first | apply Kd.R_alloc | apply Kd.R_drewN | apply Kd.R_drew)); exact HO215.out) hb); have n1_ := Aside0.mk (Kd.R_elder' (by (with_reducible repeat (first | apply Kd.R_alloc | apply Kd.R_drewN | apply Kd.R_drew)); exact HO218.out) (Kd.R_base ho0) hb); have n2_ := Aside0.mk (Kd.R_below (by (with_reducible repeat (first | apply Kd.R_alloc | apply Kd.R_drewN | apply Kd.R_drew)); exact HO223.out) hb); have n3_ := Aside0.mk (Kd.R_below (by (with_reducible repeat (first | apply Kd.R_alloc | apply Kd.R_drewN | apply Kd.R_drew)); exact HO226.out) hb); have n4_ := Aside0.mk (Kd.R_lower (Kd.R_new' (Kd.R_mono (ok' := fun k_ => True) ho0 (fun _ hk_ => trivial)) (Kd.R_lt (by (with_reducible repeat (first | apply Kd.R_alloc | apply Kd.R_drewN | apply Kd.R_drew)); exact HO218.out))) (below_size (by repeat (first | (with_reducible first | exact HB.out | apply below_alloc | apply pw_below_drewN | apply below_drew1) | exact HB.out)))); have n5_ := Aside0.mk (below_step (by repeat (first | (with_reducible first | exact HB.out | apply below_alloc | apply pw_below_drewN | apply below_drew1) | exact HB.out)) hb); clear HO215; clear HO218; clear HO223; clear HO226; clear HB; have HO215 := n0_; have HO218 := n1_; have HO223 := n2_; have HO226 := n3_; have HO229 := n4_; have HB := n5_; clear n0_ n1_ n2_ n3_ n4_ n5_; (try clear hb); (try clear hb2); (try clear hk); (try clear hi); (try clear ho0); obtain ⟨Ao20, co20, eo20⟩ := Kd.R_slice HO223.out; subst eo20; have p231 : 0 ≤ (1 : Int) := (by omega); have q231 : 1 < (t220.length : Int) := of_decide_eq_true (by first | (with_reducible assumption) | assumption); obtain ⟨ad231, e231, hx231_0, hx231_1, hx231_2⟩ := at_T26 (Kd.R_reads' HO223.out).2.2 1 p231 q231; cases e231; (try simp only [show (1 : Int).toNat = 1 from rfl, Nat.reduceMul, Nat.reduceEqDiff, Go.Addr.add, ↓reduceIte] at hx231_0); (try simp only [show (1 : Int).toNat = 1 from rfl, Nat.reduceMul, Nat.reduceEqDiff, Go.Addr.add, ↓reduceIte] at hx231_1); (try simp only [show (1 : Int).toNat = 1 from rfl, Nat.reduceMul, Nat.reduceEqDiff, Go.Addr.add, ↓reduceIte] at hx231_2); have qi231 : (1 < t220.length) = True := eq_true (by omega); (try rw [show ((1 : Int)).toNat = 1 from rfl] at hx231_0); (try rw [show 1 * 3 = 3 from rfl] at hx231_0); (try rw [show ((1 : Int)).toNat = 1 from rfl] at hx231_1); (try rw [show 1 * 3 = 3 from rfl] at hx231_1); (try rw [show ((1 : Int)).toNat = 1 from rfl] at hx231_2); (try rw [show 1 * 3 = 3 from rfl] at hx231_2); replace p231 := eq_true p231; replace q231 := eq_true q231))
              go_ret
              exact ⟨by first | rfl | (simp [errW_none, errW_some] <;> rfl) | (simp [*, errW_none, errW_some] <;> rfl), by repeat (first | (with_reducible first | exact HB.out | apply below_alloc | apply pw_below_drewN | apply below_drew1) | exact HB.out)⟩
            · rw [if_neg c9] at H
              exact absurd H (by simp)
          · rw [if_neg c8] at H
            exact absurd H (by simp)
        · rw [if_neg c7] at H
          exact absurd H (by simp)
      · replace c6 := Bool.eq_false_iff.mpr c6
        subst c6
        have H1 : (none) = some r := by rw [if_neg (show ¬ (false = true) by decide)] at H; exact H
        clear H
        have H := H1
        clear H1
        exact absurd H (by simp)
    · rw [if_neg c5] at H
      exact absurd H (by simp)
  · replace c4 := Bool.eq_false_iff.mpr c4
    subst c4
    have H1 : (none) = some r := by rw [if_neg (show ¬ (false = true) by decide)] at H; exact H
    clear H
    have H := H1
    clear H1
    exact absurd H (by simp)

/-! ### rabbetlaw6_RleRuns: function 12 -/
def rabbetlaw6_RleRuns.l0 : Nat → Int → Int → List (S26) → Int → Option (Bool)
  | 0, _, _, _, _ => none
  | k + 1, x1, x5, x6, x7 => if x7 < x5 then (if x6.length < 4398046511104 then (rabbetlaw6_RleRuns.l0 k x1 x5 (x6 ++ [(⟨2, x1, (⟨#[]⟩ : ByteArray)⟩ : S26)]) (wrap64 (x7 + 1))) else (none)) else ((rle_Put.f k 2 x6).bind fun bt236 => (if 1 ≤ (x6.length : Int) then ((rle_Put.f k 2 (x6.take 1)).bind fun bt244 => ((rle_Take.f k 2 x5 bt236.1).bind fun bt248 => (if bt236.2 = true then (if bt244.2 = true then (if bt248.2 = true then (if (bt236.1.length : Int) ≤ (wrap64 ((bt244.1.length : Int) + 1)) then (if (bt248.1.length : Int) = x5 then (if 0 ≤ (wrap64 (x5 - 1)) then (if (wrap64 (x5 - 1)) < (bt248.1.length : Int) then (some (((rd_T26 bt248.1 (wrap64 (x5 - 1))).f1) == x1)) else (none)) else (none)) else (none)) else (none)) else (none)) else (none)) else (none)))) else (none)))
def rabbetlaw6_RleRuns.f (k : Nat) (a0 : Int) (a1 : Int) : Option (Bool) := (rabbetlaw6_begun.f k).bind fun t232 => (if t232 = true then (rabbetlaw6_RleRuns.l0 k a1 (wrap64 (1 + (wrap64 (Int.tmod a0 900)))) ([] : List (S26)) 0) else (none))
theorem rabbetlaw6_RleRuns.mono_l : ∀ k, (∀ y0 y1 y2 y3, LeO (rabbetlaw6_RleRuns.l0 k y0 y1 y2 y3) (rabbetlaw6_RleRuns.l0 (k + 1) y0 y1 y2 y3))
  | 0 => fun _ _ _ _ r h => by simp [rabbetlaw6_RleRuns.l0] at h
  | k + 1 => by
    have ih0 := rabbetlaw6_RleRuns.mono_l k
    · intro y0 y1 y2 y3
      unfold rabbetlaw6_RleRuns.l0
      repeat' first
      | (with_reducible exact ih0 _ _ _ _)
      | (with_reducible exact rabbetlaw6_begun.mono _)
      | (with_reducible exact rle_Put.mono _ _ _)
      | (with_reducible exact rle_Take.mono _ _ _ _)
      | (with_reducible exact LeO.refl _)
      | (with_reducible exact LeO.none _)
      | (with_reducible refine LeO.ite ?_ ?_)
      | (with_reducible refine LeO.bind ?_ (fun _ => ?_))
      | exact ih0 _ _ _ _
      | exact rabbetlaw6_begun.mono _
      | exact rle_Put.mono _ _ _
      | exact rle_Take.mono _ _ _ _
      | exact LeO.none _
      | refine LeO.ite ?_ ?_
      | refine LeO.bind ?_ (fun _ => ?_)
theorem rabbetlaw6_RleRuns.mono : ∀ a0 a1 k, LeO (rabbetlaw6_RleRuns.f k a0 a1) (rabbetlaw6_RleRuns.f (k + 1) a0 a1) := by
  intro a0 a1 k
  have ih0 := rabbetlaw6_RleRuns.mono_l k
  unfold rabbetlaw6_RleRuns.f
  repeat' first
      | (with_reducible exact ih0 _ _ _ _)
      | (with_reducible exact rabbetlaw6_begun.mono _)
      | (with_reducible exact rle_Put.mono _ _ _)
      | (with_reducible exact rle_Take.mono _ _ _ _)
      | (with_reducible exact LeO.refl _)
      | (with_reducible exact LeO.none _)
      | (with_reducible refine LeO.ite ?_ ?_)
      | (with_reducible refine LeO.bind ?_ (fun _ => ?_))
      | exact ih0 _ _ _ _
      | exact rabbetlaw6_begun.mono _
      | exact rle_Put.mono _ _ _
      | exact rle_Take.mono _ _ _ _
      | exact LeO.none _
      | refine LeO.ite ?_ ?_
      | refine LeO.bind ?_ (fun _ => ?_)
set_option maxHeartbeats 8000000 in
set_option maxRecDepth 100000 in
theorem rabbetlaw6_RleRuns.calls (GA : Nat → Addr) (k : Nat) (a0 : Int) (a1 : Int) (r : Bool) (w : World) (hG : Glob GA w) (h : rabbetlaw6_RleRuns.f k a0 a1 = some r) :
    Calls Tryd.prog 12 #[.int .u16 a0, .int .i64 a1] w fun e w' => e = .returned (.bool r) ∧ Below w.heap.size w w' := by
  have hu26 := Tryd.underlying26
  have HG := Aside0.mk hG
  clear hG
  have HB := Aside0.mk (Below.refl w.heap.size w)
  have H : ((rabbetlaw6_begun.f k).bind fun t232 => (if t232 = true then (rabbetlaw6_RleRuns.l0 k a1 (wrap64 (1 + (wrap64 (Int.tmod a0 900)))) ([] : List (S26)) 0) else (none))) = some r := h
  clear h
  replace H := Option.bind_eq_some_iff.mp H
  obtain ⟨t232, A30, H⟩ := H
  replace H : (if t232 = true then (rabbetlaw6_RleRuns.l0 k a1 (wrap64 (1 + (wrap64 (Int.tmod a0 900)))) ([] : List (S26)) 0) else (none)) = some r := H
  have A3 := Aside0.mk A30
  clear A30
  by_cases c4 : t232 = true
  · subst c4
    have H1 : (rabbetlaw6_RleRuns.l0 k a1 (wrap64 (1 + (wrap64 (Int.tmod a0 900)))) ([] : List (S26)) 0) = some r := by rw [if_pos rfl] at H; exact H
    clear H
    have H := H1
    clear H1
    have H' := Aside0.mk H
    clear H
    go_enter Tryd.func12, Tryd.ntmps12
    go_wp2_with (first | ((with_reducible refine gate_callee (f := 22) rfl ?_); refine goesL_ (some 14) rfl rfl Tryd.func22 (by kernel_rfl) rfl #[] rfl (by (try simp only [List.map_toArray, List.map_cons, List.map_nil]); first | done | rfl | (simp only [List.length_drop, List.length_take]; rfl)) ?_; (with_reducible refine (rabbetlaw6_begun.calls GA k  true _ ?side1 A3.out).mono ?_); (case side1 => exact Glob.below HG.out (by repeat (first | (with_reducible first | exact HB.out | apply below_alloc | apply pw_below_drewN | apply below_drew1) | exact HB.out))); rintro e w5 ⟨rfl, hb⟩; refine ⟨_, rfl, ?_⟩; have n0_ := Aside0.mk (below_step (by repeat (first | (with_reducible first | exact HB.out | apply below_alloc | apply pw_below_drewN | apply below_drew1) | exact HB.out)) hb); clear HB; have HB := n0_; clear n0_; (try clear hb); (try clear hb2); (try clear hk); (try clear hi)))
    go_loopg [6, 7] k (fun kq v6 v7 w' => ∃ (x6_1 : List (S26)) (x7_1 : Int), v7 = .int .i64 x7_1 ∧ Aside0 (rabbetlaw6_RleRuns.l0 kq a1 (wrap64 (1 + (wrap64 (Int.tmod a0 900)))) x6_1 x7_1 = some r) ∧ Aside0 (kq ≤ k) ∧ Aside0 (Kd.R k26 26 w' w.heap.size (fun _ => True) v6 x6_1) ∧ Aside0 (Below w.heap.size w w'))
    case atStart => exact ⟨(([] : List (S26))), (0), (by first | rfl | (simp; done) | (simp [*]; done)), H', ⟨Nat.le_refl _⟩, ⟨by first | exact Kd.R_nil _ _ _ _ _ | exact Kd.N_nil _ _ _ _ _ | exact Kd.V_nil _ _ _ _ _ | exact Kd.Q_nil _ _ _ _ _ | exact Kd.S_nil _ _ _ _ _⟩, ⟨by repeat (first | (with_reducible first | exact HB.out | apply below_alloc | apply pw_below_drewN | apply below_drew1) | exact HB.out)⟩⟩
    case round =>
      clear H'
      try clear c1
      try clear c2
      try clear p2
      try clear c4
      obtain ⟨x6_1, x7_1, rfl, HA, HK1, HO_6, HB⟩ := hrel
      cases gk with
      | zero => exact absurd HA.out (by simp [rabbetlaw6_RleRuns.l0])
      | succ k1 =>
        have H := HA.out
        clear HA
        simp only [rabbetlaw6_RleRuns.l0] at H
        by_cases c6 : x7_1 < (wrap64 (1 + (wrap64 (Int.tmod a0 900))))
        · rw [if_pos c6] at H
          have c6b0 : decide (x7_1 < (wrap64 (1 + (wrap64 (Int.tmod a0 900))))) = true := decide_eq_true c6
          clear c6
          by_cases c7 : x6_1.length < 4398046511104
          · rw [if_pos c7] at H
            have LMc7 := Aside0.mk c7
            clear c7
            obtain ⟨y233, hy233⟩ : ∃ y_ : List (S26), y_ = (x6_1 ++ [(⟨2, a1, (⟨#[]⟩ : ByteArray)⟩ : S26)]) := ⟨_, rfl⟩
            replace H : (rabbetlaw6_RleRuns.l0 k1 a1 (wrap64 (1 + (wrap64 (Int.tmod a0 900)))) y233 (wrap64 (x7_1 + 1))) = some r := by first | (rw [hy233]; with_reducible exact H) | (have H2_ := (Option.bind_some _ _).symm.trans H; rw [hy233]; with_reducible exact H2_) | (have H2_ := (Option.bind_some _ _).symm.trans H; with_reducible exact H2_) | with_reducible exact H | (rw [hy233]; exact H) | exact H
            have Ny233 := Aside0.mk hy233
            clear hy233
            have H' := Aside0.mk H
            clear H
            go_wp2_with (first | ((with_reducible refine gate_builtin (b := .append) (xs := #[.tmp 25, .tmp 28]) rfl ?_); (try (refine gate_guard (by rfl) ?_; dsimp only)); at_builtin; refine Kd.R_append k26 (w0 := w) w.heap.size rfl (.tmp 25) (.tmp 28) 23 26 (.agg #[(.int .i64 0), (.int .i64 0), (.string ⟨#[]⟩)]) 32 rfl Tryd.underlying23 info26 rfl (by decide) (by omega) u6 x6_1 (⟨2, a1, (⟨#[]⟩ : ByteArray)⟩ : S26) [.int .i64 2, .int .i64 a1, .string (⟨#[]⟩ : ByteArray)] (fun _ => True) (fun _ => False) rfl rfl ?aP (fun _ hk => hk.elim) ?aF ?aO ?aB ?aS ?aL ?_; (case aP => exact k26_mkM _ _ _ (⟨2, a1, (⟨#[]⟩ : ByteArray)⟩ : S26)); (case aB => exact (by repeat (first | (with_reducible first | exact HB.out | apply below_alloc | apply pw_below_drewN | apply below_drew1) | exact HB.out))); (case aF => exact (fun _ _ => trivial)); (case aO => exact (by (with_reducible repeat (first | apply Kd.R_alloc | apply Kd.R_drewN | apply Kd.R_drew)); exact HO_6.out)); (case aS => exact (below_size (by repeat (first | (with_reducible first | exact HB.out | apply below_alloc | apply pw_below_drewN | apply below_drew1) | exact HB.out)))); (case aL => have := LMc7.out; omega); intro v234 w8 ho hb hg hat; rw [← Ny233.out] at ho; have n0_ := Aside0.mk (hb); have n1_ := Aside0.mk (ho); clear HB; clear HO_6; have HB := n0_; have HO235 := n1_; clear n0_ n1_; clear ho hb hg hat))
            go_roundg k1
            case measure => have := HK1.out; omega
            case rel => exact ⟨(y233), (wrap64 (x7_1 + 1)), (by first | rfl | (simp; done) | (simp [*]; done)), H', ⟨by have := HK1.out; omega⟩, ⟨by (with_reducible repeat (first | apply Kd.R_alloc | apply Kd.R_drewN | apply Kd.R_drew)); exact HO235.out⟩, ⟨by repeat (first | (with_reducible first | exact HB.out | apply below_alloc | apply pw_below_drewN | apply below_drew1) | exact HB.out)⟩⟩
          · rw [if_neg c7] at H
            exact absurd H (by simp)
        · rw [if_neg c6] at H
          have c6b0 : decide (x7_1 < (wrap64 (1 + (wrap64 (Int.tmod a0 900))))) = false := decide_eq_false c6
          clear c6
          replace H := Option.bind_eq_some_iff.mp H
          obtain ⟨⟨t236, t239⟩, A90, H⟩ := H
          replace H : (if 1 ≤ (x6_1.length : Int) then ((rle_Put.f k1 2 (x6_1.take 1)).bind fun bt244 => ((rle_Take.f k1 2 (wrap64 (1 + (wrap64 (Int.tmod a0 900)))) t236).bind fun bt248 => (if t239 = true then (if bt244.2 = true then (if bt248.2 = true then (if (t236.length : Int) ≤ (wrap64 ((bt244.1.length : Int) + 1)) then (if (bt248.1.length : Int) = (wrap64 (1 + (wrap64 (Int.tmod a0 900)))) then (if 0 ≤ (wrap64 ((wrap64 (1 + (wrap64 (Int.tmod a0 900)))) - 1)) then (if (wrap64 ((wrap64 (1 + (wrap64 (Int.tmod a0 900)))) - 1)) < (bt248.1.length : Int) then (some (((rd_T26 bt248.1 (wrap64 ((wrap64 (1 + (wrap64 (Int.tmod a0 900)))) - 1))).f1) == a1)) else (none)) else (none)) else (none)) else (none)) else (none)) else (none)) else (none)))) else (none)) = some r := H
          have A9 := Aside0.mk A90
          clear A90
          by_cases c10 : 1 ≤ (x6_1.length : Int)
          · rw [if_pos c10] at H
            have c10b0 := eq_true c10
            have c10b1 : decide (1 ≤ (x6_1.length : Int)) = true := decide_eq_true c10
            clear c10
            obtain ⟨y240, hy240⟩ : ∃ y_ : List (S26), y_ = (x6_1.take 1) := ⟨_, rfl⟩
            replace H : ((rle_Put.f k1 2 y240).bind fun bt244 => ((rle_Take.f k1 2 (wrap64 (1 + (wrap64 (Int.tmod a0 900)))) t236).bind fun bt248 => (if t239 = true then (if bt244.2 = true then (if bt248.2 = true then (if (t236.length : Int) ≤ (wrap64 ((bt244.1.length : Int) + 1)) then (if (bt248.1.length : Int) = (wrap64 (1 + (wrap64 (Int.tmod a0 900)))) then (if 0 ≤ (wrap64 ((wrap64 (1 + (wrap64 (Int.tmod a0 900)))) - 1)) then (if (wrap64 ((wrap64 (1 + (wrap64 (Int.tmod a0 900)))) - 1)) < (bt248.1.length : Int) then (some (((rd_T26 bt248.1 (wrap64 ((wrap64 (1 + (wrap64 (Int.tmod a0 900)))) - 1))).f1) == a1)) else (none)) else (none)) else (none)) else (none)) else (none)) else (none)) else (none)))) = some r := by first | (rw [hy240]; with_reducible exact H) | (have H2_ := (Option.bind_some _ _).symm.trans H; rw [hy240]; with_reducible exact H2_) | (have H2_ := (Option.bind_some _ _).symm.trans H; with_reducible exact H2_) | with_reducible exact H | (rw [hy240]; exact H) | exact H
            have Ny240 := Aside0.mk hy240
            clear hy240
            replace H := Option.bind_eq_some_iff.mp H
            obtain ⟨⟨t244, t247⟩, A110, H⟩ := H
            replace H : ((rle_Take.f k1 2 (wrap64 (1 + (wrap64 (Int.tmod a0 900)))) t236).bind fun bt248 => (if t239 = true then (if t247 = true then (if bt248.2 = true then (if (t236.length : Int) ≤ (wrap64 ((t244.length : Int) + 1)) then (if (bt248.1.length : Int) = (wrap64 (1 + (wrap64 (Int.tmod a0 900)))) then (if 0 ≤ (wrap64 ((wrap64 (1 + (wrap64 (Int.tmod a0 900)))) - 1)) then (if (wrap64 ((wrap64 (1 + (wrap64 (Int.tmod a0 900)))) - 1)) < (bt248.1.length : Int) then (some (((rd_T26 bt248.1 (wrap64 ((wrap64 (1 + (wrap64 (Int.tmod a0 900)))) - 1))).f1) == a1)) else (none)) else (none)) else (none)) else (none)) else (none)) else (none)) else (none))) = some r := H
            have A11 := Aside0.mk A110
            clear A110
            replace H := Option.bind_eq_some_iff.mp H
            obtain ⟨⟨t248, t249⟩, A120, H⟩ := H
            replace H : (if t239 = true then (if t247 = true then (if t249 = true then (if (t236.length : Int) ≤ (wrap64 ((t244.length : Int) + 1)) then (if (t248.length : Int) = (wrap64 (1 + (wrap64 (Int.tmod a0 900)))) then (if 0 ≤ (wrap64 ((wrap64 (1 + (wrap64 (Int.tmod a0 900)))) - 1)) then (if (wrap64 ((wrap64 (1 + (wrap64 (Int.tmod a0 900)))) - 1)) < (t248.length : Int) then (some (((rd_T26 t248 (wrap64 ((wrap64 (1 + (wrap64 (Int.tmod a0 900)))) - 1))).f1) == a1)) else (none)) else (none)) else (none)) else (none)) else (none)) else (none)) else (none)) = some r := H
            have A12 := Aside0.mk A120
            clear A120
            by_cases c13 : t239 = true
            · subst c13
              have H1 : (if t247 = true then (if t249 = true then (if (t236.length : Int) ≤ (wrap64 ((t244.length : Int) + 1)) then (if (t248.length : Int) = (wrap64 (1 + (wrap64 (Int.tmod a0 900)))) then (if 0 ≤ (wrap64 ((wrap64 (1 + (wrap64 (Int.tmod a0 900)))) - 1)) then (if (wrap64 ((wrap64 (1 + (wrap64 (Int.tmod a0 900)))) - 1)) < (t248.length : Int) then (some (((rd_T26 t248 (wrap64 ((wrap64 (1 + (wrap64 (Int.tmod a0 900)))) - 1))).f1) == a1)) else (none)) else (none)) else (none)) else (none)) else (none)) else (none)) = some r := by rw [if_pos rfl] at H; exact H
              clear H
              have H := H1
              clear H1
              by_cases c14 : t247 = true
              · subst c14
                have H1 : (if t249 = true then (if (t236.length : Int) ≤ (wrap64 ((t244.length : Int) + 1)) then (if (t248.length : Int) = (wrap64 (1 + (wrap64 (Int.tmod a0 900)))) then (if 0 ≤ (wrap64 ((wrap64 (1 + (wrap64 (Int.tmod a0 900)))) - 1)) then (if (wrap64 ((wrap64 (1 + (wrap64 (Int.tmod a0 900)))) - 1)) < (t248.length : Int) then (some (((rd_T26 t248 (wrap64 ((wrap64 (1 + (wrap64 (Int.tmod a0 900)))) - 1))).f1) == a1)) else (none)) else (none)) else (none)) else (none)) else (none)) = some r := by rw [if_pos rfl] at H; exact H
                clear H
                have H := H1
                clear H1
                by_cases c15 : t249 = true
                · subst c15
                  have H1 : (if (t236.length : Int) ≤ (wrap64 ((t244.length : Int) + 1)) then (if (t248.length : Int) = (wrap64 (1 + (wrap64 (Int.tmod a0 900)))) then (if 0 ≤ (wrap64 ((wrap64 (1 + (wrap64 (Int.tmod a0 900)))) - 1)) then (if (wrap64 ((wrap64 (1 + (wrap64 (Int.tmod a0 900)))) - 1)) < (t248.length : Int) then (some (((rd_T26 t248 (wrap64 ((wrap64 (1 + (wrap64 (Int.tmod a0 900)))) - 1))).f1) == a1)) else (none)) else (none)) else (none)) else (none)) = some r := by rw [if_pos rfl] at H; exact H
                  clear H
                  have H := H1
                  clear H1
                  by_cases c16 : (t236.length : Int) ≤ (wrap64 ((t244.length : Int) + 1))
                  · rw [if_pos c16] at H
                    have c16b0 : decide ((t236.length : Int) ≤ (wrap64 ((t244.length : Int) + 1))) = true := decide_eq_true c16
                    clear c16
                    by_cases c17 : (t248.length : Int) = (wrap64 (1 + (wrap64 (Int.tmod a0 900))))
                    · rw [if_pos c17] at H
                      have c17b0 : ((t248.length : Int) == (wrap64 (1 + (wrap64 (Int.tmod a0 900))))) = true := beq_iff_eq.mpr c17
                      (try (have c17b0w := c17b0; simp only [← i64_w] at c17b0w))
                      (try (have c17b0v1 : ((t248.length : Int) == (IntKind.i64.wrap (1 + (wrap64 (Int.tmod a0 900))))) = true := by simpa only [i64_w] using c17b0))
                      have c17b1 : ((t248.length : Int) != (wrap64 (1 + (wrap64 (Int.tmod a0 900))))) = false := bne_eq_false_iff_eq.mpr c17
                      (try (have c17b1w := c17b1; simp only [← i64_w] at c17b1w))
                      (try (have c17b1v1 : ((t248.length : Int) != (IntKind.i64.wrap (1 + (wrap64 (Int.tmod a0 900))))) = false := by simpa only [i64_w] using c17b1))
                      clear c17
                      obtain ⟨ji18, hji18⟩ : ∃ j_ : Int, (wrap64 ((wrap64 (1 + (wrap64 (Int.tmod a0 900)))) - 1)) = j_ := ⟨_, rfl⟩
                      replace H : (if 0 ≤ (ji18) then (if (ji18) < (t248.length : Int) then (some (((rd_T26 t248 (ji18)).f1) == a1)) else (none)) else (none)) = some r := by first | (rw [hji18] at H; exact H) | (simp only [hji18] at H ⊢; exact H) | exact H
                      (try rw [hji18] at A9)
                      (try rw [hji18] at A11)
                      (try rw [hji18] at A12)
                      have hji18w : (IntKind.i64.wrap ((wrap64 (1 + (wrap64 (Int.tmod a0 900)))) - 1)) = ji18 := (i64_w _).trans hji18
                      by_cases c19 : 0 ≤ (ji18)
                      · rw [if_pos c19] at H
                        have c19b0 : decide (0 ≤ (ji18)) = true := decide_eq_true c19
                        clear c19
                        by_cases c20 : (ji18) < (t248.length : Int)
                        · rw [if_pos c20] at H
                          have c20b0 : decide ((ji18) < (t248.length : Int)) = true := decide_eq_true c20
                          clear c20
                          obtain rfl := Option.some.inj H
                          obtain ⟨Ao21, co21, eo21⟩ := Kd.R_slice HO_6.out
                          subst eo21
                          go_wp2_with (first | ((with_reducible refine gate_callee (f := 24) rfl ?_); refine goesL_ (some 32) rfl rfl Tryd.func24 (by kernel_rfl) rfl #[.int .i64 2, .slice Ao21 x6_1.length co21] rfl (by (try simp only [List.map_toArray, List.map_cons, List.map_nil]); first | done | rfl | (simp only [List.length_drop, List.length_take]; rfl)) ?_; (with_reducible refine (rle_Put.calls k1 2 (fun k_ => some k_ = (.slice Ao21 x6_1.length co21 : Value).ownBlock) _ _ x6_1 t236 true _ ?side1 A9.out).mono ?_); (case side1 => exact Kd.R_V (Kd.R_tight rfl (HO_6.out))); rintro e w22 ⟨v237, rfl, ho0, hb⟩; refine ⟨_, rfl, ?_⟩; have n0_ := Aside0.mk (Kd.R_below (by (with_reducible repeat (first | apply Kd.R_alloc | apply Kd.R_drewN | apply Kd.R_drew)); exact HO_6.out) hb); have n1_ := Aside0.mk (Kd.R_lower (Kd.R_mono (ok' := fun k_ => True) ho0 (fun _ hk_ => trivial)) (below_size (by repeat (first | (with_reducible first | exact HB.out | apply below_alloc | apply pw_below_drewN | apply below_drew1) | exact HB.out)))); have n2_ := Aside0.mk (below_step (by repeat (first | (with_reducible first | exact HB.out | apply below_alloc | apply pw_below_drewN | apply below_drew1) | exact HB.out)) hb); clear HO_6; clear HB; have HO_6 := n0_; have HO238 := n1_; have HB := n2_; clear n0_ n1_ n2_; (try clear hb); (try clear hb2); (try clear hk); (try clear hi); (try clear ho0); have q23 : (1 : Int) ≤ ((x6_1.length : Int) : Int) := of_decide_eq_true (by first | (with_reducible assumption) | assumption); obtain ⟨i023, hi023, _, hsz23, _⟩ := info_parts info26; have hroom23 : x6_1.length ≤ co21 := (Kd.R_reads' HO_6.out).2.1; have hC23 : Kd.C k26 _ Ao21 x6_1.length x6_1 := (Kd.R_reads' HO_6.out).2.2; have hcut23 := cut_to (P := Tryd.prog) 23 26 .i64 Tryd.underlying23 hi023 Ao21 x6_1.length co21 1 (by omega) q23 hroom23; have hr23 := Kd.C_take (m := 1) hC23 (by omega); have hy23 : y240.length = (1 : Int).toNat := (by rw [Ny240.out, List.length_take]; omega); rw [← Ny240.out] at hr23; rw [← hy23] at hcut23; have HR243 := Aside0.mk hr23; have HC243 := Aside0.mk (show y240.length ≤ co21 from by omega); clear hr23 hC23 hroom23 hi023 hsz23; have KY23 := Aside0.mk hy23; clear hy23; have KL23 := Aside0.mk (show 1 ≤ x6_1.length from by omega); replace q23 := eq_true q23) | ((with_reducible refine gate_callee (f := 24) rfl ?_); refine goesL_ (some 38) rfl rfl Tryd.func24 (by kernel_rfl) rfl #[.int .i64 2, .slice Ao21 y240.length co21] rfl (by (try simp only [List.map_toArray, List.map_cons, List.map_nil]); first | done | rfl | (simp only [List.length_drop, List.length_take]; rfl)) ?_; (with_reducible refine (rle_Put.calls k1 2 (fun k_ => some k_ = (.slice Ao21 x6_1.length co21 : Value).ownBlock) _ _ y240 t244 true _ ?side1 A11.out).mono ?_); (case side1 => exact Kd.V_mk HC243.out (by rw [Ny240.out]; exact Kd.F_take (m := 1) (Kd.V_at (base := 0) (Kd.R_V (Kd.R_tight rfl (Kd.R_apart' (HO_6.out) (Kd.R_typed HO238.out) (by decide))))).2.2 KL23.out)); rintro e w24 ⟨v245, rfl, ho0, hb⟩; refine ⟨_, rfl, ?_⟩; have n0_ := Aside0.mk (Kd.R_below (by (with_reducible repeat (first | apply Kd.R_alloc | apply Kd.R_drewN | apply Kd.R_drew)); exact HO_6.out) hb); have n1_ := Aside0.mk (Kd.R_elder' (by (with_reducible repeat (first | apply Kd.R_alloc | apply Kd.R_drewN | apply Kd.R_drew)); exact HO238.out) (Kd.R_base ho0) hb); have n2_ := Aside0.mk (Kd.R_lower (Kd.R_new' (Kd.R_mono (ok' := fun k_ => True) ho0 (fun _ hk_ => trivial)) (Kd.R_lt (by (with_reducible repeat (first | apply Kd.R_alloc | apply Kd.R_drewN | apply Kd.R_drew)); exact HO238.out))) (below_size (by repeat (first | (with_reducible first | exact HB.out | apply below_alloc | apply pw_below_drewN | apply below_drew1) | exact HB.out)))); have n3_ := Aside0.mk (Kd.C_below (by repeat (first | (with_reducible exact HR243.out) | (with_reducible refine Kd.C_alloc ?_ _) | (with_reducible refine Kd.C_drewN ?_ _) | (with_reducible refine Kd.C_drew ?_) | exact HR243.out)) hb); have n4_ := Aside0.mk (below_step (by repeat (first | (with_reducible first | exact HB.out | apply below_alloc | apply pw_below_drewN | apply below_drew1) | exact HB.out)) hb); clear HO_6; clear HO238; clear HR243; clear HB; have HO_6 := n0_; have HO238 := n1_; have HO246 := n2_; have HR243 := n3_; have HB := n4_; clear n0_ n1_ n2_ n3_ n4_; (try clear hb); (try clear hb2); (try clear hk); (try clear hi); (try clear ho0); obtain ⟨Ao25, co25, eo25⟩ := Kd.R_slice HO238.out; subst eo25) | ((with_reducible refine gate_callee (f := 25) rfl ?_); refine goesL_ (some 44) rfl rfl Tryd.func25 (by kernel_rfl) rfl #[.int .i64 2, .int .i64 (wrap64 (1 + (wrap64 (Int.tmod a0 900)))), .slice Ao25 t236.length co25] rfl (by (try simp only [List.map_toArray, List.map_cons, List.map_nil]); first | done | rfl | (simp only [List.length_drop, List.length_take]; rfl)) ?_; (with_reducible refine (rle_Take.calls GA k1 2 (wrap64 (1 + (wrap64 (Int.tmod a0 900)))) _ _ t236 t248 true _ ?side1 ?side2 ?side3 A12.out).mono ?_); (case side1 => repeat (first | exact (Kd.R_reads' HO238.out).2.2 | (with_reducible refine Kd.C_alloc ?_ _) | (with_reducible refine Kd.C_drewN ?_ _) | (with_reducible refine Kd.C_drew ?_))); (case side2 => exact (Kd.R_reads' HO238.out).2.1); (case side3 => exact Glob.below HG.out (by repeat (first | (with_reducible first | exact HB.out | apply below_alloc | apply pw_below_drewN | apply below_drew1) | exact HB.out))); rintro e w26 ⟨v250, rfl, ho0, hb⟩; refine ⟨_, rfl, ?_⟩; have n0_ := Aside0.mk (Kd.R_elder' (by (with_reducible repeat (first | apply Kd.R_alloc | apply Kd.R_drewN | apply Kd.R_drew)); exact HO_6.out) (Kd.R_base ho0) hb); have n1_ := Aside0.mk (Kd.R_below (by (with_reducible repeat (first | apply Kd.R_alloc | apply Kd.R_drewN | apply Kd.R_drew)); exact HO238.out) hb); have n2_ := Aside0.mk (Kd.R_below (by (with_reducible repeat (first | apply Kd.R_alloc | apply Kd.R_drewN | apply Kd.R_drew)); exact HO246.out) hb); have n3_ := Aside0.mk (Kd.R_lower (Kd.R_new' ho0 (Kd.R_lt (by (with_reducible repeat (first | apply Kd.R_alloc | apply Kd.R_drewN | apply Kd.R_drew)); exact HO_6.out))) (below_size (by repeat (first | (with_reducible first | exact HB.out | apply below_alloc | apply pw_below_drewN | apply below_drew1) | exact HB.out)))); have n4_ := Aside0.mk (Kd.C_below (by repeat (first | (with_reducible exact HR243.out) | (with_reducible refine Kd.C_alloc ?_ _) | (with_reducible refine Kd.C_drewN ?_ _) | (with_reducible refine Kd.C_drew ?_) | exact HR243.out)) hb); have n5_ := Aside0.mk (below_step (by repeat (first | (with_reducible first | exact HB.out | apply below_alloc | apply pw_below_drewN | apply below_drew1) | exact HB.out)) hb); clear HO_6; clear HO238; clear HO246; clear HR243; clear HB; have HO_6 := n0_; have HO238 := n1_; have HO246 := n2_; have HO251 := n3_; have HR243 := n4_; have HB := n5_; clear n0_ n1_ n2_ n3_ n4_ n5_; (try clear hb); (try clear hb2); (try clear hk); (try clear hi); (try clear ho0); obtain ⟨Ao27, co27, eo27⟩ := Kd.R_slice HO246.out; subst eo27; obtain ⟨Ao28, co28, eo28⟩ := Kd.R_slice HO251.out; subst eo28; have p252 : 0 ≤ ((ji18) : Int) := of_decide_eq_true (by first | (with_reducible assumption) | assumption); have q252 : (ji18) < (t248.length : Int) := of_decide_eq_true (by first | (with_reducible assumption) | assumption); obtain ⟨ad252, e252, hx252_0, hx252_1, hx252_2⟩ := at_T26 (Kd.R_reads' HO251.out).2.2 (ji18) p252 q252; cases e252; replace p252 := eq_true p252; replace q252 := eq_true q252))
                          go_ret
                          exact ⟨by first | rfl | (simp [errW_none, errW_some] <;> rfl) | (simp only [← hji18]; first | rfl | (simp [errW_none, errW_some] <;> rfl)) | (simp [*, errW_none, errW_some] <;> rfl), by repeat (first | (with_reducible first | exact HB.out | apply below_alloc | apply pw_below_drewN | apply below_drew1) | exact HB.out)⟩
                        · rw [if_neg c20] at H
                          exact absurd H (by simp)
                      · rw [if_neg c19] at H
                        exact absurd H (by simp)
                    · rw [if_neg c17] at H
                      exact absurd H (by simp)
                  · rw [if_neg c16] at H
                    exact absurd H (by simp)
                · replace c15 := Bool.eq_false_iff.mpr c15
                  subst c15
                  have H1 : (none) = some r := by rw [if_neg (show ¬ (false = true) by decide)] at H; exact H
                  clear H
                  have H := H1
                  clear H1
                  exact absurd H (by simp)
              · replace c14 := Bool.eq_false_iff.mpr c14
                subst c14
                have H1 : (none) = some r := by rw [if_neg (show ¬ (false = true) by decide)] at H; exact H
                clear H
                have H := H1
                clear H1
                exact absurd H (by simp)
            · replace c13 := Bool.eq_false_iff.mpr c13
              subst c13
              have H1 : (none) = some r := by rw [if_neg (show ¬ (false = true) by decide)] at H; exact H
              clear H
              have H := H1
              clear H1
              exact absurd H (by simp)
          · rw [if_neg c10] at H
            exact absurd H (by simp)
  · replace c4 := Bool.eq_false_iff.mpr c4
    subst c4
    have H1 : (none) = some r := by rw [if_neg (show ¬ (false = true) by decide)] at H; exact H
    clear H
    have H := H1
    clear H1
    exact absurd H (by simp)

/-- THE ONE PURE STATEMENT of rabbetlaw6_RleRuns: yours. -/
def rabbetlaw6_RleRuns.Pure : Prop := ∀ (a0 : Int) (a1 : Int), (Lit.int .u16 a0).wf = true → (Lit.int .i64 a1).wf = true → ∃ k, rabbetlaw6_RleRuns.f k a0 a1 = some true
theorem rabbetlaw6_RleRuns.walk (P : rabbetlaw6_RleRuns.Pure) (a0 : Int) (a1 : Int) (w : World) (GA : Nat → Addr) (hG : Glob GA w) (w0 : (Lit.int .u16 a0).wf = true) (w1 : (Lit.int .i64 a1).wf = true) :
    Calls Tryd.prog 12 #[.int .u16 a0, .int .i64 a1] w fun e w' => e = .returned (.bool true) ∧ Below w.heap.size w w' := by
  obtain ⟨k, h⟩ := P a0 a1 w0 w1
  refine (rabbetlaw6_RleRuns.calls GA k a0 a1 true w hG h).mono ?_
  rintro e w' ⟨rfl, hd⟩
  exact ⟨rfl, hd⟩

end Go.Proofs.YtigldipjkejalaaDoor.PRleRuns
