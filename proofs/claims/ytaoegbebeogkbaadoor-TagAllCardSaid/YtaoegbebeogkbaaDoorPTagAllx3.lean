-- Written by xprint.py (a program of this project) out of the translation. Not trusted: Lean checks it.
import Derived.Test.YtaoegbebeogkbaaDoorPTagAllx0
import Derived.Test.YtaoegbebeogkbaaDoorPTagAllx1
import Derived.Test.YtaoegbebeogkbaaDoorPTagAllx2
namespace Go.Proofs.YtaoegbebeogkbaaDoor.PTagAll
open Go.RowKit Go.Proofs.YtaoegbebeogkbaaDoorW.PrintWords Go.Proofs.YtaoegbebeogkbaaDoorW.PrintLast Go.Proofs.YtaoegbebeogkbaaDoorW.PrintMore
attribute [local go_sem] max2_int min2_int max_two min_two max_three min_three max_four min_four   -- for this text's walks alone
set_option linter.unusedVariables false
set_option linter.unusedSimpArgs false

/-! ### rabbetlaw20_TagAll: function 3 -/
def rabbetlaw20_TagAll.j0 : Nat → Int → Int → List Int → List Int → Bool → Option (Bool)
  | 0, _, _, _, _, _ => none
  | k + 1, x0, x1, x2, x3, x28 => if x28 = true then (some true) else ((rabbetlaw0_Handed.f x2).bind fun t212 => ((rabbetlaw0_Handed.f x3).bind fun t215 => ((tag_Put.f x0 x1 t212).bind fun bt218 => ((rabbetref18_PutTag.f k x0 x1 x2).bind fun bt222 => ((tag_Take.f k x0 x1 t215).bind fun bt226 => ((rabbetref18_TakeTag.f k x0 x1 x3).bind fun bt230 => (if (strOfNums bt218.1).toList = (strOfNums bt222.1).toList then (if (bt218.2 == bt222.2) = true then (if (strOfNums bt226.1).toList = (strOfNums bt230.1).toList then (if (bt226.2 == bt230.2) = true then ((rabbetlaw0_Same.f t212 x2).bind fun t234 => (if t234 = true then ((rabbetlaw0_Same.f t215 x3).bind fun t235 => (some t235)) else (none))) else (none)) else (none)) else (none)) else (none))))))))
def rabbetlaw20_TagAll.f (k : Nat) (a0 : Int) (a1 : Int) (l2 : List Int) (l3 : List Int) : Option (Bool) := (rabbetlaw20_begun.f k).bind fun t211 => (if t211 = true then (if (l2.length : Int) > 150 then (rabbetlaw20_TagAll.j0 k a0 a1 l2 l3 true) else (rabbetlaw20_TagAll.j0 k a0 a1 l2 l3 (decide ((l3.length : Int) > 150)))) else (none))
theorem rabbetlaw20_TagAll.mono_l : ∀ k, (∀ y0 y1 y2 y3 y4, LeO (rabbetlaw20_TagAll.j0 k y0 y1 y2 y3 y4) (rabbetlaw20_TagAll.j0 (k + 1) y0 y1 y2 y3 y4))
  | 0 => fun _ _ _ _ _ r h => by simp [rabbetlaw20_TagAll.j0] at h
  | k + 1 => by
    have ih0 := rabbetlaw20_TagAll.mono_l k
    · intro y0 y1 y2 y3 y4
      unfold rabbetlaw20_TagAll.j0
      repeat' first
      | (with_reducible exact ih0 _ _ _ _ _)
      | (with_reducible exact rabbetlaw20_begun.mono _)
      | (with_reducible exact rabbetref18_PutTag.mono _ _ _ _)
      | (with_reducible exact rabbetref18_TakeTag.mono _ _ _ _)
      | (with_reducible exact tag_Take.mono _ _ _ _)
      | (with_reducible exact LeO.refl _)
      | (with_reducible exact LeO.none _)
      | (with_reducible refine LeO.ite ?_ ?_)
      | (with_reducible refine LeO.bind ?_ (fun _ => ?_))
      | exact ih0 _ _ _ _ _
      | exact rabbetlaw20_begun.mono _
      | exact rabbetref18_PutTag.mono _ _ _ _
      | exact rabbetref18_TakeTag.mono _ _ _ _
      | exact tag_Take.mono _ _ _ _
      | exact LeO.none _
      | refine LeO.ite ?_ ?_
      | refine LeO.bind ?_ (fun _ => ?_)
theorem rabbetlaw20_TagAll.mono : ∀ a0 a1 a2 a3 k, LeO (rabbetlaw20_TagAll.f k a0 a1 a2 a3) (rabbetlaw20_TagAll.f (k + 1) a0 a1 a2 a3) := by
  intro a0 a1 a2 a3 k
  have ih0 := rabbetlaw20_TagAll.mono_l k
  unfold rabbetlaw20_TagAll.f
  repeat' first
      | (with_reducible exact ih0 _ _ _ _ _)
      | (with_reducible exact rabbetlaw20_begun.mono _)
      | (with_reducible exact rabbetref18_PutTag.mono _ _ _ _)
      | (with_reducible exact rabbetref18_TakeTag.mono _ _ _ _)
      | (with_reducible exact tag_Take.mono _ _ _ _)
      | (with_reducible exact LeO.refl _)
      | (with_reducible exact LeO.none _)
      | (with_reducible refine LeO.ite ?_ ?_)
      | (with_reducible refine LeO.bind ?_ (fun _ => ?_))
      | exact ih0 _ _ _ _ _
      | exact rabbetlaw20_begun.mono _
      | exact rabbetref18_PutTag.mono _ _ _ _
      | exact rabbetref18_TakeTag.mono _ _ _ _
      | exact tag_Take.mono _ _ _ _
      | exact LeO.none _
      | refine LeO.ite ?_ ?_
      | refine LeO.bind ?_ (fun _ => ?_)
set_option maxHeartbeats 8000000 in
set_option maxRecDepth 100000 in
theorem rabbetlaw20_TagAll.calls (GA : Nat → Addr) (k : Nat) (a0 : Int) (a1 : Int) (A2 : Option Addr) (c2 : Nat) (l2 : List Int) (A3 : Option Addr) (c3 : Nat) (l3 : List Int) (r : Bool) (w : World) (hr2 : Kd.C (Kd.int .u8) w A2 l2.length l2) (hc2 : l2.length ≤ c2) (hr3 : Kd.C (Kd.int .u8) w A3 l3.length l3) (hc3 : l3.length ≤ c3) (hG : Glob GA w) (h : rabbetlaw20_TagAll.f k a0 a1 l2 l3 = some r) :
    Calls Tryd.prog 3 #[.int .u32 a0, .int .u32 a1, .slice A2 l2.length c2, .slice A3 l3.length c3] w fun e w' => e = .returned (.bool r) ∧ Below w.heap.size w w' := by
  have HG := Aside0.mk hG
  clear hG
  have HR2 := Aside0.mk hr2
  have HC2 := Aside0.mk hc2
  clear hr2 hc2
  have HR3 := Aside0.mk hr3
  have HC3 := Aside0.mk hc3
  clear hr3 hc3
  have HB := Aside0.mk (Below.refl w.heap.size w)
  have H : ((rabbetlaw20_begun.f k).bind fun t211 => (if t211 = true then (if (l2.length : Int) > 150 then (rabbetlaw20_TagAll.j0 k a0 a1 l2 l3 true) else (rabbetlaw20_TagAll.j0 k a0 a1 l2 l3 (decide ((l3.length : Int) > 150)))) else (none))) = some r := h
  clear h
  replace H := Option.bind_eq_some_iff.mp H
  obtain ⟨t211, A50, H⟩ := H
  replace H : (if t211 = true then (if (l2.length : Int) > 150 then (rabbetlaw20_TagAll.j0 k a0 a1 l2 l3 true) else (rabbetlaw20_TagAll.j0 k a0 a1 l2 l3 (decide ((l3.length : Int) > 150)))) else (none)) = some r := H
  have A5 := Aside0.mk A50
  clear A50
  by_cases c6 : t211 = true
  · subst c6
    have H1 : (if (l2.length : Int) > 150 then (rabbetlaw20_TagAll.j0 k a0 a1 l2 l3 true) else (rabbetlaw20_TagAll.j0 k a0 a1 l2 l3 (decide ((l3.length : Int) > 150)))) = some r := by rw [if_pos rfl] at H; exact H
    clear H
    have H := H1
    clear H1
    have HC7 := Aside0.mk H
    clear H
    go_enter Tryd.func3, Tryd.ntmps3
    go_upto_region 3 with (first | ((with_reducible refine gate_callee (f := 10) rfl ?_); refine goesL_ (some 19) rfl rfl Tryd.func10 (by kernel_rfl) rfl #[] rfl (by (try simp only [List.map_toArray, List.map_cons, List.map_nil]); first | done | rfl | (simp only [List.length_drop, List.length_take]; rfl)) ?_; (with_reducible refine (rabbetlaw20_begun.calls GA k  true _ ?side1 A5.out).mono ?_); (case side1 => exact Glob.below HG.out (by repeat (first | (with_reducible first | exact HB.out | apply below_alloc | apply pw_below_drewN | apply below_drew1) | exact HB.out))); rintro e w8 ⟨rfl, hb⟩; refine ⟨_, rfl, ?_⟩; have n0_ := Aside0.mk (below_step (by repeat (first | (with_reducible first | exact HB.out | apply below_alloc | apply pw_below_drewN | apply below_drew1) | exact HB.out)) hb); clear HB; have HB := n0_; clear n0_; (try clear hb); (try clear hb2); (try clear hk); (try clear hi)))
    (try simp only [Act.put, List.setIfInBounds_toArray, List.set_cons_zero, List.set_cons_succ])
    go_cut [28] (fun v28 wc => ∃ (kq : Nat) (x28_6 : Bool), v28 = .bool x28_6 ∧ Aside0 (rabbetlaw20_TagAll.j0 kq a0 a1 l2 l3 x28_6 = some r) ∧ Aside0 (kq ≤ k) ∧ Aside0 (Below w.heap.size w wc))
    case first =>
      have H := HC7.out
      clear HC7
      by_cases c9 : (l2.length : Int) > 150
      · rw [if_pos c9] at H
        have c9b0 : decide (150 < (l2.length : Int)) = true := decide_eq_true c9
        have c9b1 : decide (150 < l2.length) = true := decide_eq_true (by omega)
        clear c9
        (first | rw [c9b0] | rw [c9b1] | (simp only [i64_w, i32_w]; rw [c9b0]) | skip)
        have H' := Aside0.mk H
        clear H
        go_wp2
        go_meet
        case rel => exact ⟨_, (true), (by first | rfl | (simp; done) | (simp [*]; done)), H', ⟨by first | omega | exact Nat.le_refl _⟩, ⟨by repeat (first | (with_reducible first | exact HB.out | apply below_alloc | apply pw_below_drewN | apply below_drew1) | exact HB.out)⟩⟩
      · rw [if_neg c9] at H
        have c9b0 : decide (150 < (l2.length : Int)) = false := decide_eq_false c9
        have c9b1 : decide (150 < l2.length) = false := decide_eq_false (by omega)
        clear c9
        (first | rw [c9b0] | rw [c9b1] | (simp only [i64_w, i32_w]; rw [c9b0]) | skip)
        have H' := Aside0.mk H
        clear H
        go_wp2
        go_meet
        case rel => exact ⟨_, (decide ((l3.length : Int) > 150)), (by first | rfl | (simp; done) | (simp [*]; done)), H', ⟨by first | omega | exact Nat.le_refl _⟩, ⟨by repeat (first | (with_reducible first | exact HB.out | apply below_alloc | apply pw_below_drewN | apply below_drew1) | exact HB.out)⟩⟩
    case rest =>
      clear HC7
      try clear c1
      try clear c2
      try clear p2
      try clear c3
      try clear c6
      try clear c9
      try clear c9b0
      try clear c9b1
      obtain ⟨kq, x28_6, rfl, HA, HJ6, HB⟩ := hcut
      cases kq with
      | zero => exact absurd HA.out (by simp [rabbetlaw20_TagAll.j0])
      | succ kj6 =>
        have H := HA.out
        clear HA
        simp only [rabbetlaw20_TagAll.j0] at H
        by_cases c10 : x28_6 = true
        · subst c10
          have H1 : (some true) = some r := by rw [if_pos rfl] at H; exact H
          clear H
          have H := H1
          clear H1
          obtain rfl := Option.some.inj H
          go_wp2
          go_ret
          exact ⟨by first | rfl | (simp [errW_none, errW_some] <;> rfl) | (simp [*, errW_none, errW_some] <;> rfl), by repeat (first | (with_reducible first | exact HB.out | apply below_alloc | apply pw_below_drewN | apply below_drew1) | exact HB.out)⟩
        · replace c10 := Bool.eq_false_iff.mpr c10
          subst c10
          have H1 : ((rabbetlaw0_Handed.f l2).bind fun t212 => ((rabbetlaw0_Handed.f l3).bind fun t215 => ((tag_Put.f a0 a1 t212).bind fun bt218 => ((rabbetref18_PutTag.f kj6 a0 a1 l2).bind fun bt222 => ((tag_Take.f kj6 a0 a1 t215).bind fun bt226 => ((rabbetref18_TakeTag.f kj6 a0 a1 l3).bind fun bt230 => (if (strOfNums bt218.1).toList = (strOfNums bt222.1).toList then (if (bt218.2 == bt222.2) = true then (if (strOfNums bt226.1).toList = (strOfNums bt230.1).toList then (if (bt226.2 == bt230.2) = true then ((rabbetlaw0_Same.f t212 l2).bind fun t234 => (if t234 = true then ((rabbetlaw0_Same.f t215 l3).bind fun t235 => (some t235)) else (none))) else (none)) else (none)) else (none)) else (none)))))))) = some r := by rw [if_neg (show ¬ (false = true) by decide)] at H; exact H
          clear H
          have H := H1
          clear H1
          replace H := Option.bind_eq_some_iff.mp H
          obtain ⟨t212, A110, H⟩ := H
          replace H : ((rabbetlaw0_Handed.f l3).bind fun t215 => ((tag_Put.f a0 a1 t212).bind fun bt218 => ((rabbetref18_PutTag.f kj6 a0 a1 l2).bind fun bt222 => ((tag_Take.f kj6 a0 a1 t215).bind fun bt226 => ((rabbetref18_TakeTag.f kj6 a0 a1 l3).bind fun bt230 => (if (strOfNums bt218.1).toList = (strOfNums bt222.1).toList then (if (bt218.2 == bt222.2) = true then (if (strOfNums bt226.1).toList = (strOfNums bt230.1).toList then (if (bt226.2 == bt230.2) = true then ((rabbetlaw0_Same.f t212 l2).bind fun t234 => (if t234 = true then ((rabbetlaw0_Same.f t215 l3).bind fun t235 => (some t235)) else (none))) else (none)) else (none)) else (none)) else (none))))))) = some r := H
          have A11 := Aside0.mk A110
          clear A110
          replace H := Option.bind_eq_some_iff.mp H
          obtain ⟨t215, A120, H⟩ := H
          replace H : ((tag_Put.f a0 a1 t212).bind fun bt218 => ((rabbetref18_PutTag.f kj6 a0 a1 l2).bind fun bt222 => ((tag_Take.f kj6 a0 a1 t215).bind fun bt226 => ((rabbetref18_TakeTag.f kj6 a0 a1 l3).bind fun bt230 => (if (strOfNums bt218.1).toList = (strOfNums bt222.1).toList then (if (bt218.2 == bt222.2) = true then (if (strOfNums bt226.1).toList = (strOfNums bt230.1).toList then (if (bt226.2 == bt230.2) = true then ((rabbetlaw0_Same.f t212 l2).bind fun t234 => (if t234 = true then ((rabbetlaw0_Same.f t215 l3).bind fun t235 => (some t235)) else (none))) else (none)) else (none)) else (none)) else (none)))))) = some r := H
          have A12 := Aside0.mk A120
          clear A120
          replace H := Option.bind_eq_some_iff.mp H
          obtain ⟨⟨t218, t221⟩, A130, H⟩ := H
          replace H : ((rabbetref18_PutTag.f kj6 a0 a1 l2).bind fun bt222 => ((tag_Take.f kj6 a0 a1 t215).bind fun bt226 => ((rabbetref18_TakeTag.f kj6 a0 a1 l3).bind fun bt230 => (if (strOfNums t218).toList = (strOfNums bt222.1).toList then (if (t221 == bt222.2) = true then (if (strOfNums bt226.1).toList = (strOfNums bt230.1).toList then (if (bt226.2 == bt230.2) = true then ((rabbetlaw0_Same.f t212 l2).bind fun t234 => (if t234 = true then ((rabbetlaw0_Same.f t215 l3).bind fun t235 => (some t235)) else (none))) else (none)) else (none)) else (none)) else (none))))) = some r := H
          have A13 := Aside0.mk A130
          clear A130
          replace H := Option.bind_eq_some_iff.mp H
          obtain ⟨⟨t222, t223⟩, A140, H⟩ := H
          replace H : ((tag_Take.f kj6 a0 a1 t215).bind fun bt226 => ((rabbetref18_TakeTag.f kj6 a0 a1 l3).bind fun bt230 => (if (strOfNums t218).toList = (strOfNums t222).toList then (if (t221 == t223) = true then (if (strOfNums bt226.1).toList = (strOfNums bt230.1).toList then (if (bt226.2 == bt230.2) = true then ((rabbetlaw0_Same.f t212 l2).bind fun t234 => (if t234 = true then ((rabbetlaw0_Same.f t215 l3).bind fun t235 => (some t235)) else (none))) else (none)) else (none)) else (none)) else (none)))) = some r := H
          have A14 := Aside0.mk A140
          clear A140
          replace H := Option.bind_eq_some_iff.mp H
          obtain ⟨⟨t226, t227⟩, A150, H⟩ := H
          replace H : ((rabbetref18_TakeTag.f kj6 a0 a1 l3).bind fun bt230 => (if (strOfNums t218).toList = (strOfNums t222).toList then (if (t221 == t223) = true then (if (strOfNums t226).toList = (strOfNums bt230.1).toList then (if (t227 == bt230.2) = true then ((rabbetlaw0_Same.f t212 l2).bind fun t234 => (if t234 = true then ((rabbetlaw0_Same.f t215 l3).bind fun t235 => (some t235)) else (none))) else (none)) else (none)) else (none)) else (none))) = some r := H
          have A15 := Aside0.mk A150
          clear A150
          replace H := Option.bind_eq_some_iff.mp H
          obtain ⟨⟨t230, t231⟩, A160, H⟩ := H
          replace H : (if (strOfNums t218).toList = (strOfNums t222).toList then (if (t221 == t223) = true then (if (strOfNums t226).toList = (strOfNums t230).toList then (if (t227 == t231) = true then ((rabbetlaw0_Same.f t212 l2).bind fun t234 => (if t234 = true then ((rabbetlaw0_Same.f t215 l3).bind fun t235 => (some t235)) else (none))) else (none)) else (none)) else (none)) else (none)) = some r := H
          have A16 := Aside0.mk A160
          clear A160
          by_cases c17 : (strOfNums t218).toList = (strOfNums t222).toList
          · rw [if_pos c17] at H
            have c17b0 : ((strOfNums t218).toList == (strOfNums t222).toList) = true := beq_iff_eq.mpr c17
            have c17b1 : ((strOfNums t218).toList != (strOfNums t222).toList) = false := bne_eq_false_iff_eq.mpr c17
            clear c17
            by_cases c18 : (t221 == t223) = true
            · rw [if_pos c18] at H
              have c18b0 : (t221 == t223) = true := c18
              (try (have c18b1 : decide (t221 = t223) = true := by simpa using c18))
              (try (have c18b2 : (t221 == t223) = true := by simpa using c18))
              clear c18
              by_cases c19 : (strOfNums t226).toList = (strOfNums t230).toList
              · rw [if_pos c19] at H
                have c19b0 : ((strOfNums t226).toList == (strOfNums t230).toList) = true := beq_iff_eq.mpr c19
                have c19b1 : ((strOfNums t226).toList != (strOfNums t230).toList) = false := bne_eq_false_iff_eq.mpr c19
                clear c19
                by_cases c20 : (t227 == t231) = true
                · rw [if_pos c20] at H
                  have c20b0 : (t227 == t231) = true := c20
                  (try (have c20b1 : decide (t227 = t231) = true := by simpa using c20))
                  (try (have c20b2 : (t227 == t231) = true := by simpa using c20))
                  clear c20
                  replace H := Option.bind_eq_some_iff.mp H
                  obtain ⟨t234, A210, H⟩ := H
                  replace H : (if t234 = true then ((rabbetlaw0_Same.f t215 l3).bind fun t235 => (some t235)) else (none)) = some r := H
                  have A21 := Aside0.mk A210
                  clear A210
                  by_cases c22 : t234 = true
                  · subst c22
                    have H1 : ((rabbetlaw0_Same.f t215 l3).bind fun t235 => (some t235)) = some r := by rw [if_pos rfl] at H; exact H
                    clear H
                    have H := H1
                    clear H1
                    replace H := Option.bind_eq_some_iff.mp H
                    obtain ⟨t235, A230, H⟩ := H
                    replace H : (some t235) = some r := H
                    have A23 := Aside0.mk A230
                    clear A230
                    obtain rfl := Option.some.inj H
                    go_wp2_with (first | ((with_reducible refine gate_callee (f := 11) rfl ?_); refine goesL_ (some 30) rfl rfl Tryd.func11 (by kernel_rfl) rfl #[.slice A2 l2.length c2] rfl (by (try simp only [List.map_toArray, List.map_cons, List.map_nil]); first | done | rfl | (simp only [List.length_drop, List.length_take]; rfl)) ?_; (with_reducible refine (rabbetlaw0_Handed.calls _ _ l2 t212 _ ?side1 ?side2 A11.out).mono ?_); (case side1 => repeat (first | exact (Kd.C_below HR2.out HB.out) | (with_reducible refine Kd.C_alloc ?_ _) | (with_reducible refine Kd.C_drewN ?_ _) | (with_reducible refine Kd.C_drew ?_))); (case side2 => exact HC2.out); rintro e w24 ⟨v213, rfl, ho0, hb⟩; refine ⟨_, rfl, ?_⟩; have n0_ := Aside0.mk (Kd.R_lower ho0.1 (below_size (by repeat (first | (with_reducible first | exact HB.out | apply below_alloc | apply pw_below_drewN | apply below_drew1) | exact HB.out)))); have n1_ := Aside0.mk (BelowS.mk (below_step (by repeat (first | (with_reducible first | exact HB.out | apply below_alloc | apply pw_below_drewN | apply below_drew1) | exact HB.out)) hb) ho0.2); clear HB; have HO214 := n0_; have HB := n1_; clear n0_ n1_; (try clear hb); (try clear hb2); (try clear hk); (try clear hi); (try clear ho0)) | ((with_reducible refine gate_callee (f := 11) rfl ?_); refine goesL_ (some 32) rfl rfl Tryd.func11 (by kernel_rfl) rfl #[.slice A3 l3.length c3] rfl (by (try simp only [List.map_toArray, List.map_cons, List.map_nil]); first | done | rfl | (simp only [List.length_drop, List.length_take]; rfl)) ?_; (with_reducible refine (rabbetlaw0_Handed.calls _ _ l3 t215 _ ?side1 ?side2 A12.out).mono ?_); (case side1 => repeat (first | exact (Kd.C_below HR3.out HB.out.b) | (with_reducible refine Kd.C_alloc ?_ _) | (with_reducible refine Kd.C_drewN ?_ _) | (with_reducible refine Kd.C_drew ?_))); (case side2 => exact HC3.out); rintro e w25 ⟨v216, rfl, ho0, hb⟩; refine ⟨_, rfl, ?_⟩; have n0_ := Aside0.mk (Kd.R_elder' (by (with_reducible repeat (first | apply Kd.R_alloc | apply Kd.R_drewN | apply Kd.R_drew)); exact HO214.out) (Kd.R_base ho0.1) hb); have n1_ := Aside0.mk (Kd.R_lower (Kd.R_new' ho0.1 (Kd.R_lt (by (with_reducible repeat (first | apply Kd.R_alloc | apply Kd.R_drewN | apply Kd.R_drew)); exact HO214.out))) (belowS_size (by repeat (first | (with_reducible first | (first | exact HB.out | exact HB.out.b) | (first | apply below_alloc | apply belowS_alloc) | (first | apply pw_below_drewN | apply belowS_drewN) | (first | apply below_drew1 | apply belowS_drew1)) | (first | (first | exact HB.out | exact HB.out.b) | exact HB.out.b))))); have n2_ := Aside0.mk (BelowT.mk (belowS_step (by repeat (first | (with_reducible first | (first | exact HB.out | exact HB.out.b) | (first | apply below_alloc | apply belowS_alloc) | (first | apply pw_below_drewN | apply belowS_drewN) | (first | apply below_drew1 | apply belowS_drew1)) | (first | (first | exact HB.out | exact HB.out.b) | exact HB.out.b))) hb) ho0.2); clear HO214; clear HB; have HO214 := n0_; have HO217 := n1_; have HB := n2_; clear n0_ n1_ n2_; (try clear hb); (try clear hb2); (try clear hk); (try clear hi); (try clear ho0); obtain ⟨Ao26, co26, eo26⟩ := Kd.R_slice HO214.out; subst eo26) | ((with_reducible refine gate_callee (f := 12) rfl ?_); refine goesL_ (some 37) rfl rfl Tryd.func12 (by kernel_rfl) rfl #[.int .u32 a0, .int .u32 a1, .slice Ao26 t212.length co26] rfl (by (try simp only [List.map_toArray, List.map_cons, List.map_nil]); first | done | rfl | (simp only [List.length_drop, List.length_take]; rfl)) ?_; (with_reducible refine (tag_Put.calls a0 a1 (fun k_ => some k_ = (.slice Ao26 t212.length co26 : Value).ownBlock) _ _ t212 t218 t221 _ ?side1 A13.out).mono ?_); (case side1 => exact Kd.R_V (Kd.R_tight rfl (HO214.out))); rintro e w27 ⟨v219, rfl, ho0, hb⟩; refine ⟨_, rfl, ?_⟩; have n0_ := Aside0.mk (Kd.R_elder' (by (with_reducible repeat (first | apply Kd.R_alloc | apply Kd.R_drewN | apply Kd.R_drew)); exact HO214.out) (Kd.R_base ho0) hb); have n1_ := Aside0.mk (Kd.R_elder' (by (with_reducible repeat (first | apply Kd.R_alloc | apply Kd.R_drewN | apply Kd.R_drew)); exact HO217.out) (Kd.R_base ho0) hb); have n2_ := Aside0.mk (Kd.R_lower (Kd.R_new' (Kd.R_new' (Kd.R_mono (ok' := fun k_ => True) ho0 (fun _ hk_ => trivial)) (Kd.R_lt (by (with_reducible repeat (first | apply Kd.R_alloc | apply Kd.R_drewN | apply Kd.R_drew)); exact HO214.out))) (Kd.R_lt (by (with_reducible repeat (first | apply Kd.R_alloc | apply Kd.R_drewN | apply Kd.R_drew)); exact HO217.out))) (belowT_size (by repeat (first | (with_reducible first | (first | exact HB.out | exact HB.out.b) | (first | apply below_alloc | apply belowT_alloc) | (first | apply pw_below_drewN | apply belowT_drewN) | (first | apply below_drew1 | apply belowT_drew1)) | (first | (first | exact HB.out | exact HB.out.b) | exact HB.out.b))))); have n3_ := Aside0.mk (belowT_step (by repeat (first | (with_reducible first | (first | exact HB.out | exact HB.out.b) | (first | apply below_alloc | apply belowT_alloc) | (first | apply pw_below_drewN | apply belowT_drewN) | (first | apply below_drew1 | apply belowT_drew1)) | (first | (first | exact HB.out | exact HB.out.b) | exact HB.out.b))) hb); clear HO214; clear HO217; clear HB; have HO214 := n0_; have HO217 := n1_; have HO220 := n2_; have HB := n3_; clear n0_ n1_ n2_ n3_; (try clear hb); (try clear hb2); (try clear hk); (try clear hi); (try clear ho0)) | ((with_reducible refine gate_callee (f := 13) rfl ?_); refine goesL_ (some 44) rfl rfl Tryd.func13 (by kernel_rfl) rfl #[.int .u32 a0, .int .u32 a1, .slice A2 l2.length c2] rfl (by (try simp only [List.map_toArray, List.map_cons, List.map_nil]); first | done | rfl | (simp only [List.length_drop, List.length_take]; rfl)) ?_; (with_reducible refine (rabbetref18_PutTag.calls kj6 a0 a1 _ _ l2 t222 t223 _ ?side1 ?side2 A14.out).mono ?_); (case side1 => repeat (first | exact (Kd.C_below HR2.out HB.out.b) | (with_reducible refine Kd.C_alloc ?_ _) | (with_reducible refine Kd.C_drewN ?_ _) | (with_reducible refine Kd.C_drew ?_))); (case side2 => exact HC2.out); rintro e w28 ⟨v224, rfl, ho0, hb⟩; refine ⟨_, rfl, ?_⟩; have n0_ := Aside0.mk (Kd.R_elder' (by (with_reducible repeat (first | apply Kd.R_alloc | apply Kd.R_drewN | apply Kd.R_drew)); exact HO214.out) (Kd.R_base ho0) hb); have n1_ := Aside0.mk (Kd.R_elder' (by (with_reducible repeat (first | apply Kd.R_alloc | apply Kd.R_drewN | apply Kd.R_drew)); exact HO217.out) (Kd.R_base ho0) hb); have n2_ := Aside0.mk (Kd.R_elder' (by (with_reducible repeat (first | apply Kd.R_alloc | apply Kd.R_drewN | apply Kd.R_drew)); exact HO220.out) (Kd.R_base ho0) hb); have n3_ := Aside0.mk (Kd.R_lower (Kd.R_new' (Kd.R_new' (Kd.R_new' ho0 (Kd.R_lt (by (with_reducible repeat (first | apply Kd.R_alloc | apply Kd.R_drewN | apply Kd.R_drew)); exact HO214.out))) (Kd.R_lt (by (with_reducible repeat (first | apply Kd.R_alloc | apply Kd.R_drewN | apply Kd.R_drew)); exact HO217.out))) (Kd.R_lt (by (with_reducible repeat (first | apply Kd.R_alloc | apply Kd.R_drewN | apply Kd.R_drew)); exact HO220.out))) (belowT_size (by repeat (first | (with_reducible first | (first | exact HB.out | exact HB.out.b) | (first | apply below_alloc | apply belowT_alloc) | (first | apply pw_below_drewN | apply belowT_drewN) | (first | apply below_drew1 | apply belowT_drew1)) | (first | (first | exact HB.out | exact HB.out.b) | exact HB.out.b))))); have n4_ := Aside0.mk (belowT_step (by repeat (first | (with_reducible first | (first | exact HB.out | exact HB.out.b) | (first | apply below_alloc | apply belowT_alloc) | (first | apply pw_below_drewN | apply belowT_drewN) | (first | apply below_drew1 | apply belowT_drew1)) | (first | (first | exact HB.out | exact HB.out.b) | exact HB.out.b))) hb); clear HO214; clear HO217; clear HO220; clear HB; have HO214 := n0_; have HO217 := n1_; have HO220 := n2_; have HO225 := n3_; have HB := n4_; clear n0_ n1_ n2_ n3_ n4_; (try clear hb); (try clear hb2); (try clear hk); (try clear hi); (try clear ho0); obtain ⟨Ao29, co29, eo29⟩ := Kd.R_slice HO217.out; subst eo29) | ((with_reducible refine gate_callee (f := 14) rfl ?_); refine goesL_ (some 51) rfl rfl Tryd.func14 (by kernel_rfl) rfl #[.int .u32 a0, .int .u32 a1, .slice Ao29 t215.length co29] rfl (by (try simp only [List.map_toArray, List.map_cons, List.map_nil]); first | done | rfl | (simp only [List.length_drop, List.length_take]; rfl)) ?_; (with_reducible refine (tag_Take.calls GA kj6 a0 a1 _ _ t215 t226 t227 _ ?side1 ?side2 ?side3 A15.out).mono ?_); (case side1 => repeat (first | exact (Kd.R_reads' HO217.out).2.2 | (with_reducible refine Kd.C_alloc ?_ _) | (with_reducible refine Kd.C_drewN ?_ _) | (with_reducible refine Kd.C_drew ?_))); (case side2 => exact (Kd.R_reads' HO217.out).2.1); (case side3 => exact Glob.below HG.out (by repeat (first | (with_reducible first | (first | exact HB.out | exact HB.out.b) | (first | apply below_alloc | apply belowT_alloc) | (first | apply pw_below_drewN | apply belowT_drewN) | (first | apply below_drew1 | apply belowT_drew1)) | (first | (first | exact HB.out | exact HB.out.b) | exact HB.out.b)))); rintro e w30 ⟨v228, rfl, ho0, hb⟩; refine ⟨_, rfl, ?_⟩; have n0_ := Aside0.mk (Kd.R_elder' (by (with_reducible repeat (first | apply Kd.R_alloc | apply Kd.R_drewN | apply Kd.R_drew)); exact HO214.out) (Kd.R_base ho0) hb); have n1_ := Aside0.mk (Kd.R_elder' (by (with_reducible repeat (first | apply Kd.R_alloc | apply Kd.R_drewN | apply Kd.R_drew)); exact HO217.out) (Kd.R_base ho0) hb); have n2_ := Aside0.mk (Kd.R_elder' (by (with_reducible repeat (first | apply Kd.R_alloc | apply Kd.R_drewN | apply Kd.R_drew)); exact HO220.out) (Kd.R_base ho0) hb); have n3_ := Aside0.mk (Kd.R_elder' (by (with_reducible repeat (first | apply Kd.R_alloc | apply Kd.R_drewN | apply Kd.R_drew)); exact HO225.out) (Kd.R_base ho0) hb); have n4_ := Aside0.mk (Kd.R_lower (Kd.R_new' (Kd.R_new' (Kd.R_new' (Kd.R_new' ho0 (Kd.R_lt (by (with_reducible repeat (first | apply Kd.R_alloc | apply Kd.R_drewN | apply Kd.R_drew)); exact HO214.out))) (Kd.R_lt (by (with_reducible repeat (first | apply Kd.R_alloc | apply Kd.R_drewN | apply Kd.R_drew)); exact HO217.out))) (Kd.R_lt (by (with_reducible repeat (first | apply Kd.R_alloc | apply Kd.R_drewN | apply Kd.R_drew)); exact HO220.out))) (Kd.R_lt (by (with_reducible repeat (first | apply Kd.R_alloc | apply Kd.R_drewN | apply Kd.R_drew)); exact HO225.out))) (belowT_size (by repeat (first | (with_reducible first | (first | exact HB.out | exact HB.out.b) | (first | apply below_alloc | apply belowT_alloc) | (first | apply pw_below_drewN | apply belowT_drewN) | (first | apply below_drew1 | apply belowT_drew1)) | (first | (first | exact HB.out | exact HB.out.b) | exact HB.out.b))))); have n5_ := Aside0.mk (belowT_step (by repeat (first | (with_reducible first | (first | exact HB.out | exact HB.out.b) | (first | apply below_alloc | apply belowT_alloc) | (first | apply pw_below_drewN | apply belowT_drewN) | (first | apply below_drew1 | apply belowT_drew1)) | (first | (first | exact HB.out | exact HB.out.b) | exact HB.out.b))) hb); clear HO214; clear HO217; clear HO220; clear HO225; clear HB; have HO214 := n0_; have HO217 := n1_; have HO220 := n2_; have HO225 := n3_; have HO229 := n4_; have HB := n5_; clear n0_ n1_ n2_ n3_ n4_ n5_; (try clear hb); (try clear hb2); (try clear hk); (try clear hi); (try clear ho0)) | ((with_reducible refine gate_callee (f := 15) rfl ?_); refine goesL_ (some 58) rfl rfl Tryd.func15 (by kernel_rfl) rfl #[.int .u32 a0, .int .u32 a1, .slice A3 l3.length c3] rfl (by (try simp only [List.map_toArray, List.map_cons, List.map_nil]); first | done | rfl | (simp only [List.length_drop, List.length_take]; rfl)) ?_; (with_reducible refine (rabbetref18_TakeTag.calls kj6 a0 a1 _ _ l3 t230 t231 _ ?side1 ?side2 A16.out).mono ?_); (case side1 => repeat (first | exact (Kd.C_below HR3.out HB.out.b) | (with_reducible refine Kd.C_alloc ?_ _) | (with_reducible refine Kd.C_drewN ?_ _) | (with_reducible refine Kd.C_drew ?_))); (case side2 => exact HC3.out); rintro e w31 ⟨v232, rfl, ho0, hb⟩; refine ⟨_, rfl, ?_⟩; have n0_ := Aside0.mk (Kd.R_elder' (by (with_reducible repeat (first | apply Kd.R_alloc | apply Kd.R_drewN | apply Kd.R_drew)); exact HO214.out) (Kd.R_base ho0) hb); have n1_ := Aside0.mk (Kd.R_elder' (by (with_reducible repeat (first | apply Kd.R_alloc | apply Kd.R_drewN | apply Kd.R_drew)); exact HO217.out) (Kd.R_base ho0) hb); have n2_ := Aside0.mk (Kd.R_elder' (by (with_reducible repeat (first | apply Kd.R_alloc | apply Kd.R_drewN | apply Kd.R_drew)); exact HO220.out) (Kd.R_base ho0) hb); have n3_ := Aside0.mk (Kd.R_elder' (by (with_reducible repeat (first | apply Kd.R_alloc | apply Kd.R_drewN | apply Kd.R_drew)); exact HO225.out) (Kd.R_base ho0) hb); have n4_ := Aside0.mk (Kd.R_elder' (by (with_reducible repeat (first | apply Kd.R_alloc | apply Kd.R_drewN | apply Kd.R_drew)); exact HO229.out) (Kd.R_base ho0) hb); have n5_ := Aside0.mk (Kd.R_lower (Kd.R_new' (Kd.R_new' (Kd.R_new' (Kd.R_new' (Kd.R_new' ho0 (Kd.R_lt (by (with_reducible repeat (first | apply Kd.R_alloc | apply Kd.R_drewN | apply Kd.R_drew)); exact HO214.out))) (Kd.R_lt (by (with_reducible repeat (first | apply Kd.R_alloc | apply Kd.R_drewN | apply Kd.R_drew)); exact HO217.out))) (Kd.R_lt (by (with_reducible repeat (first | apply Kd.R_alloc | apply Kd.R_drewN | apply Kd.R_drew)); exact HO220.out))) (Kd.R_lt (by (with_reducible repeat (first | apply Kd.R_alloc | apply Kd.R_drewN | apply Kd.R_drew)); exact HO225.out))) (Kd.R_lt (by (with_reducible repeat (first | apply Kd.R_alloc | apply Kd.R_drewN | apply Kd.R_drew)); exact HO229.out))) (belowT_size (by repeat (first | (with_reducible first | (first | exact HB.out | exact HB.out.b) | (first | apply below_alloc | apply belowT_alloc) | (first | apply pw_below_drewN | apply belowT_drewN) | (first | apply below_drew1 | apply belowT_drew1)) | (first | (first | exact HB.out | exact HB.out.b) | exact HB.out.b))))); have n6_ := Aside0.mk (belowT_step (by repeat (first | (with_reducible first | (first | exact HB.out | exact HB.out.b) | (first | apply below_alloc | apply belowT_alloc) | (first | apply pw_below_drewN | apply belowT_drewN) | (first | apply below_drew1 | apply belowT_drew1)) | (first | (first | exact HB.out | exact HB.out.b) | exact HB.out.b))) hb); clear HO214; clear HO217; clear HO220; clear HO225; clear HO229; clear HB; have HO214 := n0_; have HO217 := n1_; have HO220 := n2_; have HO225 := n3_; have HO229 := n4_; have HO233 := n5_; have HB := n6_; clear n0_ n1_ n2_ n3_ n4_ n5_ n6_; (try clear hb); (try clear hb2); (try clear hk); (try clear hi); (try clear ho0); have hcv32 := own_string (P := Tryd.prog) Tryd.underlying23 Tryd.underlying5 Tryd.underlying9 (Kd.own_of_R HO220.out); (try (have hcv32d := fun (nd_ : Nat) => own_string (P := Tryd.prog) Tryd.underlying23 Tryd.underlying5 Tryd.underlying9 (pw_own_drewN (Kd.own_of_R HO220.out) nd_))); have hcv33 := own_string (P := Tryd.prog) Tryd.underlying23 Tryd.underlying5 Tryd.underlying9 (Kd.own_of_R HO225.out); (try (have hcv33d := fun (nd_ : Nat) => own_string (P := Tryd.prog) Tryd.underlying23 Tryd.underlying5 Tryd.underlying9 (pw_own_drewN (Kd.own_of_R HO225.out) nd_))); have hcv34 := own_string (P := Tryd.prog) Tryd.underlying23 Tryd.underlying5 Tryd.underlying9 (Kd.own_of_R HO229.out); (try (have hcv34d := fun (nd_ : Nat) => own_string (P := Tryd.prog) Tryd.underlying23 Tryd.underlying5 Tryd.underlying9 (pw_own_drewN (Kd.own_of_R HO229.out) nd_))); have hcv35 := own_string (P := Tryd.prog) Tryd.underlying23 Tryd.underlying5 Tryd.underlying9 (Kd.own_of_R HO233.out); (try (have hcv35d := fun (nd_ : Nat) => own_string (P := Tryd.prog) Tryd.underlying23 Tryd.underlying5 Tryd.underlying9 (pw_own_drewN (Kd.own_of_R HO233.out) nd_)))) | (go_at_call 16; (with_reducible refine (rabbetlaw0_Same.calls _ _ t212 _ _ l2 true _ ?side1 ?side2 ?side3 ?side4 A21.out).mono ?_); (case side1 => exact ⟨_, _, ⟨by (with_reducible repeat (first | apply Kd.R_alloc | apply Kd.R_drewN | apply Kd.R_drew)); exact HO214.out, (by first | exact belowT_spare (by repeat (first | exact HB.out | apply belowT_alloc | apply belowT_drewN | apply belowT_drew1)) | exact belowT_spare2 (by repeat (first | exact HB.out | apply belowT_alloc | apply belowT_drewN | apply belowT_drew1)))⟩⟩); (case side2 => exact (Kd.R_reads' HO214.out).2.1); (case side3 => repeat (first | exact (Kd.C_below HR2.out HB.out.b) | (with_reducible refine Kd.C_alloc ?_ _) | (with_reducible refine Kd.C_drewN ?_ _) | (with_reducible refine Kd.C_drew ?_))); (case side4 => exact HC2.out); rintro e w' ⟨rfl, ⟨nd, rfl⟩⟩) | (go_at_call 16; (with_reducible refine (rabbetlaw0_Same.calls _ _ t215 _ _ l3 t235 _ ?side1 ?side2 ?side3 ?side4 A23.out).mono ?_); (case side1 => exact ⟨_, _, ⟨by (with_reducible repeat (first | apply Kd.R_alloc | apply Kd.R_drewN | apply Kd.R_drew)); exact HO217.out, (by first | exact belowT_spare (by repeat (first | exact HB.out | apply belowT_alloc | apply belowT_drewN | apply belowT_drew1)) | exact belowT_spare2 (by repeat (first | exact HB.out | apply belowT_alloc | apply belowT_drewN | apply belowT_drew1)))⟩⟩); (case side2 => exact (Kd.R_reads' HO217.out).2.1); (case side3 => repeat (first | exact (Kd.C_below HR3.out (by repeat (first | (with_reducible first | (first | exact HB.out | exact HB.out.b) | (first | apply below_alloc | apply belowT_alloc) | (first | apply pw_below_drewN | apply belowT_drewN) | (first | apply below_drew1 | apply belowT_drew1)) | (first | (first | exact HB.out | exact HB.out.b) | exact HB.out.b)))) | (with_reducible refine Kd.C_alloc ?_ _) | (with_reducible refine Kd.C_drewN ?_ _) | (with_reducible refine Kd.C_drew ?_))); (case side4 => exact HC3.out); rintro e w' ⟨rfl, ⟨nd, rfl⟩⟩))
                    go_ret
                    exact ⟨by first | rfl | (simp [errW_none, errW_some] <;> rfl) | (simp [*, errW_none, errW_some] <;> rfl), by repeat (first | (with_reducible first | (first | exact HB.out | exact HB.out.b) | (first | apply below_alloc | apply belowT_alloc) | (first | apply pw_below_drewN | apply belowT_drewN) | (first | apply below_drew1 | apply belowT_drew1)) | (first | (first | exact HB.out | exact HB.out.b) | exact HB.out.b))⟩
                  · replace c22 := Bool.eq_false_iff.mpr c22
                    subst c22
                    have H1 : (none) = some r := by rw [if_neg (show ¬ (false = true) by decide)] at H; exact H
                    clear H
                    have H := H1
                    clear H1
                    exact absurd H (by simp)
                · rw [if_neg c20] at H
                  exact absurd H (by simp)
              · rw [if_neg c19] at H
                exact absurd H (by simp)
            · rw [if_neg c18] at H
              exact absurd H (by simp)
          · rw [if_neg c17] at H
            exact absurd H (by simp)
  · replace c6 := Bool.eq_false_iff.mpr c6
    subst c6
    have H1 : (none) = some r := by rw [if_neg (show ¬ (false = true) by decide)] at H; exact H
    clear H
    have H := H1
    clear H1
    exact absurd H (by simp)

/-- THE ONE PURE STATEMENT of rabbetlaw20_TagAll: yours. -/
def rabbetlaw20_TagAll.Pure : Prop := ∀ (a0 : Int) (a1 : Int) (l2 : List Int) (l3 : List Int), (Lit.int .u32 a0).wf = true → (Lit.int .u32 a1).wf = true → l2.length ≤ maxLen → l2.length * 1 ≤ 140737488351232 → (∀ x ∈ l2, (Lit.int .u8 x).wf = true) → l3.length ≤ maxLen → l3.length * 1 ≤ 140737488351232 → (∀ x ∈ l3, (Lit.int .u8 x).wf = true) → ∃ k, rabbetlaw20_TagAll.f k a0 a1 l2 l3 = some true
theorem rabbetlaw20_TagAll.walk (P : rabbetlaw20_TagAll.Pure) (a0 : Int) (a1 : Int) (a2 : Option Addr) (len2 cap2 : Nat) (z2 : List Int) (a3 : Option Addr) (len3 cap3 : Nat) (z3 : List Int) (w : World) (GA : Nat → Addr) (hG : Glob GA w) (w0 : (Lit.int .u32 a0).wf = true) (w1 : (Lit.int .u32 a1).wf = true) (w2 : (a2 = none ∧ len2 = 0 ∧ cap2 = 0 ∧ z2 = []) ∨ ∃ x, a2 = some x ∧ len2 ≤ cap2 ∧ cap2 ≤ maxLen ∧ z2.length = cap2 ∧ (∀ i, i < z2.length → w.cell? (x.add i) = some (.int .u8 (z2.getD i 0))) ∧ ∀ n ∈ z2, (Lit.int .u8 n).wf = true) (y2 : len2 * 1 ≤ 140737488351232) (w3 : (a3 = none ∧ len3 = 0 ∧ cap3 = 0 ∧ z3 = []) ∨ ∃ x, a3 = some x ∧ len3 ≤ cap3 ∧ cap3 ≤ maxLen ∧ z3.length = cap3 ∧ (∀ i, i < z3.length → w.cell? (x.add i) = some (.int .u8 (z3.getD i 0))) ∧ ∀ n ∈ z3, (Lit.int .u8 n).wf = true) (y3 : len3 * 1 ≤ 140737488351232) :
    Calls Tryd.prog 3 #[.int .u32 a0, .int .u32 a1, .slice a2 len2 cap2, .slice a3 len3 cap3] w fun e w' => e = .returned (.bool true) ∧ Below w.heap.size w w' := by
  obtain ⟨l2, rfl, hr2, hm2, hw2, hc2⟩ := ReadsInt.ofRowC w2
  obtain ⟨l3, rfl, hr3, hm3, hw3, hc3⟩ := ReadsInt.ofRowC w3
  obtain ⟨k, h⟩ := P a0 a1 l2 l3 w0 w1 hm2 y2 hw2 hm3 y3 hw3
  refine (rabbetlaw20_TagAll.calls GA k a0 a1 _ _ l2 _ _ l3 true w (Kd.C_of_reads (d := (0 : Int)) (h1 := fun _ => rfl) hr2) hc2 (Kd.C_of_reads (d := (0 : Int)) (h1 := fun _ => rfl) hr3) hc3 hG h).mono ?_
  rintro e w' ⟨rfl, hd⟩
  exact ⟨rfl, hd⟩

end Go.Proofs.YtaoegbebeogkbaaDoor.PTagAll
