-- Written by xprint.py (a program of this project) out of the translation. Not trusted: Lean checks it.
import Derived.Test.YtaoegbebeogkbaaDoorPTagTornx0
import Derived.Test.YtaoegbebeogkbaaDoorPTagTornx1
namespace Go.Proofs.YtaoegbebeogkbaaDoor.PTagTorn
open Go.RowKit Go.Proofs.YtaoegbebeogkbaaDoorW.PrintWords Go.Proofs.YtaoegbebeogkbaaDoorW.PrintLast Go.Proofs.YtaoegbebeogkbaaDoorW.PrintMore
attribute [local go_sem] max2_int min2_int max_two min_two max_three min_three max_four min_four   -- for this text's walks alone
set_option linter.unusedVariables false
set_option linter.unusedSimpArgs false

/-! ### rabbetlaw20_TagTorn: function 4 -/
mutual
def rabbetlaw20_TagTorn.j0 : Nat → Int → Int → Int → Int → List Int → List Int → Int → Bool → Bool → Option (Bool)
  | 0, _, _, _, _, _, _, _, _, _ => none
  | k + 1, x0, x1, x2, x3, x4, x5, x6, x7, x54 => if x54 = true then (some true) else ((tag_Put.f x0 x1 x4).bind fun bt168 => ((tag_Put.f ((x0 + x2) % 4294967296) ((x1 + x3) % 4294967296) x5).bind fun bt172 => (if bt168.2 = true then (if bt172.2 = true then (if (bt168.1.length : Int) = 128 then (rabbetlaw20_TagTorn.j1 k x0 x1 x4 x6 x7 bt168.1 bt172.1 ((bt172.1.length : Int) != 128)) else (rabbetlaw20_TagTorn.j1 k x0 x1 x4 x6 x7 bt168.1 bt172.1 true)) else (rabbetlaw20_TagTorn.j1 k x0 x1 x4 x6 x7 bt168.1 bt172.1 true)) else (rabbetlaw20_TagTorn.j1 k x0 x1 x4 x6 x7 bt168.1 bt172.1 true))))
def rabbetlaw20_TagTorn.j1 : Nat → Int → Int → List Int → Int → Bool → List Int → List Int → Bool → Option (Bool)
  | 0, _, _, _, _, _, _, _, _ => none
  | k + 1, x0, x1, x4, x6, x7, x17, x19, x88 => if x88 = true then (none) else (if x7 = true then (if 128 ≤ 281474976710656 then ((some (List.replicate 128 0 : List Int)).bind fun y176 => ((some (([] : List Int) : List Int)).bind fun y179 => (if 0 ≤ (Int.tmod (wrap64 (x6)) 129) then (if (Int.tmod (wrap64 (x6)) 129) ≤ (x17.length : Int) then ((some (x17.take ((Int.tmod (wrap64 (x6)) 129) : Int).toNat : List Int)).bind fun y182 => (if y179.length + y182.length < 140737488355328 then ((some (y179 ++ y182 : List Int)).bind fun y186 => (if (Int.tmod (wrap64 (x6)) 129) ≤ (y176.length : Int) then ((some (y176.drop ((Int.tmod (wrap64 (x6)) 129) : Int).toNat : List Int)).bind fun y189 => (if y186.length + y189.length < 140737488355328 then ((some (y186 ++ y189 : List Int)).bind fun y193 => ((tag_Take.f k x0 x1 y193).bind fun bt196 => (if (bt196.2 == ((strOfNums y193).toList == (strOfNums x17).toList)) = true then (if bt196.2 = true then (some ((strOfNums bt196.1).toList == (strOfNums x4).toList)) else (some true)) else (none)))) else (none))) else (none))) else (none))) else (none)) else (none)))) else (none)) else ((some (([] : List Int) : List Int)).bind fun y200 => (if 0 ≤ (Int.tmod (wrap64 (x6)) 129) then (if (Int.tmod (wrap64 (x6)) 129) ≤ (x17.length : Int) then ((some (x17.take ((Int.tmod (wrap64 (x6)) 129) : Int).toNat : List Int)).bind fun y203 => (if y200.length + y203.length < 140737488355328 then ((some (y200 ++ y203 : List Int)).bind fun y207 => (if (Int.tmod (wrap64 (x6)) 129) ≤ (x19.length : Int) then ((some (x19.drop ((Int.tmod (wrap64 (x6)) 129) : Int).toNat : List Int)).bind fun y210 => (if y207.length + y210.length < 140737488355328 then ((some (y207 ++ y210 : List Int)).bind fun y214 => ((tag_Take.f k x0 x1 y214).bind fun bt217 => (if (bt217.2 == ((strOfNums y214).toList == (strOfNums x17).toList)) = true then (if bt217.2 = true then (some ((strOfNums bt217.1).toList == (strOfNums x4).toList)) else (some true)) else (none)))) else (none))) else (none))) else (none))) else (none)) else (none))))
end
def rabbetlaw20_TagTorn.f (k : Nat) (a0 : Int) (a1 : Int) (a2 : Int) (a3 : Int) (l4 : List Int) (l5 : List Int) (a6 : Int) (a7 : Bool) : Option (Bool) := (rabbetlaw20_begun.f k).bind fun t167 => (if t167 = true then (if (l4.length : Int) > 110 then (rabbetlaw20_TagTorn.j0 k a0 a1 a2 a3 l4 l5 a6 a7 true) else (if (l5.length : Int) > 110 then (rabbetlaw20_TagTorn.j0 k a0 a1 a2 a3 l4 l5 a6 a7 true) else (if a2 = 0 then (if a3 = 0 then (if a7 = true then (if a0 = 0 then (rabbetlaw20_TagTorn.j0 k a0 a1 a2 a3 l4 l5 a6 a7 (a1 == 0)) else (rabbetlaw20_TagTorn.j0 k a0 a1 a2 a3 l4 l5 a6 a7 false)) else (rabbetlaw20_TagTorn.j0 k a0 a1 a2 a3 l4 l5 a6 a7 true)) else (if a0 = 0 then (rabbetlaw20_TagTorn.j0 k a0 a1 a2 a3 l4 l5 a6 a7 (a1 == 0)) else (rabbetlaw20_TagTorn.j0 k a0 a1 a2 a3 l4 l5 a6 a7 false))) else (if a0 = 0 then (rabbetlaw20_TagTorn.j0 k a0 a1 a2 a3 l4 l5 a6 a7 (a1 == 0)) else (rabbetlaw20_TagTorn.j0 k a0 a1 a2 a3 l4 l5 a6 a7 false))))) else (none))
theorem rabbetlaw20_TagTorn.mono_l : ∀ k, (∀ y0 y1 y2 y3 y4 y5 y6 y7 y8, LeO (rabbetlaw20_TagTorn.j0 k y0 y1 y2 y3 y4 y5 y6 y7 y8) (rabbetlaw20_TagTorn.j0 (k + 1) y0 y1 y2 y3 y4 y5 y6 y7 y8)) ∧ (∀ y0 y1 y2 y3 y4 y5 y6 y7, LeO (rabbetlaw20_TagTorn.j1 k y0 y1 y2 y3 y4 y5 y6 y7) (rabbetlaw20_TagTorn.j1 (k + 1) y0 y1 y2 y3 y4 y5 y6 y7))
  | 0 => ⟨fun _ _ _ _ _ _ _ _ _ r h => by simp [rabbetlaw20_TagTorn.j0] at h, fun _ _ _ _ _ _ _ _ r h => by simp [rabbetlaw20_TagTorn.j1] at h⟩
  | k + 1 => by
    obtain ⟨ih0, ih1⟩ := rabbetlaw20_TagTorn.mono_l k
    refine ⟨?_, ?_⟩
    · intro y0 y1 y2 y3 y4 y5 y6 y7 y8
      unfold rabbetlaw20_TagTorn.j0
      repeat' first
      | (with_reducible exact ih0 _ _ _ _ _ _ _ _ _)
      | (with_reducible exact ih1 _ _ _ _ _ _ _ _)
      | (with_reducible exact rabbetlaw20_begun.mono _)
      | (with_reducible exact tag_Take.mono _ _ _ _)
      | (with_reducible exact LeO.refl _)
      | (with_reducible exact LeO.none _)
      | (with_reducible refine LeO.ite ?_ ?_)
      | (with_reducible refine LeO.bind ?_ (fun _ => ?_))
      | exact ih0 _ _ _ _ _ _ _ _ _
      | exact ih1 _ _ _ _ _ _ _ _
      | exact rabbetlaw20_begun.mono _
      | exact tag_Take.mono _ _ _ _
      | exact LeO.none _
      | refine LeO.ite ?_ ?_
      | refine LeO.bind ?_ (fun _ => ?_)
    · intro y0 y1 y2 y3 y4 y5 y6 y7
      unfold rabbetlaw20_TagTorn.j1
      repeat' first
      | (with_reducible exact ih0 _ _ _ _ _ _ _ _ _)
      | (with_reducible exact ih1 _ _ _ _ _ _ _ _)
      | (with_reducible exact rabbetlaw20_begun.mono _)
      | (with_reducible exact tag_Take.mono _ _ _ _)
      | (with_reducible exact LeO.refl _)
      | (with_reducible exact LeO.none _)
      | (with_reducible refine LeO.ite ?_ ?_)
      | (with_reducible refine LeO.bind ?_ (fun _ => ?_))
      | exact ih0 _ _ _ _ _ _ _ _ _
      | exact ih1 _ _ _ _ _ _ _ _
      | exact rabbetlaw20_begun.mono _
      | exact tag_Take.mono _ _ _ _
      | exact LeO.none _
      | refine LeO.ite ?_ ?_
      | refine LeO.bind ?_ (fun _ => ?_)
theorem rabbetlaw20_TagTorn.mono : ∀ a0 a1 a2 a3 a4 a5 a6 a7 k, LeO (rabbetlaw20_TagTorn.f k a0 a1 a2 a3 a4 a5 a6 a7) (rabbetlaw20_TagTorn.f (k + 1) a0 a1 a2 a3 a4 a5 a6 a7) := by
  intro a0 a1 a2 a3 a4 a5 a6 a7 k
  obtain ⟨ih0, ih1⟩ := rabbetlaw20_TagTorn.mono_l k
  unfold rabbetlaw20_TagTorn.f
  repeat' first
      | (with_reducible exact ih0 _ _ _ _ _ _ _ _ _)
      | (with_reducible exact ih1 _ _ _ _ _ _ _ _)
      | (with_reducible exact rabbetlaw20_begun.mono _)
      | (with_reducible exact tag_Take.mono _ _ _ _)
      | (with_reducible exact LeO.refl _)
      | (with_reducible exact LeO.none _)
      | (with_reducible refine LeO.ite ?_ ?_)
      | (with_reducible refine LeO.bind ?_ (fun _ => ?_))
      | exact ih0 _ _ _ _ _ _ _ _ _
      | exact ih1 _ _ _ _ _ _ _ _
      | exact rabbetlaw20_begun.mono _
      | exact tag_Take.mono _ _ _ _
      | exact LeO.none _
      | refine LeO.ite ?_ ?_
      | refine LeO.bind ?_ (fun _ => ?_)
def rabbetlaw20_TagTorn.T12 : Bool × List (List Nat × List Nat) := (true, [([], []), ([], []), ([], []), ([1, 2], [1, 2]), ([0, 3], [0, 3]), ([], []), ([], []), ([5, 6], [5, 6]), ([4, 7, 4], [4, 7]), ([8, 8, 0, 1, 2, 3, 4, 5, 6, 7, 8], [8])])
def rabbetlaw20_TagTorn.B12 : List Nat := [0, 0, 0, 6, 15, 0, 0, 96, 255, 511]
theorem rabbetlaw20_TagTorn.tab12 : rtab .any (opsOf Tryd.f4 12) = rabbetlaw20_TagTorn.T12 := by kernel_rfl
theorem rabbetlaw20_TagTorn.bits12 : waitsOk rabbetlaw20_TagTorn.T12.2 rabbetlaw20_TagTorn.B12 = true := by kernel_rfl
set_option maxHeartbeats 8000000 in
set_option maxRecDepth 100000 in
theorem rabbetlaw20_TagTorn.calls (GA : Nat → Addr) (k : Nat) (a0 : Int) (a1 : Int) (a2 : Int) (a3 : Int) (A4 : Option Addr) (c4 : Nat) (l4 : List Int) (A5 : Option Addr) (c5 : Nat) (l5 : List Int) (a6 : Int) (a7 : Bool) (r : Bool) (w : World) (hr4 : Kd.C (Kd.int .u8) w A4 l4.length l4) (hc4 : l4.length ≤ c4) (hr5 : Kd.C (Kd.int .u8) w A5 l5.length l5) (hc5 : l5.length ≤ c5) (hG : Glob GA w) (h : rabbetlaw20_TagTorn.f k a0 a1 a2 a3 l4 l5 a6 a7 = some r) :
    Calls Tryd.prog 4 #[.int .u32 a0, .int .u32 a1, .int .u32 a2, .int .u32 a3, .slice A4 l4.length c4, .slice A5 l5.length c5, .int .u8 a6, .bool a7] w fun e w' => e = .returned (.bool r) ∧ Below w.heap.size w w' := by
  have HG := Aside0.mk hG
  clear hG
  have HR4 := Aside0.mk hr4
  have HC4 := Aside0.mk hc4
  clear hr4 hc4
  have HR5 := Aside0.mk hr5
  have HC5 := Aside0.mk hc5
  clear hr5 hc5
  have HB := Aside0.mk (Below.refl w.heap.size w)
  have H : ((rabbetlaw20_begun.f k).bind fun t167 => (if t167 = true then (if (l4.length : Int) > 110 then (rabbetlaw20_TagTorn.j0 k a0 a1 a2 a3 l4 l5 a6 a7 true) else (if (l5.length : Int) > 110 then (rabbetlaw20_TagTorn.j0 k a0 a1 a2 a3 l4 l5 a6 a7 true) else (if a2 = 0 then (if a3 = 0 then (if a7 = true then (if a0 = 0 then (rabbetlaw20_TagTorn.j0 k a0 a1 a2 a3 l4 l5 a6 a7 (a1 == 0)) else (rabbetlaw20_TagTorn.j0 k a0 a1 a2 a3 l4 l5 a6 a7 false)) else (rabbetlaw20_TagTorn.j0 k a0 a1 a2 a3 l4 l5 a6 a7 true)) else (if a0 = 0 then (rabbetlaw20_TagTorn.j0 k a0 a1 a2 a3 l4 l5 a6 a7 (a1 == 0)) else (rabbetlaw20_TagTorn.j0 k a0 a1 a2 a3 l4 l5 a6 a7 false))) else (if a0 = 0 then (rabbetlaw20_TagTorn.j0 k a0 a1 a2 a3 l4 l5 a6 a7 (a1 == 0)) else (rabbetlaw20_TagTorn.j0 k a0 a1 a2 a3 l4 l5 a6 a7 false))))) else (none))) = some r := h
  clear h
  replace H := Option.bind_eq_some_iff.mp H
  obtain ⟨t167, A90, H⟩ := H
  replace H : (if t167 = true then (if (l4.length : Int) > 110 then (rabbetlaw20_TagTorn.j0 k a0 a1 a2 a3 l4 l5 a6 a7 true) else (if (l5.length : Int) > 110 then (rabbetlaw20_TagTorn.j0 k a0 a1 a2 a3 l4 l5 a6 a7 true) else (if a2 = 0 then (if a3 = 0 then (if a7 = true then (if a0 = 0 then (rabbetlaw20_TagTorn.j0 k a0 a1 a2 a3 l4 l5 a6 a7 (a1 == 0)) else (rabbetlaw20_TagTorn.j0 k a0 a1 a2 a3 l4 l5 a6 a7 false)) else (rabbetlaw20_TagTorn.j0 k a0 a1 a2 a3 l4 l5 a6 a7 true)) else (if a0 = 0 then (rabbetlaw20_TagTorn.j0 k a0 a1 a2 a3 l4 l5 a6 a7 (a1 == 0)) else (rabbetlaw20_TagTorn.j0 k a0 a1 a2 a3 l4 l5 a6 a7 false))) else (if a0 = 0 then (rabbetlaw20_TagTorn.j0 k a0 a1 a2 a3 l4 l5 a6 a7 (a1 == 0)) else (rabbetlaw20_TagTorn.j0 k a0 a1 a2 a3 l4 l5 a6 a7 false))))) else (none)) = some r := H
  have A9 := Aside0.mk A90
  clear A90
  by_cases c10 : t167 = true
  · subst c10
    have H1 : (if (l4.length : Int) > 110 then (rabbetlaw20_TagTorn.j0 k a0 a1 a2 a3 l4 l5 a6 a7 true) else (if (l5.length : Int) > 110 then (rabbetlaw20_TagTorn.j0 k a0 a1 a2 a3 l4 l5 a6 a7 true) else (if a2 = 0 then (if a3 = 0 then (if a7 = true then (if a0 = 0 then (rabbetlaw20_TagTorn.j0 k a0 a1 a2 a3 l4 l5 a6 a7 (a1 == 0)) else (rabbetlaw20_TagTorn.j0 k a0 a1 a2 a3 l4 l5 a6 a7 false)) else (rabbetlaw20_TagTorn.j0 k a0 a1 a2 a3 l4 l5 a6 a7 true)) else (if a0 = 0 then (rabbetlaw20_TagTorn.j0 k a0 a1 a2 a3 l4 l5 a6 a7 (a1 == 0)) else (rabbetlaw20_TagTorn.j0 k a0 a1 a2 a3 l4 l5 a6 a7 false))) else (if a0 = 0 then (rabbetlaw20_TagTorn.j0 k a0 a1 a2 a3 l4 l5 a6 a7 (a1 == 0)) else (rabbetlaw20_TagTorn.j0 k a0 a1 a2 a3 l4 l5 a6 a7 false))))) = some r := by rw [if_pos rfl] at H; exact H
    clear H
    have H := H1
    clear H1
    have HC11 := Aside0.mk H
    clear H
    go_enter Tryd.func4, Tryd.ntmps4
    go_upto_region 3 with (first | ((with_reducible refine gate_callee (f := 10) rfl ?_); refine goesL_ (some 25) rfl rfl Tryd.func10 (by kernel_rfl) rfl #[] rfl (by (try simp only [List.map_toArray, List.map_cons, List.map_nil]); first | done | rfl | (simp only [List.length_drop, List.length_take]; rfl)) ?_; (with_reducible refine (rabbetlaw20_begun.calls GA k  true _ ?side1 A9.out).mono ?_); (case side1 => exact Glob.below HG.out (by repeat (first | (with_reducible first | exact HB.out | apply below_alloc | apply pw_below_drewN | apply below_drew1) | exact HB.out))); rintro e w12 ⟨rfl, hb⟩; refine ⟨_, rfl, ?_⟩; have n0_ := Aside0.mk (below_step (by repeat (first | (with_reducible first | exact HB.out | apply below_alloc | apply pw_below_drewN | apply below_drew1) | exact HB.out)) hb); clear HB; have HB := n0_; clear n0_; (try clear hb); (try clear hb2); (try clear hk); (try clear hi)))
    (try simp only [Act.put, List.setIfInBounds_toArray, List.set_cons_zero, List.set_cons_succ])
    go_cut [54] (fun v54 wc => ∃ (kq : Nat) (x54_10 : Bool), v54 = .bool x54_10 ∧ Aside0 (rabbetlaw20_TagTorn.j0 kq a0 a1 a2 a3 l4 l5 a6 a7 x54_10 = some r) ∧ Aside0 (kq ≤ k) ∧ Aside0 (Below w.heap.size w wc))
    case first =>
      have H := HC11.out
      clear HC11
      by_cases c13 : (l4.length : Int) > 110
      · rw [if_pos c13] at H
        have c13b0 : decide (110 < (l4.length : Int)) = true := decide_eq_true c13
        have c13b1 : decide (110 < l4.length) = true := decide_eq_true (by omega)
        clear c13
        (first | rw [c13b0] | rw [c13b1] | (simp only [i64_w, i32_w]; rw [c13b0]) | skip)
        have H' := Aside0.mk H
        clear H
        go_wp2
        go_meet
        case rel => exact ⟨_, (true), (by first | rfl | (simp; done) | (simp [*]; done)), H', ⟨by first | omega | exact Nat.le_refl _⟩, ⟨by repeat (first | (with_reducible first | exact HB.out | apply below_alloc | apply pw_below_drewN | apply below_drew1) | exact HB.out)⟩⟩
      · rw [if_neg c13] at H
        have c13b0 : decide (110 < (l4.length : Int)) = false := decide_eq_false c13
        have c13b1 : decide (110 < l4.length) = false := decide_eq_false (by omega)
        clear c13
        (first | rw [c13b0] | rw [c13b1] | (simp only [i64_w, i32_w]; rw [c13b0]) | skip)
        by_cases c14 : (l5.length : Int) > 110
        · rw [if_pos c14] at H
          have c14b0 : decide (110 < (l5.length : Int)) = true := decide_eq_true c14
          have c14b1 : decide (110 < l5.length) = true := decide_eq_true (by omega)
          clear c14
          have H' := Aside0.mk H
          clear H
          go_wp2
          go_meet
          case rel => exact ⟨_, (true), (by first | rfl | (simp; done) | (simp [*]; done)), H', ⟨by first | omega | exact Nat.le_refl _⟩, ⟨by repeat (first | (with_reducible first | exact HB.out | apply below_alloc | apply pw_below_drewN | apply below_drew1) | exact HB.out)⟩⟩
        · rw [if_neg c14] at H
          have c14b0 : decide (110 < (l5.length : Int)) = false := decide_eq_false c14
          have c14b1 : decide (110 < l5.length) = false := decide_eq_false (by omega)
          clear c14
          by_cases c15 : a2 = 0
          · rw [if_pos c15] at H
            have c15b0 : (a2 == 0) = true := beq_iff_eq.mpr c15
            have c15b1 : (a2 != 0) = false := bne_eq_false_iff_eq.mpr c15
            clear c15
            by_cases c16 : a3 = 0
            · rw [if_pos c16] at H
              have c16b0 : (a3 == 0) = true := beq_iff_eq.mpr c16
              have c16b1 : (a3 != 0) = false := bne_eq_false_iff_eq.mpr c16
              clear c16
              by_cases c17 : a7 = true
              · subst c17
                have H1 : (if a0 = 0 then (rabbetlaw20_TagTorn.j0 k a0 a1 a2 a3 l4 l5 a6 true (a1 == 0)) else (rabbetlaw20_TagTorn.j0 k a0 a1 a2 a3 l4 l5 a6 true false)) = some r := by rw [if_pos rfl] at H; exact H
                clear H
                have H := H1
                clear H1
                by_cases c18 : a0 = 0
                · rw [if_pos c18] at H
                  have c18b0 : (a0 == 0) = true := beq_iff_eq.mpr c18
                  have c18b1 : (a0 != 0) = false := bne_eq_false_iff_eq.mpr c18
                  clear c18
                  have H' := Aside0.mk H
                  clear H
                  go_wp2
                  go_meet
                  case rel => exact ⟨_, ((a1 == 0)), (by first | rfl | (simp; done) | (simp [*]; done)), H', ⟨by first | omega | exact Nat.le_refl _⟩, ⟨by repeat (first | (with_reducible first | exact HB.out | apply below_alloc | apply pw_below_drewN | apply below_drew1) | exact HB.out)⟩⟩
                · rw [if_neg c18] at H
                  have c18b0 : (a0 == 0) = false := beq_eq_false_iff_ne.mpr c18
                  have c18b1 : (a0 != 0) = true := bne_iff_ne.mpr c18
                  have H' := Aside0.mk H
                  clear H
                  go_wp2
                  go_meet
                  case rel => exact ⟨_, (false), (by first | rfl | (simp; done) | (simp [*]; done)), H', ⟨by first | omega | exact Nat.le_refl _⟩, ⟨by repeat (first | (with_reducible first | exact HB.out | apply below_alloc | apply pw_below_drewN | apply below_drew1) | exact HB.out)⟩⟩
              · replace c17 := Bool.eq_false_iff.mpr c17
                subst c17
                have H1 : (rabbetlaw20_TagTorn.j0 k a0 a1 a2 a3 l4 l5 a6 false true) = some r := by rw [if_neg (show ¬ (false = true) by decide)] at H; exact H
                clear H
                have H := H1
                clear H1
                have H' := Aside0.mk H
                clear H
                go_wp2
                go_meet
                case rel => exact ⟨_, (true), (by first | rfl | (simp; done) | (simp [*]; done)), H', ⟨by first | omega | exact Nat.le_refl _⟩, ⟨by repeat (first | (with_reducible first | exact HB.out | apply below_alloc | apply pw_below_drewN | apply below_drew1) | exact HB.out)⟩⟩
            · rw [if_neg c16] at H
              have c16b0 : (a3 == 0) = false := beq_eq_false_iff_ne.mpr c16
              have c16b1 : (a3 != 0) = true := bne_iff_ne.mpr c16
              by_cases c19 : a0 = 0
              · rw [if_pos c19] at H
                have c19b0 : (a0 == 0) = true := beq_iff_eq.mpr c19
                have c19b1 : (a0 != 0) = false := bne_eq_false_iff_eq.mpr c19
                clear c19
                have H' := Aside0.mk H
                clear H
                go_wp2
                go_meet
                case rel => exact ⟨_, ((a1 == 0)), (by first | rfl | (simp; done) | (simp [*]; done)), H', ⟨by first | omega | exact Nat.le_refl _⟩, ⟨by repeat (first | (with_reducible first | exact HB.out | apply below_alloc | apply pw_below_drewN | apply below_drew1) | exact HB.out)⟩⟩
              · rw [if_neg c19] at H
                have c19b0 : (a0 == 0) = false := beq_eq_false_iff_ne.mpr c19
                have c19b1 : (a0 != 0) = true := bne_iff_ne.mpr c19
                have H' := Aside0.mk H
                clear H
                go_wp2
                go_meet
                case rel => exact ⟨_, (false), (by first | rfl | (simp; done) | (simp [*]; done)), H', ⟨by first | omega | exact Nat.le_refl _⟩, ⟨by repeat (first | (with_reducible first | exact HB.out | apply below_alloc | apply pw_below_drewN | apply below_drew1) | exact HB.out)⟩⟩
          · rw [if_neg c15] at H
            have c15b0 : (a2 == 0) = false := beq_eq_false_iff_ne.mpr c15
            have c15b1 : (a2 != 0) = true := bne_iff_ne.mpr c15
            by_cases c20 : a0 = 0
            · rw [if_pos c20] at H
              have c20b0 : (a0 == 0) = true := beq_iff_eq.mpr c20
              have c20b1 : (a0 != 0) = false := bne_eq_false_iff_eq.mpr c20
              clear c20
              have H' := Aside0.mk H
              clear H
              go_wp2
              go_meet
              case rel => exact ⟨_, ((a1 == 0)), (by first | rfl | (simp; done) | (simp [*]; done)), H', ⟨by first | omega | exact Nat.le_refl _⟩, ⟨by repeat (first | (with_reducible first | exact HB.out | apply below_alloc | apply pw_below_drewN | apply below_drew1) | exact HB.out)⟩⟩
            · rw [if_neg c20] at H
              have c20b0 : (a0 == 0) = false := beq_eq_false_iff_ne.mpr c20
              have c20b1 : (a0 != 0) = true := bne_iff_ne.mpr c20
              have H' := Aside0.mk H
              clear H
              go_wp2
              go_meet
              case rel => exact ⟨_, (false), (by first | rfl | (simp; done) | (simp [*]; done)), H', ⟨by first | omega | exact Nat.le_refl _⟩, ⟨by repeat (first | (with_reducible first | exact HB.out | apply below_alloc | apply pw_below_drewN | apply below_drew1) | exact HB.out)⟩⟩
    case rest =>
      clear HC11
      try clear c1
      try clear c2
      try clear p2
      try clear c4
      try clear c5
      try clear c10
      try clear c13
      try clear c13b0
      try clear c13b1
      try clear c14
      try clear c14b0
      try clear c14b1
      try clear c15
      try clear c15b0
      try clear c15b1
      try clear c16
      try clear c16b0
      try clear c16b1
      try clear c17
      try clear c18
      try clear c18b0
      try clear c18b1
      try clear c19
      try clear c19b0
      try clear c19b1
      try clear c20
      try clear c20b0
      try clear c20b1
      obtain ⟨kq, x54_10, rfl, HA, HJ10, HB⟩ := hcut
      cases kq with
      | zero => exact absurd HA.out (by simp [rabbetlaw20_TagTorn.j0])
      | succ kj10 =>
        have H := HA.out
        clear HA
        simp only [rabbetlaw20_TagTorn.j0] at H
        by_cases c21 : x54_10 = true
        · subst c21
          have H1 : (some true) = some r := by rw [if_pos rfl] at H; exact H
          clear H
          have H := H1
          clear H1
          obtain rfl := Option.some.inj H
          go_wp2
          go_ret
          exact ⟨by first | rfl | (simp [errW_none, errW_some] <;> rfl) | (simp [*, errW_none, errW_some] <;> rfl), by repeat (first | (with_reducible first | exact HB.out | apply below_alloc | apply pw_below_drewN | apply below_drew1) | exact HB.out)⟩
        · replace c21 := Bool.eq_false_iff.mpr c21
          subst c21
          have H1 : ((tag_Put.f a0 a1 l4).bind fun bt168 => ((tag_Put.f ((a0 + a2) % 4294967296) ((a1 + a3) % 4294967296) l5).bind fun bt172 => (if bt168.2 = true then (if bt172.2 = true then (if (bt168.1.length : Int) = 128 then (rabbetlaw20_TagTorn.j1 kj10 a0 a1 l4 a6 a7 bt168.1 bt172.1 ((bt172.1.length : Int) != 128)) else (rabbetlaw20_TagTorn.j1 kj10 a0 a1 l4 a6 a7 bt168.1 bt172.1 true)) else (rabbetlaw20_TagTorn.j1 kj10 a0 a1 l4 a6 a7 bt168.1 bt172.1 true)) else (rabbetlaw20_TagTorn.j1 kj10 a0 a1 l4 a6 a7 bt168.1 bt172.1 true)))) = some r := by rw [if_neg (show ¬ (false = true) by decide)] at H; exact H
          clear H
          have H := H1
          clear H1
          replace H := Option.bind_eq_some_iff.mp H
          obtain ⟨⟨t168, t171⟩, A220, H⟩ := H
          replace H : ((tag_Put.f ((a0 + a2) % 4294967296) ((a1 + a3) % 4294967296) l5).bind fun bt172 => (if t171 = true then (if bt172.2 = true then (if (t168.length : Int) = 128 then (rabbetlaw20_TagTorn.j1 kj10 a0 a1 l4 a6 a7 t168 bt172.1 ((bt172.1.length : Int) != 128)) else (rabbetlaw20_TagTorn.j1 kj10 a0 a1 l4 a6 a7 t168 bt172.1 true)) else (rabbetlaw20_TagTorn.j1 kj10 a0 a1 l4 a6 a7 t168 bt172.1 true)) else (rabbetlaw20_TagTorn.j1 kj10 a0 a1 l4 a6 a7 t168 bt172.1 true))) = some r := H
          have A22 := Aside0.mk A220
          clear A220
          replace H := Option.bind_eq_some_iff.mp H
          obtain ⟨⟨t172, t175⟩, A230, H⟩ := H
          replace H : (if t171 = true then (if t175 = true then (if (t168.length : Int) = 128 then (rabbetlaw20_TagTorn.j1 kj10 a0 a1 l4 a6 a7 t168 t172 ((t172.length : Int) != 128)) else (rabbetlaw20_TagTorn.j1 kj10 a0 a1 l4 a6 a7 t168 t172 true)) else (rabbetlaw20_TagTorn.j1 kj10 a0 a1 l4 a6 a7 t168 t172 true)) else (rabbetlaw20_TagTorn.j1 kj10 a0 a1 l4 a6 a7 t168 t172 true)) = some r := H
          have A23 := Aside0.mk A230
          clear A230
          have HC24 := Aside0.mk H
          clear H
          go_upto_region 7 with (first | ((with_reducible refine gate_callee (f := 12) rfl ?_); refine goesL_ (some 59) rfl rfl Tryd.func12 (by kernel_rfl) rfl #[.int .u32 a0, .int .u32 a1, .slice A4 l4.length c4] rfl (by (try simp only [List.map_toArray, List.map_cons, List.map_nil]); first | done | rfl | (simp only [List.length_drop, List.length_take]; rfl)) ?_; (with_reducible refine (tag_Put.calls a0 a1 (fun k_ => k_ < w.heap.size) _ _ l4 t168 t171 _ ?side1 A22.out).mono ?_); (case side1 => exact Kd.V_mk HC4.out (Kd.F_below (Kd.C_F (Kd.heap_int .u8) HR4.out) (by repeat (first | (with_reducible first | exact HB.out | apply below_alloc | apply pw_below_drewN | apply below_drew1) | exact HB.out)))); rintro e w25 ⟨v169, rfl, ho0, hb⟩; refine ⟨_, rfl, ?_⟩; have n0_ := Aside0.mk (Kd.R_lower (Kd.R_mono (ok' := fun k_ => True) ho0 (fun _ hk_ => trivial)) (below_size (by repeat (first | (with_reducible first | exact HB.out | apply below_alloc | apply pw_below_drewN | apply below_drew1) | exact HB.out)))); have n1_ := Aside0.mk (below_step (by repeat (first | (with_reducible first | exact HB.out | apply below_alloc | apply pw_below_drewN | apply below_drew1) | exact HB.out)) hb); clear HB; have HO170 := n0_; have HB := n1_; clear n0_ n1_; (try clear hb); (try clear hb2); (try clear hk); (try clear hi); (try clear ho0)) | ((with_reducible refine gate_callee (f := 12) rfl ?_); refine goesL_ (some 70) rfl rfl Tryd.func12 (by kernel_rfl) rfl #[.int .u32 ((a0 + a2) % 4294967296), .int .u32 ((a1 + a3) % 4294967296), .slice A5 l5.length c5] rfl (by (try simp only [List.map_toArray, List.map_cons, List.map_nil]); first | done | rfl | (simp only [List.length_drop, List.length_take]; rfl)) ?_; (with_reducible refine (tag_Put.calls ((a0 + a2) % 4294967296) ((a1 + a3) % 4294967296) (fun k_ => k_ < w.heap.size) _ _ l5 t172 t175 _ ?side1 A23.out).mono ?_); (case side1 => exact Kd.V_mk HC5.out (Kd.F_below (Kd.C_F (Kd.heap_int .u8) HR5.out) (by repeat (first | (with_reducible first | exact HB.out | apply below_alloc | apply pw_below_drewN | apply below_drew1) | exact HB.out)))); rintro e w26 ⟨v173, rfl, ho0, hb⟩; refine ⟨_, rfl, ?_⟩; have n0_ := Aside0.mk (Kd.R_elder' (by (with_reducible repeat (first | apply Kd.R_alloc | apply Kd.R_drewN | apply Kd.R_drew)); exact HO170.out) (Kd.R_base ho0) hb); have n1_ := Aside0.mk (Kd.R_lower (Kd.R_new' (Kd.R_mono (ok' := fun k_ => True) ho0 (fun _ hk_ => trivial)) (Kd.R_lt (by (with_reducible repeat (first | apply Kd.R_alloc | apply Kd.R_drewN | apply Kd.R_drew)); exact HO170.out))) (below_size (by repeat (first | (with_reducible first | exact HB.out | apply below_alloc | apply pw_below_drewN | apply below_drew1) | exact HB.out)))); have n2_ := Aside0.mk (below_step (by repeat (first | (with_reducible first | exact HB.out | apply below_alloc | apply pw_below_drewN | apply below_drew1) | exact HB.out)) hb); clear HO170; clear HB; have HO170 := n0_; have HO174 := n1_; have HB := n2_; clear n0_ n1_ n2_; (try clear hb); (try clear hb2); (try clear hk); (try clear hi); (try clear ho0)))
          (try simp only [Act.put, List.setIfInBounds_toArray, List.set_cons_zero, List.set_cons_succ])
          go_cut [88] (fun v88 wc => ∃ (kq : Nat) (x88_23 : Bool), v88 = .bool x88_23 ∧ Aside0 (rabbetlaw20_TagTorn.j1 kq a0 a1 l4 a6 a7 t168 t172 x88_23 = some r) ∧ Aside0 (kq ≤ kj10) ∧ Aside0 (Kd.R (Kd.int .u8) 5 wc w.heap.size (fun k_ => some k_ ≠ (v173 : Value).ownBlock) v169 t168) ∧ Aside0 (Kd.R (Kd.int .u8) 5 wc w.heap.size (fun k_ => some k_ ≠ (v169 : Value).ownBlock) v173 t172) ∧ Aside0 (Below w.heap.size w wc))
          case first =>
            have H := HC24.out
            clear HC24
            by_cases c27 : t171 = true
            · subst c27
              have H1 : (if t175 = true then (if (t168.length : Int) = 128 then (rabbetlaw20_TagTorn.j1 kj10 a0 a1 l4 a6 a7 t168 t172 ((t172.length : Int) != 128)) else (rabbetlaw20_TagTorn.j1 kj10 a0 a1 l4 a6 a7 t168 t172 true)) else (rabbetlaw20_TagTorn.j1 kj10 a0 a1 l4 a6 a7 t168 t172 true)) = some r := by rw [if_pos rfl] at H; exact H
              clear H
              have H := H1
              clear H1
              by_cases c28 : t175 = true
              · subst c28
                have H1 : (if (t168.length : Int) = 128 then (rabbetlaw20_TagTorn.j1 kj10 a0 a1 l4 a6 a7 t168 t172 ((t172.length : Int) != 128)) else (rabbetlaw20_TagTorn.j1 kj10 a0 a1 l4 a6 a7 t168 t172 true)) = some r := by rw [if_pos rfl] at H; exact H
                clear H
                have H := H1
                clear H1
                by_cases c29 : (t168.length : Int) = 128
                · rw [if_pos c29] at H
                  have c29b0 : ((t168.length : Int) == 128) = true := beq_iff_eq.mpr c29
                  have c29b1 : ((t168.length : Int) != 128) = false := bne_eq_false_iff_eq.mpr c29
                  clear c29
                  (first | rw [c29b0] | rw [c29b1] | (simp only [i64_w, i32_w]; rw [c29b0]) | skip)
                  have H' := Aside0.mk H
                  clear H
                  obtain ⟨Ao30, co30, eo30⟩ := Kd.R_slice HO170.out
                  subst eo30
                  obtain ⟨Ao31, co31, eo31⟩ := Kd.R_slice HO174.out
                  subst eo31
                  go_wp2
                  go_meet
                  case rel => exact ⟨_, (((t172.length : Int) != 128)), (by first | rfl | (simp; done) | (simp [*]; done)), H', ⟨by have := HJ10.out; first | omega | exact Nat.le_refl _⟩, ⟨by (with_reducible repeat (first | apply Kd.R_alloc | apply Kd.R_drewN | apply Kd.R_drew)); exact Kd.R_mono HO170.out (fun _ hk => hk.2)⟩, ⟨by (with_reducible repeat (first | apply Kd.R_alloc | apply Kd.R_drewN | apply Kd.R_drew)); exact Kd.R_mono HO174.out (fun _ hk => hk.2)⟩, ⟨by repeat (first | (with_reducible first | exact HB.out | apply below_alloc | apply pw_below_drewN | apply below_drew1) | exact HB.out)⟩⟩
                · rw [if_neg c29] at H
                  have c29b0 : ((t168.length : Int) == 128) = false := beq_eq_false_iff_ne.mpr c29
                  have c29b1 : ((t168.length : Int) != 128) = true := bne_iff_ne.mpr c29
                  (first | rw [c29b0] | rw [c29b1] | (simp only [i64_w, i32_w]; rw [c29b0]) | skip)
                  have H' := Aside0.mk H
                  clear H
                  obtain ⟨Ao32, co32, eo32⟩ := Kd.R_slice HO170.out
                  subst eo32
                  go_wp2
                  go_meet
                  case rel => exact ⟨_, (true), (by first | rfl | (simp; done) | (simp [*]; done)), H', ⟨by have := HJ10.out; first | omega | exact Nat.le_refl _⟩, ⟨by (with_reducible repeat (first | apply Kd.R_alloc | apply Kd.R_drewN | apply Kd.R_drew)); exact Kd.R_mono HO170.out (fun _ hk => hk.2)⟩, ⟨by (with_reducible repeat (first | apply Kd.R_alloc | apply Kd.R_drewN | apply Kd.R_drew)); exact Kd.R_mono HO174.out (fun _ hk => hk.2)⟩, ⟨by repeat (first | (with_reducible first | exact HB.out | apply below_alloc | apply pw_below_drewN | apply below_drew1) | exact HB.out)⟩⟩
              · replace c28 := Bool.eq_false_iff.mpr c28
                subst c28
                have H1 : (rabbetlaw20_TagTorn.j1 kj10 a0 a1 l4 a6 a7 t168 t172 true) = some r := by rw [if_neg (show ¬ (false = true) by decide)] at H; exact H
                clear H
                have H := H1
                clear H1
                have H' := Aside0.mk H
                clear H
                go_wp2
                go_meet
                case rel => exact ⟨_, (true), (by first | rfl | (simp; done) | (simp [*]; done)), H', ⟨by have := HJ10.out; first | omega | exact Nat.le_refl _⟩, ⟨by (with_reducible repeat (first | apply Kd.R_alloc | apply Kd.R_drewN | apply Kd.R_drew)); exact Kd.R_mono HO170.out (fun _ hk => hk.2)⟩, ⟨by (with_reducible repeat (first | apply Kd.R_alloc | apply Kd.R_drewN | apply Kd.R_drew)); exact Kd.R_mono HO174.out (fun _ hk => hk.2)⟩, ⟨by repeat (first | (with_reducible first | exact HB.out | apply below_alloc | apply pw_below_drewN | apply below_drew1) | exact HB.out)⟩⟩
            · replace c27 := Bool.eq_false_iff.mpr c27
              subst c27
              have H1 : (rabbetlaw20_TagTorn.j1 kj10 a0 a1 l4 a6 a7 t168 t172 true) = some r := by rw [if_neg (show ¬ (false = true) by decide)] at H; exact H
              clear H
              have H := H1
              clear H1
              have H' := Aside0.mk H
              clear H
              go_wp2
              go_meet
              case rel => exact ⟨_, (true), (by first | rfl | (simp; done) | (simp [*]; done)), H', ⟨by have := HJ10.out; first | omega | exact Nat.le_refl _⟩, ⟨by (with_reducible repeat (first | apply Kd.R_alloc | apply Kd.R_drewN | apply Kd.R_drew)); exact Kd.R_mono HO170.out (fun _ hk => hk.2)⟩, ⟨by (with_reducible repeat (first | apply Kd.R_alloc | apply Kd.R_drewN | apply Kd.R_drew)); exact Kd.R_mono HO174.out (fun _ hk => hk.2)⟩, ⟨by repeat (first | (with_reducible first | exact HB.out | apply below_alloc | apply pw_below_drewN | apply below_drew1) | exact HB.out)⟩⟩
          case rest =>
            clear HC24
            try clear c1
            try clear c2
            try clear p2
            try clear c4
            try clear c5
            try clear c10
            try clear c12
            try clear c13
            try clear c13b0
            try clear c13b1
            try clear c14
            try clear c14b0
            try clear c14b1
            try clear c15
            try clear c15b0
            try clear c15b1
            try clear c16
            try clear c16b0
            try clear c16b1
            try clear c17
            try clear c18
            try clear c18b0
            try clear c18b1
            try clear c19
            try clear c19b0
            try clear c19b1
            try clear c20
            try clear c20b0
            try clear c20b1
            try clear c21
            try clear c27
            try clear c28
            try clear c29
            try clear c29b0
            try clear c29b1
            try clear p2
            obtain ⟨kq, x88_23, rfl, HA, HJ23, HO_17, HO_19, HB⟩ := hcut
            cases kq with
            | zero => exact absurd HA.out (by simp [rabbetlaw20_TagTorn.j1])
            | succ kj23 =>
              have H := HA.out
              clear HA
              simp only [rabbetlaw20_TagTorn.j1] at H
              by_cases c33 : x88_23 = true
              · subst c33
                have H1 : (none) = some r := by rw [if_pos rfl] at H; exact H
                clear H
                have H := H1
                clear H1
                exact absurd H (by simp)
              · replace c33 := Bool.eq_false_iff.mpr c33
                subst c33
                have H1 : (if a7 = true then (if 128 ≤ 281474976710656 then ((some (List.replicate 128 0 : List Int)).bind fun y176 => ((some (([] : List Int) : List Int)).bind fun y179 => (if 0 ≤ (Int.tmod (wrap64 (a6)) 129) then (if (Int.tmod (wrap64 (a6)) 129) ≤ (t168.length : Int) then ((some (t168.take ((Int.tmod (wrap64 (a6)) 129) : Int).toNat : List Int)).bind fun y182 => (if y179.length + y182.length < 140737488355328 then ((some (y179 ++ y182 : List Int)).bind fun y186 => (if (Int.tmod (wrap64 (a6)) 129) ≤ (y176.length : Int) then ((some (y176.drop ((Int.tmod (wrap64 (a6)) 129) : Int).toNat : List Int)).bind fun y189 => (if y186.length + y189.length < 140737488355328 then ((some (y186 ++ y189 : List Int)).bind fun y193 => ((tag_Take.f kj23 a0 a1 y193).bind fun bt196 => (if (bt196.2 == ((strOfNums y193).toList == (strOfNums t168).toList)) = true then (if bt196.2 = true then (some ((strOfNums bt196.1).toList == (strOfNums l4).toList)) else (some true)) else (none)))) else (none))) else (none))) else (none))) else (none)) else (none)))) else (none)) else ((some (([] : List Int) : List Int)).bind fun y200 => (if 0 ≤ (Int.tmod (wrap64 (a6)) 129) then (if (Int.tmod (wrap64 (a6)) 129) ≤ (t168.length : Int) then ((some (t168.take ((Int.tmod (wrap64 (a6)) 129) : Int).toNat : List Int)).bind fun y203 => (if y200.length + y203.length < 140737488355328 then ((some (y200 ++ y203 : List Int)).bind fun y207 => (if (Int.tmod (wrap64 (a6)) 129) ≤ (t172.length : Int) then ((some (t172.drop ((Int.tmod (wrap64 (a6)) 129) : Int).toNat : List Int)).bind fun y210 => (if y207.length + y210.length < 140737488355328 then ((some (y207 ++ y210 : List Int)).bind fun y214 => ((tag_Take.f kj23 a0 a1 y214).bind fun bt217 => (if (bt217.2 == ((strOfNums y214).toList == (strOfNums t168).toList)) = true then (if bt217.2 = true then (some ((strOfNums bt217.1).toList == (strOfNums l4).toList)) else (some true)) else (none)))) else (none))) else (none))) else (none))) else (none)) else (none)))) = some r := by rw [if_neg (show ¬ (false = true) by decide)] at H; exact H
                clear H
                have H := H1
                clear H1
                by_cases c34 : a7 = true
                · subst c34
                  have H1 : (if 128 ≤ 281474976710656 then ((some (List.replicate 128 0 : List Int)).bind fun y176 => ((some (([] : List Int) : List Int)).bind fun y179 => (if 0 ≤ (Int.tmod (wrap64 (a6)) 129) then (if (Int.tmod (wrap64 (a6)) 129) ≤ (t168.length : Int) then ((some (t168.take ((Int.tmod (wrap64 (a6)) 129) : Int).toNat : List Int)).bind fun y182 => (if y179.length + y182.length < 140737488355328 then ((some (y179 ++ y182 : List Int)).bind fun y186 => (if (Int.tmod (wrap64 (a6)) 129) ≤ (y176.length : Int) then ((some (y176.drop ((Int.tmod (wrap64 (a6)) 129) : Int).toNat : List Int)).bind fun y189 => (if y186.length + y189.length < 140737488355328 then ((some (y186 ++ y189 : List Int)).bind fun y193 => ((tag_Take.f kj23 a0 a1 y193).bind fun bt196 => (if (bt196.2 == ((strOfNums y193).toList == (strOfNums t168).toList)) = true then (if bt196.2 = true then (some ((strOfNums bt196.1).toList == (strOfNums l4).toList)) else (some true)) else (none)))) else (none))) else (none))) else (none))) else (none)) else (none)))) else (none)) = some r := by rw [if_pos rfl] at H; exact H
                  clear H
                  have H := H1
                  clear H1
                  by_cases c35 : 128 ≤ 281474976710656
                  · rw [if_pos c35] at H
                    have c35b0 := eq_true c35
                    have c35b1 : decide (128 ≤ 281474976710656) = true := decide_eq_true c35
                    clear c35
                    obtain ⟨y176, hy176⟩ : ∃ y_ : List Int, y_ = (List.replicate 128 0) := ⟨_, rfl⟩
                    replace H : ((some (([] : List Int) : List Int)).bind fun y179 => (if 0 ≤ (Int.tmod (wrap64 (a6)) 129) then (if (Int.tmod (wrap64 (a6)) 129) ≤ (t168.length : Int) then ((some (t168.take ((Int.tmod (wrap64 (a6)) 129) : Int).toNat : List Int)).bind fun y182 => (if y179.length + y182.length < 140737488355328 then ((some (y179 ++ y182 : List Int)).bind fun y186 => (if (Int.tmod (wrap64 (a6)) 129) ≤ (y176.length : Int) then ((some (y176.drop ((Int.tmod (wrap64 (a6)) 129) : Int).toNat : List Int)).bind fun y189 => (if y186.length + y189.length < 140737488355328 then ((some (y186 ++ y189 : List Int)).bind fun y193 => ((tag_Take.f kj23 a0 a1 y193).bind fun bt196 => (if (bt196.2 == ((strOfNums y193).toList == (strOfNums t168).toList)) = true then (if bt196.2 = true then (some ((strOfNums bt196.1).toList == (strOfNums l4).toList)) else (some true)) else (none)))) else (none))) else (none))) else (none))) else (none)) else (none))) = some r := by first | (rw [hy176]; with_reducible exact H) | (have H2_ := (Option.bind_some _ _).symm.trans H; rw [hy176]; with_reducible exact H2_) | (have H2_ := (Option.bind_some _ _).symm.trans H; with_reducible exact H2_) | with_reducible exact H | (rw [hy176]; exact H) | exact H
                    have Ny176 := Aside0.mk hy176
                    clear hy176
                    obtain ⟨y179, hy179⟩ : ∃ y_ : List Int, y_ = (([] : List Int)) := ⟨_, rfl⟩
                    replace H : (if 0 ≤ (Int.tmod (wrap64 (a6)) 129) then (if (Int.tmod (wrap64 (a6)) 129) ≤ (t168.length : Int) then ((some (t168.take ((Int.tmod (wrap64 (a6)) 129) : Int).toNat : List Int)).bind fun y182 => (if y179.length + y182.length < 140737488355328 then ((some (y179 ++ y182 : List Int)).bind fun y186 => (if (Int.tmod (wrap64 (a6)) 129) ≤ (y176.length : Int) then ((some (y176.drop ((Int.tmod (wrap64 (a6)) 129) : Int).toNat : List Int)).bind fun y189 => (if y186.length + y189.length < 140737488355328 then ((some (y186 ++ y189 : List Int)).bind fun y193 => ((tag_Take.f kj23 a0 a1 y193).bind fun bt196 => (if (bt196.2 == ((strOfNums y193).toList == (strOfNums t168).toList)) = true then (if bt196.2 = true then (some ((strOfNums bt196.1).toList == (strOfNums l4).toList)) else (some true)) else (none)))) else (none))) else (none))) else (none))) else (none)) else (none)) = some r := by first | (rw [hy179]; with_reducible exact H) | (have H2_ := (Option.bind_some _ _).symm.trans H; rw [hy179]; with_reducible exact H2_) | (have H2_ := (Option.bind_some _ _).symm.trans H; with_reducible exact H2_) | with_reducible exact H | (rw [hy179]; exact H) | exact H
                    have Ny179 := Aside0.mk hy179
                    clear hy179
                    obtain ⟨ji36, hji36⟩ : ∃ j_ : Int, (Int.tmod (wrap64 (a6)) 129) = j_ := ⟨_, rfl⟩
                    replace H : (if 0 ≤ (ji36) then (if (ji36) ≤ (t168.length : Int) then ((some (t168.take ((ji36) : Int).toNat : List Int)).bind fun y182 => (if y179.length + y182.length < 140737488355328 then ((some (y179 ++ y182 : List Int)).bind fun y186 => (if (ji36) ≤ (y176.length : Int) then ((some (y176.drop ((ji36) : Int).toNat : List Int)).bind fun y189 => (if y186.length + y189.length < 140737488355328 then ((some (y186 ++ y189 : List Int)).bind fun y193 => ((tag_Take.f kj23 a0 a1 y193).bind fun bt196 => (if (bt196.2 == ((strOfNums y193).toList == (strOfNums t168).toList)) = true then (if bt196.2 = true then (some ((strOfNums bt196.1).toList == (strOfNums l4).toList)) else (some true)) else (none)))) else (none))) else (none))) else (none))) else (none)) else (none)) = some r := by first | (rw [hji36] at H; exact H) | (simp only [hji36] at H ⊢; exact H) | exact H
                    by_cases c37 : 0 ≤ (ji36)
                    · rw [if_pos c37] at H
                      have c37b0 := eq_true c37
                      have c37b1 : decide (0 ≤ (ji36)) = true := decide_eq_true c37
                      clear c37
                      by_cases c38 : (ji36) ≤ (t168.length : Int)
                      · rw [if_pos c38] at H
                        have c38b0 := eq_true c38
                        have c38b1 : decide ((ji36) ≤ (t168.length : Int)) = true := decide_eq_true c38
                        clear c38
                        obtain ⟨y182, hy182⟩ : ∃ y_ : List Int, y_ = (t168.take ((ji36) : Int).toNat) := ⟨_, rfl⟩
                        replace H : (if y179.length + y182.length < 140737488355328 then ((some (y179 ++ y182 : List Int)).bind fun y186 => (if (ji36) ≤ (y176.length : Int) then ((some (y176.drop ((ji36) : Int).toNat : List Int)).bind fun y189 => (if y186.length + y189.length < 140737488355328 then ((some (y186 ++ y189 : List Int)).bind fun y193 => ((tag_Take.f kj23 a0 a1 y193).bind fun bt196 => (if (bt196.2 == ((strOfNums y193).toList == (strOfNums t168).toList)) = true then (if bt196.2 = true then (some ((strOfNums bt196.1).toList == (strOfNums l4).toList)) else (some true)) else (none)))) else (none))) else (none))) else (none)) = some r := by first | (rw [hy182]; with_reducible exact H) | (have H2_ := (Option.bind_some _ _).symm.trans H; rw [hy182]; with_reducible exact H2_) | (have H2_ := (Option.bind_some _ _).symm.trans H; with_reducible exact H2_) | with_reducible exact H | (rw [hy182]; exact H) | exact H
                        have Ny182 := Aside0.mk hy182
                        clear hy182
                        by_cases c39 : y179.length + y182.length < 140737488355328
                        · rw [if_pos c39] at H
                          have LMc39 := Aside0.mk c39
                          clear c39
                          obtain ⟨y186, hy186⟩ : ∃ y_ : List Int, y_ = (y179 ++ y182) := ⟨_, rfl⟩
                          replace H : (if (ji36) ≤ (y176.length : Int) then ((some (y176.drop ((ji36) : Int).toNat : List Int)).bind fun y189 => (if y186.length + y189.length < 140737488355328 then ((some (y186 ++ y189 : List Int)).bind fun y193 => ((tag_Take.f kj23 a0 a1 y193).bind fun bt196 => (if (bt196.2 == ((strOfNums y193).toList == (strOfNums t168).toList)) = true then (if bt196.2 = true then (some ((strOfNums bt196.1).toList == (strOfNums l4).toList)) else (some true)) else (none)))) else (none))) else (none)) = some r := by first | (rw [hy186]; with_reducible exact H) | (have H2_ := (Option.bind_some _ _).symm.trans H; rw [hy186]; with_reducible exact H2_) | (have H2_ := (Option.bind_some _ _).symm.trans H; with_reducible exact H2_) | with_reducible exact H | (rw [hy186]; exact H) | exact H
                          have Ny186 := Aside0.mk hy186
                          clear hy186
                          have c40b0 := eq_true (of_decide_eq_true (by first | (with_reducible assumption) | assumption) : 0 ≤ (ji36))
                          by_cases c41 : (ji36) ≤ (y176.length : Int)
                          · rw [if_pos c41] at H
                            have c41b0 := eq_true c41
                            have c41b1 : decide ((ji36) ≤ (y176.length : Int)) = true := decide_eq_true c41
                            clear c41
                            obtain ⟨y189, hy189⟩ : ∃ y_ : List Int, y_ = (y176.drop ((ji36) : Int).toNat) := ⟨_, rfl⟩
                            replace H : (if y186.length + y189.length < 140737488355328 then ((some (y186 ++ y189 : List Int)).bind fun y193 => ((tag_Take.f kj23 a0 a1 y193).bind fun bt196 => (if (bt196.2 == ((strOfNums y193).toList == (strOfNums t168).toList)) = true then (if bt196.2 = true then (some ((strOfNums bt196.1).toList == (strOfNums l4).toList)) else (some true)) else (none)))) else (none)) = some r := by first | (rw [hy189]; with_reducible exact H) | (have H2_ := (Option.bind_some _ _).symm.trans H; rw [hy189]; with_reducible exact H2_) | (have H2_ := (Option.bind_some _ _).symm.trans H; with_reducible exact H2_) | with_reducible exact H | (rw [hy189]; exact H) | exact H
                            have Ny189 := Aside0.mk hy189
                            clear hy189
                            by_cases c42 : y186.length + y189.length < 140737488355328
                            · rw [if_pos c42] at H
                              have LMc42 := Aside0.mk c42
                              clear c42
                              obtain ⟨y193, hy193⟩ : ∃ y_ : List Int, y_ = (y186 ++ y189) := ⟨_, rfl⟩
                              replace H : ((tag_Take.f kj23 a0 a1 y193).bind fun bt196 => (if (bt196.2 == ((strOfNums y193).toList == (strOfNums t168).toList)) = true then (if bt196.2 = true then (some ((strOfNums bt196.1).toList == (strOfNums l4).toList)) else (some true)) else (none))) = some r := by first | (rw [hy193]; with_reducible exact H) | (have H2_ := (Option.bind_some _ _).symm.trans H; rw [hy193]; with_reducible exact H2_) | (have H2_ := (Option.bind_some _ _).symm.trans H; with_reducible exact H2_) | with_reducible exact H | (rw [hy193]; exact H) | exact H
                              have Ny193 := Aside0.mk hy193
                              clear hy193
                              replace H := Option.bind_eq_some_iff.mp H
                              obtain ⟨⟨t196, t197⟩, A430, H⟩ := H
                              replace H : (if (t197 == ((strOfNums y193).toList == (strOfNums t168).toList)) = true then (if t197 = true then (some ((strOfNums t196).toList == (strOfNums l4).toList)) else (some true)) else (none)) = some r := H
                              have A43 := Aside0.mk A430
                              clear A430
                              by_cases c44 : (t197 == ((strOfNums y193).toList == (strOfNums t168).toList)) = true
                              · rw [if_pos c44] at H
                                have c44b0 : (t197 == ((strOfNums y193).toList == (strOfNums t168).toList)) = true := c44
                                (try (have c44b1 : decide (t197 = ((strOfNums y193).toList == (strOfNums t168).toList)) = true := by simpa using c44))
                                (try (have c44b2 : (t197 == ((strOfNums y193).toList == (strOfNums t168).toList)) = true := by simpa using c44))
                                clear c44
                                by_cases c45 : t197 = true
                                · subst c45
                                  have H1 : (some ((strOfNums t196).toList == (strOfNums l4).toList)) = some r := by rw [if_pos rfl] at H; exact H
                                  clear H
                                  have H := H1
                                  clear H1
                                  obtain rfl := Option.some.inj H
                                  try go_wp2_with (first | ((with_reducible refine gate_dst (N := 90) rfl ?_); (try (refine gate_guard (by rfl) ?_; dsimp only)); refine Kd.R_make (Kd.int .u8) _ 5 rfl (N := 90) rfl 23 _ _ rfl 128 rfl rfl Tryd.underlying23 (.int .u8 0) 1 info5 rfl (by decide) (by omega) 0 (ok := fun _ => True) (okp := fun _ => True) rfl (fun _ hk => hk) trivial (by omega) (by omega) (Below.refl _ _) (Nat.le_refl _) ?_; intro v177 w46 ho47 hb hg_ hnew_; clear hg_ hnew_; (first | rw [← Ny176.out] at ho47 | (simp only [Int.reduceToNat] at ho47; rw [← Ny176.out] at ho47)); have n0_ := Aside0.mk (Kd.R_elder' (by (with_reducible repeat (first | apply Kd.R_alloc | apply Kd.R_drewN | apply Kd.R_drew)); exact HO_17.out) (Kd.R_base ho47) hb); have n1_ := Aside0.mk (Kd.R_elder' (by (with_reducible repeat (first | apply Kd.R_alloc | apply Kd.R_drewN | apply Kd.R_drew)); exact HO_19.out) (Kd.R_base ho47) hb); have n2_ := Aside0.mk (Kd.R_lower (Kd.R_new' (Kd.R_new' ho47 (Kd.R_lt (by (with_reducible repeat (first | apply Kd.R_alloc | apply Kd.R_drewN | apply Kd.R_drew)); exact HO_17.out))) (Kd.R_lt (by (with_reducible repeat (first | apply Kd.R_alloc | apply Kd.R_drewN | apply Kd.R_drew)); exact HO_19.out))) (below_size (by repeat (first | (with_reducible first | exact HB.out | apply below_alloc | apply pw_below_drewN | apply below_drew1) | exact HB.out)))); have n3_ := Aside0.mk (below_step (by repeat (first | (with_reducible first | exact HB.out | apply below_alloc | apply pw_below_drewN | apply below_drew1) | exact HB.out)) hb); clear HO_17; clear HO_19; clear HB; have HO_17 := n0_; have HO_19 := n1_; have HO178 := n2_; have HB := n3_; clear n0_ n1_ n2_ n3_; clear hb ho47))
                                  have n0_ := Aside0.mk (Kd.R_drew HO_17.out)
                                  have n1_ := Aside0.mk (Kd.R_drew HO_19.out)
                                  have n2_ := Aside0.mk (Kd.R_drew HO178.out)
                                  have n3_ := Aside0.mk (below_drew1 HB.out)
                                  clear HO_17
                                  clear HO_19
                                  clear HO178
                                  clear HB
                                  have HO_17 := n0_
                                  have HO_19 := n1_
                                  have HO178 := n2_
                                  have HB := n3_
                                  clear n0_ n1_ n2_ n3_
                                  obtain ⟨Ao50, co50, eo50⟩ := Kd.R_slice HO_17.out
                                  (first | subst eo50 | (injection eo50 with f1_ f2_ f3_; have f4_ := f1_.symm; have f5_ := f3_.symm; clear f1_ f2_ f3_; subst f4_; subst f5_))
                                  have q49 : ((ji36) : Int) ≤ ((t168.length : Int) : Int) := of_decide_eq_true (by first | (with_reducible assumption) | assumption)
                                  obtain ⟨i049, hi049, _, hsz49, _⟩ := info_parts info5
                                  have hroom49 : t168.length ≤ co50 := (Kd.R_reads' HO_17.out).2.1
                                  have hC49 : Kd.C (Kd.int .u8) _ Ao50 t168.length t168 := (Kd.R_reads' HO_17.out).2.2
                                  have hcut49 := cut_to (P := Tryd.prog) 23 5 .i64 Tryd.underlying23 hi049 Ao50 t168.length co50 (ji36) (of_decide_eq_true (by first | (with_reducible assumption) | assumption)) q49 hroom49
                                  have hr49 := Kd.C_take (m := ((ji36) : Int).toNat) hC49 (by omega)
                                  have hy49 : y182.length = ((ji36) : Int).toNat := (by rw [Ny182.out, List.length_take]; omega)
                                  rw [← Ny182.out] at hr49
                                  rw [← hy49] at hcut49
                                  have HR185 := Aside0.mk hr49
                                  have HC185 := Aside0.mk (show y182.length ≤ co50 from by omega)
                                  clear hr49 hC49 hroom49 hi049 hsz49
                                  have KY49 := Aside0.mk hy49
                                  clear hy49
                                  have KL49 := Aside0.mk (show ((ji36) : Int).toNat ≤ t168.length from by omega)
                                  replace q49 := eq_true q49
                                  obtain ⟨Ao52, co52, eo52⟩ := Kd.R_slice HO178.out
                                  (first | subst eo52 | (injection eo52 with f1_ f2_ f3_; have f4_ := f1_.symm; have f5_ := f3_.symm; clear f1_ f2_ f3_; subst f4_; subst f5_))
                                  have q51 : ((ji36) : Int) ≤ ((y176.length : Int) : Int) := of_decide_eq_true (by first | (with_reducible assumption) | assumption)
                                  obtain ⟨i051, hi051, _, hsz51, _⟩ := info_parts info5
                                  have hroom51 : y176.length ≤ co52 := (Kd.R_reads' HO178.out).2.1
                                  have hC51 : Kd.C (Kd.int .u8) _ Ao52 y176.length y176 := (Kd.R_reads' HO178.out).2.2
                                  have q051 : (0 : Int) ≤ ((ji36) : Int) := of_decide_eq_true (by first | (with_reducible assumption) | assumption)
                                  have hcut51 := cut_from (P := Tryd.prog) 23 5 .i64 Tryd.underlying23 hi051 1 hsz51 Ao52 y176.length co52 (ji36) q051 q51
                                  have hr51 := Kd.C_drop (m := ((ji36) : Int).toNat) (c := co52) hC51 (by omega) hroom51
                                  obtain ⟨A51, hA51⟩ : ∃ A1, A1 = (if co52 = ((ji36) : Int).toNat then Ao52 else (Ao52 : Option Addr).map (·.add (((ji36) : Int).toNat * 1))) := ⟨_, rfl⟩
                                  obtain ⟨c51, hc51⟩ : ∃ c1, c1 = co52 - ((ji36) : Int).toNat := ⟨_, rfl⟩
                                  have hy51 : y189.length = y176.length - ((ji36) : Int).toNat := (by rw [Ny189.out, List.length_drop] <;> omega)
                                  rw [show (y176).drop ((ji36) : Int).toNat = y189 from Ny189.out.symm] at hr51
                                  replace hr51 : Kd.C (Kd.int .u8) _ A51 y189.length y189 := (by rw [hA51]; exact hr51)
                                  rw [← hy51, ← hA51, ← hc51] at hcut51
                                  have HR192 := Aside0.mk hr51
                                  have HC192 := Aside0.mk (show y189.length ≤ c51 from by rw [hy51, hc51]; exact Nat.sub_le_sub_right hroom51 _)
                                  clear hr51 hC51 hroom51 hi051 hsz51 hc51
                                  have KY51 := Aside0.mk hy51
                                  have KA51 := Aside0.mk hA51
                                  clear hy51 hA51
                                  have KL51 := Aside0.mk (show ((ji36) : Int).toNat ≤ y176.length from by omega)
                                  replace q51 := eq_true q51
                                  refine start_ (n := 10) (S := fun w' => True) (ds := []) #[false, false, false, false, false, false, false, false, false, false] (by kernel_rfl) rfl rfl trivial (fun hHeld => ?_); refine with_tabW rabbetlaw20_TagTorn.tab12 rabbetlaw20_TagTorn.bits12 (fun HT_ HW_ => ?_)
                                  generalize w46.drew = w48 at HO_17 HO_19 HO178 HB HR185 HR192 hHeld ⊢
                                  refine pure_ (i := 1) (N := some 95) (v := ?_) (a' := ?_) #[false, true, false, false, false, false, false, false, false, false] rfl rfl (any_of HT_.out (by kernel_rfl)) (fun _ _ _ h => h) (Or.inl ⟨by rfl, ?_⟩) ?_ ?_
                                  rotate_left
                                  · intro w'
                                    go_simp
                                    with_reducible rfl
                                  rotate_left
                                  · simp only [Act.put, List.setIfInBounds_toArray, List.set_cons_zero, List.set_cons_succ, i64_w, i32_w]
                                    rfl
                                  refine pure_ (i := 2) (N := some 96) (v := ?_) (a' := ?_) #[false, true, true, false, false, false, false, false, false, false] rfl rfl (any_of HT_.out (by kernel_rfl)) (fun _ _ _ h => h) (Or.inl ⟨by rfl, ?_⟩) ?_ ?_
                                  rotate_left
                                  · intro w'
                                    go_simp
                                    with_reducible rfl
                                  rotate_left
                                  · simp only [Act.put, List.setIfInBounds_toArray, List.set_cons_zero, List.set_cons_succ, i64_w, i32_w]
                                    rfl
                                  refine pure_ (i := 3) (N := some 97) (v := ?_) (a' := ?_) #[false, true, true, true, false, false, false, false, false, false] rfl rfl (any_of HT_.out (by kernel_rfl)) (fun _ _ _ h => h) (Or.inl ⟨by rfl, ?_⟩) ?_ ?_
                                  rotate_left
                                  · intro w'
                                    go_simp
                                    with_reducible rfl
                                  rotate_left
                                  · simp only [Act.put, List.setIfInBounds_toArray, List.set_cons_zero, List.set_cons_succ, i64_w, i32_w]
                                    rfl
                                  refine pure_ (i := 5) (N := some 99) (v := ?_) (a' := ?_) #[false, true, true, true, false, true, false, false, false, false] rfl rfl (any_of HT_.out (by kernel_rfl)) (fun _ _ _ h => h) (Or.inl ⟨by rfl, ?_⟩) ?_ ?_
                                  rotate_left
                                  · intro w'
                                    go_simp
                                    with_reducible rfl
                                  rotate_left
                                  · simp only [Act.put, List.setIfInBounds_toArray, List.set_cons_zero, List.set_cons_succ, i64_w, i32_w]
                                    rfl
                                  refine pure_ (i := 6) (N := some 100) (v := ?_) (a' := ?_) #[false, true, true, true, false, true, true, false, false, false] rfl rfl (any_of HT_.out (by kernel_rfl)) (fun _ _ _ h => h) (Or.inl ⟨by rfl, ?_⟩) ?_ ?_
                                  rotate_left
                                  · intro w'
                                    go_simp
                                    with_reducible rfl
                                  rotate_left
                                  · simp only [Act.put, List.setIfInBounds_toArray, List.set_cons_zero, List.set_cons_succ, i64_w, i32_w]
                                    rfl
                                  refine pure_ (i := 7) (N := some 101) (v := ?_) (a' := ?_) #[false, true, true, true, false, true, true, true, false, false] rfl rfl (any_of HT_.out (by kernel_rfl)) (fun _ _ _ h => h) (Or.inl ⟨by rfl, ?_⟩) ?_ ?_
                                  rotate_left
                                  · intro w'
                                    go_simp
                                    with_reducible rfl
                                  rotate_left
                                  · simp only [Act.put, List.setIfInBounds_toArray, List.set_cons_zero, List.set_cons_succ, i64_w, i32_w]
                                    rfl
                                  refine one_ (i := 0) (N := some 94) #[true, true, true, true, false, true, true, true, false, false] rfl rfl (one_of HT_.out (by kernel_rfl)) (by decide) (fun K hK => ?_)
                                  refine Kd.R_lit_step (Kd.int .u8) _ 5 ?hg (N := 94) ?hd (xs := ([] : List Int)) (inner := []) (ok := fun _ => True) (okp := fun _ => True) ?hr ?hp (fun _ hk => hk) trivial (Below.refl _ _) (Nat.le_refl _) (by simp) ?_; (case hd => rfl); (case hg => rfl); (case hr => first | (go_simp; done) | (go_simp; rfl)); (case hp => exact (Reps.none _ _))
                                  intro v180 w53 ho54 hb hg_ hnew_
                                  clear hg_ hnew_
                                  (first | rw [← Ny179.out] at ho54 | (simp only [Int.reduceToNat] at ho54; rw [← Ny179.out] at ho54))
                                  have n0_ := Aside0.mk (Kd.R_elder' (by (with_reducible repeat (first | apply Kd.R_alloc | apply Kd.R_drewN | apply Kd.R_drew)); exact HO_17.out) (Kd.R_base ho54) hb)
                                  have n1_ := Aside0.mk (Kd.R_elder' (by (with_reducible repeat (first | apply Kd.R_alloc | apply Kd.R_drewN | apply Kd.R_drew)); exact HO_19.out) (Kd.R_base ho54) hb)
                                  have n2_ := Aside0.mk (Kd.R_elder' (by (with_reducible repeat (first | apply Kd.R_alloc | apply Kd.R_drewN | apply Kd.R_drew)); exact HO178.out) (Kd.R_base ho54) hb)
                                  have n3_ := Aside0.mk (Kd.R_lower (Kd.R_new' (Kd.R_new' (Kd.R_new' ho54 (Kd.R_lt (by (with_reducible repeat (first | apply Kd.R_alloc | apply Kd.R_drewN | apply Kd.R_drew)); exact HO_17.out))) (Kd.R_lt (by (with_reducible repeat (first | apply Kd.R_alloc | apply Kd.R_drewN | apply Kd.R_drew)); exact HO_19.out))) (Kd.R_lt (by (with_reducible repeat (first | apply Kd.R_alloc | apply Kd.R_drewN | apply Kd.R_drew)); exact HO178.out))) (below_size (by repeat (first | (with_reducible first | exact HB.out | apply below_alloc | apply pw_below_drewN | apply below_drew1) | exact HB.out))))
                                  have n4_ := Aside0.mk (Kd.C_below (by repeat (first | (with_reducible exact HR185.out) | (with_reducible refine Kd.C_alloc ?_ _) | (with_reducible refine Kd.C_drewN ?_ _) | (with_reducible refine Kd.C_drew ?_) | exact HR185.out)) hb)
                                  have n5_ := Aside0.mk (Kd.C_below (by repeat (first | (with_reducible exact HR192.out) | (with_reducible refine Kd.C_alloc ?_ _) | (with_reducible refine Kd.C_drewN ?_ _) | (with_reducible refine Kd.C_drew ?_) | exact HR192.out)) hb)
                                  have n6_ := Aside0.mk (below_step (by repeat (first | (with_reducible first | exact HB.out | apply below_alloc | apply pw_below_drewN | apply below_drew1) | exact HB.out)) hb)
                                  clear HO_17
                                  clear HO_19
                                  clear HO178
                                  clear HR185
                                  clear HR192
                                  clear HB
                                  have HO_17 := n0_
                                  have HO_19 := n1_
                                  have HO178 := n2_
                                  have HO181 := n3_
                                  have HR185 := n4_
                                  have HR192 := n5_
                                  have HB := n6_
                                  clear n0_ n1_ n2_ n3_ n4_ n5_ n6_
                                  clear hb ho54
                                  refine hK.out _ _ trivial (fun hHeld => ?_)
                                  clear hK K
                                  refine norm_ (a' := ?_) ?_ ?_
                                  rotate_left
                                  · show Act.put _ (some 94) _ = _
                                    simp only [Act.put, List.setIfInBounds_toArray, List.set_cons_zero, List.set_cons_succ, i64_w, i32_w]
                                    rfl
                                  refine one_ (i := 4) (N := some 98) #[true, true, true, true, true, true, true, true, false, false] rfl rfl (one_of HT_.out (by kernel_rfl)) (by decide) (fun K hK => ?_)
                                  refine Kd.R_append_rows_step (Kd.int .u8) (w0 := w) w.heap.size (by rfl) (.tmp 94) (.tmp 97) 23 5 (.int .u8 0) 1 rfl Tryd.underlying23 info5 rfl (by decide) (by omega) v180 y179 y182 _ _ _ (fun k_ => some k_ ≠ (.slice Ao50 t168.length co50 : Value).ownBlock ∧ some k_ ≠ (v173 : Value).ownBlock ∧ some k_ ≠ (.slice Ao52 y176.length co52 : Value).ownBlock) (fun _ => False) rfl rfl ?aO ?aR (fun _ _ h => h) (fun _ h => h.elim) ?aF ?aB ?aS ?aL ?_
                                  (case aR => repeat (first | exact (by repeat (first | (with_reducible exact HR185.out) | (with_reducible refine Kd.C_alloc ?_ _) | (with_reducible refine Kd.C_drewN ?_ _) | (with_reducible refine Kd.C_drew ?_) | exact HR185.out)) | (with_reducible refine Kd.C_alloc ?_ _) | (with_reducible refine Kd.C_drewN ?_ _) | (with_reducible refine Kd.C_drew ?_)))
                                  (case aB => exact (by repeat (first | (with_reducible first | exact HB.out | apply below_alloc | apply pw_below_drewN | apply below_drew1) | exact HB.out)))
                                  (case aF => exact (fun k_ hk => ⟨Kd.fresh' (Kd.R_lt (by (with_reducible repeat (first | apply Kd.R_alloc | apply Kd.R_drewN | apply Kd.R_drew)); exact HO_17.out)) k_ hk, Kd.fresh' (Kd.R_lt (by (with_reducible repeat (first | apply Kd.R_alloc | apply Kd.R_drewN | apply Kd.R_drew)); exact HO_19.out)) k_ hk, Kd.fresh' (Kd.R_lt (by (with_reducible repeat (first | apply Kd.R_alloc | apply Kd.R_drewN | apply Kd.R_drew)); exact HO178.out)) k_ hk⟩))
                                  (case aO => exact (by (with_reducible repeat (first | apply Kd.R_alloc | apply Kd.R_drewN | apply Kd.R_drew)); exact Kd.R_mono HO181.out (fun _ hk => ⟨hk.1.1.2, ⟨hk.1.2, hk.2⟩⟩)))
                                  (case aS => exact (below_size (by repeat (first | (with_reducible first | exact HB.out | apply below_alloc | apply pw_below_drewN | apply below_drew1) | exact HB.out))))
                                  (case aL => have := LMc39.out; omega)
                                  intro v187 w55 ho hb hg hat
                                  rw [← Ny186.out] at ho
                                  have n0_ := Aside0.mk (Kd.R_after (ok := (fun k_ => some k_ ≠ (v173 : Value).ownBlock ∧ some k_ ≠ (.slice Ao52 y176.length co52 : Value).ownBlock)) (by (with_reducible repeat (first | apply Kd.R_alloc | apply Kd.R_drewN | apply Kd.R_drew)); exact HO_17.out) hg hat)
                                  have n1_ := Aside0.mk (Kd.R_after (ok := (fun k_ => some k_ ≠ (.slice Ao50 t168.length co50 : Value).ownBlock ∧ some k_ ≠ (.slice Ao52 y176.length co52 : Value).ownBlock)) (by (with_reducible repeat (first | apply Kd.R_alloc | apply Kd.R_drewN | apply Kd.R_drew)); exact HO_19.out) hg hat)
                                  have n2_ := Aside0.mk (Kd.R_after (ok := (fun k_ => some k_ ≠ (.slice Ao50 t168.length co50 : Value).ownBlock ∧ some k_ ≠ (v173 : Value).ownBlock)) (by (with_reducible repeat (first | apply Kd.R_alloc | apply Kd.R_drewN | apply Kd.R_drew)); exact Kd.R_mono HO178.out (fun _ hk => ⟨⟨hk.1.1.2, hk.1.2⟩, hk.2⟩)) hg hat)
                                  have n3_ := Aside0.mk (hb)
                                  have n4_ := Aside0.mk ((show Kd.C (Kd.int .u8) w55 Ao50 y182.length y182 from by rw [Ny182.out]; exact Kd.C_take (m := ((ji36) : Int).toNat) ((Kd.R_reads' (Kd.R_after (ok := (fun k_ => some k_ ≠ (v173 : Value).ownBlock ∧ some k_ ≠ (.slice Ao52 y176.length co52 : Value).ownBlock)) (by (with_reducible repeat (first | apply Kd.R_alloc | apply Kd.R_drewN | apply Kd.R_drew)); exact HO_17.out) hg hat)).2.2) KL49.out))
                                  have n5_ := Aside0.mk ((show Kd.C (Kd.int .u8) w55 A51 y189.length y189 from by rw [Ny189.out, KA51.out]; exact Kd.C_drop (m := ((ji36) : Int).toNat) (c := co52) ((Kd.R_reads' (Kd.R_after (ok := (fun k_ => some k_ ≠ (.slice Ao50 t168.length co50 : Value).ownBlock ∧ some k_ ≠ (v173 : Value).ownBlock)) (by (with_reducible repeat (first | apply Kd.R_alloc | apply Kd.R_drewN | apply Kd.R_drew)); exact Kd.R_mono HO178.out (fun _ hk => ⟨⟨hk.1.1.2, hk.1.2⟩, hk.2⟩)) hg hat)).2.2) KL51.out ((Kd.R_reads' (Kd.R_after (ok := (fun k_ => some k_ ≠ (.slice Ao50 t168.length co50 : Value).ownBlock ∧ some k_ ≠ (v173 : Value).ownBlock)) (by (with_reducible repeat (first | apply Kd.R_alloc | apply Kd.R_drewN | apply Kd.R_drew)); exact Kd.R_mono HO178.out (fun _ hk => ⟨⟨hk.1.1.2, hk.1.2⟩, hk.2⟩)) hg hat)).2.1)))
                                  have n6_ := Aside0.mk (ho)
                                  clear HO_17
                                  clear HO_19
                                  clear HO178
                                  clear HB
                                  clear HR185
                                  clear HR192
                                  clear HO181
                                  have HO_17 := n0_
                                  have HO_19 := n1_
                                  have HO178 := n2_
                                  have HB := n3_
                                  have HR185 := n4_
                                  have HR192 := n5_
                                  have HO188 := n6_
                                  clear n0_ n1_ n2_ n3_ n4_ n5_ n6_
                                  clear ho hb hg hat
                                  refine hK.out _ _ trivial (fun hHeld => ?_)
                                  clear hK K
                                  refine norm_ (a' := ?_) ?_ ?_
                                  rotate_left
                                  · show Act.put _ (some 98) _ = _
                                    simp only [Act.put, List.setIfInBounds_toArray, List.set_cons_zero, List.set_cons_succ, i64_w, i32_w]
                                    rfl
                                  refine one_ (i := 8) (N := some 102) #[true, true, true, true, true, true, true, true, true, false] rfl rfl (one_of HT_.out (by kernel_rfl)) (by decide) (fun K hK => ?_)
                                  refine Kd.R_append_rows_step (Kd.int .u8) (w0 := w) w.heap.size (by rfl) (.tmp 98) (.tmp 101) 23 5 (.int .u8 0) 1 rfl Tryd.underlying23 info5 rfl (by decide) (by omega) v187 y186 y189 _ _ _ (fun k_ => some k_ ≠ (.slice Ao50 t168.length co50 : Value).ownBlock ∧ some k_ ≠ (v173 : Value).ownBlock ∧ some k_ ≠ (.slice Ao52 y176.length co52 : Value).ownBlock) (fun _ => False) rfl rfl ?aO ?aR (fun _ _ h => h) (fun _ h => h.elim) ?aF ?aB ?aS ?aL ?_
                                  (case aR => repeat (first | exact (by repeat (first | (with_reducible exact HR192.out) | (with_reducible refine Kd.C_alloc ?_ _) | (with_reducible refine Kd.C_drewN ?_ _) | (with_reducible refine Kd.C_drew ?_) | exact HR192.out)) | (with_reducible refine Kd.C_alloc ?_ _) | (with_reducible refine Kd.C_drewN ?_ _) | (with_reducible refine Kd.C_drew ?_)))
                                  (case aB => exact (by repeat (first | (with_reducible first | exact HB.out | apply below_alloc | apply pw_below_drewN | apply below_drew1) | exact HB.out)))
                                  (case aF => exact (fun k_ hk => ⟨Kd.fresh' (Kd.R_lt (by (with_reducible repeat (first | apply Kd.R_alloc | apply Kd.R_drewN | apply Kd.R_drew)); exact HO_17.out)) k_ hk, Kd.fresh' (Kd.R_lt (by (with_reducible repeat (first | apply Kd.R_alloc | apply Kd.R_drewN | apply Kd.R_drew)); exact HO_19.out)) k_ hk, Kd.fresh' (Kd.R_lt (by (with_reducible repeat (first | apply Kd.R_alloc | apply Kd.R_drewN | apply Kd.R_drew)); exact HO178.out)) k_ hk⟩))
                                  (case aO => exact (by (with_reducible repeat (first | apply Kd.R_alloc | apply Kd.R_drewN | apply Kd.R_drew)); exact HO188.out))
                                  (case aS => exact (below_size (by repeat (first | (with_reducible first | exact HB.out | apply below_alloc | apply pw_below_drewN | apply below_drew1) | exact HB.out))))
                                  (case aL => have := LMc42.out; omega)
                                  intro v194 w56 ho hb hg hat
                                  rw [← Ny193.out] at ho
                                  have n0_ := Aside0.mk (Kd.R_after (ok := (fun k_ => some k_ ≠ (v173 : Value).ownBlock ∧ some k_ ≠ (.slice Ao52 y176.length co52 : Value).ownBlock)) (by (with_reducible repeat (first | apply Kd.R_alloc | apply Kd.R_drewN | apply Kd.R_drew)); exact HO_17.out) hg hat)
                                  have n1_ := Aside0.mk (Kd.R_after (ok := (fun k_ => some k_ ≠ (.slice Ao50 t168.length co50 : Value).ownBlock ∧ some k_ ≠ (.slice Ao52 y176.length co52 : Value).ownBlock)) (by (with_reducible repeat (first | apply Kd.R_alloc | apply Kd.R_drewN | apply Kd.R_drew)); exact HO_19.out) hg hat)
                                  have n2_ := Aside0.mk (Kd.R_after (ok := (fun k_ => some k_ ≠ (.slice Ao50 t168.length co50 : Value).ownBlock ∧ some k_ ≠ (v173 : Value).ownBlock)) (by (with_reducible repeat (first | apply Kd.R_alloc | apply Kd.R_drewN | apply Kd.R_drew)); exact HO178.out) hg hat)
                                  have n3_ := Aside0.mk (hb)
                                  have n4_ := Aside0.mk ((show Kd.C (Kd.int .u8) w56 Ao50 y182.length y182 from by rw [Ny182.out]; exact Kd.C_take (m := ((ji36) : Int).toNat) ((Kd.R_reads' (Kd.R_after (ok := (fun k_ => some k_ ≠ (v173 : Value).ownBlock ∧ some k_ ≠ (.slice Ao52 y176.length co52 : Value).ownBlock)) (by (with_reducible repeat (first | apply Kd.R_alloc | apply Kd.R_drewN | apply Kd.R_drew)); exact HO_17.out) hg hat)).2.2) KL49.out))
                                  have n5_ := Aside0.mk ((show Kd.C (Kd.int .u8) w56 A51 y189.length y189 from by rw [Ny189.out, KA51.out]; exact Kd.C_drop (m := ((ji36) : Int).toNat) (c := co52) ((Kd.R_reads' (Kd.R_after (ok := (fun k_ => some k_ ≠ (.slice Ao50 t168.length co50 : Value).ownBlock ∧ some k_ ≠ (v173 : Value).ownBlock)) (by (with_reducible repeat (first | apply Kd.R_alloc | apply Kd.R_drewN | apply Kd.R_drew)); exact HO178.out) hg hat)).2.2) KL51.out ((Kd.R_reads' (Kd.R_after (ok := (fun k_ => some k_ ≠ (.slice Ao50 t168.length co50 : Value).ownBlock ∧ some k_ ≠ (v173 : Value).ownBlock)) (by (with_reducible repeat (first | apply Kd.R_alloc | apply Kd.R_drewN | apply Kd.R_drew)); exact HO178.out) hg hat)).2.1)))
                                  have n6_ := Aside0.mk (ho)
                                  clear HO_17
                                  clear HO_19
                                  clear HO178
                                  clear HB
                                  clear HR185
                                  clear HR192
                                  clear HO188
                                  have HO_17 := n0_
                                  have HO_19 := n1_
                                  have HO178 := n2_
                                  have HB := n3_
                                  have HR185 := n4_
                                  have HR192 := n5_
                                  have HO195 := n6_
                                  clear n0_ n1_ n2_ n3_ n4_ n5_ n6_
                                  clear ho hb hg hat
                                  refine hK.out _ _ trivial (fun hHeld => ?_)
                                  clear hK K
                                  refine norm_ (a' := ?_) ?_ ?_
                                  rotate_left
                                  · show Act.put _ (some 102) _ = _
                                    simp only [Act.put, List.setIfInBounds_toArray, List.set_cons_zero, List.set_cons_succ, i64_w, i32_w]
                                    rfl
                                  refine pure_ (i := 9) (N := some 22) (v := ?_) (a' := ?_) #[true, true, true, true, true, true, true, true, true, true] rfl rfl (any_of HT_.out (by kernel_rfl)) (fun _ _ _ h => h) (Or.inl ⟨by rfl, ?_⟩) ?_ ?_
                                  rotate_left
                                  · intro w'
                                    go_simp
                                    with_reducible rfl
                                  rotate_left
                                  · simp only [Act.put, List.setIfInBounds_toArray, List.set_cons_zero, List.set_cons_succ, i64_w, i32_w]
                                    rfl
                                  refine done_ (done_of HT_.out (by kernel_rfl)) ?_
                                  obtain ⟨Ao57, co57, eo57⟩ := Kd.R_slice HO195.out
                                  subst eo57
                                  try go_wp2_with (first | ((with_reducible refine gate_callee (f := 14) rfl ?_); refine goesL_ (some 107) rfl rfl Tryd.func14 (by kernel_rfl) rfl #[.int .u32 a0, .int .u32 a1, .slice Ao57 y193.length co57] rfl (by (try simp only [List.map_toArray, List.map_cons, List.map_nil]); first | done | rfl | (simp only [List.length_drop, List.length_take]; rfl)) ?_; (first | (with_reducible refine (tag_Take.calls GA kj23 a0 a1 _ _ y193 t196 true _ ?side1 ?side2 ?side3 A43.out).mono ?_) | ((try rw [hji36]); (try rw [← KY49.out]); (try rw [← KY51.out]); (with_reducible refine (tag_Take.calls GA kj23 a0 a1 _ _ y193 t196 true _ ?side1 ?side2 ?side3 A43.out).mono ?_))); (case side1 => repeat (first | exact (Kd.R_reads' HO195.out).2.2 | (with_reducible refine Kd.C_alloc ?_ _) | (with_reducible refine Kd.C_drewN ?_ _) | (with_reducible refine Kd.C_drew ?_))); (case side2 => exact (Kd.R_reads' HO195.out).2.1); (case side3 => exact Glob.below HG.out (by repeat (first | (with_reducible first | exact HB.out | apply below_alloc | apply pw_below_drewN | apply below_drew1) | exact HB.out))); rintro e w58 ⟨v198, rfl, ho0, hb⟩; refine ⟨_, rfl, ?_⟩; have n0_ := Aside0.mk (Kd.R_elder' (by (with_reducible repeat (first | apply Kd.R_alloc | apply Kd.R_drewN | apply Kd.R_drew)); exact HO_17.out) (Kd.R_base ho0) hb); have n1_ := Aside0.mk (Kd.R_elder' (by (with_reducible repeat (first | apply Kd.R_alloc | apply Kd.R_drewN | apply Kd.R_drew)); exact HO_19.out) (Kd.R_base ho0) hb); have n2_ := Aside0.mk (Kd.R_elder' (by (with_reducible repeat (first | apply Kd.R_alloc | apply Kd.R_drewN | apply Kd.R_drew)); exact HO178.out) (Kd.R_base ho0) hb); have n3_ := Aside0.mk (Kd.R_elder' (by (with_reducible repeat (first | apply Kd.R_alloc | apply Kd.R_drewN | apply Kd.R_drew)); exact HO195.out) (Kd.R_base ho0) hb); have n4_ := Aside0.mk (Kd.R_lower (Kd.R_new' (Kd.R_new' (Kd.R_new' (Kd.R_new' ho0 (Kd.R_lt (by (with_reducible repeat (first | apply Kd.R_alloc | apply Kd.R_drewN | apply Kd.R_drew)); exact HO_17.out))) (Kd.R_lt (by (with_reducible repeat (first | apply Kd.R_alloc | apply Kd.R_drewN | apply Kd.R_drew)); exact HO_19.out))) (Kd.R_lt (by (with_reducible repeat (first | apply Kd.R_alloc | apply Kd.R_drewN | apply Kd.R_drew)); exact HO178.out))) (Kd.R_lt (by (with_reducible repeat (first | apply Kd.R_alloc | apply Kd.R_drewN | apply Kd.R_drew)); exact HO195.out))) (below_size (by repeat (first | (with_reducible first | exact HB.out | apply below_alloc | apply pw_below_drewN | apply below_drew1) | exact HB.out)))); have n5_ := Aside0.mk (Kd.C_below (by repeat (first | (with_reducible exact HR185.out) | (with_reducible refine Kd.C_alloc ?_ _) | (with_reducible refine Kd.C_drewN ?_ _) | (with_reducible refine Kd.C_drew ?_) | exact HR185.out)) hb); have n6_ := Aside0.mk (Kd.C_below (by repeat (first | (with_reducible exact HR192.out) | (with_reducible refine Kd.C_alloc ?_ _) | (with_reducible refine Kd.C_drewN ?_ _) | (with_reducible refine Kd.C_drew ?_) | exact HR192.out)) hb); have n7_ := Aside0.mk (below_step (by repeat (first | (with_reducible first | exact HB.out | apply below_alloc | apply pw_below_drewN | apply below_drew1) | exact HB.out)) hb); clear HO_17; clear HO_19; clear HO178; clear HO195; clear HR185; clear HR192; clear HB; have HO_17 := n0_; have HO_19 := n1_; have HO178 := n2_; have HO195 := n3_; have HO199 := n4_; have HR185 := n5_; have HR192 := n6_; have HB := n7_; clear n0_ n1_ n2_ n3_ n4_ n5_ n6_ n7_; (try clear hb); (try clear hb2); (try clear hk); (try clear hi); (try clear ho0); have hcv59 := own_string (P := Tryd.prog) Tryd.underlying23 Tryd.underlying5 Tryd.underlying9 (Kd.own_of_R HO195.out); (try (have hcv59d := fun (nd_ : Nat) => own_string (P := Tryd.prog) Tryd.underlying23 Tryd.underlying5 Tryd.underlying9 (pw_own_drewN (Kd.own_of_R HO195.out) nd_))); have hcv60 := own_string (P := Tryd.prog) Tryd.underlying23 Tryd.underlying5 Tryd.underlying9 (Kd.own_of_R HO_17.out); (try (have hcv60d := fun (nd_ : Nat) => own_string (P := Tryd.prog) Tryd.underlying23 Tryd.underlying5 Tryd.underlying9 (pw_own_drewN (Kd.own_of_R HO_17.out) nd_))); have hcv61 := own_string (P := Tryd.prog) Tryd.underlying23 Tryd.underlying5 Tryd.underlying9 (Kd.own_of_R HO199.out); (try (have hcv61d := fun (nd_ : Nat) => own_string (P := Tryd.prog) Tryd.underlying23 Tryd.underlying5 Tryd.underlying9 (pw_own_drewN (Kd.own_of_R HO199.out) nd_))); have hcv62 := Kd.C_string (P := Tryd.prog) (A := A4) (c := c4) Tryd.underlying23 Tryd.underlying5 Tryd.underlying9 (Kd.C_below HR4.out HB.out)))
                                  go_ret
                                  exact ⟨by first | rfl | (simp [errW_none, errW_some] <;> rfl) | (simp only [← hji36]; first | rfl | (simp [errW_none, errW_some] <;> rfl)) | (simp [*, errW_none, errW_some] <;> rfl), by repeat (first | (with_reducible first | exact HB.out | apply below_alloc | apply pw_below_drewN | apply below_drew1) | exact HB.out)⟩
                                · replace c45 := Bool.eq_false_iff.mpr c45
                                  subst c45
                                  have H1 : (some true) = some r := by rw [if_neg (show ¬ (false = true) by decide)] at H; exact H
                                  clear H
                                  have H := H1
                                  clear H1
                                  obtain rfl := Option.some.inj H
                                  try go_wp2_with (first | ((with_reducible refine gate_dst (N := 90) rfl ?_); (try (refine gate_guard (by rfl) ?_; dsimp only)); refine Kd.R_make (Kd.int .u8) _ 5 rfl (N := 90) rfl 23 _ _ rfl 128 rfl rfl Tryd.underlying23 (.int .u8 0) 1 info5 rfl (by decide) (by omega) 0 (ok := fun _ => True) (okp := fun _ => True) rfl (fun _ hk => hk) trivial (by omega) (by omega) (Below.refl _ _) (Nat.le_refl _) ?_; intro v177 w63 ho64 hb hg_ hnew_; clear hg_ hnew_; (first | rw [← Ny176.out] at ho64 | (simp only [Int.reduceToNat] at ho64; rw [← Ny176.out] at ho64)); have n0_ := Aside0.mk (Kd.R_elder' (by (with_reducible repeat (first | apply Kd.R_alloc | apply Kd.R_drewN | apply Kd.R_drew)); exact HO_17.out) (Kd.R_base ho64) hb); have n1_ := Aside0.mk (Kd.R_elder' (by (with_reducible repeat (first | apply Kd.R_alloc | apply Kd.R_drewN | apply Kd.R_drew)); exact HO_19.out) (Kd.R_base ho64) hb); have n2_ := Aside0.mk (Kd.R_lower (Kd.R_new' (Kd.R_new' ho64 (Kd.R_lt (by (with_reducible repeat (first | apply Kd.R_alloc | apply Kd.R_drewN | apply Kd.R_drew)); exact HO_17.out))) (Kd.R_lt (by (with_reducible repeat (first | apply Kd.R_alloc | apply Kd.R_drewN | apply Kd.R_drew)); exact HO_19.out))) (below_size (by repeat (first | (with_reducible first | exact HB.out | apply below_alloc | apply pw_below_drewN | apply below_drew1) | exact HB.out)))); have n3_ := Aside0.mk (below_step (by repeat (first | (with_reducible first | exact HB.out | apply below_alloc | apply pw_below_drewN | apply below_drew1) | exact HB.out)) hb); clear HO_17; clear HO_19; clear HB; have HO_17 := n0_; have HO_19 := n1_; have HO178 := n2_; have HB := n3_; clear n0_ n1_ n2_ n3_; clear hb ho64))
                                  have n0_ := Aside0.mk (Kd.R_drew HO_17.out)
                                  have n1_ := Aside0.mk (Kd.R_drew HO_19.out)
                                  have n2_ := Aside0.mk (Kd.R_drew HO178.out)
                                  have n3_ := Aside0.mk (below_drew1 HB.out)
                                  clear HO_17
                                  clear HO_19
                                  clear HO178
                                  clear HB
                                  have HO_17 := n0_
                                  have HO_19 := n1_
                                  have HO178 := n2_
                                  have HB := n3_
                                  clear n0_ n1_ n2_ n3_
                                  obtain ⟨Ao67, co67, eo67⟩ := Kd.R_slice HO_17.out
                                  (first | subst eo67 | (injection eo67 with f1_ f2_ f3_; have f4_ := f1_.symm; have f5_ := f3_.symm; clear f1_ f2_ f3_; subst f4_; subst f5_))
                                  have q66 : ((ji36) : Int) ≤ ((t168.length : Int) : Int) := of_decide_eq_true (by first | (with_reducible assumption) | assumption)
                                  obtain ⟨i066, hi066, _, hsz66, _⟩ := info_parts info5
                                  have hroom66 : t168.length ≤ co67 := (Kd.R_reads' HO_17.out).2.1
                                  have hC66 : Kd.C (Kd.int .u8) _ Ao67 t168.length t168 := (Kd.R_reads' HO_17.out).2.2
                                  have hcut66 := cut_to (P := Tryd.prog) 23 5 .i64 Tryd.underlying23 hi066 Ao67 t168.length co67 (ji36) (of_decide_eq_true (by first | (with_reducible assumption) | assumption)) q66 hroom66
                                  have hr66 := Kd.C_take (m := ((ji36) : Int).toNat) hC66 (by omega)
                                  have hy66 : y182.length = ((ji36) : Int).toNat := (by rw [Ny182.out, List.length_take]; omega)
                                  rw [← Ny182.out] at hr66
                                  rw [← hy66] at hcut66
                                  have HR185 := Aside0.mk hr66
                                  have HC185 := Aside0.mk (show y182.length ≤ co67 from by omega)
                                  clear hr66 hC66 hroom66 hi066 hsz66
                                  have KY66 := Aside0.mk hy66
                                  clear hy66
                                  have KL66 := Aside0.mk (show ((ji36) : Int).toNat ≤ t168.length from by omega)
                                  replace q66 := eq_true q66
                                  obtain ⟨Ao69, co69, eo69⟩ := Kd.R_slice HO178.out
                                  (first | subst eo69 | (injection eo69 with f1_ f2_ f3_; have f4_ := f1_.symm; have f5_ := f3_.symm; clear f1_ f2_ f3_; subst f4_; subst f5_))
                                  have q68 : ((ji36) : Int) ≤ ((y176.length : Int) : Int) := of_decide_eq_true (by first | (with_reducible assumption) | assumption)
                                  obtain ⟨i068, hi068, _, hsz68, _⟩ := info_parts info5
                                  have hroom68 : y176.length ≤ co69 := (Kd.R_reads' HO178.out).2.1
                                  have hC68 : Kd.C (Kd.int .u8) _ Ao69 y176.length y176 := (Kd.R_reads' HO178.out).2.2
                                  have q068 : (0 : Int) ≤ ((ji36) : Int) := of_decide_eq_true (by first | (with_reducible assumption) | assumption)
                                  have hcut68 := cut_from (P := Tryd.prog) 23 5 .i64 Tryd.underlying23 hi068 1 hsz68 Ao69 y176.length co69 (ji36) q068 q68
                                  have hr68 := Kd.C_drop (m := ((ji36) : Int).toNat) (c := co69) hC68 (by omega) hroom68
                                  obtain ⟨A68, hA68⟩ : ∃ A1, A1 = (if co69 = ((ji36) : Int).toNat then Ao69 else (Ao69 : Option Addr).map (·.add (((ji36) : Int).toNat * 1))) := ⟨_, rfl⟩
                                  obtain ⟨c68, hc68⟩ : ∃ c1, c1 = co69 - ((ji36) : Int).toNat := ⟨_, rfl⟩
                                  have hy68 : y189.length = y176.length - ((ji36) : Int).toNat := (by rw [Ny189.out, List.length_drop] <;> omega)
                                  rw [show (y176).drop ((ji36) : Int).toNat = y189 from Ny189.out.symm] at hr68
                                  replace hr68 : Kd.C (Kd.int .u8) _ A68 y189.length y189 := (by rw [hA68]; exact hr68)
                                  rw [← hy68, ← hA68, ← hc68] at hcut68
                                  have HR192 := Aside0.mk hr68
                                  have HC192 := Aside0.mk (show y189.length ≤ c68 from by rw [hy68, hc68]; exact Nat.sub_le_sub_right hroom68 _)
                                  clear hr68 hC68 hroom68 hi068 hsz68 hc68
                                  have KY68 := Aside0.mk hy68
                                  have KA68 := Aside0.mk hA68
                                  clear hy68 hA68
                                  have KL68 := Aside0.mk (show ((ji36) : Int).toNat ≤ y176.length from by omega)
                                  replace q68 := eq_true q68
                                  refine start_ (n := 10) (S := fun w' => True) (ds := []) #[false, false, false, false, false, false, false, false, false, false] (by kernel_rfl) rfl rfl trivial (fun hHeld => ?_); refine with_tabW rabbetlaw20_TagTorn.tab12 rabbetlaw20_TagTorn.bits12 (fun HT_ HW_ => ?_)
                                  generalize w63.drew = w65 at HO_17 HO_19 HO178 HB HR185 HR192 hHeld ⊢
                                  refine pure_ (i := 1) (N := some 95) (v := ?_) (a' := ?_) #[false, true, false, false, false, false, false, false, false, false] rfl rfl (any_of HT_.out (by kernel_rfl)) (fun _ _ _ h => h) (Or.inl ⟨by rfl, ?_⟩) ?_ ?_
                                  rotate_left
                                  · intro w'
                                    go_simp
                                    with_reducible rfl
                                  rotate_left
                                  · simp only [Act.put, List.setIfInBounds_toArray, List.set_cons_zero, List.set_cons_succ, i64_w, i32_w]
                                    rfl
                                  refine pure_ (i := 2) (N := some 96) (v := ?_) (a' := ?_) #[false, true, true, false, false, false, false, false, false, false] rfl rfl (any_of HT_.out (by kernel_rfl)) (fun _ _ _ h => h) (Or.inl ⟨by rfl, ?_⟩) ?_ ?_
                                  rotate_left
                                  · intro w'
                                    go_simp
                                    with_reducible rfl
                                  rotate_left
                                  · simp only [Act.put, List.setIfInBounds_toArray, List.set_cons_zero, List.set_cons_succ, i64_w, i32_w]
                                    rfl
                                  refine pure_ (i := 3) (N := some 97) (v := ?_) (a' := ?_) #[false, true, true, true, false, false, false, false, false, false] rfl rfl (any_of HT_.out (by kernel_rfl)) (fun _ _ _ h => h) (Or.inl ⟨by rfl, ?_⟩) ?_ ?_
                                  rotate_left
                                  · intro w'
                                    go_simp
                                    with_reducible rfl
                                  rotate_left
                                  · simp only [Act.put, List.setIfInBounds_toArray, List.set_cons_zero, List.set_cons_succ, i64_w, i32_w]
                                    rfl
                                  refine pure_ (i := 5) (N := some 99) (v := ?_) (a' := ?_) #[false, true, true, true, false, true, false, false, false, false] rfl rfl (any_of HT_.out (by kernel_rfl)) (fun _ _ _ h => h) (Or.inl ⟨by rfl, ?_⟩) ?_ ?_
                                  rotate_left
                                  · intro w'
                                    go_simp
                                    with_reducible rfl
                                  rotate_left
                                  · simp only [Act.put, List.setIfInBounds_toArray, List.set_cons_zero, List.set_cons_succ, i64_w, i32_w]
                                    rfl
                                  refine pure_ (i := 6) (N := some 100) (v := ?_) (a' := ?_) #[false, true, true, true, false, true, true, false, false, false] rfl rfl (any_of HT_.out (by kernel_rfl)) (fun _ _ _ h => h) (Or.inl ⟨by rfl, ?_⟩) ?_ ?_
                                  rotate_left
                                  · intro w'
                                    go_simp
                                    with_reducible rfl
                                  rotate_left
                                  · simp only [Act.put, List.setIfInBounds_toArray, List.set_cons_zero, List.set_cons_succ, i64_w, i32_w]
                                    rfl
                                  refine pure_ (i := 7) (N := some 101) (v := ?_) (a' := ?_) #[false, true, true, true, false, true, true, true, false, false] rfl rfl (any_of HT_.out (by kernel_rfl)) (fun _ _ _ h => h) (Or.inl ⟨by rfl, ?_⟩) ?_ ?_
                                  rotate_left
                                  · intro w'
                                    go_simp
                                    with_reducible rfl
                                  rotate_left
                                  · simp only [Act.put, List.setIfInBounds_toArray, List.set_cons_zero, List.set_cons_succ, i64_w, i32_w]
                                    rfl
                                  refine one_ (i := 0) (N := some 94) #[true, true, true, true, false, true, true, true, false, false] rfl rfl (one_of HT_.out (by kernel_rfl)) (by decide) (fun K hK => ?_)
                                  refine Kd.R_lit_step (Kd.int .u8) _ 5 ?hg (N := 94) ?hd (xs := ([] : List Int)) (inner := []) (ok := fun _ => True) (okp := fun _ => True) ?hr ?hp (fun _ hk => hk) trivial (Below.refl _ _) (Nat.le_refl _) (by simp) ?_; (case hd => rfl); (case hg => rfl); (case hr => first | (go_simp; done) | (go_simp; rfl)); (case hp => exact (Reps.none _ _))
                                  intro v180 w70 ho71 hb hg_ hnew_
                                  clear hg_ hnew_
                                  (first | rw [← Ny179.out] at ho71 | (simp only [Int.reduceToNat] at ho71; rw [← Ny179.out] at ho71))
                                  have n0_ := Aside0.mk (Kd.R_elder' (by (with_reducible repeat (first | apply Kd.R_alloc | apply Kd.R_drewN | apply Kd.R_drew)); exact HO_17.out) (Kd.R_base ho71) hb)
                                  have n1_ := Aside0.mk (Kd.R_elder' (by (with_reducible repeat (first | apply Kd.R_alloc | apply Kd.R_drewN | apply Kd.R_drew)); exact HO_19.out) (Kd.R_base ho71) hb)
                                  have n2_ := Aside0.mk (Kd.R_elder' (by (with_reducible repeat (first | apply Kd.R_alloc | apply Kd.R_drewN | apply Kd.R_drew)); exact HO178.out) (Kd.R_base ho71) hb)
                                  have n3_ := Aside0.mk (Kd.R_lower (Kd.R_new' (Kd.R_new' (Kd.R_new' ho71 (Kd.R_lt (by (with_reducible repeat (first | apply Kd.R_alloc | apply Kd.R_drewN | apply Kd.R_drew)); exact HO_17.out))) (Kd.R_lt (by (with_reducible repeat (first | apply Kd.R_alloc | apply Kd.R_drewN | apply Kd.R_drew)); exact HO_19.out))) (Kd.R_lt (by (with_reducible repeat (first | apply Kd.R_alloc | apply Kd.R_drewN | apply Kd.R_drew)); exact HO178.out))) (below_size (by repeat (first | (with_reducible first | exact HB.out | apply below_alloc | apply pw_below_drewN | apply below_drew1) | exact HB.out))))
                                  have n4_ := Aside0.mk (Kd.C_below (by repeat (first | (with_reducible exact HR185.out) | (with_reducible refine Kd.C_alloc ?_ _) | (with_reducible refine Kd.C_drewN ?_ _) | (with_reducible refine Kd.C_drew ?_) | exact HR185.out)) hb)
                                  have n5_ := Aside0.mk (Kd.C_below (by repeat (first | (with_reducible exact HR192.out) | (with_reducible refine Kd.C_alloc ?_ _) | (with_reducible refine Kd.C_drewN ?_ _) | (with_reducible refine Kd.C_drew ?_) | exact HR192.out)) hb)
                                  have n6_ := Aside0.mk (below_step (by repeat (first | (with_reducible first | exact HB.out | apply below_alloc | apply pw_below_drewN | apply below_drew1) | exact HB.out)) hb)
                                  clear HO_17
                                  clear HO_19
                                  clear HO178
                                  clear HR185
                                  clear HR192
                                  clear HB
                                  have HO_17 := n0_
                                  have HO_19 := n1_
                                  have HO178 := n2_
                                  have HO181 := n3_
                                  have HR185 := n4_
                                  have HR192 := n5_
                                  have HB := n6_
                                  clear n0_ n1_ n2_ n3_ n4_ n5_ n6_
                                  clear hb ho71
                                  refine hK.out _ _ trivial (fun hHeld => ?_)
                                  clear hK K
                                  refine norm_ (a' := ?_) ?_ ?_
                                  rotate_left
                                  · show Act.put _ (some 94) _ = _
                                    simp only [Act.put, List.setIfInBounds_toArray, List.set_cons_zero, List.set_cons_succ, i64_w, i32_w]
                                    rfl
                                  refine one_ (i := 4) (N := some 98) #[true, true, true, true, true, true, true, true, false, false] rfl rfl (one_of HT_.out (by kernel_rfl)) (by decide) (fun K hK => ?_)
                                  refine Kd.R_append_rows_step (Kd.int .u8) (w0 := w) w.heap.size (by rfl) (.tmp 94) (.tmp 97) 23 5 (.int .u8 0) 1 rfl Tryd.underlying23 info5 rfl (by decide) (by omega) v180 y179 y182 _ _ _ (fun k_ => some k_ ≠ (.slice Ao67 t168.length co67 : Value).ownBlock ∧ some k_ ≠ (v173 : Value).ownBlock ∧ some k_ ≠ (.slice Ao69 y176.length co69 : Value).ownBlock) (fun _ => False) rfl rfl ?aO ?aR (fun _ _ h => h) (fun _ h => h.elim) ?aF ?aB ?aS ?aL ?_
                                  (case aR => repeat (first | exact (by repeat (first | (with_reducible exact HR185.out) | (with_reducible refine Kd.C_alloc ?_ _) | (with_reducible refine Kd.C_drewN ?_ _) | (with_reducible refine Kd.C_drew ?_) | exact HR185.out)) | (with_reducible refine Kd.C_alloc ?_ _) | (with_reducible refine Kd.C_drewN ?_ _) | (with_reducible refine Kd.C_drew ?_)))
                                  (case aB => exact (by repeat (first | (with_reducible first | exact HB.out | apply below_alloc | apply pw_below_drewN | apply below_drew1) | exact HB.out)))
                                  (case aF => exact (fun k_ hk => ⟨Kd.fresh' (Kd.R_lt (by (with_reducible repeat (first | apply Kd.R_alloc | apply Kd.R_drewN | apply Kd.R_drew)); exact HO_17.out)) k_ hk, Kd.fresh' (Kd.R_lt (by (with_reducible repeat (first | apply Kd.R_alloc | apply Kd.R_drewN | apply Kd.R_drew)); exact HO_19.out)) k_ hk, Kd.fresh' (Kd.R_lt (by (with_reducible repeat (first | apply Kd.R_alloc | apply Kd.R_drewN | apply Kd.R_drew)); exact HO178.out)) k_ hk⟩))
                                  (case aO => exact (by (with_reducible repeat (first | apply Kd.R_alloc | apply Kd.R_drewN | apply Kd.R_drew)); exact Kd.R_mono HO181.out (fun _ hk => ⟨hk.1.1.2, ⟨hk.1.2, hk.2⟩⟩)))
                                  (case aS => exact (below_size (by repeat (first | (with_reducible first | exact HB.out | apply below_alloc | apply pw_below_drewN | apply below_drew1) | exact HB.out))))
                                  (case aL => have := LMc39.out; omega)
                                  intro v187 w72 ho hb hg hat
                                  rw [← Ny186.out] at ho
                                  have n0_ := Aside0.mk (Kd.R_after (ok := (fun k_ => some k_ ≠ (v173 : Value).ownBlock ∧ some k_ ≠ (.slice Ao69 y176.length co69 : Value).ownBlock)) (by (with_reducible repeat (first | apply Kd.R_alloc | apply Kd.R_drewN | apply Kd.R_drew)); exact HO_17.out) hg hat)
                                  have n1_ := Aside0.mk (Kd.R_after (ok := (fun k_ => some k_ ≠ (.slice Ao67 t168.length co67 : Value).ownBlock ∧ some k_ ≠ (.slice Ao69 y176.length co69 : Value).ownBlock)) (by (with_reducible repeat (first | apply Kd.R_alloc | apply Kd.R_drewN | apply Kd.R_drew)); exact HO_19.out) hg hat)
                                  have n2_ := Aside0.mk (Kd.R_after (ok := (fun k_ => some k_ ≠ (.slice Ao67 t168.length co67 : Value).ownBlock ∧ some k_ ≠ (v173 : Value).ownBlock)) (by (with_reducible repeat (first | apply Kd.R_alloc | apply Kd.R_drewN | apply Kd.R_drew)); exact Kd.R_mono HO178.out (fun _ hk => ⟨⟨hk.1.1.2, hk.1.2⟩, hk.2⟩)) hg hat)
                                  have n3_ := Aside0.mk (hb)
                                  have n4_ := Aside0.mk ((show Kd.C (Kd.int .u8) w72 Ao67 y182.length y182 from by rw [Ny182.out]; exact Kd.C_take (m := ((ji36) : Int).toNat) ((Kd.R_reads' (Kd.R_after (ok := (fun k_ => some k_ ≠ (v173 : Value).ownBlock ∧ some k_ ≠ (.slice Ao69 y176.length co69 : Value).ownBlock)) (by (with_reducible repeat (first | apply Kd.R_alloc | apply Kd.R_drewN | apply Kd.R_drew)); exact HO_17.out) hg hat)).2.2) KL66.out))
                                  have n5_ := Aside0.mk ((show Kd.C (Kd.int .u8) w72 A68 y189.length y189 from by rw [Ny189.out, KA68.out]; exact Kd.C_drop (m := ((ji36) : Int).toNat) (c := co69) ((Kd.R_reads' (Kd.R_after (ok := (fun k_ => some k_ ≠ (.slice Ao67 t168.length co67 : Value).ownBlock ∧ some k_ ≠ (v173 : Value).ownBlock)) (by (with_reducible repeat (first | apply Kd.R_alloc | apply Kd.R_drewN | apply Kd.R_drew)); exact Kd.R_mono HO178.out (fun _ hk => ⟨⟨hk.1.1.2, hk.1.2⟩, hk.2⟩)) hg hat)).2.2) KL68.out ((Kd.R_reads' (Kd.R_after (ok := (fun k_ => some k_ ≠ (.slice Ao67 t168.length co67 : Value).ownBlock ∧ some k_ ≠ (v173 : Value).ownBlock)) (by (with_reducible repeat (first | apply Kd.R_alloc | apply Kd.R_drewN | apply Kd.R_drew)); exact Kd.R_mono HO178.out (fun _ hk => ⟨⟨hk.1.1.2, hk.1.2⟩, hk.2⟩)) hg hat)).2.1)))
                                  have n6_ := Aside0.mk (ho)
                                  clear HO_17
                                  clear HO_19
                                  clear HO178
                                  clear HB
                                  clear HR185
                                  clear HR192
                                  clear HO181
                                  have HO_17 := n0_
                                  have HO_19 := n1_
                                  have HO178 := n2_
                                  have HB := n3_
                                  have HR185 := n4_
                                  have HR192 := n5_
                                  have HO188 := n6_
                                  clear n0_ n1_ n2_ n3_ n4_ n5_ n6_
                                  clear ho hb hg hat
                                  refine hK.out _ _ trivial (fun hHeld => ?_)
                                  clear hK K
                                  refine norm_ (a' := ?_) ?_ ?_
                                  rotate_left
                                  · show Act.put _ (some 98) _ = _
                                    simp only [Act.put, List.setIfInBounds_toArray, List.set_cons_zero, List.set_cons_succ, i64_w, i32_w]
                                    rfl
                                  refine one_ (i := 8) (N := some 102) #[true, true, true, true, true, true, true, true, true, false] rfl rfl (one_of HT_.out (by kernel_rfl)) (by decide) (fun K hK => ?_)
                                  refine Kd.R_append_rows_step (Kd.int .u8) (w0 := w) w.heap.size (by rfl) (.tmp 98) (.tmp 101) 23 5 (.int .u8 0) 1 rfl Tryd.underlying23 info5 rfl (by decide) (by omega) v187 y186 y189 _ _ _ (fun k_ => some k_ ≠ (.slice Ao67 t168.length co67 : Value).ownBlock ∧ some k_ ≠ (v173 : Value).ownBlock ∧ some k_ ≠ (.slice Ao69 y176.length co69 : Value).ownBlock) (fun _ => False) rfl rfl ?aO ?aR (fun _ _ h => h) (fun _ h => h.elim) ?aF ?aB ?aS ?aL ?_
                                  (case aR => repeat (first | exact (by repeat (first | (with_reducible exact HR192.out) | (with_reducible refine Kd.C_alloc ?_ _) | (with_reducible refine Kd.C_drewN ?_ _) | (with_reducible refine Kd.C_drew ?_) | exact HR192.out)) | (with_reducible refine Kd.C_alloc ?_ _) | (with_reducible refine Kd.C_drewN ?_ _) | (with_reducible refine Kd.C_drew ?_)))
                                  (case aB => exact (by repeat (first | (with_reducible first | exact HB.out | apply below_alloc | apply pw_below_drewN | apply below_drew1) | exact HB.out)))
                                  (case aF => exact (fun k_ hk => ⟨Kd.fresh' (Kd.R_lt (by (with_reducible repeat (first | apply Kd.R_alloc | apply Kd.R_drewN | apply Kd.R_drew)); exact HO_17.out)) k_ hk, Kd.fresh' (Kd.R_lt (by (with_reducible repeat (first | apply Kd.R_alloc | apply Kd.R_drewN | apply Kd.R_drew)); exact HO_19.out)) k_ hk, Kd.fresh' (Kd.R_lt (by (with_reducible repeat (first | apply Kd.R_alloc | apply Kd.R_drewN | apply Kd.R_drew)); exact HO178.out)) k_ hk⟩))
                                  (case aO => exact (by (with_reducible repeat (first | apply Kd.R_alloc | apply Kd.R_drewN | apply Kd.R_drew)); exact HO188.out))
                                  (case aS => exact (below_size (by repeat (first | (with_reducible first | exact HB.out | apply below_alloc | apply pw_below_drewN | apply below_drew1) | exact HB.out))))
                                  (case aL => have := LMc42.out; omega)
                                  intro v194 w73 ho hb hg hat
                                  rw [← Ny193.out] at ho
                                  have n0_ := Aside0.mk (Kd.R_after (ok := (fun k_ => some k_ ≠ (v173 : Value).ownBlock ∧ some k_ ≠ (.slice Ao69 y176.length co69 : Value).ownBlock)) (by (with_reducible repeat (first | apply Kd.R_alloc | apply Kd.R_drewN | apply Kd.R_drew)); exact HO_17.out) hg hat)
                                  have n1_ := Aside0.mk (Kd.R_after (ok := (fun k_ => some k_ ≠ (.slice Ao67 t168.length co67 : Value).ownBlock ∧ some k_ ≠ (.slice Ao69 y176.length co69 : Value).ownBlock)) (by (with_reducible repeat (first | apply Kd.R_alloc | apply Kd.R_drewN | apply Kd.R_drew)); exact HO_19.out) hg hat)
                                  have n2_ := Aside0.mk (Kd.R_after (ok := (fun k_ => some k_ ≠ (.slice Ao67 t168.length co67 : Value).ownBlock ∧ some k_ ≠ (v173 : Value).ownBlock)) (by (with_reducible repeat (first | apply Kd.R_alloc | apply Kd.R_drewN | apply Kd.R_drew)); exact HO178.out) hg hat)
                                  have n3_ := Aside0.mk (hb)
                                  have n4_ := Aside0.mk ((show Kd.C (Kd.int .u8) w73 Ao67 y182.length y182 from by rw [Ny182.out]; exact Kd.C_take (m := ((ji36) : Int).toNat) ((Kd.R_reads' (Kd.R_after (ok := (fun k_ => some k_ ≠ (v173 : Value).ownBlock ∧ some k_ ≠ (.slice Ao69 y176.length co69 : Value).ownBlock)) (by (with_reducible repeat (first | apply Kd.R_alloc | apply Kd.R_drewN | apply Kd.R_drew)); exact HO_17.out) hg hat)).2.2) KL66.out))
                                  have n5_ := Aside0.mk ((show Kd.C (Kd.int .u8) w73 A68 y189.length y189 from by rw [Ny189.out, KA68.out]; exact Kd.C_drop (m := ((ji36) : Int).toNat) (c := co69) ((Kd.R_reads' (Kd.R_after (ok := (fun k_ => some k_ ≠ (.slice Ao67 t168.length co67 : Value).ownBlock ∧ some k_ ≠ (v173 : Value).ownBlock)) (by (with_reducible repeat (first | apply Kd.R_alloc | apply Kd.R_drewN | apply Kd.R_drew)); exact HO178.out) hg hat)).2.2) KL68.out ((Kd.R_reads' (Kd.R_after (ok := (fun k_ => some k_ ≠ (.slice Ao67 t168.length co67 : Value).ownBlock ∧ some k_ ≠ (v173 : Value).ownBlock)) (by (with_reducible repeat (first | apply Kd.R_alloc | apply Kd.R_drewN | apply Kd.R_drew)); exact HO178.out) hg hat)).2.1)))
                                  have n6_ := Aside0.mk (ho)
                                  clear HO_17
                                  clear HO_19
                                  clear HO178
                                  clear HB
                                  clear HR185
                                  clear HR192
                                  clear HO188
                                  have HO_17 := n0_
                                  have HO_19 := n1_
                                  have HO178 := n2_
                                  have HB := n3_
                                  have HR185 := n4_
                                  have HR192 := n5_
                                  have HO195 := n6_
                                  clear n0_ n1_ n2_ n3_ n4_ n5_ n6_
                                  clear ho hb hg hat
                                  refine hK.out _ _ trivial (fun hHeld => ?_)
                                  clear hK K
                                  refine norm_ (a' := ?_) ?_ ?_
                                  rotate_left
                                  · show Act.put _ (some 102) _ = _
                                    simp only [Act.put, List.setIfInBounds_toArray, List.set_cons_zero, List.set_cons_succ, i64_w, i32_w]
                                    rfl
                                  refine pure_ (i := 9) (N := some 22) (v := ?_) (a' := ?_) #[true, true, true, true, true, true, true, true, true, true] rfl rfl (any_of HT_.out (by kernel_rfl)) (fun _ _ _ h => h) (Or.inl ⟨by rfl, ?_⟩) ?_ ?_
                                  rotate_left
                                  · intro w'
                                    go_simp
                                    with_reducible rfl
                                  rotate_left
                                  · simp only [Act.put, List.setIfInBounds_toArray, List.set_cons_zero, List.set_cons_succ, i64_w, i32_w]
                                    rfl
                                  refine done_ (done_of HT_.out (by kernel_rfl)) ?_
                                  obtain ⟨Ao74, co74, eo74⟩ := Kd.R_slice HO195.out
                                  subst eo74
                                  try go_wp2_with (first | ((with_reducible refine gate_callee (f := 14) rfl ?_); refine goesL_ (some 107) rfl rfl Tryd.func14 (by kernel_rfl) rfl #[.int .u32 a0, .int .u32 a1, .slice Ao74 y193.length co74] rfl (by (try simp only [List.map_toArray, List.map_cons, List.map_nil]); first | done | rfl | (simp only [List.length_drop, List.length_take]; rfl)) ?_; (first | (with_reducible refine (tag_Take.calls GA kj23 a0 a1 _ _ y193 t196 false _ ?side1 ?side2 ?side3 A43.out).mono ?_) | ((try rw [hji36]); (try rw [← KY49.out]); (try rw [← KY51.out]); (try rw [← KY66.out]); (try rw [← KY68.out]); (with_reducible refine (tag_Take.calls GA kj23 a0 a1 _ _ y193 t196 false _ ?side1 ?side2 ?side3 A43.out).mono ?_))); (case side1 => repeat (first | exact (Kd.R_reads' HO195.out).2.2 | (with_reducible refine Kd.C_alloc ?_ _) | (with_reducible refine Kd.C_drewN ?_ _) | (with_reducible refine Kd.C_drew ?_))); (case side2 => exact (Kd.R_reads' HO195.out).2.1); (case side3 => exact Glob.below HG.out (by repeat (first | (with_reducible first | exact HB.out | apply below_alloc | apply pw_below_drewN | apply below_drew1) | exact HB.out))); rintro e w75 ⟨v198, rfl, ho0, hb⟩; refine ⟨_, rfl, ?_⟩; have n0_ := Aside0.mk (Kd.R_elder' (by (with_reducible repeat (first | apply Kd.R_alloc | apply Kd.R_drewN | apply Kd.R_drew)); exact HO_17.out) (Kd.R_base ho0) hb); have n1_ := Aside0.mk (Kd.R_elder' (by (with_reducible repeat (first | apply Kd.R_alloc | apply Kd.R_drewN | apply Kd.R_drew)); exact HO_19.out) (Kd.R_base ho0) hb); have n2_ := Aside0.mk (Kd.R_elder' (by (with_reducible repeat (first | apply Kd.R_alloc | apply Kd.R_drewN | apply Kd.R_drew)); exact HO178.out) (Kd.R_base ho0) hb); have n3_ := Aside0.mk (Kd.R_elder' (by (with_reducible repeat (first | apply Kd.R_alloc | apply Kd.R_drewN | apply Kd.R_drew)); exact HO195.out) (Kd.R_base ho0) hb); have n4_ := Aside0.mk (Kd.R_lower (Kd.R_new' (Kd.R_new' (Kd.R_new' (Kd.R_new' ho0 (Kd.R_lt (by (with_reducible repeat (first | apply Kd.R_alloc | apply Kd.R_drewN | apply Kd.R_drew)); exact HO_17.out))) (Kd.R_lt (by (with_reducible repeat (first | apply Kd.R_alloc | apply Kd.R_drewN | apply Kd.R_drew)); exact HO_19.out))) (Kd.R_lt (by (with_reducible repeat (first | apply Kd.R_alloc | apply Kd.R_drewN | apply Kd.R_drew)); exact HO178.out))) (Kd.R_lt (by (with_reducible repeat (first | apply Kd.R_alloc | apply Kd.R_drewN | apply Kd.R_drew)); exact HO195.out))) (below_size (by repeat (first | (with_reducible first | exact HB.out | apply below_alloc | apply pw_below_drewN | apply below_drew1) | exact HB.out)))); have n5_ := Aside0.mk (Kd.C_below (by repeat (first | (with_reducible exact HR185.out) | (with_reducible refine Kd.C_alloc ?_ _) | (with_reducible refine Kd.C_drewN ?_ _) | (with_reducible refine Kd.C_drew ?_) | exact HR185.out)) hb); have n6_ := Aside0.mk (Kd.C_below (by repeat (first | (with_reducible exact HR192.out) | (with_reducible refine Kd.C_alloc ?_ _) | (with_reducible refine Kd.C_drewN ?_ _) | (with_reducible refine Kd.C_drew ?_) | exact HR192.out)) hb); have n7_ := Aside0.mk (below_step (by repeat (first | (with_reducible first | exact HB.out | apply below_alloc | apply pw_below_drewN | apply below_drew1) | exact HB.out)) hb); clear HO_17; clear HO_19; clear HO178; clear HO195; clear HR185; clear HR192; clear HB; have HO_17 := n0_; have HO_19 := n1_; have HO178 := n2_; have HO195 := n3_; have HO199 := n4_; have HR185 := n5_; have HR192 := n6_; have HB := n7_; clear n0_ n1_ n2_ n3_ n4_ n5_ n6_ n7_; (try clear hb); (try clear hb2); (try clear hk); (try clear hi); (try clear ho0); have hcv76 := own_string (P := Tryd.prog) Tryd.underlying23 Tryd.underlying5 Tryd.underlying9 (Kd.own_of_R HO195.out); (try (have hcv76d := fun (nd_ : Nat) => own_string (P := Tryd.prog) Tryd.underlying23 Tryd.underlying5 Tryd.underlying9 (pw_own_drewN (Kd.own_of_R HO195.out) nd_))); have hcv77 := own_string (P := Tryd.prog) Tryd.underlying23 Tryd.underlying5 Tryd.underlying9 (Kd.own_of_R HO_17.out); (try (have hcv77d := fun (nd_ : Nat) => own_string (P := Tryd.prog) Tryd.underlying23 Tryd.underlying5 Tryd.underlying9 (pw_own_drewN (Kd.own_of_R HO_17.out) nd_)))))
                                  go_ret
                                  exact ⟨by first | rfl | (simp [errW_none, errW_some] <;> rfl) | (simp only [← hji36]; first | rfl | (simp [errW_none, errW_some] <;> rfl)) | (simp [*, errW_none, errW_some] <;> rfl), by repeat (first | (with_reducible first | exact HB.out | apply below_alloc | apply pw_below_drewN | apply below_drew1) | exact HB.out)⟩
                              · rw [if_neg c44] at H
                                exact absurd H (by simp)
                            · rw [if_neg c42] at H
                              exact absurd H (by simp)
                          · rw [if_neg c41] at H
                            exact absurd H (by simp)
                        · rw [if_neg c39] at H
                          exact absurd H (by simp)
                      · rw [if_neg c38] at H
                        exact absurd H (by simp)
                    · rw [if_neg c37] at H
                      exact absurd H (by simp)
                  · rw [if_neg c35] at H
                    exact absurd H (by simp)
                · replace c34 := Bool.eq_false_iff.mpr c34
                  subst c34
                  have H1 : ((some (([] : List Int) : List Int)).bind fun y200 => (if 0 ≤ (Int.tmod (wrap64 (a6)) 129) then (if (Int.tmod (wrap64 (a6)) 129) ≤ (t168.length : Int) then ((some (t168.take ((Int.tmod (wrap64 (a6)) 129) : Int).toNat : List Int)).bind fun y203 => (if y200.length + y203.length < 140737488355328 then ((some (y200 ++ y203 : List Int)).bind fun y207 => (if (Int.tmod (wrap64 (a6)) 129) ≤ (t172.length : Int) then ((some (t172.drop ((Int.tmod (wrap64 (a6)) 129) : Int).toNat : List Int)).bind fun y210 => (if y207.length + y210.length < 140737488355328 then ((some (y207 ++ y210 : List Int)).bind fun y214 => ((tag_Take.f kj23 a0 a1 y214).bind fun bt217 => (if (bt217.2 == ((strOfNums y214).toList == (strOfNums t168).toList)) = true then (if bt217.2 = true then (some ((strOfNums bt217.1).toList == (strOfNums l4).toList)) else (some true)) else (none)))) else (none))) else (none))) else (none))) else (none)) else (none))) = some r := by rw [if_neg (show ¬ (false = true) by decide)] at H; exact H
                  clear H
                  have H := H1
                  clear H1
                  obtain ⟨y200, hy200⟩ : ∃ y_ : List Int, y_ = (([] : List Int)) := ⟨_, rfl⟩
                  replace H : (if 0 ≤ (Int.tmod (wrap64 (a6)) 129) then (if (Int.tmod (wrap64 (a6)) 129) ≤ (t168.length : Int) then ((some (t168.take ((Int.tmod (wrap64 (a6)) 129) : Int).toNat : List Int)).bind fun y203 => (if y200.length + y203.length < 140737488355328 then ((some (y200 ++ y203 : List Int)).bind fun y207 => (if (Int.tmod (wrap64 (a6)) 129) ≤ (t172.length : Int) then ((some (t172.drop ((Int.tmod (wrap64 (a6)) 129) : Int).toNat : List Int)).bind fun y210 => (if y207.length + y210.length < 140737488355328 then ((some (y207 ++ y210 : List Int)).bind fun y214 => ((tag_Take.f kj23 a0 a1 y214).bind fun bt217 => (if (bt217.2 == ((strOfNums y214).toList == (strOfNums t168).toList)) = true then (if bt217.2 = true then (some ((strOfNums bt217.1).toList == (strOfNums l4).toList)) else (some true)) else (none)))) else (none))) else (none))) else (none))) else (none)) else (none)) = some r := by first | (rw [hy200]; with_reducible exact H) | (have H2_ := (Option.bind_some _ _).symm.trans H; rw [hy200]; with_reducible exact H2_) | (have H2_ := (Option.bind_some _ _).symm.trans H; with_reducible exact H2_) | with_reducible exact H | (rw [hy200]; exact H) | exact H
                  have Ny200 := Aside0.mk hy200
                  clear hy200
                  obtain ⟨ji78, hji78⟩ : ∃ j_ : Int, (Int.tmod (wrap64 (a6)) 129) = j_ := ⟨_, rfl⟩
                  replace H : (if 0 ≤ (ji78) then (if (ji78) ≤ (t168.length : Int) then ((some (t168.take ((ji78) : Int).toNat : List Int)).bind fun y203 => (if y200.length + y203.length < 140737488355328 then ((some (y200 ++ y203 : List Int)).bind fun y207 => (if (ji78) ≤ (t172.length : Int) then ((some (t172.drop ((ji78) : Int).toNat : List Int)).bind fun y210 => (if y207.length + y210.length < 140737488355328 then ((some (y207 ++ y210 : List Int)).bind fun y214 => ((tag_Take.f kj23 a0 a1 y214).bind fun bt217 => (if (bt217.2 == ((strOfNums y214).toList == (strOfNums t168).toList)) = true then (if bt217.2 = true then (some ((strOfNums bt217.1).toList == (strOfNums l4).toList)) else (some true)) else (none)))) else (none))) else (none))) else (none))) else (none)) else (none)) = some r := by first | (rw [hji78] at H; exact H) | (simp only [hji78] at H ⊢; exact H) | exact H
                  by_cases c79 : 0 ≤ (ji78)
                  · rw [if_pos c79] at H
                    have c79b0 := eq_true c79
                    have c79b1 : decide (0 ≤ (ji78)) = true := decide_eq_true c79
                    clear c79
                    by_cases c80 : (ji78) ≤ (t168.length : Int)
                    · rw [if_pos c80] at H
                      have c80b0 := eq_true c80
                      have c80b1 : decide ((ji78) ≤ (t168.length : Int)) = true := decide_eq_true c80
                      clear c80
                      obtain ⟨y203, hy203⟩ : ∃ y_ : List Int, y_ = (t168.take ((ji78) : Int).toNat) := ⟨_, rfl⟩
                      replace H : (if y200.length + y203.length < 140737488355328 then ((some (y200 ++ y203 : List Int)).bind fun y207 => (if (ji78) ≤ (t172.length : Int) then ((some (t172.drop ((ji78) : Int).toNat : List Int)).bind fun y210 => (if y207.length + y210.length < 140737488355328 then ((some (y207 ++ y210 : List Int)).bind fun y214 => ((tag_Take.f kj23 a0 a1 y214).bind fun bt217 => (if (bt217.2 == ((strOfNums y214).toList == (strOfNums t168).toList)) = true then (if bt217.2 = true then (some ((strOfNums bt217.1).toList == (strOfNums l4).toList)) else (some true)) else (none)))) else (none))) else (none))) else (none)) = some r := by first | (rw [hy203]; with_reducible exact H) | (have H2_ := (Option.bind_some _ _).symm.trans H; rw [hy203]; with_reducible exact H2_) | (have H2_ := (Option.bind_some _ _).symm.trans H; with_reducible exact H2_) | with_reducible exact H | (rw [hy203]; exact H) | exact H
                      have Ny203 := Aside0.mk hy203
                      clear hy203
                      by_cases c81 : y200.length + y203.length < 140737488355328
                      · rw [if_pos c81] at H
                        have LMc81 := Aside0.mk c81
                        clear c81
                        obtain ⟨y207, hy207⟩ : ∃ y_ : List Int, y_ = (y200 ++ y203) := ⟨_, rfl⟩
                        replace H : (if (ji78) ≤ (t172.length : Int) then ((some (t172.drop ((ji78) : Int).toNat : List Int)).bind fun y210 => (if y207.length + y210.length < 140737488355328 then ((some (y207 ++ y210 : List Int)).bind fun y214 => ((tag_Take.f kj23 a0 a1 y214).bind fun bt217 => (if (bt217.2 == ((strOfNums y214).toList == (strOfNums t168).toList)) = true then (if bt217.2 = true then (some ((strOfNums bt217.1).toList == (strOfNums l4).toList)) else (some true)) else (none)))) else (none))) else (none)) = some r := by first | (rw [hy207]; with_reducible exact H) | (have H2_ := (Option.bind_some _ _).symm.trans H; rw [hy207]; with_reducible exact H2_) | (have H2_ := (Option.bind_some _ _).symm.trans H; with_reducible exact H2_) | with_reducible exact H | (rw [hy207]; exact H) | exact H
                        have Ny207 := Aside0.mk hy207
                        clear hy207
                        have c82b0 := eq_true (of_decide_eq_true (by first | (with_reducible assumption) | assumption) : 0 ≤ (ji78))
                        by_cases c83 : (ji78) ≤ (t172.length : Int)
                        · rw [if_pos c83] at H
                          have c83b0 := eq_true c83
                          have c83b1 : decide ((ji78) ≤ (t172.length : Int)) = true := decide_eq_true c83
                          clear c83
                          obtain ⟨y210, hy210⟩ : ∃ y_ : List Int, y_ = (t172.drop ((ji78) : Int).toNat) := ⟨_, rfl⟩
                          replace H : (if y207.length + y210.length < 140737488355328 then ((some (y207 ++ y210 : List Int)).bind fun y214 => ((tag_Take.f kj23 a0 a1 y214).bind fun bt217 => (if (bt217.2 == ((strOfNums y214).toList == (strOfNums t168).toList)) = true then (if bt217.2 = true then (some ((strOfNums bt217.1).toList == (strOfNums l4).toList)) else (some true)) else (none)))) else (none)) = some r := by first | (rw [hy210]; with_reducible exact H) | (have H2_ := (Option.bind_some _ _).symm.trans H; rw [hy210]; with_reducible exact H2_) | (have H2_ := (Option.bind_some _ _).symm.trans H; with_reducible exact H2_) | with_reducible exact H | (rw [hy210]; exact H) | exact H
                          have Ny210 := Aside0.mk hy210
                          clear hy210
                          by_cases c84 : y207.length + y210.length < 140737488355328
                          · rw [if_pos c84] at H
                            have LMc84 := Aside0.mk c84
                            clear c84
                            obtain ⟨y214, hy214⟩ : ∃ y_ : List Int, y_ = (y207 ++ y210) := ⟨_, rfl⟩
                            replace H : ((tag_Take.f kj23 a0 a1 y214).bind fun bt217 => (if (bt217.2 == ((strOfNums y214).toList == (strOfNums t168).toList)) = true then (if bt217.2 = true then (some ((strOfNums bt217.1).toList == (strOfNums l4).toList)) else (some true)) else (none))) = some r := by first | (rw [hy214]; with_reducible exact H) | (have H2_ := (Option.bind_some _ _).symm.trans H; rw [hy214]; with_reducible exact H2_) | (have H2_ := (Option.bind_some _ _).symm.trans H; with_reducible exact H2_) | with_reducible exact H | (rw [hy214]; exact H) | exact H
                            have Ny214 := Aside0.mk hy214
                            clear hy214
                            replace H := Option.bind_eq_some_iff.mp H
                            obtain ⟨⟨t217, t218⟩, A850, H⟩ := H
                            replace H : (if (t218 == ((strOfNums y214).toList == (strOfNums t168).toList)) = true then (if t218 = true then (some ((strOfNums t217).toList == (strOfNums l4).toList)) else (some true)) else (none)) = some r := H
                            have A85 := Aside0.mk A850
                            clear A850
                            by_cases c86 : (t218 == ((strOfNums y214).toList == (strOfNums t168).toList)) = true
                            · rw [if_pos c86] at H
                              have c86b0 : (t218 == ((strOfNums y214).toList == (strOfNums t168).toList)) = true := c86
                              (try (have c86b1 : decide (t218 = ((strOfNums y214).toList == (strOfNums t168).toList)) = true := by simpa using c86))
                              (try (have c86b2 : (t218 == ((strOfNums y214).toList == (strOfNums t168).toList)) = true := by simpa using c86))
                              clear c86
                              by_cases c87 : t218 = true
                              · subst c87
                                have H1 : (some ((strOfNums t217).toList == (strOfNums l4).toList)) = some r := by rw [if_pos rfl] at H; exact H
                                clear H
                                have H := H1
                                clear H1
                                obtain rfl := Option.some.inj H
                                try go_wp2
                                have n0_ := Aside0.mk (Kd.R_drew HO_17.out)
                                have n1_ := Aside0.mk (Kd.R_drew HO_19.out)
                                have n2_ := Aside0.mk (below_drew1 HB.out)
                                clear HO_17
                                clear HO_19
                                clear HB
                                have HO_17 := n0_
                                have HO_19 := n1_
                                have HB := n2_
                                clear n0_ n1_ n2_
                                obtain ⟨Ao90, co90, eo90⟩ := Kd.R_slice HO_17.out
                                (first | subst eo90 | (injection eo90 with f1_ f2_ f3_; have f4_ := f1_.symm; have f5_ := f3_.symm; clear f1_ f2_ f3_; subst f4_; subst f5_))
                                have q89 : ((ji78) : Int) ≤ ((t168.length : Int) : Int) := of_decide_eq_true (by first | (with_reducible assumption) | assumption)
                                obtain ⟨i089, hi089, _, hsz89, _⟩ := info_parts info5
                                have hroom89 : t168.length ≤ co90 := (Kd.R_reads' HO_17.out).2.1
                                have hC89 : Kd.C (Kd.int .u8) _ Ao90 t168.length t168 := (Kd.R_reads' HO_17.out).2.2
                                have hcut89 := cut_to (P := Tryd.prog) 23 5 .i64 Tryd.underlying23 hi089 Ao90 t168.length co90 (ji78) (of_decide_eq_true (by first | (with_reducible assumption) | assumption)) q89 hroom89
                                have hr89 := Kd.C_take (m := ((ji78) : Int).toNat) hC89 (by omega)
                                have hy89 : y203.length = ((ji78) : Int).toNat := (by rw [Ny203.out, List.length_take]; omega)
                                rw [← Ny203.out] at hr89
                                rw [← hy89] at hcut89
                                have HR206 := Aside0.mk hr89
                                have HC206 := Aside0.mk (show y203.length ≤ co90 from by omega)
                                clear hr89 hC89 hroom89 hi089 hsz89
                                have KY89 := Aside0.mk hy89
                                clear hy89
                                have KL89 := Aside0.mk (show ((ji78) : Int).toNat ≤ t168.length from by omega)
                                replace q89 := eq_true q89
                                obtain ⟨Ao92, co92, eo92⟩ := Kd.R_slice HO_19.out
                                (first | subst eo92 | (injection eo92 with f1_ f2_ f3_; have f4_ := f1_.symm; have f5_ := f3_.symm; clear f1_ f2_ f3_; subst f4_; subst f5_))
                                have q91 : ((ji78) : Int) ≤ ((t172.length : Int) : Int) := of_decide_eq_true (by first | (with_reducible assumption) | assumption)
                                obtain ⟨i091, hi091, _, hsz91, _⟩ := info_parts info5
                                have hroom91 : t172.length ≤ co92 := (Kd.R_reads' HO_19.out).2.1
                                have hC91 : Kd.C (Kd.int .u8) _ Ao92 t172.length t172 := (Kd.R_reads' HO_19.out).2.2
                                have q091 : (0 : Int) ≤ ((ji78) : Int) := of_decide_eq_true (by first | (with_reducible assumption) | assumption)
                                have hcut91 := cut_from (P := Tryd.prog) 23 5 .i64 Tryd.underlying23 hi091 1 hsz91 Ao92 t172.length co92 (ji78) q091 q91
                                have hr91 := Kd.C_drop (m := ((ji78) : Int).toNat) (c := co92) hC91 (by omega) hroom91
                                obtain ⟨A91, hA91⟩ : ∃ A1, A1 = (if co92 = ((ji78) : Int).toNat then Ao92 else (Ao92 : Option Addr).map (·.add (((ji78) : Int).toNat * 1))) := ⟨_, rfl⟩
                                obtain ⟨c91, hc91⟩ : ∃ c1, c1 = co92 - ((ji78) : Int).toNat := ⟨_, rfl⟩
                                have hy91 : y210.length = t172.length - ((ji78) : Int).toNat := (by rw [Ny210.out, List.length_drop] <;> omega)
                                rw [show (t172).drop ((ji78) : Int).toNat = y210 from Ny210.out.symm] at hr91
                                replace hr91 : Kd.C (Kd.int .u8) _ A91 y210.length y210 := (by rw [hA91]; exact hr91)
                                rw [← hy91, ← hA91, ← hc91] at hcut91
                                have HR213 := Aside0.mk hr91
                                have HC213 := Aside0.mk (show y210.length ≤ c91 from by rw [hy91, hc91]; exact Nat.sub_le_sub_right hroom91 _)
                                clear hr91 hC91 hroom91 hi091 hsz91 hc91
                                have KY91 := Aside0.mk hy91
                                have KA91 := Aside0.mk hA91
                                clear hy91 hA91
                                have KL91 := Aside0.mk (show ((ji78) : Int).toNat ≤ t172.length from by omega)
                                replace q91 := eq_true q91
                                refine start_ (n := 10) (S := fun w' => True) (ds := []) #[false, false, false, false, false, false, false, false, false, false] (by kernel_rfl) rfl rfl trivial (fun hHeld => ?_); refine with_tabW rabbetlaw20_TagTorn.tab12 rabbetlaw20_TagTorn.bits12 (fun HT_ HW_ => ?_)
                                generalize wc.drew = w88 at HO_17 HO_19 HB HR206 HR213 hHeld ⊢
                                refine pure_ (i := 1) (N := some 95) (v := ?_) (a' := ?_) #[false, true, false, false, false, false, false, false, false, false] rfl rfl (any_of HT_.out (by kernel_rfl)) (fun _ _ _ h => h) (Or.inl ⟨by rfl, ?_⟩) ?_ ?_
                                rotate_left
                                · intro w'
                                  go_simp
                                  with_reducible rfl
                                rotate_left
                                · simp only [Act.put, List.setIfInBounds_toArray, List.set_cons_zero, List.set_cons_succ, i64_w, i32_w]
                                  rfl
                                refine pure_ (i := 2) (N := some 96) (v := ?_) (a' := ?_) #[false, true, true, false, false, false, false, false, false, false] rfl rfl (any_of HT_.out (by kernel_rfl)) (fun _ _ _ h => h) (Or.inl ⟨by rfl, ?_⟩) ?_ ?_
                                rotate_left
                                · intro w'
                                  go_simp
                                  with_reducible rfl
                                rotate_left
                                · simp only [Act.put, List.setIfInBounds_toArray, List.set_cons_zero, List.set_cons_succ, i64_w, i32_w]
                                  rfl
                                refine pure_ (i := 3) (N := some 97) (v := ?_) (a' := ?_) #[false, true, true, true, false, false, false, false, false, false] rfl rfl (any_of HT_.out (by kernel_rfl)) (fun _ _ _ h => h) (Or.inl ⟨by rfl, ?_⟩) ?_ ?_
                                rotate_left
                                · intro w'
                                  go_simp
                                  with_reducible rfl
                                rotate_left
                                · simp only [Act.put, List.setIfInBounds_toArray, List.set_cons_zero, List.set_cons_succ, i64_w, i32_w]
                                  rfl
                                refine pure_ (i := 5) (N := some 99) (v := ?_) (a' := ?_) #[false, true, true, true, false, true, false, false, false, false] rfl rfl (any_of HT_.out (by kernel_rfl)) (fun _ _ _ h => h) (Or.inl ⟨by rfl, ?_⟩) ?_ ?_
                                rotate_left
                                · intro w'
                                  go_simp
                                  with_reducible rfl
                                rotate_left
                                · simp only [Act.put, List.setIfInBounds_toArray, List.set_cons_zero, List.set_cons_succ, i64_w, i32_w]
                                  rfl
                                refine pure_ (i := 6) (N := some 100) (v := ?_) (a' := ?_) #[false, true, true, true, false, true, true, false, false, false] rfl rfl (any_of HT_.out (by kernel_rfl)) (fun _ _ _ h => h) (Or.inl ⟨by rfl, ?_⟩) ?_ ?_
                                rotate_left
                                · intro w'
                                  go_simp
                                  with_reducible rfl
                                rotate_left
                                · simp only [Act.put, List.setIfInBounds_toArray, List.set_cons_zero, List.set_cons_succ, i64_w, i32_w]
                                  rfl
                                refine pure_ (i := 7) (N := some 101) (v := ?_) (a' := ?_) #[false, true, true, true, false, true, true, true, false, false] rfl rfl (any_of HT_.out (by kernel_rfl)) (fun _ _ _ h => h) (Or.inl ⟨by rfl, ?_⟩) ?_ ?_
                                rotate_left
                                · intro w'
                                  go_simp
                                  with_reducible rfl
                                rotate_left
                                · simp only [Act.put, List.setIfInBounds_toArray, List.set_cons_zero, List.set_cons_succ, i64_w, i32_w]
                                  rfl
                                refine one_ (i := 0) (N := some 94) #[true, true, true, true, false, true, true, true, false, false] rfl rfl (one_of HT_.out (by kernel_rfl)) (by decide) (fun K hK => ?_)
                                refine Kd.R_lit_step (Kd.int .u8) _ 5 ?hg (N := 94) ?hd (xs := ([] : List Int)) (inner := []) (ok := fun _ => True) (okp := fun _ => True) ?hr ?hp (fun _ hk => hk) trivial (Below.refl _ _) (Nat.le_refl _) (by simp) ?_; (case hd => rfl); (case hg => rfl); (case hr => first | (go_simp; done) | (go_simp; rfl)); (case hp => exact (Reps.none _ _))
                                intro v201 w93 ho94 hb hg_ hnew_
                                clear hg_ hnew_
                                (first | rw [← Ny200.out] at ho94 | (simp only [Int.reduceToNat] at ho94; rw [← Ny200.out] at ho94))
                                have n0_ := Aside0.mk (Kd.R_elder' (by (with_reducible repeat (first | apply Kd.R_alloc | apply Kd.R_drewN | apply Kd.R_drew)); exact HO_17.out) (Kd.R_base ho94) hb)
                                have n1_ := Aside0.mk (Kd.R_elder' (by (with_reducible repeat (first | apply Kd.R_alloc | apply Kd.R_drewN | apply Kd.R_drew)); exact HO_19.out) (Kd.R_base ho94) hb)
                                have n2_ := Aside0.mk (Kd.R_lower (Kd.R_new' (Kd.R_new' ho94 (Kd.R_lt (by (with_reducible repeat (first | apply Kd.R_alloc | apply Kd.R_drewN | apply Kd.R_drew)); exact HO_17.out))) (Kd.R_lt (by (with_reducible repeat (first | apply Kd.R_alloc | apply Kd.R_drewN | apply Kd.R_drew)); exact HO_19.out))) (below_size (by repeat (first | (with_reducible first | exact HB.out | apply below_alloc | apply pw_below_drewN | apply below_drew1) | exact HB.out))))
                                have n3_ := Aside0.mk (Kd.C_below (by repeat (first | (with_reducible exact HR206.out) | (with_reducible refine Kd.C_alloc ?_ _) | (with_reducible refine Kd.C_drewN ?_ _) | (with_reducible refine Kd.C_drew ?_) | exact HR206.out)) hb)
                                have n4_ := Aside0.mk (Kd.C_below (by repeat (first | (with_reducible exact HR213.out) | (with_reducible refine Kd.C_alloc ?_ _) | (with_reducible refine Kd.C_drewN ?_ _) | (with_reducible refine Kd.C_drew ?_) | exact HR213.out)) hb)
                                have n5_ := Aside0.mk (below_step (by repeat (first | (with_reducible first | exact HB.out | apply below_alloc | apply pw_below_drewN | apply below_drew1) | exact HB.out)) hb)
                                clear HO_17
                                clear HO_19
                                clear HR206
                                clear HR213
                                clear HB
                                have HO_17 := n0_
                                have HO_19 := n1_
                                have HO202 := n2_
                                have HR206 := n3_
                                have HR213 := n4_
                                have HB := n5_
                                clear n0_ n1_ n2_ n3_ n4_ n5_
                                clear hb ho94
                                refine hK.out _ _ trivial (fun hHeld => ?_)
                                clear hK K
                                refine norm_ (a' := ?_) ?_ ?_
                                rotate_left
                                · show Act.put _ (some 94) _ = _
                                  simp only [Act.put, List.setIfInBounds_toArray, List.set_cons_zero, List.set_cons_succ, i64_w, i32_w]
                                  rfl
                                refine one_ (i := 4) (N := some 98) #[true, true, true, true, true, true, true, true, false, false] rfl rfl (one_of HT_.out (by kernel_rfl)) (by decide) (fun K hK => ?_)
                                refine Kd.R_append_rows_step (Kd.int .u8) (w0 := w) w.heap.size (by rfl) (.tmp 94) (.tmp 97) 23 5 (.int .u8 0) 1 rfl Tryd.underlying23 info5 rfl (by decide) (by omega) v201 y200 y203 _ _ _ (fun k_ => some k_ ≠ (.slice Ao90 t168.length co90 : Value).ownBlock ∧ some k_ ≠ (.slice Ao92 t172.length co92 : Value).ownBlock) (fun _ => False) rfl rfl ?aO ?aR (fun _ _ h => h) (fun _ h => h.elim) ?aF ?aB ?aS ?aL ?_
                                (case aR => repeat (first | exact (by repeat (first | (with_reducible exact HR206.out) | (with_reducible refine Kd.C_alloc ?_ _) | (with_reducible refine Kd.C_drewN ?_ _) | (with_reducible refine Kd.C_drew ?_) | exact HR206.out)) | (with_reducible refine Kd.C_alloc ?_ _) | (with_reducible refine Kd.C_drewN ?_ _) | (with_reducible refine Kd.C_drew ?_)))
                                (case aB => exact (by repeat (first | (with_reducible first | exact HB.out | apply below_alloc | apply pw_below_drewN | apply below_drew1) | exact HB.out)))
                                (case aF => exact (fun k_ hk => ⟨Kd.fresh' (Kd.R_lt (by (with_reducible repeat (first | apply Kd.R_alloc | apply Kd.R_drewN | apply Kd.R_drew)); exact HO_17.out)) k_ hk, Kd.fresh' (Kd.R_lt (by (with_reducible repeat (first | apply Kd.R_alloc | apply Kd.R_drewN | apply Kd.R_drew)); exact HO_19.out)) k_ hk⟩))
                                (case aO => exact (by (with_reducible repeat (first | apply Kd.R_alloc | apply Kd.R_drewN | apply Kd.R_drew)); exact Kd.R_mono HO202.out (fun _ hk => ⟨hk.1.2, hk.2⟩)))
                                (case aS => exact (below_size (by repeat (first | (with_reducible first | exact HB.out | apply below_alloc | apply pw_below_drewN | apply below_drew1) | exact HB.out))))
                                (case aL => have := LMc81.out; omega)
                                intro v208 w95 ho hb hg hat
                                rw [← Ny207.out] at ho
                                have n0_ := Aside0.mk (Kd.R_after (ok := (fun k_ => some k_ ≠ (.slice Ao92 t172.length co92 : Value).ownBlock)) (by (with_reducible repeat (first | apply Kd.R_alloc | apply Kd.R_drewN | apply Kd.R_drew)); exact HO_17.out) hg hat)
                                have n1_ := Aside0.mk (Kd.R_after (ok := (fun k_ => some k_ ≠ (.slice Ao90 t168.length co90 : Value).ownBlock)) (by (with_reducible repeat (first | apply Kd.R_alloc | apply Kd.R_drewN | apply Kd.R_drew)); exact HO_19.out) hg hat)
                                have n2_ := Aside0.mk (hb)
                                have n3_ := Aside0.mk ((show Kd.C (Kd.int .u8) w95 Ao90 y203.length y203 from by rw [Ny203.out]; exact Kd.C_take (m := ((ji78) : Int).toNat) ((Kd.R_reads' (Kd.R_after (ok := (fun k_ => some k_ ≠ (.slice Ao92 t172.length co92 : Value).ownBlock)) (by (with_reducible repeat (first | apply Kd.R_alloc | apply Kd.R_drewN | apply Kd.R_drew)); exact HO_17.out) hg hat)).2.2) KL89.out))
                                have n4_ := Aside0.mk ((show Kd.C (Kd.int .u8) w95 A91 y210.length y210 from by rw [Ny210.out, KA91.out]; exact Kd.C_drop (m := ((ji78) : Int).toNat) (c := co92) ((Kd.R_reads' (Kd.R_after (ok := (fun k_ => some k_ ≠ (.slice Ao90 t168.length co90 : Value).ownBlock)) (by (with_reducible repeat (first | apply Kd.R_alloc | apply Kd.R_drewN | apply Kd.R_drew)); exact HO_19.out) hg hat)).2.2) KL91.out ((Kd.R_reads' (Kd.R_after (ok := (fun k_ => some k_ ≠ (.slice Ao90 t168.length co90 : Value).ownBlock)) (by (with_reducible repeat (first | apply Kd.R_alloc | apply Kd.R_drewN | apply Kd.R_drew)); exact HO_19.out) hg hat)).2.1)))
                                have n5_ := Aside0.mk (ho)
                                clear HO_17
                                clear HO_19
                                clear HB
                                clear HR206
                                clear HR213
                                clear HO202
                                have HO_17 := n0_
                                have HO_19 := n1_
                                have HB := n2_
                                have HR206 := n3_
                                have HR213 := n4_
                                have HO209 := n5_
                                clear n0_ n1_ n2_ n3_ n4_ n5_
                                clear ho hb hg hat
                                refine hK.out _ _ trivial (fun hHeld => ?_)
                                clear hK K
                                refine norm_ (a' := ?_) ?_ ?_
                                rotate_left
                                · show Act.put _ (some 98) _ = _
                                  simp only [Act.put, List.setIfInBounds_toArray, List.set_cons_zero, List.set_cons_succ, i64_w, i32_w]
                                  rfl
                                refine one_ (i := 8) (N := some 102) #[true, true, true, true, true, true, true, true, true, false] rfl rfl (one_of HT_.out (by kernel_rfl)) (by decide) (fun K hK => ?_)
                                refine Kd.R_append_rows_step (Kd.int .u8) (w0 := w) w.heap.size (by rfl) (.tmp 98) (.tmp 101) 23 5 (.int .u8 0) 1 rfl Tryd.underlying23 info5 rfl (by decide) (by omega) v208 y207 y210 _ _ _ (fun k_ => some k_ ≠ (.slice Ao90 t168.length co90 : Value).ownBlock ∧ some k_ ≠ (.slice Ao92 t172.length co92 : Value).ownBlock) (fun _ => False) rfl rfl ?aO ?aR (fun _ _ h => h) (fun _ h => h.elim) ?aF ?aB ?aS ?aL ?_
                                (case aR => repeat (first | exact (by repeat (first | (with_reducible exact HR213.out) | (with_reducible refine Kd.C_alloc ?_ _) | (with_reducible refine Kd.C_drewN ?_ _) | (with_reducible refine Kd.C_drew ?_) | exact HR213.out)) | (with_reducible refine Kd.C_alloc ?_ _) | (with_reducible refine Kd.C_drewN ?_ _) | (with_reducible refine Kd.C_drew ?_)))
                                (case aB => exact (by repeat (first | (with_reducible first | exact HB.out | apply below_alloc | apply pw_below_drewN | apply below_drew1) | exact HB.out)))
                                (case aF => exact (fun k_ hk => ⟨Kd.fresh' (Kd.R_lt (by (with_reducible repeat (first | apply Kd.R_alloc | apply Kd.R_drewN | apply Kd.R_drew)); exact HO_17.out)) k_ hk, Kd.fresh' (Kd.R_lt (by (with_reducible repeat (first | apply Kd.R_alloc | apply Kd.R_drewN | apply Kd.R_drew)); exact HO_19.out)) k_ hk⟩))
                                (case aO => exact (by (with_reducible repeat (first | apply Kd.R_alloc | apply Kd.R_drewN | apply Kd.R_drew)); exact HO209.out))
                                (case aS => exact (below_size (by repeat (first | (with_reducible first | exact HB.out | apply below_alloc | apply pw_below_drewN | apply below_drew1) | exact HB.out))))
                                (case aL => have := LMc84.out; omega)
                                intro v215 w96 ho hb hg hat
                                rw [← Ny214.out] at ho
                                have n0_ := Aside0.mk (Kd.R_after (ok := (fun k_ => some k_ ≠ (.slice Ao92 t172.length co92 : Value).ownBlock)) (by (with_reducible repeat (first | apply Kd.R_alloc | apply Kd.R_drewN | apply Kd.R_drew)); exact HO_17.out) hg hat)
                                have n1_ := Aside0.mk (Kd.R_after (ok := (fun k_ => some k_ ≠ (.slice Ao90 t168.length co90 : Value).ownBlock)) (by (with_reducible repeat (first | apply Kd.R_alloc | apply Kd.R_drewN | apply Kd.R_drew)); exact HO_19.out) hg hat)
                                have n2_ := Aside0.mk (hb)
                                have n3_ := Aside0.mk ((show Kd.C (Kd.int .u8) w96 Ao90 y203.length y203 from by rw [Ny203.out]; exact Kd.C_take (m := ((ji78) : Int).toNat) ((Kd.R_reads' (Kd.R_after (ok := (fun k_ => some k_ ≠ (.slice Ao92 t172.length co92 : Value).ownBlock)) (by (with_reducible repeat (first | apply Kd.R_alloc | apply Kd.R_drewN | apply Kd.R_drew)); exact HO_17.out) hg hat)).2.2) KL89.out))
                                have n4_ := Aside0.mk ((show Kd.C (Kd.int .u8) w96 A91 y210.length y210 from by rw [Ny210.out, KA91.out]; exact Kd.C_drop (m := ((ji78) : Int).toNat) (c := co92) ((Kd.R_reads' (Kd.R_after (ok := (fun k_ => some k_ ≠ (.slice Ao90 t168.length co90 : Value).ownBlock)) (by (with_reducible repeat (first | apply Kd.R_alloc | apply Kd.R_drewN | apply Kd.R_drew)); exact HO_19.out) hg hat)).2.2) KL91.out ((Kd.R_reads' (Kd.R_after (ok := (fun k_ => some k_ ≠ (.slice Ao90 t168.length co90 : Value).ownBlock)) (by (with_reducible repeat (first | apply Kd.R_alloc | apply Kd.R_drewN | apply Kd.R_drew)); exact HO_19.out) hg hat)).2.1)))
                                have n5_ := Aside0.mk (ho)
                                clear HO_17
                                clear HO_19
                                clear HB
                                clear HR206
                                clear HR213
                                clear HO209
                                have HO_17 := n0_
                                have HO_19 := n1_
                                have HB := n2_
                                have HR206 := n3_
                                have HR213 := n4_
                                have HO216 := n5_
                                clear n0_ n1_ n2_ n3_ n4_ n5_
                                clear ho hb hg hat
                                refine hK.out _ _ trivial (fun hHeld => ?_)
                                clear hK K
                                refine norm_ (a' := ?_) ?_ ?_
                                rotate_left
                                · show Act.put _ (some 102) _ = _
                                  simp only [Act.put, List.setIfInBounds_toArray, List.set_cons_zero, List.set_cons_succ, i64_w, i32_w]
                                  rfl
                                refine pure_ (i := 9) (N := some 22) (v := ?_) (a' := ?_) #[true, true, true, true, true, true, true, true, true, true] rfl rfl (any_of HT_.out (by kernel_rfl)) (fun _ _ _ h => h) (Or.inl ⟨by rfl, ?_⟩) ?_ ?_
                                rotate_left
                                · intro w'
                                  go_simp
                                  with_reducible rfl
                                rotate_left
                                · simp only [Act.put, List.setIfInBounds_toArray, List.set_cons_zero, List.set_cons_succ, i64_w, i32_w]
                                  rfl
                                refine done_ (done_of HT_.out (by kernel_rfl)) ?_
                                obtain ⟨Ao97, co97, eo97⟩ := Kd.R_slice HO216.out
                                subst eo97
                                try go_wp2_with (first | ((with_reducible refine gate_callee (f := 14) rfl ?_); refine goesL_ (some 107) rfl rfl Tryd.func14 (by kernel_rfl) rfl #[.int .u32 a0, .int .u32 a1, .slice Ao97 y214.length co97] rfl (by (try simp only [List.map_toArray, List.map_cons, List.map_nil]); first | done | rfl | (simp only [List.length_drop, List.length_take]; rfl)) ?_; (first | (with_reducible refine (tag_Take.calls GA kj23 a0 a1 _ _ y214 t217 true _ ?side1 ?side2 ?side3 A85.out).mono ?_) | ((try rw [hji36]); (try rw [hji78]); (try rw [← KY49.out]); (try rw [← KY51.out]); (try rw [← KY66.out]); (try rw [← KY68.out]); (try rw [← KY89.out]); (try rw [← KY91.out]); (with_reducible refine (tag_Take.calls GA kj23 a0 a1 _ _ y214 t217 true _ ?side1 ?side2 ?side3 A85.out).mono ?_))); (case side1 => repeat (first | exact (Kd.R_reads' HO216.out).2.2 | (with_reducible refine Kd.C_alloc ?_ _) | (with_reducible refine Kd.C_drewN ?_ _) | (with_reducible refine Kd.C_drew ?_))); (case side2 => exact (Kd.R_reads' HO216.out).2.1); (case side3 => exact Glob.below HG.out (by repeat (first | (with_reducible first | exact HB.out | apply below_alloc | apply pw_below_drewN | apply below_drew1) | exact HB.out))); rintro e w98 ⟨v219, rfl, ho0, hb⟩; refine ⟨_, rfl, ?_⟩; have n0_ := Aside0.mk (Kd.R_elder' (by (with_reducible repeat (first | apply Kd.R_alloc | apply Kd.R_drewN | apply Kd.R_drew)); exact HO_17.out) (Kd.R_base ho0) hb); have n1_ := Aside0.mk (Kd.R_elder' (by (with_reducible repeat (first | apply Kd.R_alloc | apply Kd.R_drewN | apply Kd.R_drew)); exact HO_19.out) (Kd.R_base ho0) hb); have n2_ := Aside0.mk (Kd.R_elder' (by (with_reducible repeat (first | apply Kd.R_alloc | apply Kd.R_drewN | apply Kd.R_drew)); exact HO216.out) (Kd.R_base ho0) hb); have n3_ := Aside0.mk (Kd.R_lower (Kd.R_new' (Kd.R_new' (Kd.R_new' ho0 (Kd.R_lt (by (with_reducible repeat (first | apply Kd.R_alloc | apply Kd.R_drewN | apply Kd.R_drew)); exact HO_17.out))) (Kd.R_lt (by (with_reducible repeat (first | apply Kd.R_alloc | apply Kd.R_drewN | apply Kd.R_drew)); exact HO_19.out))) (Kd.R_lt (by (with_reducible repeat (first | apply Kd.R_alloc | apply Kd.R_drewN | apply Kd.R_drew)); exact HO216.out))) (below_size (by repeat (first | (with_reducible first | exact HB.out | apply below_alloc | apply pw_below_drewN | apply below_drew1) | exact HB.out)))); have n4_ := Aside0.mk (Kd.C_below (by repeat (first | (with_reducible exact HR206.out) | (with_reducible refine Kd.C_alloc ?_ _) | (with_reducible refine Kd.C_drewN ?_ _) | (with_reducible refine Kd.C_drew ?_) | exact HR206.out)) hb); have n5_ := Aside0.mk (Kd.C_below (by repeat (first | (with_reducible exact HR213.out) | (with_reducible refine Kd.C_alloc ?_ _) | (with_reducible refine Kd.C_drewN ?_ _) | (with_reducible refine Kd.C_drew ?_) | exact HR213.out)) hb); have n6_ := Aside0.mk (below_step (by repeat (first | (with_reducible first | exact HB.out | apply below_alloc | apply pw_below_drewN | apply below_drew1) | exact HB.out)) hb); clear HO_17; clear HO_19; clear HO216; clear HR206; clear HR213; clear HB; have HO_17 := n0_; have HO_19 := n1_; have HO216 := n2_; have HO220 := n3_; have HR206 := n4_; have HR213 := n5_; have HB := n6_; clear n0_ n1_ n2_ n3_ n4_ n5_ n6_; (try clear hb); (try clear hb2); (try clear hk); (try clear hi); (try clear ho0); have hcv99 := own_string (P := Tryd.prog) Tryd.underlying23 Tryd.underlying5 Tryd.underlying9 (Kd.own_of_R HO216.out); (try (have hcv99d := fun (nd_ : Nat) => own_string (P := Tryd.prog) Tryd.underlying23 Tryd.underlying5 Tryd.underlying9 (pw_own_drewN (Kd.own_of_R HO216.out) nd_))); have hcv100 := own_string (P := Tryd.prog) Tryd.underlying23 Tryd.underlying5 Tryd.underlying9 (Kd.own_of_R HO_17.out); (try (have hcv100d := fun (nd_ : Nat) => own_string (P := Tryd.prog) Tryd.underlying23 Tryd.underlying5 Tryd.underlying9 (pw_own_drewN (Kd.own_of_R HO_17.out) nd_))); have hcv101 := own_string (P := Tryd.prog) Tryd.underlying23 Tryd.underlying5 Tryd.underlying9 (Kd.own_of_R HO220.out); (try (have hcv101d := fun (nd_ : Nat) => own_string (P := Tryd.prog) Tryd.underlying23 Tryd.underlying5 Tryd.underlying9 (pw_own_drewN (Kd.own_of_R HO220.out) nd_))); have hcv102 := Kd.C_string (P := Tryd.prog) (A := A4) (c := c4) Tryd.underlying23 Tryd.underlying5 Tryd.underlying9 (Kd.C_below HR4.out HB.out)))
                                go_ret
                                exact ⟨by first | rfl | (simp [errW_none, errW_some] <;> rfl) | (simp only [← hji78]; first | rfl | (simp [errW_none, errW_some] <;> rfl)) | (simp [*, errW_none, errW_some] <;> rfl), by repeat (first | (with_reducible first | exact HB.out | apply below_alloc | apply pw_below_drewN | apply below_drew1) | exact HB.out)⟩
                              · replace c87 := Bool.eq_false_iff.mpr c87
                                subst c87
                                have H1 : (some true) = some r := by rw [if_neg (show ¬ (false = true) by decide)] at H; exact H
                                clear H
                                have H := H1
                                clear H1
                                obtain rfl := Option.some.inj H
                                try go_wp2
                                have n0_ := Aside0.mk (Kd.R_drew HO_17.out)
                                have n1_ := Aside0.mk (Kd.R_drew HO_19.out)
                                have n2_ := Aside0.mk (below_drew1 HB.out)
                                clear HO_17
                                clear HO_19
                                clear HB
                                have HO_17 := n0_
                                have HO_19 := n1_
                                have HB := n2_
                                clear n0_ n1_ n2_
                                obtain ⟨Ao105, co105, eo105⟩ := Kd.R_slice HO_17.out
                                (first | subst eo105 | (injection eo105 with f1_ f2_ f3_; have f4_ := f1_.symm; have f5_ := f3_.symm; clear f1_ f2_ f3_; subst f4_; subst f5_))
                                have q104 : ((ji78) : Int) ≤ ((t168.length : Int) : Int) := of_decide_eq_true (by first | (with_reducible assumption) | assumption)
                                obtain ⟨i0104, hi0104, _, hsz104, _⟩ := info_parts info5
                                have hroom104 : t168.length ≤ co105 := (Kd.R_reads' HO_17.out).2.1
                                have hC104 : Kd.C (Kd.int .u8) _ Ao105 t168.length t168 := (Kd.R_reads' HO_17.out).2.2
                                have hcut104 := cut_to (P := Tryd.prog) 23 5 .i64 Tryd.underlying23 hi0104 Ao105 t168.length co105 (ji78) (of_decide_eq_true (by first | (with_reducible assumption) | assumption)) q104 hroom104
                                have hr104 := Kd.C_take (m := ((ji78) : Int).toNat) hC104 (by omega)
                                have hy104 : y203.length = ((ji78) : Int).toNat := (by rw [Ny203.out, List.length_take]; omega)
                                rw [← Ny203.out] at hr104
                                rw [← hy104] at hcut104
                                have HR206 := Aside0.mk hr104
                                have HC206 := Aside0.mk (show y203.length ≤ co105 from by omega)
                                clear hr104 hC104 hroom104 hi0104 hsz104
                                have KY104 := Aside0.mk hy104
                                clear hy104
                                have KL104 := Aside0.mk (show ((ji78) : Int).toNat ≤ t168.length from by omega)
                                replace q104 := eq_true q104
                                obtain ⟨Ao107, co107, eo107⟩ := Kd.R_slice HO_19.out
                                (first | subst eo107 | (injection eo107 with f1_ f2_ f3_; have f4_ := f1_.symm; have f5_ := f3_.symm; clear f1_ f2_ f3_; subst f4_; subst f5_))
                                have q106 : ((ji78) : Int) ≤ ((t172.length : Int) : Int) := of_decide_eq_true (by first | (with_reducible assumption) | assumption)
                                obtain ⟨i0106, hi0106, _, hsz106, _⟩ := info_parts info5
                                have hroom106 : t172.length ≤ co107 := (Kd.R_reads' HO_19.out).2.1
                                have hC106 : Kd.C (Kd.int .u8) _ Ao107 t172.length t172 := (Kd.R_reads' HO_19.out).2.2
                                have q0106 : (0 : Int) ≤ ((ji78) : Int) := of_decide_eq_true (by first | (with_reducible assumption) | assumption)
                                have hcut106 := cut_from (P := Tryd.prog) 23 5 .i64 Tryd.underlying23 hi0106 1 hsz106 Ao107 t172.length co107 (ji78) q0106 q106
                                have hr106 := Kd.C_drop (m := ((ji78) : Int).toNat) (c := co107) hC106 (by omega) hroom106
                                obtain ⟨A106, hA106⟩ : ∃ A1, A1 = (if co107 = ((ji78) : Int).toNat then Ao107 else (Ao107 : Option Addr).map (·.add (((ji78) : Int).toNat * 1))) := ⟨_, rfl⟩
                                obtain ⟨c106, hc106⟩ : ∃ c1, c1 = co107 - ((ji78) : Int).toNat := ⟨_, rfl⟩
                                have hy106 : y210.length = t172.length - ((ji78) : Int).toNat := (by rw [Ny210.out, List.length_drop] <;> omega)
                                rw [show (t172).drop ((ji78) : Int).toNat = y210 from Ny210.out.symm] at hr106
                                replace hr106 : Kd.C (Kd.int .u8) _ A106 y210.length y210 := (by rw [hA106]; exact hr106)
                                rw [← hy106, ← hA106, ← hc106] at hcut106
                                have HR213 := Aside0.mk hr106
                                have HC213 := Aside0.mk (show y210.length ≤ c106 from by rw [hy106, hc106]; exact Nat.sub_le_sub_right hroom106 _)
                                clear hr106 hC106 hroom106 hi0106 hsz106 hc106
                                have KY106 := Aside0.mk hy106
                                have KA106 := Aside0.mk hA106
                                clear hy106 hA106
                                have KL106 := Aside0.mk (show ((ji78) : Int).toNat ≤ t172.length from by omega)
                                replace q106 := eq_true q106
                                refine start_ (n := 10) (S := fun w' => True) (ds := []) #[false, false, false, false, false, false, false, false, false, false] (by kernel_rfl) rfl rfl trivial (fun hHeld => ?_); refine with_tabW rabbetlaw20_TagTorn.tab12 rabbetlaw20_TagTorn.bits12 (fun HT_ HW_ => ?_)
                                generalize wc.drew = w103 at HO_17 HO_19 HB HR206 HR213 hHeld ⊢
                                refine pure_ (i := 1) (N := some 95) (v := ?_) (a' := ?_) #[false, true, false, false, false, false, false, false, false, false] rfl rfl (any_of HT_.out (by kernel_rfl)) (fun _ _ _ h => h) (Or.inl ⟨by rfl, ?_⟩) ?_ ?_
                                rotate_left
                                · intro w'
                                  go_simp
                                  with_reducible rfl
                                rotate_left
                                · simp only [Act.put, List.setIfInBounds_toArray, List.set_cons_zero, List.set_cons_succ, i64_w, i32_w]
                                  rfl
                                refine pure_ (i := 2) (N := some 96) (v := ?_) (a' := ?_) #[false, true, true, false, false, false, false, false, false, false] rfl rfl (any_of HT_.out (by kernel_rfl)) (fun _ _ _ h => h) (Or.inl ⟨by rfl, ?_⟩) ?_ ?_
                                rotate_left
                                · intro w'
                                  go_simp
                                  with_reducible rfl
                                rotate_left
                                · simp only [Act.put, List.setIfInBounds_toArray, List.set_cons_zero, List.set_cons_succ, i64_w, i32_w]
                                  rfl
                                refine pure_ (i := 3) (N := some 97) (v := ?_) (a' := ?_) #[false, true, true, true, false, false, false, false, false, false] rfl rfl (any_of HT_.out (by kernel_rfl)) (fun _ _ _ h => h) (Or.inl ⟨by rfl, ?_⟩) ?_ ?_
                                rotate_left
                                · intro w'
                                  go_simp
                                  with_reducible rfl
                                rotate_left
                                · simp only [Act.put, List.setIfInBounds_toArray, List.set_cons_zero, List.set_cons_succ, i64_w, i32_w]
                                  rfl
                                refine pure_ (i := 5) (N := some 99) (v := ?_) (a' := ?_) #[false, true, true, true, false, true, false, false, false, false] rfl rfl (any_of HT_.out (by kernel_rfl)) (fun _ _ _ h => h) (Or.inl ⟨by rfl, ?_⟩) ?_ ?_
                                rotate_left
                                · intro w'
                                  go_simp
                                  with_reducible rfl
                                rotate_left
                                · simp only [Act.put, List.setIfInBounds_toArray, List.set_cons_zero, List.set_cons_succ, i64_w, i32_w]
                                  rfl
                                refine pure_ (i := 6) (N := some 100) (v := ?_) (a' := ?_) #[false, true, true, true, false, true, true, false, false, false] rfl rfl (any_of HT_.out (by kernel_rfl)) (fun _ _ _ h => h) (Or.inl ⟨by rfl, ?_⟩) ?_ ?_
                                rotate_left
                                · intro w'
                                  go_simp
                                  with_reducible rfl
                                rotate_left
                                · simp only [Act.put, List.setIfInBounds_toArray, List.set_cons_zero, List.set_cons_succ, i64_w, i32_w]
                                  rfl
                                refine pure_ (i := 7) (N := some 101) (v := ?_) (a' := ?_) #[false, true, true, true, false, true, true, true, false, false] rfl rfl (any_of HT_.out (by kernel_rfl)) (fun _ _ _ h => h) (Or.inl ⟨by rfl, ?_⟩) ?_ ?_
                                rotate_left
                                · intro w'
                                  go_simp
                                  with_reducible rfl
                                rotate_left
                                · simp only [Act.put, List.setIfInBounds_toArray, List.set_cons_zero, List.set_cons_succ, i64_w, i32_w]
                                  rfl
                                refine one_ (i := 0) (N := some 94) #[true, true, true, true, false, true, true, true, false, false] rfl rfl (one_of HT_.out (by kernel_rfl)) (by decide) (fun K hK => ?_)
                                refine Kd.R_lit_step (Kd.int .u8) _ 5 ?hg (N := 94) ?hd (xs := ([] : List Int)) (inner := []) (ok := fun _ => True) (okp := fun _ => True) ?hr ?hp (fun _ hk => hk) trivial (Below.refl _ _) (Nat.le_refl _) (by simp) ?_; (case hd => rfl); (case hg => rfl); (case hr => first | (go_simp; done) | (go_simp; rfl)); (case hp => exact (Reps.none _ _))
                                intro v201 w108 ho109 hb hg_ hnew_
                                clear hg_ hnew_
                                (first | rw [← Ny200.out] at ho109 | (simp only [Int.reduceToNat] at ho109; rw [← Ny200.out] at ho109))
                                have n0_ := Aside0.mk (Kd.R_elder' (by (with_reducible repeat (first | apply Kd.R_alloc | apply Kd.R_drewN | apply Kd.R_drew)); exact HO_17.out) (Kd.R_base ho109) hb)
                                have n1_ := Aside0.mk (Kd.R_elder' (by (with_reducible repeat (first | apply Kd.R_alloc | apply Kd.R_drewN | apply Kd.R_drew)); exact HO_19.out) (Kd.R_base ho109) hb)
                                have n2_ := Aside0.mk (Kd.R_lower (Kd.R_new' (Kd.R_new' ho109 (Kd.R_lt (by (with_reducible repeat (first | apply Kd.R_alloc | apply Kd.R_drewN | apply Kd.R_drew)); exact HO_17.out))) (Kd.R_lt (by (with_reducible repeat (first | apply Kd.R_alloc | apply Kd.R_drewN | apply Kd.R_drew)); exact HO_19.out))) (below_size (by repeat (first | (with_reducible first | exact HB.out | apply below_alloc | apply pw_below_drewN | apply below_drew1) | exact HB.out))))
                                have n3_ := Aside0.mk (Kd.C_below (by repeat (first | (with_reducible exact HR206.out) | (with_reducible refine Kd.C_alloc ?_ _) | (with_reducible refine Kd.C_drewN ?_ _) | (with_reducible refine Kd.C_drew ?_) | exact HR206.out)) hb)
                                have n4_ := Aside0.mk (Kd.C_below (by repeat (first | (with_reducible exact HR213.out) | (with_reducible refine Kd.C_alloc ?_ _) | (with_reducible refine Kd.C_drewN ?_ _) | (with_reducible refine Kd.C_drew ?_) | exact HR213.out)) hb)
                                have n5_ := Aside0.mk (below_step (by repeat (first | (with_reducible first | exact HB.out | apply below_alloc | apply pw_below_drewN | apply below_drew1) | exact HB.out)) hb)
                                clear HO_17
                                clear HO_19
                                clear HR206
                                clear HR213
                                clear HB
                                have HO_17 := n0_
                                have HO_19 := n1_
                                have HO202 := n2_
                                have HR206 := n3_
                                have HR213 := n4_
                                have HB := n5_
                                clear n0_ n1_ n2_ n3_ n4_ n5_
                                clear hb ho109
                                refine hK.out _ _ trivial (fun hHeld => ?_)
                                clear hK K
                                refine norm_ (a' := ?_) ?_ ?_
                                rotate_left
                                · show Act.put _ (some 94) _ = _
                                  simp only [Act.put, List.setIfInBounds_toArray, List.set_cons_zero, List.set_cons_succ, i64_w, i32_w]
                                  rfl
                                refine one_ (i := 4) (N := some 98) #[true, true, true, true, true, true, true, true, false, false] rfl rfl (one_of HT_.out (by kernel_rfl)) (by decide) (fun K hK => ?_)
                                refine Kd.R_append_rows_step (Kd.int .u8) (w0 := w) w.heap.size (by rfl) (.tmp 94) (.tmp 97) 23 5 (.int .u8 0) 1 rfl Tryd.underlying23 info5 rfl (by decide) (by omega) v201 y200 y203 _ _ _ (fun k_ => some k_ ≠ (.slice Ao105 t168.length co105 : Value).ownBlock ∧ some k_ ≠ (.slice Ao107 t172.length co107 : Value).ownBlock) (fun _ => False) rfl rfl ?aO ?aR (fun _ _ h => h) (fun _ h => h.elim) ?aF ?aB ?aS ?aL ?_
                                (case aR => repeat (first | exact (by repeat (first | (with_reducible exact HR206.out) | (with_reducible refine Kd.C_alloc ?_ _) | (with_reducible refine Kd.C_drewN ?_ _) | (with_reducible refine Kd.C_drew ?_) | exact HR206.out)) | (with_reducible refine Kd.C_alloc ?_ _) | (with_reducible refine Kd.C_drewN ?_ _) | (with_reducible refine Kd.C_drew ?_)))
                                (case aB => exact (by repeat (first | (with_reducible first | exact HB.out | apply below_alloc | apply pw_below_drewN | apply below_drew1) | exact HB.out)))
                                (case aF => exact (fun k_ hk => ⟨Kd.fresh' (Kd.R_lt (by (with_reducible repeat (first | apply Kd.R_alloc | apply Kd.R_drewN | apply Kd.R_drew)); exact HO_17.out)) k_ hk, Kd.fresh' (Kd.R_lt (by (with_reducible repeat (first | apply Kd.R_alloc | apply Kd.R_drewN | apply Kd.R_drew)); exact HO_19.out)) k_ hk⟩))
                                (case aO => exact (by (with_reducible repeat (first | apply Kd.R_alloc | apply Kd.R_drewN | apply Kd.R_drew)); exact Kd.R_mono HO202.out (fun _ hk => ⟨hk.1.2, hk.2⟩)))
                                (case aS => exact (below_size (by repeat (first | (with_reducible first | exact HB.out | apply below_alloc | apply pw_below_drewN | apply below_drew1) | exact HB.out))))
                                (case aL => have := LMc81.out; omega)
                                intro v208 w110 ho hb hg hat
                                rw [← Ny207.out] at ho
                                have n0_ := Aside0.mk (Kd.R_after (ok := (fun k_ => some k_ ≠ (.slice Ao107 t172.length co107 : Value).ownBlock)) (by (with_reducible repeat (first | apply Kd.R_alloc | apply Kd.R_drewN | apply Kd.R_drew)); exact HO_17.out) hg hat)
                                have n1_ := Aside0.mk (Kd.R_after (ok := (fun k_ => some k_ ≠ (.slice Ao105 t168.length co105 : Value).ownBlock)) (by (with_reducible repeat (first | apply Kd.R_alloc | apply Kd.R_drewN | apply Kd.R_drew)); exact HO_19.out) hg hat)
                                have n2_ := Aside0.mk (hb)
                                have n3_ := Aside0.mk ((show Kd.C (Kd.int .u8) w110 Ao105 y203.length y203 from by rw [Ny203.out]; exact Kd.C_take (m := ((ji78) : Int).toNat) ((Kd.R_reads' (Kd.R_after (ok := (fun k_ => some k_ ≠ (.slice Ao107 t172.length co107 : Value).ownBlock)) (by (with_reducible repeat (first | apply Kd.R_alloc | apply Kd.R_drewN | apply Kd.R_drew)); exact HO_17.out) hg hat)).2.2) KL104.out))
                                have n4_ := Aside0.mk ((show Kd.C (Kd.int .u8) w110 A106 y210.length y210 from by rw [Ny210.out, KA106.out]; exact Kd.C_drop (m := ((ji78) : Int).toNat) (c := co107) ((Kd.R_reads' (Kd.R_after (ok := (fun k_ => some k_ ≠ (.slice Ao105 t168.length co105 : Value).ownBlock)) (by (with_reducible repeat (first | apply Kd.R_alloc | apply Kd.R_drewN | apply Kd.R_drew)); exact HO_19.out) hg hat)).2.2) KL106.out ((Kd.R_reads' (Kd.R_after (ok := (fun k_ => some k_ ≠ (.slice Ao105 t168.length co105 : Value).ownBlock)) (by (with_reducible repeat (first | apply Kd.R_alloc | apply Kd.R_drewN | apply Kd.R_drew)); exact HO_19.out) hg hat)).2.1)))
                                have n5_ := Aside0.mk (ho)
                                clear HO_17
                                clear HO_19
                                clear HB
                                clear HR206
                                clear HR213
                                clear HO202
                                have HO_17 := n0_
                                have HO_19 := n1_
                                have HB := n2_
                                have HR206 := n3_
                                have HR213 := n4_
                                have HO209 := n5_
                                clear n0_ n1_ n2_ n3_ n4_ n5_
                                clear ho hb hg hat
                                refine hK.out _ _ trivial (fun hHeld => ?_)
                                clear hK K
                                refine norm_ (a' := ?_) ?_ ?_
                                rotate_left
                                · show Act.put _ (some 98) _ = _
                                  simp only [Act.put, List.setIfInBounds_toArray, List.set_cons_zero, List.set_cons_succ, i64_w, i32_w]
                                  rfl
                                refine one_ (i := 8) (N := some 102) #[true, true, true, true, true, true, true, true, true, false] rfl rfl (one_of HT_.out (by kernel_rfl)) (by decide) (fun K hK => ?_)
                                refine Kd.R_append_rows_step (Kd.int .u8) (w0 := w) w.heap.size (by rfl) (.tmp 98) (.tmp 101) 23 5 (.int .u8 0) 1 rfl Tryd.underlying23 info5 rfl (by decide) (by omega) v208 y207 y210 _ _ _ (fun k_ => some k_ ≠ (.slice Ao105 t168.length co105 : Value).ownBlock ∧ some k_ ≠ (.slice Ao107 t172.length co107 : Value).ownBlock) (fun _ => False) rfl rfl ?aO ?aR (fun _ _ h => h) (fun _ h => h.elim) ?aF ?aB ?aS ?aL ?_
                                (case aR => repeat (first | exact (by repeat (first | (with_reducible exact HR213.out) | (with_reducible refine Kd.C_alloc ?_ _) | (with_reducible refine Kd.C_drewN ?_ _) | (with_reducible refine Kd.C_drew ?_) | exact HR213.out)) | (with_reducible refine Kd.C_alloc ?_ _) | (with_reducible refine Kd.C_drewN ?_ _) | (with_reducible refine Kd.C_drew ?_)))
                                (case aB => exact (by repeat (first | (with_reducible first | exact HB.out | apply below_alloc | apply pw_below_drewN | apply below_drew1) | exact HB.out)))
                                (case aF => exact (fun k_ hk => ⟨Kd.fresh' (Kd.R_lt (by (with_reducible repeat (first | apply Kd.R_alloc | apply Kd.R_drewN | apply Kd.R_drew)); exact HO_17.out)) k_ hk, Kd.fresh' (Kd.R_lt (by (with_reducible repeat (first | apply Kd.R_alloc | apply Kd.R_drewN | apply Kd.R_drew)); exact HO_19.out)) k_ hk⟩))
                                (case aO => exact (by (with_reducible repeat (first | apply Kd.R_alloc | apply Kd.R_drewN | apply Kd.R_drew)); exact HO209.out))
                                (case aS => exact (below_size (by repeat (first | (with_reducible first | exact HB.out | apply below_alloc | apply pw_below_drewN | apply below_drew1) | exact HB.out))))
                                (case aL => have := LMc84.out; omega)
                                intro v215 w111 ho hb hg hat
                                rw [← Ny214.out] at ho
                                have n0_ := Aside0.mk (Kd.R_after (ok := (fun k_ => some k_ ≠ (.slice Ao107 t172.length co107 : Value).ownBlock)) (by (with_reducible repeat (first | apply Kd.R_alloc | apply Kd.R_drewN | apply Kd.R_drew)); exact HO_17.out) hg hat)
                                have n1_ := Aside0.mk (Kd.R_after (ok := (fun k_ => some k_ ≠ (.slice Ao105 t168.length co105 : Value).ownBlock)) (by (with_reducible repeat (first | apply Kd.R_alloc | apply Kd.R_drewN | apply Kd.R_drew)); exact HO_19.out) hg hat)
                                have n2_ := Aside0.mk (hb)
                                have n3_ := Aside0.mk ((show Kd.C (Kd.int .u8) w111 Ao105 y203.length y203 from by rw [Ny203.out]; exact Kd.C_take (m := ((ji78) : Int).toNat) ((Kd.R_reads' (Kd.R_after (ok := (fun k_ => some k_ ≠ (.slice Ao107 t172.length co107 : Value).ownBlock)) (by (with_reducible repeat (first | apply Kd.R_alloc | apply Kd.R_drewN | apply Kd.R_drew)); exact HO_17.out) hg hat)).2.2) KL104.out))
                                have n4_ := Aside0.mk ((show Kd.C (Kd.int .u8) w111 A106 y210.length y210 from by rw [Ny210.out, KA106.out]; exact Kd.C_drop (m := ((ji78) : Int).toNat) (c := co107) ((Kd.R_reads' (Kd.R_after (ok := (fun k_ => some k_ ≠ (.slice Ao105 t168.length co105 : Value).ownBlock)) (by (with_reducible repeat (first | apply Kd.R_alloc | apply Kd.R_drewN | apply Kd.R_drew)); exact HO_19.out) hg hat)).2.2) KL106.out ((Kd.R_reads' (Kd.R_after (ok := (fun k_ => some k_ ≠ (.slice Ao105 t168.length co105 : Value).ownBlock)) (by (with_reducible repeat (first | apply Kd.R_alloc | apply Kd.R_drewN | apply Kd.R_drew)); exact HO_19.out) hg hat)).2.1)))
                                have n5_ := Aside0.mk (ho)
                                clear HO_17
                                clear HO_19
                                clear HB
                                clear HR206
                                clear HR213
                                clear HO209
                                have HO_17 := n0_
                                have HO_19 := n1_
                                have HB := n2_
                                have HR206 := n3_
                                have HR213 := n4_
                                have HO216 := n5_
                                clear n0_ n1_ n2_ n3_ n4_ n5_
                                clear ho hb hg hat
                                refine hK.out _ _ trivial (fun hHeld => ?_)
                                clear hK K
                                refine norm_ (a' := ?_) ?_ ?_
                                rotate_left
                                · show Act.put _ (some 102) _ = _
                                  simp only [Act.put, List.setIfInBounds_toArray, List.set_cons_zero, List.set_cons_succ, i64_w, i32_w]
                                  rfl
                                refine pure_ (i := 9) (N := some 22) (v := ?_) (a' := ?_) #[true, true, true, true, true, true, true, true, true, true] rfl rfl (any_of HT_.out (by kernel_rfl)) (fun _ _ _ h => h) (Or.inl ⟨by rfl, ?_⟩) ?_ ?_
                                rotate_left
                                · intro w'
                                  go_simp
                                  with_reducible rfl
                                rotate_left
                                · simp only [Act.put, List.setIfInBounds_toArray, List.set_cons_zero, List.set_cons_succ, i64_w, i32_w]
                                  rfl
                                refine done_ (done_of HT_.out (by kernel_rfl)) ?_
                                obtain ⟨Ao112, co112, eo112⟩ := Kd.R_slice HO216.out
                                subst eo112
                                try go_wp2_with (first | ((with_reducible refine gate_callee (f := 14) rfl ?_); refine goesL_ (some 107) rfl rfl Tryd.func14 (by kernel_rfl) rfl #[.int .u32 a0, .int .u32 a1, .slice Ao112 y214.length co112] rfl (by (try simp only [List.map_toArray, List.map_cons, List.map_nil]); first | done | rfl | (simp only [List.length_drop, List.length_take]; rfl)) ?_; (first | (with_reducible refine (tag_Take.calls GA kj23 a0 a1 _ _ y214 t217 false _ ?side1 ?side2 ?side3 A85.out).mono ?_) | ((try rw [hji36]); (try rw [hji78]); (try rw [← KY49.out]); (try rw [← KY51.out]); (try rw [← KY66.out]); (try rw [← KY68.out]); (try rw [← KY89.out]); (try rw [← KY91.out]); (try rw [← KY104.out]); (try rw [← KY106.out]); (with_reducible refine (tag_Take.calls GA kj23 a0 a1 _ _ y214 t217 false _ ?side1 ?side2 ?side3 A85.out).mono ?_))); (case side1 => repeat (first | exact (Kd.R_reads' HO216.out).2.2 | (with_reducible refine Kd.C_alloc ?_ _) | (with_reducible refine Kd.C_drewN ?_ _) | (with_reducible refine Kd.C_drew ?_))); (case side2 => exact (Kd.R_reads' HO216.out).2.1); (case side3 => exact Glob.below HG.out (by repeat (first | (with_reducible first | exact HB.out | apply below_alloc | apply pw_below_drewN | apply below_drew1) | exact HB.out))); rintro e w113 ⟨v219, rfl, ho0, hb⟩; refine ⟨_, rfl, ?_⟩; have n0_ := Aside0.mk (Kd.R_elder' (by (with_reducible repeat (first | apply Kd.R_alloc | apply Kd.R_drewN | apply Kd.R_drew)); exact HO_17.out) (Kd.R_base ho0) hb); have n1_ := Aside0.mk (Kd.R_elder' (by (with_reducible repeat (first | apply Kd.R_alloc | apply Kd.R_drewN | apply Kd.R_drew)); exact HO_19.out) (Kd.R_base ho0) hb); have n2_ := Aside0.mk (Kd.R_elder' (by (with_reducible repeat (first | apply Kd.R_alloc | apply Kd.R_drewN | apply Kd.R_drew)); exact HO216.out) (Kd.R_base ho0) hb); have n3_ := Aside0.mk (Kd.R_lower (Kd.R_new' (Kd.R_new' (Kd.R_new' ho0 (Kd.R_lt (by (with_reducible repeat (first | apply Kd.R_alloc | apply Kd.R_drewN | apply Kd.R_drew)); exact HO_17.out))) (Kd.R_lt (by (with_reducible repeat (first | apply Kd.R_alloc | apply Kd.R_drewN | apply Kd.R_drew)); exact HO_19.out))) (Kd.R_lt (by (with_reducible repeat (first | apply Kd.R_alloc | apply Kd.R_drewN | apply Kd.R_drew)); exact HO216.out))) (below_size (by repeat (first | (with_reducible first | exact HB.out | apply below_alloc | apply pw_below_drewN | apply below_drew1) | exact HB.out)))); have n4_ := Aside0.mk (Kd.C_below (by repeat (first | (with_reducible exact HR206.out) | (with_reducible refine Kd.C_alloc ?_ _) | (with_reducible refine Kd.C_drewN ?_ _) | (with_reducible refine Kd.C_drew ?_) | exact HR206.out)) hb); have n5_ := Aside0.mk (Kd.C_below (by repeat (first | (with_reducible exact HR213.out) | (with_reducible refine Kd.C_alloc ?_ _) | (with_reducible refine Kd.C_drewN ?_ _) | (with_reducible refine Kd.C_drew ?_) | exact HR213.out)) hb); have n6_ := Aside0.mk (below_step (by repeat (first | (with_reducible first | exact HB.out | apply below_alloc | apply pw_below_drewN | apply below_drew1) | exact HB.out)) hb); clear HO_17; clear HO_19; clear HO216; clear HR206; clear HR213; clear HB; have HO_17 := n0_; have HO_19 := n1_; have HO216 := n2_; have HO220 := n3_; have HR206 := n4_; have HR213 := n5_; have HB := n6_; clear n0_ n1_ n2_ n3_ n4_ n5_ n6_; (try clear hb); (try clear hb2); (try clear hk); (try clear hi); (try clear ho0); have hcv114 := own_string (P := Tryd.prog) Tryd.underlying23 Tryd.underlying5 Tryd.underlying9 (Kd.own_of_R HO216.out); (try (have hcv114d := fun (nd_ : Nat) => own_string (P := Tryd.prog) Tryd.underlying23 Tryd.underlying5 Tryd.underlying9 (pw_own_drewN (Kd.own_of_R HO216.out) nd_))); have hcv115 := own_string (P := Tryd.prog) Tryd.underlying23 Tryd.underlying5 Tryd.underlying9 (Kd.own_of_R HO_17.out); (try (have hcv115d := fun (nd_ : Nat) => own_string (P := Tryd.prog) Tryd.underlying23 Tryd.underlying5 Tryd.underlying9 (pw_own_drewN (Kd.own_of_R HO_17.out) nd_)))))
                                go_ret
                                exact ⟨by first | rfl | (simp [errW_none, errW_some] <;> rfl) | (simp only [← hji78]; first | rfl | (simp [errW_none, errW_some] <;> rfl)) | (simp [*, errW_none, errW_some] <;> rfl), by repeat (first | (with_reducible first | exact HB.out | apply below_alloc | apply pw_below_drewN | apply below_drew1) | exact HB.out)⟩
                            · rw [if_neg c86] at H
                              exact absurd H (by simp)
                          · rw [if_neg c84] at H
                            exact absurd H (by simp)
                        · rw [if_neg c83] at H
                          exact absurd H (by simp)
                      · rw [if_neg c81] at H
                        exact absurd H (by simp)
                    · rw [if_neg c80] at H
                      exact absurd H (by simp)
                  · rw [if_neg c79] at H
                    exact absurd H (by simp)
  · replace c10 := Bool.eq_false_iff.mpr c10
    subst c10
    have H1 : (none) = some r := by rw [if_neg (show ¬ (false = true) by decide)] at H; exact H
    clear H
    have H := H1
    clear H1
    exact absurd H (by simp)

/-- THE ONE PURE STATEMENT of rabbetlaw20_TagTorn: yours. -/
def rabbetlaw20_TagTorn.Pure : Prop := ∀ (a0 : Int) (a1 : Int) (a2 : Int) (a3 : Int) (l4 : List Int) (l5 : List Int) (a6 : Int) (a7 : Bool), (Lit.int .u32 a0).wf = true → (Lit.int .u32 a1).wf = true → (Lit.int .u32 a2).wf = true → (Lit.int .u32 a3).wf = true → l4.length ≤ maxLen → l4.length * 1 ≤ 140737488351232 → (∀ x ∈ l4, (Lit.int .u8 x).wf = true) → l5.length ≤ maxLen → l5.length * 1 ≤ 140737488351232 → (∀ x ∈ l5, (Lit.int .u8 x).wf = true) → (Lit.int .u8 a6).wf = true → ∃ k, rabbetlaw20_TagTorn.f k a0 a1 a2 a3 l4 l5 a6 a7 = some true
theorem rabbetlaw20_TagTorn.walk (P : rabbetlaw20_TagTorn.Pure) (a0 : Int) (a1 : Int) (a2 : Int) (a3 : Int) (a4 : Option Addr) (len4 cap4 : Nat) (z4 : List Int) (a5 : Option Addr) (len5 cap5 : Nat) (z5 : List Int) (a6 : Int) (a7 : Bool) (w : World) (GA : Nat → Addr) (hG : Glob GA w) (w0 : (Lit.int .u32 a0).wf = true) (w1 : (Lit.int .u32 a1).wf = true) (w2 : (Lit.int .u32 a2).wf = true) (w3 : (Lit.int .u32 a3).wf = true) (w4 : (a4 = none ∧ len4 = 0 ∧ cap4 = 0 ∧ z4 = []) ∨ ∃ x, a4 = some x ∧ len4 ≤ cap4 ∧ cap4 ≤ maxLen ∧ z4.length = cap4 ∧ (∀ i, i < z4.length → w.cell? (x.add i) = some (.int .u8 (z4.getD i 0))) ∧ ∀ n ∈ z4, (Lit.int .u8 n).wf = true) (y4 : len4 * 1 ≤ 140737488351232) (w5 : (a5 = none ∧ len5 = 0 ∧ cap5 = 0 ∧ z5 = []) ∨ ∃ x, a5 = some x ∧ len5 ≤ cap5 ∧ cap5 ≤ maxLen ∧ z5.length = cap5 ∧ (∀ i, i < z5.length → w.cell? (x.add i) = some (.int .u8 (z5.getD i 0))) ∧ ∀ n ∈ z5, (Lit.int .u8 n).wf = true) (y5 : len5 * 1 ≤ 140737488351232) (w6 : (Lit.int .u8 a6).wf = true) :
    Calls Tryd.prog 4 #[.int .u32 a0, .int .u32 a1, .int .u32 a2, .int .u32 a3, .slice a4 len4 cap4, .slice a5 len5 cap5, .int .u8 a6, .bool a7] w fun e w' => e = .returned (.bool true) ∧ Below w.heap.size w w' := by
  obtain ⟨l4, rfl, hr4, hm4, hw4, hc4⟩ := ReadsInt.ofRowC w4
  obtain ⟨l5, rfl, hr5, hm5, hw5, hc5⟩ := ReadsInt.ofRowC w5
  obtain ⟨k, h⟩ := P a0 a1 a2 a3 l4 l5 a6 a7 w0 w1 w2 w3 hm4 y4 hw4 hm5 y5 hw5 w6
  refine (rabbetlaw20_TagTorn.calls GA k a0 a1 a2 a3 _ _ l4 _ _ l5 a6 a7 true w (Kd.C_of_reads (d := (0 : Int)) (h1 := fun _ => rfl) hr4) hc4 (Kd.C_of_reads (d := (0 : Int)) (h1 := fun _ => rfl) hr5) hc5 hG h).mono ?_
  rintro e w' ⟨rfl, hd⟩
  exact ⟨rfl, hd⟩

end Go.Proofs.YtaoegbebeogkbaaDoor.PTagTorn
