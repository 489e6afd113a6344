-- Written by xprint.py (a program of this project) out of the translation. Not trusted: Lean checks it. -- squeezed
import Derived.Test.YtigldipjkejalaaDoorPRleAllx0
namespace Go.Proofs.YtigldipjkejalaaDoor.PRleAll
open Go.RowKit Go.Proofs.YtigldipjkejalaaDoorW.PrintWords Go.Proofs.YtigldipjkejalaaDoorW.PrintLast Go.Proofs.YtigldipjkejalaaDoorW.PrintMore
attribute [local go_sem] max2_int min2_int max_two min_two max_three min_three max_four min_four   -- for this text's walks alone
set_option linter.unusedVariables false
set_option linter.unusedSimpArgs false
def num_read.l0 : Nat → List Int → Int → Int → Option (Int × Int × Option Int)
 | 0, _, _, _ => none
 | k + 1, x0, x2, x3 => if x3 < 10 then (if x3 = (x0.length : Int) then (some (0, 0, some 1)) else (if 0 ≤ x3 then (if x3 < (x0.length : Int) then (if 0 ≤ (wrap64 (7 * x3)) then (if (Go.bits .and .u8 (rd x0 x3) 128) = 0 then (if x3 > 0 then (if (rd x0 x3) = 0 then (some (0, 0, some 0)) else (if x3 = 9 then (if (rd x0 x3) > 1 then (some (0, 0, some 0)) else (some (Go.bits .or .u64 x2 (shl .u64 (IntKind.u64.wrap (Go.bits .and .u8 (rd x0 x3) 127)) (wrap64 (7 * x3))), wrap64 (x3 + 1), none))) else (some (Go.bits .or .u64 x2 (shl .u64 (IntKind.u64.wrap (Go.bits .and .u8 (rd x0 x3) 127)) (wrap64 (7 * x3))), wrap64 (x3 + 1), none)))) else (if x3 = 9 then (if (rd x0 x3) > 1 then (some (0, 0, some 0)) else (some (Go.bits .or .u64 x2 (shl .u64 (IntKind.u64.wrap (Go.bits .and .u8 (rd x0 x3) 127)) (wrap64 (7 * x3))), wrap64 (x3 + 1), none))) else (some (Go.bits .or .u64 x2 (shl .u64 (IntKind.u64.wrap (Go.bits .and .u8 (rd x0 x3) 127)) (wrap64 (7 * x3))), wrap64 (x3 + 1), none)))) else (num_read.l0 k x0 (Go.bits .or .u64 x2 (shl .u64 (IntKind.u64.wrap (Go.bits .and .u8 (rd x0 x3) 127)) (wrap64 (7 * x3)))) (wrap64 (x3 + 1)))) else (none)) else (none)) else (none))) else (some (0, 0, some 0))
def num_read.f (k : Nat) (l0 : List Int) : Option (Int × Int × Option Int) := num_read.l0 k l0 0 0
theorem num_read.mono_l : ∀ k, (∀ y0 y1 y2, LeO (num_read.l0 k y0 y1 y2) (num_read.l0 (k + 1) y0 y1 y2))
 | 0 => fun _ _ _ r h => by simp [num_read.l0] at h
 | k + 1 => by
  have ih0 := num_read.mono_l k
  ·
   intro y0 y1 y2
   unfold num_read.l0
   repeat' first
   | (with_reducible exact ih0 _ _ _)
   | (with_reducible exact LeO.refl _)
   | (with_reducible exact LeO.none _)
   | (with_reducible refine LeO.ite ?_ ?_)
   | (with_reducible refine LeO.bind ?_ (fun _ => ?_))
   | exact ih0 _ _ _
   | exact LeO.none _
   | refine LeO.ite ?_ ?_
   | refine LeO.bind ?_ (fun _ => ?_)
theorem num_read.mono : ∀ a0 k, LeO (num_read.f k a0) (num_read.f (k + 1) a0) := by
 intro a0 k
 have ih0 := num_read.mono_l k
 unfold num_read.f
 repeat' first
   | (with_reducible exact ih0 _ _ _)
   | (with_reducible exact LeO.refl _)
   | (with_reducible exact LeO.none _)
   | (with_reducible refine LeO.ite ?_ ?_)
   | (with_reducible refine LeO.bind ?_ (fun _ => ?_))
   | exact ih0 _ _ _
   | exact LeO.none _
   | refine LeO.ite ?_ ?_
   | refine LeO.bind ?_ (fun _ => ?_)
set_option maxHeartbeats 8000000 in
set_option maxRecDepth 100000 in
theorem num_read.calls (GA : Nat → Addr) (k : Nat) (A0 : Option Addr) (c0 : Nat) (l0 : List Int) (r1 : Int) (r2 : Int) (r3 : Option Int) (w : World) (hr0 : Kd.C (Kd.int .u8) w A0 l0.length l0) (hc0 : l0.length ≤ c0) (hG : Glob GA w) (h : num_read.f k l0 = some (r1, r2, r3)) :
  Calls Tryd.prog 72 #[.slice A0 l0.length c0] w fun e w' => e = .returned (.tuple #[.int .u64 r1, .int .i64 r2, errW GA r3]) ∧ Drawn0 w w' := by
 have hu60 := Tryd.underlying60
 have hu111 := Tryd.underlying111
 have HG := ak_ hG
 clear hG
 have HR0 := ak_ hr0
 have HC0 := ak_ hc0
 clear hr0 hc0
 have H : (num_read.l0 k l0 0 0) = some (r1, r2, r3) := h
 clear h
 have H' := ak_ H
 clear H
 go_enter Tryd.func72, Tryd.ntmps72
 go_wp2
 repeat (go_quiet (fail); try go_wp2)
 go_loopg [2, 3] k (fun kq v2 v3 w' => ∃ (x2_1 : Int) (x3_1 : Int), v2 = .int .u64 x2_1 ∧ v3 = .int .i64 x3_1 ∧ Aside0 (num_read.l0 kq l0 x2_1 x3_1 = some (r1, r2, r3)) ∧ Aside0 (kq ≤ k) ∧ Drawn0 w w')
 case atStart => exact ⟨(0), (0), (by first | rfl | (simp; done) | (simp [*]; done)), (by first | rfl | (simp; done) | (simp [*]; done)), H', ⟨Nat.le_refl _⟩, by repeat (first | exact Drawn0.refl _ | apply Drawn0.step)⟩
 case round =>
  clear H'
  obtain ⟨x2_1, x3_1, rfl, rfl, HA, HK1, ⟨m1, rfl⟩⟩ := hrel
  cases gk with
  | zero => exact absurd HA.out (by simp [num_read.l0])
  | succ k1 =>
   have H := HA.out
   clear HA
   simp only [num_read.l0] at H
   by_cases c2 : x3_1 < 10
   ·
    rw [if_pos c2] at H
    have c2b0 : decide (x3_1 < 10) = true := decide_eq_true c2
    clear c2
    by_cases c3 : x3_1 = (l0.length : Int)
    ·
     rw [if_pos c3] at H
     have c3b0 : (x3_1 == (l0.length : Int)) = true := beq_iff_eq.mpr c3
     have c3b1 : (x3_1 != (l0.length : Int)) = false := bne_eq_false_iff_eq.mpr c3
     clear c3
     simp only [Option.some.injEq, Prod.mk.injEq] at H
     obtain ⟨rfl, rfl, rfl⟩ := H
     have hgl4 := HG.out.c2
     go_wp2
     repeat (go_quiet (fail); try go_wp2)
     go_ret3
     exact ⟨by first | rfl | (simp; done) | (simp [*]; done), by repeat (first | exact Drawn0.refl _ | apply Drawn0.step)⟩
    ·
     rw [if_neg c3] at H
     have c3b0 : (x3_1 == (l0.length : Int)) = false := beq_eq_false_iff_ne.mpr c3
     have c3b1 : (x3_1 != (l0.length : Int)) = true := bne_iff_ne.mpr c3
     by_cases c5 : 0 ≤ x3_1
     ·
      rw [if_pos c5] at H
      have c5b0 : decide (0 ≤ x3_1) = true := decide_eq_true c5
      clear c5
      by_cases c6 : x3_1 < (l0.length : Int)
      ·
       rw [if_pos c6] at H
       have c6b0 : decide (x3_1 < (l0.length : Int)) = true := decide_eq_true c6
       clear c6
       obtain ⟨ji7, hji7⟩ : ∃ j_ : Int, (wrap64 (7 * x3_1)) = j_ := ⟨_, rfl⟩
       replace H : (if 0 ≤ (ji7) then (if (Go.bits .and .u8 (rd l0 x3_1) 128) = 0 then (if x3_1 > 0 then (if (rd l0 x3_1) = 0 then (some (0, 0, some 0)) else (if x3_1 = 9 then (if (rd l0 x3_1) > 1 then (some (0, 0, some 0)) else (some (Go.bits .or .u64 x2_1 (shl .u64 (IntKind.u64.wrap (Go.bits .and .u8 (rd l0 x3_1) 127)) (ji7)), wrap64 (x3_1 + 1), none))) else (some (Go.bits .or .u64 x2_1 (shl .u64 (IntKind.u64.wrap (Go.bits .and .u8 (rd l0 x3_1) 127)) (ji7)), wrap64 (x3_1 + 1), none)))) else (if x3_1 = 9 then (if (rd l0 x3_1) > 1 then (some (0, 0, some 0)) else (some (Go.bits .or .u64 x2_1 (shl .u64 (IntKind.u64.wrap (Go.bits .and .u8 (rd l0 x3_1) 127)) (ji7)), wrap64 (x3_1 + 1), none))) else (some (Go.bits .or .u64 x2_1 (shl .u64 (IntKind.u64.wrap (Go.bits .and .u8 (rd l0 x3_1) 127)) (ji7)), wrap64 (x3_1 + 1), none)))) else (num_read.l0 k1 l0 (Go.bits .or .u64 x2_1 (shl .u64 (IntKind.u64.wrap (Go.bits .and .u8 (rd l0 x3_1) 127)) (ji7))) (wrap64 (x3_1 + 1)))) else (none)) = some (r1, r2, r3) := by first | (rw [hji7] at H; exact H) | (simp only [hji7] at H ⊢; exact H) | exact H
       have hji7w : (IntKind.i64.wrap (7 * x3_1)) = ji7 := (i64_w _).trans hji7
       by_cases c8 : 0 ≤ (ji7)
       ·
        rw [if_pos c8] at H
        have c8b0 := eq_true c8
        have c8b1 : decide (0 ≤ (ji7)) = true := decide_eq_true c8
        clear c8
        obtain ⟨ji9, hji9⟩ : ∃ j_ : Int, (shl .u64 (IntKind.u64.wrap (Go.bits .and .u8 (rd l0 x3_1) 127)) (ji7)) = j_ := ⟨_, rfl⟩
        replace H : (if (Go.bits .and .u8 (rd l0 x3_1) 128) = 0 then (if x3_1 > 0 then (if (rd l0 x3_1) = 0 then (some (0, 0, some 0)) else (if x3_1 = 9 then (if (rd l0 x3_1) > 1 then (some (0, 0, some 0)) else (some (Go.bits .or .u64 x2_1 (ji9), wrap64 (x3_1 + 1), none))) else (some (Go.bits .or .u64 x2_1 (ji9), wrap64 (x3_1 + 1), none)))) else (if x3_1 = 9 then (if (rd l0 x3_1) > 1 then (some (0, 0, some 0)) else (some (Go.bits .or .u64 x2_1 (ji9), wrap64 (x3_1 + 1), none))) else (some (Go.bits .or .u64 x2_1 (ji9), wrap64 (x3_1 + 1), none)))) else (num_read.l0 k1 l0 (Go.bits .or .u64 x2_1 (ji9)) (wrap64 (x3_1 + 1)))) = some (r1, r2, r3) := by first | (rw [hji9] at H; exact H) | (simp only [hji9] at H ⊢; exact H) | exact H
        have hji9_ : (IntKind.u64.wrap ((IntKind.u64.wrap (Go.bits .and .u8 (rd l0 x3_1) 127)) * 2 ^ min (ji7).toNat 64)) = ji9 := hji9
        have hji9z : (ji7) ≤ 64 → (IntKind.u64.wrap ((IntKind.u64.wrap (Go.bits .and .u8 (rd l0 x3_1) 127)) * 2 ^ (ji7).toNat)) = ji9 := shl_small hji9
        by_cases c10 : (Go.bits .and .u8 (rd l0 x3_1) 128) = 0
        ·
         rw [if_pos c10] at H
         have c10b0 : ((Go.bits .and .u8 (rd l0 x3_1) 128) == 0) = true := beq_iff_eq.mpr c10
         have c10b1 : ((Go.bits .and .u8 (rd l0 x3_1) 128) != 0) = false := bne_eq_false_iff_eq.mpr c10
         clear c10
         by_cases c11 : x3_1 > 0
         ·
          rw [if_pos c11] at H
          have c11b0 : decide (0 < x3_1) = true := decide_eq_true c11
          clear c11
          by_cases c12 : (rd l0 x3_1) = 0
          ·
           rw [if_pos c12] at H
           have c12b0 : ((rd l0 x3_1) == 0) = true := beq_iff_eq.mpr c12
           have c12b1 : ((rd l0 x3_1) != 0) = false := bne_eq_false_iff_eq.mpr c12
           clear c12
           simp only [Option.some.injEq, Prod.mk.injEq] at H
           obtain ⟨rfl, rfl, rfl⟩ := H
           have p272 : 0 ≤ (x3_1 : Int) := of_decide_eq_true (by first | (with_reducible assumption) | assumption)
           have q272 : x3_1 < (l0.length : Int) := of_decide_eq_true (by first | (with_reducible assumption) | assumption)
           obtain ⟨ad272, e272, hx272_0⟩ := Kd.at_int HR0.out x3_1 p272 q272
           cases e272
           replace p272 := eq_true p272
           replace q272 := eq_true q272
           have hgl13 := HG.out.c3
           go_wp2
           repeat (go_quiet (fail); try go_wp2)
           go_ret3
           exact ⟨by first | rfl | (simp; done) | (simp only [← hji7, ← hji9] <;> (first | rfl | simp)) | (simp [*]; done), by repeat (first | exact Drawn0.refl _ | apply Drawn0.step)⟩
          ·
           rw [if_neg c12] at H
           have c12b0 : ((rd l0 x3_1) == 0) = false := beq_eq_false_iff_ne.mpr c12
           have c12b1 : ((rd l0 x3_1) != 0) = true := bne_iff_ne.mpr c12
           by_cases c14 : x3_1 = 9
           ·
            rw [if_pos c14] at H
            have c14b0 : (x3_1 == 9) = true := beq_iff_eq.mpr c14
            have c14b1 : (x3_1 != 9) = false := bne_eq_false_iff_eq.mpr c14
            clear c14
            by_cases c15 : (rd l0 x3_1) > 1
            ·
             rw [if_pos c15] at H
             have c15b0 : decide (1 < (rd l0 x3_1)) = true := decide_eq_true c15
             clear c15
             simp only [Option.some.injEq, Prod.mk.injEq] at H
             obtain ⟨rfl, rfl, rfl⟩ := H
             have p272 : 0 ≤ (x3_1 : Int) := of_decide_eq_true (by first | (with_reducible assumption) | assumption)
             have q272 : x3_1 < (l0.length : Int) := of_decide_eq_true (by first | (with_reducible assumption) | assumption)
             obtain ⟨ad272, e272, hx272_0⟩ := Kd.at_int HR0.out x3_1 p272 q272
             cases e272
             replace p272 := eq_true p272
             replace q272 := eq_true q272
             have hgl16 := HG.out.c3
             go_wp2
             repeat (go_quiet (fail); try go_wp2)
             go_ret3
             exact ⟨by first | rfl | (simp; done) | (simp only [← hji7, ← hji9] <;> (first | rfl | simp)) | (simp [*]; done), by repeat (first | exact Drawn0.refl _ | apply Drawn0.step)⟩
            ·
             rw [if_neg c15] at H
             have c15b0 : decide (1 < (rd l0 x3_1)) = false := decide_eq_false c15
             clear c15
             simp only [Option.some.injEq, Prod.mk.injEq] at H
             obtain ⟨rfl, rfl, rfl⟩ := H
             have p272 : 0 ≤ (x3_1 : Int) := of_decide_eq_true (by first | (with_reducible assumption) | assumption)
             have q272 : x3_1 < (l0.length : Int) := of_decide_eq_true (by first | (with_reducible assumption) | assumption)
             obtain ⟨ad272, e272, hx272_0⟩ := Kd.at_int HR0.out x3_1 p272 q272
             cases e272
             replace p272 := eq_true p272
             replace q272 := eq_true q272
             go_wp2
             repeat (go_quiet (fail); try go_wp2)
             go_ret3
             exact ⟨by first | rfl | (simp; done) | (simp only [← hji7, ← hji9] <;> (first | rfl | simp)) | (simp [*]; done), by repeat (first | exact Drawn0.refl _ | apply Drawn0.step)⟩
           ·
            rw [if_neg c14] at H
            have c14b0 : (x3_1 == 9) = false := beq_eq_false_iff_ne.mpr c14
            have c14b1 : (x3_1 != 9) = true := bne_iff_ne.mpr c14
            simp only [Option.some.injEq, Prod.mk.injEq] at H
            obtain ⟨rfl, rfl, rfl⟩ := H
            have p272 : 0 ≤ (x3_1 : Int) := of_decide_eq_true (by first | (with_reducible assumption) | assumption)
            have q272 : x3_1 < (l0.length : Int) := of_decide_eq_true (by first | (with_reducible assumption) | assumption)
            obtain ⟨ad272, e272, hx272_0⟩ := Kd.at_int HR0.out x3_1 p272 q272
            cases e272
            replace p272 := eq_true p272
            replace q272 := eq_true q272
            go_wp2
            repeat (go_quiet (fail); try go_wp2)
            go_ret3
            exact ⟨by first | rfl | (simp; done) | (simp only [← hji7, ← hji9] <;> (first | rfl | simp)) | (simp [*]; done), by repeat (first | exact Drawn0.refl _ | apply Drawn0.step)⟩
         ·
          rw [if_neg c11] at H
          have c11b0 : decide (0 < x3_1) = false := decide_eq_false c11
          clear c11
          by_cases c17 : x3_1 = 9
          ·
           rw [if_pos c17] at H
           have c17b0 : (x3_1 == 9) = true := beq_iff_eq.mpr c17
           have c17b1 : (x3_1 != 9) = false := bne_eq_false_iff_eq.mpr c17
           clear c17
           by_cases c18 : (rd l0 x3_1) > 1
           ·
            rw [if_pos c18] at H
            have c18b0 : decide (1 < (rd l0 x3_1)) = true := decide_eq_true c18
            clear c18
            simp only [Option.some.injEq, Prod.mk.injEq] at H
            obtain ⟨rfl, rfl, rfl⟩ := H
            have p272 : 0 ≤ (x3_1 : Int) := of_decide_eq_true (by first | (with_reducible assumption) | assumption)
            have q272 : x3_1 < (l0.length : Int) := of_decide_eq_true (by first | (with_reducible assumption) | assumption)
            obtain ⟨ad272, e272, hx272_0⟩ := Kd.at_int HR0.out x3_1 p272 q272
            cases e272
            replace p272 := eq_true p272
            replace q272 := eq_true q272
            have hgl19 := HG.out.c3
            go_wp2
            repeat (go_quiet (fail); try go_wp2)
            go_ret3
            exact ⟨by first | rfl | (simp; done) | (simp only [← hji7, ← hji9] <;> (first | rfl | simp)) | (simp [*]; done), by repeat (first | exact Drawn0.refl _ | apply Drawn0.step)⟩
           ·
            rw [if_neg c18] at H
            have c18b0 : decide (1 < (rd l0 x3_1)) = false := decide_eq_false c18
            clear c18
            simp only [Option.some.injEq, Prod.mk.injEq] at H
            obtain ⟨rfl, rfl, rfl⟩ := H
            have p272 : 0 ≤ (x3_1 : Int) := of_decide_eq_true (by first | (with_reducible assumption) | assumption)
            have q272 : x3_1 < (l0.length : Int) := of_decide_eq_true (by first | (with_reducible assumption) | assumption)
            obtain ⟨ad272, e272, hx272_0⟩ := Kd.at_int HR0.out x3_1 p272 q272
            cases e272
            replace p272 := eq_true p272
            replace q272 := eq_true q272
            go_wp2
            repeat (go_quiet (fail); try go_wp2)
            go_ret3
            exact ⟨by first | rfl | (simp; done) | (simp only [← hji7, ← hji9] <;> (first | rfl | simp)) | (simp [*]; done), by repeat (first | exact Drawn0.refl _ | apply Drawn0.step)⟩
          ·
           rw [if_neg c17] at H
           have c17b0 : (x3_1 == 9) = false := beq_eq_false_iff_ne.mpr c17
           have c17b1 : (x3_1 != 9) = true := bne_iff_ne.mpr c17
           simp only [Option.some.injEq, Prod.mk.injEq] at H
           obtain ⟨rfl, rfl, rfl⟩ := H
           have p272 : 0 ≤ (x3_1 : Int) := of_decide_eq_true (by first | (with_reducible assumption) | assumption)
           have q272 : x3_1 < (l0.length : Int) := of_decide_eq_true (by first | (with_reducible assumption) | assumption)
           obtain ⟨ad272, e272, hx272_0⟩ := Kd.at_int HR0.out x3_1 p272 q272
           cases e272
           replace p272 := eq_true p272
           replace q272 := eq_true q272
           go_wp2
           repeat (go_quiet (fail); try go_wp2)
           go_ret3
           exact ⟨by first | rfl | (simp; done) | (simp only [← hji7, ← hji9] <;> (first | rfl | simp)) | (simp [*]; done), by repeat (first | exact Drawn0.refl _ | apply Drawn0.step)⟩
        ·
         rw [if_neg c10] at H
         have c10b0 : ((Go.bits .and .u8 (rd l0 x3_1) 128) == 0) = false := beq_eq_false_iff_ne.mpr c10
         have c10b1 : ((Go.bits .and .u8 (rd l0 x3_1) 128) != 0) = true := bne_iff_ne.mpr c10
         have H' := ak_ H
         clear H
         have p272 : 0 ≤ (x3_1 : Int) := of_decide_eq_true (by first | (with_reducible assumption) | assumption)
         have q272 : x3_1 < (l0.length : Int) := of_decide_eq_true (by first | (with_reducible assumption) | assumption)
         obtain ⟨ad272, e272, hx272_0⟩ := Kd.at_int HR0.out x3_1 p272 q272
         cases e272
         replace p272 := eq_true p272
         replace q272 := eq_true q272
         go_wp2
         repeat (go_quiet (fail); try go_wp2)
         go_roundg k1
         case measure => have := HK1.out; omega
         case rel => exact ⟨(Go.bits .or .u64 x2_1 (ji9)), (wrap64 (x3_1 + 1)), (by first | rfl | (simp; done) | (simp only [← hji9] <;> (first | rfl | simp)) | (simp [*]; done)), (by first | rfl | (simp; done) | (simp [*]; done)), H', ⟨by have := HK1.out; omega⟩, by repeat (first | exact Drawn0.refl _ | apply Drawn0.step)⟩
       ·
        rw [if_neg c8] at H
        exact absurd H (by simp)
      ·
       rw [if_neg c6] at H
       exact absurd H (by simp)
     ·
      rw [if_neg c5] at H
      exact absurd H (by simp)
   ·
    rw [if_neg c2] at H
    have c2b0 : decide (x3_1 < 10) = false := decide_eq_false c2
    clear c2
    simp only [Option.some.injEq, Prod.mk.injEq] at H
    obtain ⟨rfl, rfl, rfl⟩ := H
    have hgl20 := HG.out.c3
    go_wp2
    repeat (go_quiet (fail); try go_wp2)
    go_ret3
    exact ⟨by first | rfl | (simp; done) | (simp [*]; done), by repeat (first | exact Drawn0.refl _ | apply Drawn0.step)⟩
def num_Take.f (k : Nat) (l0 : List Int) : Option (Int × Int × Bool) := (num_read.f k l0).bind fun bt273 => (if bt273.2.2.isNone = true then ((errors_IsN.f () 2).bind fun t277 => (if t277 = true then (some (bt273.1, bt273.2.1, false)) else ((errors_IsN.f () 3).bind fun t278 => (some (bt273.1, bt273.2.1, !t278))))) else ((errors_IsS.f (bt273.2.2.getD 0) 2).bind fun t279 => (if t279 = true then (some (bt273.1, bt273.2.1, false)) else ((errors_IsS.f (bt273.2.2.getD 0) 3).bind fun t280 => (some (bt273.1, bt273.2.1, !t280))))))
theorem num_Take.mono : ∀ a0 k, LeO (num_Take.f k a0) (num_Take.f (k + 1) a0) := by
 intro a0 k
 unfold num_Take.f
 repeat' first
   | (with_reducible exact num_read.mono _ _)
   | (with_reducible exact LeO.refl _)
   | (with_reducible exact LeO.none _)
   | (with_reducible refine LeO.ite ?_ ?_)
   | (with_reducible refine LeO.bind ?_ (fun _ => ?_))
   | exact num_read.mono _ _
   | exact LeO.none _
   | refine LeO.ite ?_ ?_
   | refine LeO.bind ?_ (fun _ => ?_)
set_option maxHeartbeats 8000000 in
set_option maxRecDepth 100000 in
theorem num_Take.calls (GA : Nat → Addr) (k : Nat) (A0 : Option Addr) (c0 : Nat) (l0 : List Int) (r1 : Int) (r2 : Int) (r3 : Bool) (w : World) (hr0 : Kd.C (Kd.int .u8) w A0 l0.length l0) (hc0 : l0.length ≤ c0) (hG : Glob GA w) (h : num_Take.f k l0 = some (r1, r2, r3)) :
  Calls Tryd.prog 57 #[.slice A0 l0.length c0] w fun e w' => e = .returned (.tuple #[.int .u64 r1, .int .i64 r2, .bool r3]) ∧ Below w.heap.size w w' := by
 have HG := ak_ hG
 clear hG
 have HR0 := ak_ hr0
 have HC0 := ak_ hc0
 clear hr0 hc0
 have HB := ak_ (Below.refl w.heap.size w)
 have H : ((num_read.f k l0).bind fun bt273 => (if bt273.2.2.isNone = true then ((errors_IsN.f () 2).bind fun t277 => (if t277 = true then (some (bt273.1, bt273.2.1, false)) else ((errors_IsN.f () 3).bind fun t278 => (some (bt273.1, bt273.2.1, !t278))))) else ((errors_IsS.f (bt273.2.2.getD 0) 2).bind fun t279 => (if t279 = true then (some (bt273.1, bt273.2.1, false)) else ((errors_IsS.f (bt273.2.2.getD 0) 3).bind fun t280 => (some (bt273.1, bt273.2.1, !t280))))))) = some (r1, r2, r3) := h
 clear h
 replace H := Option.bind_eq_some_iff.mp H
 obtain ⟨⟨t273, t274, t275⟩, A20, H⟩ := H
 replace H : (if t275.isNone = true then ((errors_IsN.f () 2).bind fun t277 => (if t277 = true then (some (t273, t274, false)) else ((errors_IsN.f () 3).bind fun t278 => (some (t273, t274, !t278))))) else ((errors_IsS.f (t275.getD 0) 2).bind fun t279 => (if t279 = true then (some (t273, t274, false)) else ((errors_IsS.f (t275.getD 0) 3).bind fun t280 => (some (t273, t274, !t280)))))) = some (r1, r2, r3) := H
 have A2 := ak_ A20
 clear A20
 rcases t275 with _ | q276
 ·
  have H1 : ((errors_IsN.f () 2).bind fun t277 => (if t277 = true then (some (t273, t274, false)) else ((errors_IsN.f () 3).bind fun t278 => (some (t273, t274, !t278))))) = some (r1, r2, r3) := by rw [if_pos (show (none : Option Int).isNone = true by rfl)] at H; exact H
  clear H
  have H := H1
  clear H1
  try simp only [errW_none, errW_some]
  replace H := Option.bind_eq_some_iff.mp H
  obtain ⟨t277, A30, H⟩ := H
  replace H : (if t277 = true then (some (t273, t274, false)) else ((errors_IsN.f () 3).bind fun t278 => (some (t273, t274, !t278)))) = some (r1, r2, r3) := H
  have A3 := ak_ A30
  clear A30
  by_cases c4 : t277 = true
  ·
   subst c4
   have H1 : (some (t273, t274, false)) = some (r1, r2, r3) := by rw [if_pos rfl] at H; exact H
   clear H
   have H := H1
   clear H1
   simp only [Option.some.injEq, Prod.mk.injEq] at H
   obtain ⟨rfl, rfl, rfl⟩ := H
   go_enter Tryd.func57, Tryd.ntmps57
   go_wp2_with (first | ((with_reducible refine gate_callee (f := 72) rfl ?_); refine goesL_ (some 8) rfl rfl Tryd.func72 (by kernel_rfl) rfl #[.slice A0 l0.length c0] rfl (by (try simp only [List.map_toArray, List.map_cons, List.map_nil]); first | done | rfl | (simp only [List.length_drop, List.length_take]; rfl)) ?_; (with_reducible refine (num_read.calls GA k _ _ l0 t273 t274 none _ ?side1 ?side2 ?side3 A2.out).mono ?_); (case side1 => repeat (first | exact HR0.out | (with_reducible refine Kd.C_alloc ?_ _) | (with_reducible refine Kd.C_drewN ?_ _) | (with_reducible refine Kd.C_drew ?_))); (case side2 => exact HC0.out); (case side3 => exact Glob.below HG.out (by repeat (first | (with_reducible first | exact HB.out | apply bl_a | apply bl_n | apply bl_d) | exact HB.out))); rintro e w' ⟨rfl, ⟨nd, rfl⟩⟩; refine ⟨_, rfl, ?_⟩; (try simp only [errW_none, errW_some]); have hgl5 := HG.out.c2) | ((with_reducible refine gate_callee (f := 41) rfl ?_); refine goesL_ (some 16) rfl rfl Tryd.func41 (by kernel_rfl) rfl #[.nilIface, .iface 117 (.pointer (some (GA 2)))] rfl (by (try simp only [List.map_toArray, List.map_cons, List.map_nil]); first | done | rfl | (simp only [List.length_drop, List.length_take]; rfl)) ?_; (with_reducible refine (errors_IsN.calls GA () 2 true _ ?side1 A3.out).mono ?_); (case side1 => exact Glob.below HG.out (by repeat (first | (with_reducible first | exact HB.out | apply bl_a | apply bl_n | apply bl_d) | exact HB.out))); rintro e w' ⟨rfl, ⟨nd, rfl⟩⟩; refine ⟨_, rfl, ?_⟩))
   go_ret3
   exact ⟨by first | rfl | (simp [errW_none, errW_some] <;> rfl) | (simp [*, errW_none, errW_some] <;> rfl), by repeat (first | (with_reducible first | exact HB.out | apply bl_a | apply bl_n | apply bl_d) | exact HB.out)⟩
  ·
   replace c4 := Bool.eq_false_iff.mpr c4
   subst c4
   have H1 : ((errors_IsN.f () 3).bind fun t278 => (some (t273, t274, !t278))) = some (r1, r2, r3) := by rw [if_neg (show ¬ (false = true) by decide)] at H; exact H
   clear H
   have H := H1
   clear H1
   replace H := Option.bind_eq_some_iff.mp H
   obtain ⟨t278, A60, H⟩ := H
   replace H : (some (t273, t274, !t278)) = some (r1, r2, r3) := H
   have A6 := ak_ A60
   clear A60
   simp only [Option.some.injEq, Prod.mk.injEq] at H
   obtain ⟨rfl, rfl, rfl⟩ := H
   (try (have e_ : t277 = t278 := (by (with_reducible exact Option.some.inj (A3.out.symm.trans A6.out))); subst e_))
   go_enter Tryd.func57, Tryd.ntmps57
   go_wp2_with (first | ((with_reducible refine gate_callee (f := 72) rfl ?_); refine goesL_ (some 8) rfl rfl Tryd.func72 (by kernel_rfl) rfl #[.slice A0 l0.length c0] rfl (by (try simp only [List.map_toArray, List.map_cons, List.map_nil]); first | done | rfl | (simp only [List.length_drop, List.length_take]; rfl)) ?_; (with_reducible refine (num_read.calls GA k _ _ l0 t273 t274 none _ ?side1 ?side2 ?side3 A2.out).mono ?_); (case side1 => repeat (first | exact HR0.out | (with_reducible refine Kd.C_alloc ?_ _) | (with_reducible refine Kd.C_drewN ?_ _) | (with_reducible refine Kd.C_drew ?_))); (case side2 => exact HC0.out); (case side3 => exact Glob.below HG.out (by repeat (first | (with_reducible first | exact HB.out | apply bl_a | apply bl_n | apply bl_d) | exact HB.out))); rintro e w' ⟨rfl, ⟨nd, rfl⟩⟩; refine ⟨_, rfl, ?_⟩; (try simp only [errW_none, errW_some]); have hgl7 := HG.out.c2) | ((with_reducible refine gate_callee (f := 41) rfl ?_); refine goesL_ (some 16) rfl rfl Tryd.func41 (by kernel_rfl) rfl #[.nilIface, .iface 117 (.pointer (some (GA 2)))] rfl (by (try simp only [List.map_toArray, List.map_cons, List.map_nil]); first | done | rfl | (simp only [List.length_drop, List.length_take]; rfl)) ?_; (with_reducible refine (errors_IsN.calls GA () 2 false _ ?side1 A3.out).mono ?_); (case side1 => exact Glob.below HG.out (by repeat (first | (with_reducible first | exact HB.out | apply bl_a | apply bl_n | apply bl_d) | exact HB.out))); rintro e w' ⟨rfl, ⟨nd, rfl⟩⟩; refine ⟨_, rfl, ?_⟩; have hgl8 := HG.out.c3) | (go_at_call 41; (with_reducible refine (errors_IsN.calls GA () 3 t278 _ ?side1 A6.out).mono ?_); (case side1 => exact Glob.below HG.out (by repeat (first | (with_reducible first | exact HB.out | apply bl_a | apply bl_n | apply bl_d) | exact HB.out))); rintro e w' ⟨rfl, ⟨nd, rfl⟩⟩))
   go_ret3
   exact ⟨by first | rfl | (simp [errW_none, errW_some] <;> rfl) | (simp [*, errW_none, errW_some] <;> rfl), by repeat (first | (with_reducible first | exact HB.out | apply bl_a | apply bl_n | apply bl_d) | exact HB.out)⟩
 ·
  have H1 : ((errors_IsS.f q276 2).bind fun t279 => (if t279 = true then (some (t273, t274, false)) else ((errors_IsS.f q276 3).bind fun t280 => (some (t273, t274, !t280))))) = some (r1, r2, r3) := by rw [if_neg (show ¬ (some q276).isNone = true by simp)] at H; exact H
  clear H
  have H := H1
  clear H1
  try simp only [errW_none, errW_some]
  replace H := Option.bind_eq_some_iff.mp H
  obtain ⟨t279, A90, H⟩ := H
  replace H : (if t279 = true then (some (t273, t274, false)) else ((errors_IsS.f q276 3).bind fun t280 => (some (t273, t274, !t280)))) = some (r1, r2, r3) := H
  have A9 := ak_ A90
  clear A90
  by_cases c10 : t279 = true
  ·
   subst c10
   have H1 : (some (t273, t274, false)) = some (r1, r2, r3) := by rw [if_pos rfl] at H; exact H
   clear H
   have H := H1
   clear H1
   simp only [Option.some.injEq, Prod.mk.injEq] at H
   obtain ⟨rfl, rfl, rfl⟩ := H
   go_enter Tryd.func57, Tryd.ntmps57
   go_wp2_with (first | ((with_reducible refine gate_callee (f := 72) rfl ?_); refine goesL_ (some 8) rfl rfl Tryd.func72 (by kernel_rfl) rfl #[.slice A0 l0.length c0] rfl (by (try simp only [List.map_toArray, List.map_cons, List.map_nil]); first | done | rfl | (simp only [List.length_drop, List.length_take]; rfl)) ?_; (with_reducible refine (num_read.calls GA k _ _ l0 t273 t274 (some q276) _ ?side1 ?side2 ?side3 A2.out).mono ?_); (case side1 => repeat (first | exact HR0.out | (with_reducible refine Kd.C_alloc ?_ _) | (with_reducible refine Kd.C_drewN ?_ _) | (with_reducible refine Kd.C_drew ?_))); (case side2 => exact HC0.out); (case side3 => exact Glob.below HG.out (by repeat (first | (with_reducible first | exact HB.out | apply bl_a | apply bl_n | apply bl_d) | exact HB.out))); rintro e w' ⟨rfl, ⟨nd, rfl⟩⟩; refine ⟨_, rfl, ?_⟩; (try simp only [errW_none, errW_some]); have hgl11 := HG.out.c2) | ((with_reducible refine gate_callee (f := 41) rfl ?_); refine goesL_ (some 16) rfl rfl Tryd.func41 (by kernel_rfl) rfl #[.iface (errT q276) (errA GA q276), .iface 117 (.pointer (some (GA 2)))] rfl (by (try simp only [List.map_toArray, List.map_cons, List.map_nil]); first | done | rfl | (simp only [List.length_drop, List.length_take]; rfl)) ?_; (with_reducible refine (errors_IsS.calls GA q276 2 true _ ?side1 A9.out).mono ?_); (case side1 => exact Glob.below HG.out (by repeat (first | (with_reducible first | exact HB.out | apply bl_a | apply bl_n | apply bl_d) | exact HB.out))); rintro e w12 ⟨rfl, hb⟩; refine ⟨_, rfl, ?_⟩; have n0_ := ak_ (below_step (by repeat (first | (with_reducible first | exact HB.out | apply bl_a | apply bl_n | apply bl_d) | exact HB.out)) hb); clear HB; have HB := n0_; clear n0_; (try clear hb); (try clear hb2); (try clear hk); (try clear hi)))
   go_ret3
   exact ⟨by first | rfl | (simp [errW_none, errW_some] <;> rfl) | (simp [*, errW_none, errW_some] <;> rfl), by repeat (first | (with_reducible first | exact HB.out | apply bl_a | apply bl_n | apply bl_d) | exact HB.out)⟩
  ·
   replace c10 := Bool.eq_false_iff.mpr c10
   subst c10
   have H1 : ((errors_IsS.f q276 3).bind fun t280 => (some (t273, t274, !t280))) = some (r1, r2, r3) := by rw [if_neg (show ¬ (false = true) by decide)] at H; exact H
   clear H
   have H := H1
   clear H1
   replace H := Option.bind_eq_some_iff.mp H
   obtain ⟨t280, A130, H⟩ := H
   replace H : (some (t273, t274, !t280)) = some (r1, r2, r3) := H
   have A13 := ak_ A130
   clear A130
   simp only [Option.some.injEq, Prod.mk.injEq] at H
   obtain ⟨rfl, rfl, rfl⟩ := H
   (try (have e_ : t279 = t280 := (by (with_reducible exact Option.some.inj (A9.out.symm.trans A13.out))); subst e_))
   go_enter Tryd.func57, Tryd.ntmps57
   go_wp2_with (first | ((with_reducible refine gate_callee (f := 72) rfl ?_); refine goesL_ (some 8) rfl rfl Tryd.func72 (by kernel_rfl) rfl #[.slice A0 l0.length c0] rfl (by (try simp only [List.map_toArray, List.map_cons, List.map_nil]); first | done | rfl | (simp only [List.length_drop, List.length_take]; rfl)) ?_; (with_reducible refine (num_read.calls GA k _ _ l0 t273 t274 (some q276) _ ?side1 ?side2 ?side3 A2.out).mono ?_); (case side1 => repeat (first | exact HR0.out | (with_reducible refine Kd.C_alloc ?_ _) | (with_reducible refine Kd.C_drewN ?_ _) | (with_reducible refine Kd.C_drew ?_))); (case side2 => exact HC0.out); (case side3 => exact Glob.below HG.out (by repeat (first | (with_reducible first | exact HB.out | apply bl_a | apply bl_n | apply bl_d) | exact HB.out))); rintro e w' ⟨rfl, ⟨nd, rfl⟩⟩; refine ⟨_, rfl, ?_⟩; (try simp only [errW_none, errW_some]); have hgl14 := HG.out.c2) | ((with_reducible refine gate_callee (f := 41) rfl ?_); refine goesL_ (some 16) rfl rfl Tryd.func41 (by kernel_rfl) rfl #[.iface (errT q276) (errA GA q276), .iface 117 (.pointer (some (GA 2)))] rfl (by (try simp only [List.map_toArray, List.map_cons, List.map_nil]); first | done | rfl | (simp only [List.length_drop, List.length_take]; rfl)) ?_; (with_reducible refine (errors_IsS.calls GA q276 2 false _ ?side1 A9.out).mono ?_); (case side1 => exact Glob.below HG.out (by repeat (first | (with_reducible first | exact HB.out | apply bl_a | apply bl_n | apply bl_d) | exact HB.out))); rintro e w15 ⟨rfl, hb⟩; refine ⟨_, rfl, ?_⟩; have n0_ := ak_ (below_step (by repeat (first | (with_reducible first | exact HB.out | apply bl_a | apply bl_n | apply bl_d) | exact HB.out)) hb); clear HB; have HB := n0_; clear n0_; (try clear hb); (try clear hb2); (try clear hk); (try clear hi); have hgl16 := (HB.out.cell (World.block_lt_of_cell? w _ HG.out.c3)).trans HG.out.c3) | (go_at_call 41; (with_reducible refine (errors_IsS.calls GA q276 3 t280 _ ?side1 A13.out).mono ?_); (case side1 => exact Glob.below HG.out (by repeat (first | (with_reducible first | exact HB.out | apply bl_a | apply bl_n | apply bl_d) | exact HB.out))); rintro e w17 ⟨rfl, hb⟩; have n0_ := ak_ (below_step (by repeat (first | (with_reducible first | exact HB.out | apply bl_a | apply bl_n | apply bl_d) | exact HB.out)) hb); clear HB; have HB := n0_; clear n0_; (try clear hb); (try clear hb2); (try clear hk); (try clear hi)))
   go_ret3
   exact ⟨by first | rfl | (simp [errW_none, errW_some] <;> rfl) | (simp [*, errW_none, errW_some] <;> rfl), by repeat (first | (with_reducible first | exact HB.out | apply bl_a | apply bl_n | apply bl_d) | exact HB.out)⟩
def bytes_Equal.f (l0 : List Int) (l1 : List Int) : Option (Bool) := some ((strOfNums l0).toList == (strOfNums l1).toList)
set_option maxHeartbeats 8000000 in
set_option maxRecDepth 100000 in
theorem bytes_Equal.calls (A0 : Option Addr) (c0 : Nat) (l0 : List Int) (A1 : Option Addr) (c1 : Nat) (l1 : List Int) (r : Bool) (w : World) (hr0 : Kd.C (Kd.int .u8) w A0 l0.length l0) (hc0 : l0.length ≤ c0) (hr1 : Kd.C (Kd.int .u8) w A1 l1.length l1) (hc1 : l1.length ≤ c1) (h : bytes_Equal.f l0 l1 = some r) :
  Calls Tryd.prog 60 #[.slice A0 l0.length c0, .slice A1 l1.length c1] w fun e w' => e = .returned (.bool r) ∧ Drawn0 w w' := by
 have HR0 := ak_ hr0
 have HC0 := ak_ hc0
 clear hr0 hc0
 have HR1 := ak_ hr1
 have HC1 := ak_ hc1
 clear hr1 hc1
 have H : (some ((strOfNums l0).toList == (strOfNums l1).toList)) = some r := h
 clear h
 obtain rfl := Option.some.inj H
 have hcv3 := Kd.C_string (P := Tryd.prog) (A := A0) (c := c0) Tryd.underlying22 Tryd.underlying5 Tryd.underlying9 HR0.out
 have hcv4 := Kd.C_string (P := Tryd.prog) (A := A1) (c := c1) Tryd.underlying22 Tryd.underlying5 Tryd.underlying9 HR1.out
 go_enter Tryd.func60, Tryd.ntmps60
 go_wp2
 go_ret
 exact ⟨by first | rfl | (simp; done) | (simp [*]; done), by repeat (first | exact Drawn0.refl _ | apply Drawn0.step)⟩
def num_Zag.f (a0 : Int) : Option (Int) := some (Go.bits .xor .i64 (wrap64 (a0 / 2)) (wrap64 (-(wrap64 (Go.bits .and .u64 a0 1)))))
set_option maxHeartbeats 8000000 in
set_option maxRecDepth 100000 in
theorem num_Zag.calls (a0 : Int) (r : Int) (w : World) (h : num_Zag.f a0 = some r) :
  Calls Tryd.prog 59 #[.int .u64 a0] w fun e w' => e = .returned (.int .i64 r) ∧ Drawn0 w w' := by
 have H : (some (Go.bits .xor .i64 (wrap64 (a0 / 2)) (wrap64 (-(wrap64 (Go.bits .and .u64 a0 1)))))) = some r := h
 clear h
 obtain rfl := Option.some.inj H
 go_enter Tryd.func59, Tryd.ntmps59
 go_wp2
 go_ret
 exact ⟨by first | rfl | (simp; done) | (simp [*]; done), by repeat (first | exact Drawn0.refl _ | apply Drawn0.step)⟩
def rle_first.f (k : Nat) (a0 : Int) (l1 : List Int) : Option (Int × Int × ByteArray × Int × Option Int) :=
 if a0 ≠ 3 ∧ a0 ≠ 4 then (num_Take.f k l1).bind fun b => (if b.2.2 = true then (num_Zag.f b.1).bind fun z => some (a0, z, (⟨#[]⟩ : ByteArray), b.2.1, none) else some (a0, 0, (⟨#[]⟩ : ByteArray), 0, some 2))
 else if l1.length = 0 then some (a0, 0, (⟨#[]⟩ : ByteArray), 0, some 3)
 else if 0 ≤ rd l1 0 ∧ rd l1 0 ≤ 255 then (if a0 = 3 then some (a0, rd l1 0, (⟨#[]⟩ : ByteArray), 1, none) else if (l1.length : Int) < 1 + rd l1 0 then some (a0, 0, (⟨#[]⟩ : ByteArray), 0, some 4) else some (a0, 0, strOfNums ((l1.take (1 + rd l1 0).toNat).drop 1), 1 + rd l1 0, none)) else none
theorem rle_first.mono : ∀ a0 a1 k, LeO (rle_first.f k a0 a1) (rle_first.f (k + 1) a0 a1) := by
 intro a0 a1 k
 unfold rle_first.f
 repeat' first
   | (with_reducible exact num_Take.mono _ _)
   | (with_reducible exact LeO.refl _)
   | (with_reducible exact LeO.none _)
   | (with_reducible refine LeO.ite ?_ ?_)
   | (with_reducible refine LeO.bind ?_ (fun _ => ?_))
theorem rle_first.res {tmps : Array Value} {w : World} {g : Nat} {cs : Array Value} (h4 : tmps.getD 4 undef = .pointer (some ⟨g, 0, none⟩)) (hg : w.heap[g]? = some (.cells cs 26 (0, 0))) (hs : cs.size = 3) :
  (results Tryd.f68 tmps).run Tryd.prog w = .ok (.tuple #[.agg cs, tmps.getD 5 undef, tmps.getD 6 undef]) w :=
 results_list (rs := [.cell 4 26, .tmp 5, .tmp 6]) (vs := [.agg cs, tmps.getD 5 undef, tmps.getD 6 undef]) (by kernel_rfl) (by simp) (Vals.cell g 26 cs (0, 0) _ h4 hg Tryd.underlying26 rfl (by rw [hs]; kernel_rfl) (Vals.tmp (Vals.tmp Vals.nil)))
theorem rle_first.glob_ne {GA : Nat → Addr} {w : World} (hG : Glob GA w) : ∀ (W : World) (u : Value), (W.setCell ⟨w.heap.size, 0, none⟩ u).cell? ⟨1, 0, none⟩ = W.cell? ⟨1, 0, none⟩ := fun W u => cell_far (by
  have h2 : (1 : Nat) < w.heap.size := World.block_lt_of_cell? w _ hG.c1
  show (1 : Nat) ≠ w.heap.size
  omega) u
set_option maxHeartbeats 8000000 in
set_option maxRecDepth 100000 in
theorem rle_first.nonum (GA : Nat → Addr) (k : Nat) (a0 : Int) (A1 : Option Addr) (c1 : Nat) (l1 : List Int) (x y : Int) (w : World) (hr1 : Kd.C (Kd.int .u8) w A1 l1.length l1) (hc1 : l1.length ≤ c1) (hG : Glob GA w)
  (h3 : a0 ≠ 3) (h4 : a0 ≠ 4) (ht : num_Take.f k l1 = some (x, y, false)) :
  Calls Tryd.prog 68 #[.int .i64 a0, .slice A1 l1.length c1] w fun e w' => e = .returned (.tuple #[.agg #[.int .i64 a0, .int .i64 0, .string (⟨#[]⟩ : ByteArray)], .int .i64 0, errW GA (some 2)]) ∧ Below w.heap.size w w' := by
 have HR1 := ak_ hr1
 have HC1 := ak_ hc1
 have HG := ak_ hG
 have HT := ak_ ht
 clear hr1 hc1 hG ht
 have b3 : (a0 == 3) = false := beq_eq_false_iff_ne.mpr h3
 have b4 : (a0 == 4) = false := beq_eq_false_iff_ne.mpr h4
 have n3 : (a0 != 3) = true := bne_iff_ne.mpr h3
 have n4 : (a0 != 4) = true := bne_iff_ne.mpr h4
 clear h3 h4
 go_enter Tryd.func68, Tryd.ntmps68
 go_wp2_with (go_at_call 57; (refine (num_Take.calls GA k _ _ l1 x y false _ ?side1 ?side2 ?side3 HT.out).mono ?_); (case side1 => exact Kd.C_below HR1.out (by repeat (first | exact Below.refl _ _ | apply bl_a | apply below_set))); (case side2 => exact HC1.out); (case side3 => exact Glob.below HG.out (by repeat (first | exact Below.refl _ _ | apply bl_a))); rintro e w1 ⟨rfl, hb⟩)
 have hc0 : w1.cell? ⟨w.heap.size, 0, none⟩ = some (.int .i64 a0) := (hb.cell (by simp)).trans (by simp)
 have hc1 : w1.cell? ⟨w.heap.size, 1, none⟩ = some (.int .i64 0) := (hb.cell (by simp)).trans (by simp)
 have hc2 : w1.cell? ⟨w.heap.size, 2, none⟩ = some (.string (⟨#[]⟩ : ByteArray)) := (hb.cell (by simp)).trans (by simp)
 have hk : w1.heap[w.heap.size]? = some (.cells #[.int .i64 a0, .int .i64 0, .string (⟨#[]⟩ : ByteArray)] 26 (0, 0)) := (hb.block _ (by simp)).trans (by show (w.heap.push _)[w.heap.size]? = _; simp)
 have hf0 := blk_frozen hk 0
 have hf1 := blk_frozen hk 1
 have hf2 := blk_frozen hk 2
 have HBB := ak_ (below_step (bl_a (Below.refl _ _) _) hb)
 have hgl := (Glob.below HG.out HBB.out).c1
 have HK := ak_ hk
 have hs0 := rle_first.glob_ne HG.out
 clear hb hk
 go_region
 go_wp2
 refine bodyPost_ret (rle_first.res rfl (by refine bk_d ?_; refine blk_put (cs := #[.int .i64 a0, .int .i64 0, .string (⟨#[]⟩ : ByteArray)]) ?_ 2 _ rfl; refine blk_put (cs := #[.int .i64 a0, .int .i64 0, .string (⟨#[]⟩ : ByteArray)]) ?_ 1 _ rfl; refine blk_put (cs := #[.int .i64 a0, .int .i64 0, .string (⟨#[]⟩ : ByteArray)]) ?_ 0 _ rfl; exact HK.out) rfl) rfl ?_
 exact ⟨by first | rfl | (simp only [errW_some]; rfl) | (rw [List.drop_one]; rfl), by repeat (first | exact HBB.out | apply bl_d | refine below_set ?_ (Nat.le_refl _))⟩
set_option maxHeartbeats 8000000 in
set_option maxRecDepth 100000 in
theorem rle_first.num (GA : Nat → Addr) (k : Nat) (a0 : Int) (A1 : Option Addr) (c1 : Nat) (l1 : List Int) (x y z : Int) (w : World) (hr1 : Kd.C (Kd.int .u8) w A1 l1.length l1) (hc1 : l1.length ≤ c1) (hG : Glob GA w)
  (h3 : a0 ≠ 3) (h4 : a0 ≠ 4) (ht : num_Take.f k l1 = some (x, y, true)) (hz : num_Zag.f x = some z) :
  Calls Tryd.prog 68 #[.int .i64 a0, .slice A1 l1.length c1] w fun e w' => e = .returned (.tuple #[.agg #[.int .i64 a0, .int .i64 z, .string (⟨#[]⟩ : ByteArray)], .int .i64 y, errW GA none]) ∧ Below w.heap.size w w' := by
 have HR1 := ak_ hr1
 have HC1 := ak_ hc1
 have HG := ak_ hG
 have HT := ak_ ht
 have HZ := ak_ hz
 clear hr1 hc1 hG ht hz
 have b3 : (a0 == 3) = false := beq_eq_false_iff_ne.mpr h3
 have b4 : (a0 == 4) = false := beq_eq_false_iff_ne.mpr h4
 have n3 : (a0 != 3) = true := bne_iff_ne.mpr h3
 have n4 : (a0 != 4) = true := bne_iff_ne.mpr h4
 clear h3 h4
 go_enter Tryd.func68, Tryd.ntmps68
 go_wp2_with (go_at_call 57; (refine (num_Take.calls GA k _ _ l1 x y true _ ?side1 ?side2 ?side3 HT.out).mono ?_); (case side1 => exact Kd.C_below HR1.out (by repeat (first | exact Below.refl _ _ | apply bl_a | apply below_set))); (case side2 => exact HC1.out); (case side3 => exact Glob.below HG.out (by repeat (first | exact Below.refl _ _ | apply bl_a))); rintro e w1 ⟨rfl, hb⟩; have hc0 : w1.cell? ⟨w.heap.size, 0, none⟩ = some (.int .i64 a0) := (hb.cell (by simp)).trans (by simp); have hc1 : w1.cell? ⟨w.heap.size, 1, none⟩ = some (.int .i64 0) := (hb.cell (by simp)).trans (by simp); have hc2 : w1.cell? ⟨w.heap.size, 2, none⟩ = some (.string (⟨#[]⟩ : ByteArray)) := (hb.cell (by simp)).trans (by simp); have hk : w1.heap[w.heap.size]? = some (.cells #[.int .i64 a0, .int .i64 0, .string (⟨#[]⟩ : ByteArray)] 26 (0, 0)) := (hb.block _ (by simp)).trans (by show (w.heap.push _)[w.heap.size]? = _; simp); have hf0 := blk_frozen hk 0; have hf1 := blk_frozen hk 1; have hf2 := blk_frozen hk 2; have HBB := ak_ (below_step (bl_a (Below.refl _ _) _) hb); have HK := ak_ hk; clear hb hk)
 go_wp2_with (go_at_call 59; (refine (num_Zag.calls x z _ HZ.out).mono ?_); rintro e w' ⟨rfl, ⟨nd, rfl⟩⟩)
 refine bodyPost_ret (rle_first.res rfl (by (with_reducible repeat (first | refine bk_n ?_ _ | refine bk_d ?_ | refine bk_a ?_ _)); refine blk_put (cs := #[.int .i64 a0, .int .i64 z, .string (⟨#[]⟩ : ByteArray)]) ?_ 2 _ rfl; refine blk_put (cs := #[.int .i64 a0, .int .i64 z, .string (⟨#[]⟩ : ByteArray)]) ?_ 1 _ rfl; refine blk_put (cs := #[.int .i64 a0, .int .i64 z, .string (⟨#[]⟩ : ByteArray)]) ?_ 0 _ rfl; refine blk_put (cs := #[.int .i64 a0, .int .i64 0, .string (⟨#[]⟩ : ByteArray)]) ?_ 1 _ rfl; (with_reducible repeat (first | refine bk_n ?_ _ | refine bk_d ?_ | refine bk_a ?_ _)); exact HK.out) rfl) rfl ?_
 exact ⟨by first | rfl | (simp only [errW_some]; rfl) | (rw [List.drop_one]; rfl), by repeat (first | exact HBB.out | apply bl_d | apply bl_n | refine below_set ?_ (Nat.le_refl _))⟩
set_option maxHeartbeats 8000000 in
set_option maxRecDepth 100000 in
theorem rle_first.nobyte (GA : Nat → Addr) (a0 : Int) (A1 : Option Addr) (c1 : Nat) (l1 : List Int) (w : World) (hr1 : Kd.C (Kd.int .u8) w A1 l1.length l1) (hc1 : l1.length ≤ c1) (hG : Glob GA w)
  (h3 : a0 = 3 ∨ a0 = 4) (ht : l1.length = 0) :
  Calls Tryd.prog 68 #[.int .i64 a0, .slice A1 l1.length c1] w fun e w' => e = .returned (.tuple #[.agg #[.int .i64 a0, .int .i64 0, .string (⟨#[]⟩ : ByteArray)], .int .i64 0, errW GA (some 3)]) ∧ Below w.heap.size w w' := by
 have HG := ak_ hG
 rw [ht]
 clear hr1 hc1 ht
 have hgl : (w.alloc (.cells #[.int .i64 a0, .int .i64 0, .string (⟨#[]⟩ : ByteArray)] 26)).cell? ⟨1, 0, none⟩ = some (.iface 117 (.pointer (some (GA 1)))) := (Glob.below hG (bl_a (Below.refl _ _) _)).c1
 clear hG
 have hs0 := rle_first.glob_ne HG.out
 rcases h3 with rfl | rfl
 all_goals
  go_enter Tryd.func68, Tryd.ntmps68
  go_wp2
  go_region
  go_wp2
  refine bodyPost_ret (rle_first.res rfl (by refine bk_d ?_; (show (w.heap.push _)[w.heap.size]? = _); simp; rfl) rfl) rfl ?_
  exact ⟨by first | rfl | (simp only [errW_some]; rfl) | (rw [List.drop_one]; rfl), by repeat (first | exact Below.refl _ _ | apply bl_d | apply bl_a | refine below_set ?_ (Nat.le_refl _))⟩
set_option maxHeartbeats 8000000 in
set_option maxRecDepth 100000 in
theorem rle_first.bool (GA : Nat → Addr) (A1 : Option Addr) (c1 : Nat) (l1 : List Int) (w : World) (hr1 : Kd.C (Kd.int .u8) w A1 l1.length l1) (hc1 : l1.length ≤ c1)
  (ht : 0 < l1.length) (h0 : 0 ≤ rd l1 0) (h1 : rd l1 0 ≤ 255) :
  Calls Tryd.prog 68 #[.int .i64 3, .slice A1 l1.length c1] w fun e w' => e = .returned (.tuple #[.agg #[.int .i64 3, .int .i64 (rd l1 0), .string (⟨#[]⟩ : ByteArray)], .int .i64 1, errW GA none]) ∧ Below w.heap.size w w' := by
 obtain ⟨ad, e0, hx⟩ := Kd.at_int hr1 0 (by omega) (by omega)
 cases e0
 have hx2 := ((bl_a (Below.refl w.heap.size w) (.cells #[.int .i64 3, .int .i64 0, .string (⟨#[]⟩ : ByteArray)] 26)).cell (World.block_lt_of_cell? w _ hx)).trans hx
 have hx3 : (w.alloc (.cells #[.int .i64 3, .int .i64 0, .string (⟨#[]⟩ : ByteArray)] 26)).cell? ad = some (.int .u8 (rd l1 0)) := by rw [show (0 : Int).toNat = 0 from rfl, Addr.add_zero'] at hx2; exact hx2
 have hd : decide (0 < l1.length) = true := decide_eq_true ht
 have hz : ((l1.length : Int) == 0) = false := beq_eq_false_iff_ne.mpr (by omega)
 have hz2 : (0 : Int) < (l1.length : Int) := by omega
 clear hr1 hx hx2 ht
 go_enter Tryd.func68, Tryd.ntmps68
 go_wp2
 refine bodyPost_ret (rle_first.res rfl (by (show (w.heap.push _)[w.heap.size]? = _); simp; rfl) rfl) rfl ?_
 exact ⟨by first | rfl | (simp only [errW_some]; rfl) | (rw [List.drop_one]; rfl), by repeat (first | exact Below.refl _ _ | apply bl_d | apply bl_a | refine below_set ?_ (Nat.le_refl _))⟩
theorem rle_first.info : (Tryd.prog.info? 5).map (fun i => (i.zero, i.size, i.bytes)) = some (some (.int .u8 0), 1, 1) := by kernel_rfl
set_option maxHeartbeats 8000000 in
set_option maxRecDepth 100000 in
theorem rle_first.short (GA : Nat → Addr) (A1 : Option Addr) (c1 : Nat) (l1 : List Int) (w : World) (hr1 : Kd.C (Kd.int .u8) w A1 l1.length l1) (hc1 : l1.length ≤ c1) (hG : Glob GA w)
  (ht : 0 < l1.length) (h0 : 0 ≤ rd l1 0) (h1 : rd l1 0 ≤ 255) (hs : (l1.length : Int) < 1 + rd l1 0) :
  Calls Tryd.prog 68 #[.int .i64 4, .slice A1 l1.length c1] w fun e w' => e = .returned (.tuple #[.agg #[.int .i64 4, .int .i64 0, .string (⟨#[]⟩ : ByteArray)], .int .i64 0, errW GA (some 4)]) ∧ Below w.heap.size w w' := by
 obtain ⟨ad, e0, hx⟩ := Kd.at_int hr1 0 (by omega) (by omega)
 cases e0
 have hx2 := ((bl_a (Below.refl w.heap.size w) (.cells #[.int .i64 4, .int .i64 0, .string (⟨#[]⟩ : ByteArray)] 26)).cell (World.block_lt_of_cell? w _ hx)).trans hx
 have hx3 : (w.alloc (.cells #[.int .i64 4, .int .i64 0, .string (⟨#[]⟩ : ByteArray)] 26)).cell? ad = some (.int .u8 (rd l1 0)) := by rw [show (0 : Int).toNat = 0 from rfl, Addr.add_zero'] at hx2; exact hx2
 have hd : decide (0 < l1.length) = true := decide_eq_true ht
 have hz : ((l1.length : Int) == 0) = false := beq_eq_false_iff_ne.mpr (by omega)
 have hz2 : (0 : Int) < (l1.length : Int) := by omega
 have hsd : decide ((l1.length : Int) < 1 + rd l1 0) = true := decide_eq_true hs
 have HG := ak_ hG
 have hgl : (w.alloc (.cells #[.int .i64 4, .int .i64 0, .string (⟨#[]⟩ : ByteArray)] 26)).cell? ⟨1, 0, none⟩ = some (.iface 117 (.pointer (some (GA 1)))) := (Glob.below hG (bl_a (Below.refl _ _) _)).c1
 have hs0 := rle_first.glob_ne hG
 clear hr1 hx hx2 ht hG hs
 go_enter Tryd.func68, Tryd.ntmps68
 go_wp2
 go_region
 go_wp2
 refine bodyPost_ret (rle_first.res rfl (by refine bk_d ?_; (show (w.heap.push _)[w.heap.size]? = _); simp; rfl) rfl) rfl ?_
 exact ⟨by first | rfl | (simp only [errW_some]; rfl) | (rw [List.drop_one]; rfl), by repeat (first | exact Below.refl _ _ | apply bl_d | apply bl_a | refine below_set ?_ (Nat.le_refl _))⟩
set_option maxHeartbeats 8000000 in
set_option maxRecDepth 100000 in
theorem rle_first.text (GA : Nat → Addr) (A1 : Option Addr) (c1 : Nat) (l1 : List Int) (w : World) (hr1 : Kd.C (Kd.int .u8) w A1 l1.length l1) (hc1 : l1.length ≤ c1)
  (ht : 0 < l1.length) (h0 : 0 ≤ rd l1 0) (h1 : rd l1 0 ≤ 255) (hs : ¬ (l1.length : Int) < 1 + rd l1 0) :
  Calls Tryd.prog 68 #[.int .i64 4, .slice A1 l1.length c1] w fun e w' => e = .returned (.tuple #[.agg #[.int .i64 4, .int .i64 0, .string (strOfNums ((l1.take (1 + rd l1 0).toNat).drop 1))], .int .i64 (1 + rd l1 0), errW GA none]) ∧ Below w.heap.size w w' := by
 obtain ⟨ad, e0, hx⟩ := Kd.at_int hr1 0 (by omega) (by omega)
 cases e0
 obtain ⟨W1, hW1⟩ : ∃ W1, W1 = w.alloc (.cells #[.int .i64 4, .int .i64 0, .string (⟨#[]⟩ : ByteArray)] 26) := ⟨_, rfl⟩
 have hbl : Below w.heap.size w W1 := by rw [hW1]; exact bl_a (Below.refl w.heap.size w) _
 have hx2 := (hbl.cell (World.block_lt_of_cell? w _ hx)).trans hx
 have hx3 : W1.cell? ad = some (.int .u8 (rd l1 0)) := by rw [show (0 : Int).toNat = 0 from rfl, Addr.add_zero'] at hx2; exact hx2
 have hd : decide (0 < l1.length) = true := decide_eq_true ht
 have hz : ((l1.length : Int) == 0) = false := beq_eq_false_iff_ne.mpr (by omega)
 have hz2 : (0 : Int) < (l1.length : Int) := by omega
 have hsd : decide ((l1.length : Int) < 1 + rd l1 0) = false := decide_eq_false hs
 obtain ⟨i0, hi0, hzz⟩ := Option.map_eq_some_iff.1 rle_first.info
 simp only [Prod.mk.injEq] at hzz
 have hcut := cut_mid (P := Tryd.prog) 22 5 .i64 .i64 Tryd.underlying22 hi0 1 hzz.2.1 (some ad) l1.length c1 1 (1 + rd l1 0) (by omega) (by omega) (by omega) hc1
 have hmid := Kd.C_mid (lo := 1) (hi := (1 + rd l1 0).toNat) (Kd.C_below hr1 hbl) (by omega) (by omega) hc1
 have hlen : ((l1.take (1 + rd l1 0).toNat).drop 1).length = (1 + rd l1 0).toNat - (1 : Int).toNat := by rw [List.length_drop, List.length_take, show (1 : Int).toNat = 1 from rfl]; omega
 rw [hlen] at hmid
 have hconv := Kd.C_string (P := Tryd.prog) (c := c1 - (1 : Int).toNat) Tryd.underlying22 Tryd.underlying5 Tryd.underlying9 hmid
 simp only [show (1 : Int).toNat = 1 from rfl, show (Kd.int .u8).sz = 1 from rfl, Nat.mul_one] at hcut hconv
 generalize (if c1 = 1 then some ad else (some ad).map (·.add 1)) = A2 at hcut hconv
 generalize (1 + rd l1 0).toNat - 1 = n2 at hcut hconv
 clear hmid hlen hzz hx hx2 hr1 hs
 rw [hW1] at hx3 hconv
 clear hbl hW1
 go_enter Tryd.func68, Tryd.ntmps68
 go_wp2
 refine bodyPost_ret (rle_first.res rfl (by (show (w.heap.push _)[w.heap.size]? = _); simp; rfl) rfl) rfl ?_
 exact ⟨by first | rfl | (simp only [errW_some]; rfl) | (rw [List.drop_one]; rfl), by repeat (first | exact Below.refl _ _ | apply bl_d | apply bl_a | refine below_set ?_ (Nat.le_refl _))⟩
theorem rle_first.calls (GA : Nat → Addr) (k : Nat) (a0 : Int) (A1 : Option Addr) (c1 : Nat) (l1 : List Int) (r1 : Int) (r2 : Int) (r3 : ByteArray) (r4 : Int) (r5 : Option Int) (w : World) (hr1 : Kd.C (Kd.int .u8) w A1 l1.length l1) (hc1 : l1.length ≤ c1) (hG : Glob GA w) (h : rle_first.f k a0 l1 = some (r1, r2, r3, r4, r5)) :
  Calls Tryd.prog 68 #[.int .i64 a0, .slice A1 l1.length c1] w fun e w' => e = .returned (.tuple #[.agg #[.int .i64 r1, .int .i64 r2, .string r3], .int .i64 r4, errW GA r5]) ∧ Below w.heap.size w w' := by
 unfold rle_first.f at h
 by_cases c : a0 ≠ 3 ∧ a0 ≠ 4
 ·
  rw [if_pos c] at h
  obtain ⟨⟨x, y, b⟩, ht, h⟩ := Option.bind_eq_some_iff.mp h
  cases b
  ·
   simp only [Bool.false_eq_true, if_false, Option.some.injEq, Prod.mk.injEq] at h
   obtain ⟨rfl, rfl, rfl, rfl, rfl⟩ := h
   exact rle_first.nonum GA k a0 A1 c1 l1 x y w hr1 hc1 hG c.1 c.2 ht
  ·
   simp only [if_true] at h
   obtain ⟨z, hz, h⟩ := Option.bind_eq_some_iff.mp h
   simp only [Option.some.injEq, Prod.mk.injEq] at h
   obtain ⟨rfl, rfl, rfl, rfl, rfl⟩ := h
   exact rle_first.num GA k a0 A1 c1 l1 x y z w hr1 hc1 hG c.1 c.2 ht hz
 ·
  rw [if_neg c] at h
  have c2 : a0 = 3 ∨ a0 = 4 := by omega
  by_cases hl : l1.length = 0
  ·
   rw [if_pos hl] at h
   simp only [Option.some.injEq, Prod.mk.injEq] at h
   obtain ⟨rfl, rfl, rfl, rfl, rfl⟩ := h
   exact rle_first.nobyte GA a0 A1 c1 l1 w hr1 hc1 hG c2 hl
  ·
   rw [if_neg hl] at h
   by_cases hb : 0 ≤ rd l1 0 ∧ rd l1 0 ≤ 255
   ·
    rw [if_pos hb] at h
    by_cases h3 : a0 = 3
    ·
     rw [if_pos h3] at h
     simp only [Option.some.injEq, Prod.mk.injEq] at h
     obtain ⟨rfl, rfl, rfl, rfl, rfl⟩ := h
     subst h3
     exact rle_first.bool GA A1 c1 l1 w hr1 hc1 (by omega) hb.1 hb.2
    ·
     rw [if_neg h3] at h
     have h4 : a0 = 4 := by omega
     subst h4
     by_cases hs : (l1.length : Int) < 1 + rd l1 0
     ·
      rw [if_pos hs] at h
      simp only [Option.some.injEq, Prod.mk.injEq] at h
      obtain ⟨rfl, rfl, rfl, rfl, rfl⟩ := h
      exact rle_first.short GA A1 c1 l1 w hr1 hc1 hG (by omega) hb.1 hb.2 hs
     ·
      rw [if_neg hs] at h
      simp only [Option.some.injEq, Prod.mk.injEq] at h
      obtain ⟨rfl, rfl, rfl, rfl, rfl⟩ := h
      exact rle_first.text GA A1 c1 l1 w hr1 hc1 (by omega) hb.1 hb.2 hs
   ·
    rw [if_neg hb] at h; cases h
def bits_Mul32.f (a0 : Int) (a1 : Int) : Option (Int × Int) := some (((IntKind.u64.wrap ((IntKind.u64.wrap (a0)) * (IntKind.u64.wrap (a1)))) / 4294967296) % 4294967296, (IntKind.u64.wrap ((IntKind.u64.wrap (a0)) * (IntKind.u64.wrap (a1)))) % 4294967296)
set_option maxHeartbeats 8000000 in
set_option maxRecDepth 100000 in
theorem bits_Mul32.calls (a0 : Int) (a1 : Int) (r1 : Int) (r2 : Int) (w : World) (h : bits_Mul32.f a0 a1 = some (r1, r2)) :
  Calls Tryd.prog 76 #[.int .u32 a0, .int .u32 a1] w fun e w' => e = .returned (.tuple #[.int .u32 r1, .int .u32 r2]) ∧ Drawn0 w w' := by
 have H : (some (((IntKind.u64.wrap ((IntKind.u64.wrap (a0)) * (IntKind.u64.wrap (a1)))) / 4294967296) % 4294967296, (IntKind.u64.wrap ((IntKind.u64.wrap (a0)) * (IntKind.u64.wrap (a1)))) % 4294967296)) = some (r1, r2) := h
 clear h
 simp only [Option.some.injEq, Prod.mk.injEq] at H
 obtain ⟨rfl, rfl⟩ := H
 go_enter Tryd.func76, Tryd.ntmps76
 go_wp2
 go_ret2
 exact ⟨by first | rfl | (simp; done) | (simp [*]; done), by repeat (first | exact Drawn0.refl _ | apply Drawn0.step)⟩
def bits_Mul64.f (a0 : Int) (a1 : Int) : Option (Int × Int) := some (IntKind.u64.wrap ((IntKind.u64.wrap ((IntKind.u64.wrap ((a0 / 4294967296) * (a1 / 4294967296))) + ((IntKind.u64.wrap ((IntKind.u64.wrap ((a0 / 4294967296) * (Go.bits .and .u64 a1 4294967295))) + ((IntKind.u64.wrap ((Go.bits .and .u64 a0 4294967295) * (Go.bits .and .u64 a1 4294967295))) / 4294967296))) / 4294967296))) + ((IntKind.u64.wrap ((Go.bits .and .u64 (IntKind.u64.wrap ((IntKind.u64.wrap ((a0 / 4294967296) * (Go.bits .and .u64 a1 4294967295))) + ((IntKind.u64.wrap ((Go.bits .and .u64 a0 4294967295) * (Go.bits .and .u64 a1 4294967295))) / 4294967296))) 4294967295) + (IntKind.u64.wrap ((Go.bits .and .u64 a0 4294967295) * (a1 / 4294967296))))) / 4294967296)), IntKind.u64.wrap (a0 * a1))
set_option maxHeartbeats 8000000 in
set_option maxRecDepth 100000 in
theorem bits_Mul64.calls (a0 : Int) (a1 : Int) (r1 : Int) (r2 : Int) (w : World) (h : bits_Mul64.f a0 a1 = some (r1, r2)) :
  Calls Tryd.prog 77 #[.int .u64 a0, .int .u64 a1] w fun e w' => e = .returned (.tuple #[.int .u64 r1, .int .u64 r2]) ∧ Drawn0 w w' := by
 have H : (some (IntKind.u64.wrap ((IntKind.u64.wrap ((IntKind.u64.wrap ((a0 / 4294967296) * (a1 / 4294967296))) + ((IntKind.u64.wrap ((IntKind.u64.wrap ((a0 / 4294967296) * (Go.bits .and .u64 a1 4294967295))) + ((IntKind.u64.wrap ((Go.bits .and .u64 a0 4294967295) * (Go.bits .and .u64 a1 4294967295))) / 4294967296))) / 4294967296))) + ((IntKind.u64.wrap ((Go.bits .and .u64 (IntKind.u64.wrap ((IntKind.u64.wrap ((a0 / 4294967296) * (Go.bits .and .u64 a1 4294967295))) + ((IntKind.u64.wrap ((Go.bits .and .u64 a0 4294967295) * (Go.bits .and .u64 a1 4294967295))) / 4294967296))) 4294967295) + (IntKind.u64.wrap ((Go.bits .and .u64 a0 4294967295) * (a1 / 4294967296))))) / 4294967296)), IntKind.u64.wrap (a0 * a1))) = some (r1, r2) := h
 clear h
 simp only [Option.some.injEq, Prod.mk.injEq] at H
 obtain ⟨rfl, rfl⟩ := H
 go_enter Tryd.func77, Tryd.ntmps77
 go_wp2
 go_ret2
 exact ⟨by first | rfl | (simp; done) | (simp [*]; done), by repeat (first | exact Drawn0.refl _ | apply Drawn0.step)⟩
def bits_Mul.f (a0 : Int) (a1 : Int) : Option (Int × Int) := (bits_Mul64.f a0 a1).bind fun bt281 => (some (bt281.1, bt281.2))
set_option maxHeartbeats 8000000 in
set_option maxRecDepth 100000 in
theorem bits_Mul.calls (a0 : Int) (a1 : Int) (r1 : Int) (r2 : Int) (w : World) (h : bits_Mul.f a0 a1 = some (r1, r2)) :
  Calls Tryd.prog 74 #[.int .u64 a0, .int .u64 a1] w fun e w' => e = .returned (.tuple #[.int .u64 r1, .int .u64 r2]) ∧ Drawn0 w w' := by
 have H : ((bits_Mul64.f a0 a1).bind fun bt281 => (some (bt281.1, bt281.2))) = some (r1, r2) := h
 clear h
 replace H := Option.bind_eq_some_iff.mp H
 obtain ⟨⟨t281, t282⟩, A30, H⟩ := H
 replace H : (some (t281, t282)) = some (r1, r2) := H
 have A3 := ak_ A30
 clear A30
 simp only [Option.some.injEq, Prod.mk.injEq] at H
 obtain ⟨rfl, rfl⟩ := H
 go_enter Tryd.func74, Tryd.ntmps74
 go_wp2_with (first | ((with_reducible refine gate_callee (f := 77) rfl ?_); refine goesL_ (some 25) rfl rfl Tryd.func77 (by kernel_rfl) rfl #[.int .u64 a0, .int .u64 a1] rfl (by (try simp only [List.map_toArray, List.map_cons, List.map_nil]); first | done | rfl | (simp only [List.length_drop, List.length_take]; rfl)) ?_; (with_reducible refine (bits_Mul64.calls a0 a1 t281 t282 _ A3.out).mono ?_); rintro e w' ⟨rfl, ⟨nd, rfl⟩⟩; refine ⟨_, rfl, ?_⟩))
 go_ret2
 exact ⟨by first | rfl | (simp; done) | (simp [*]; done), by repeat (first | exact Drawn0.refl _ | apply Drawn0.step)⟩
end Go.Proofs.YtigldipjkejalaaDoor.PRleAll