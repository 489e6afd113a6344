-- Written by xprint.py (a program of this project) out of the translation. Not trusted: Lean checks it. -- squeezed
import Derived.Test.YtigldipjkejalaaDoorPPackAllx0
import Derived.Test.YtigldipjkejalaaDoorPPackAllx8
import Derived.Test.YtigldipjkejalaaDoorPPackAllx9
namespace Go.Proofs.YtigldipjkejalaaDoor.PPackAll
open Go.RowKit Go.Proofs.YtigldipjkejalaaDoorW.PrintWords Go.Proofs.YtigldipjkejalaaDoorW.PrintLast Go.Proofs.YtigldipjkejalaaDoorW.PrintMore
attribute [local go_sem] max2_int min2_int max_two min_two max_three min_three max_four min_four   -- for this text's walks alone
set_option linter.unusedVariables false
set_option linter.unusedSimpArgs false

/-! ### rabbetref1_Encode: function 16 -/
def rabbetref1_Encode.j0 : Nat → Int → List (S26) → Bool → Option (List Int × Bool)
 | 0, _, _, _ => none
 | k + 1, x0, x2, x38 => if x38 = true then (some (([] : List Int), false)) else (if x0 = 1 then (none) else (if x0 = 2 then (none) else (if x0 = 3 then (none) else (if x0 = 4 then ((rabbetref1_pack.f k x2).bind fun t288 => (some (t288, true))) else (none)))))
def rabbetref1_Encode.f (k : Nat) (a0 : Int) (a1 : Int) (l2 : List (S26)) : Option (List Int × Bool) := (rabbetref1_right.f k a1 l2).bind fun t286 => (if t286 = true then (if a0 = 4 then ((rabbetref1_number.f a1).bind fun t287 => (if t287 = true then (if a0 = 5 then (none) else (rabbetref1_Encode.j0 k a0 l2 false)) else (rabbetref1_Encode.j0 k a0 l2 true))) else (none)) else (rabbetref1_Encode.j0 k a0 l2 true))
theorem rabbetref1_Encode.mono_l : ∀ k, (∀ y0 y1 y2, LeO (rabbetref1_Encode.j0 k y0 y1 y2) (rabbetref1_Encode.j0 (k + 1) y0 y1 y2))
 | 0 => fun _ _ _ r h => by simp [rabbetref1_Encode.j0] at h
 | k + 1 => by
  have ih0 := rabbetref1_Encode.mono_l k
  ·
   intro y0 y1 y2
   unfold rabbetref1_Encode.j0
   repeat' first
   | (with_reducible exact ih0 _ _ _)
   | (with_reducible exact rabbetref1_pack.mono _ _)
   | (with_reducible exact rabbetref1_right.mono _ _ _)
   | (with_reducible exact LeO.refl _)
   | (with_reducible exact LeO.none _)
   | (with_reducible refine LeO.ite ?_ ?_)
   | (with_reducible refine LeO.bind ?_ (fun _ => ?_))
   | exact ih0 _ _ _
   | exact rabbetref1_pack.mono _ _
   | exact rabbetref1_right.mono _ _ _
   | exact LeO.none _
   | refine LeO.ite ?_ ?_
   | refine LeO.bind ?_ (fun _ => ?_)
theorem rabbetref1_Encode.mono : ∀ a0 a1 a2 k, LeO (rabbetref1_Encode.f k a0 a1 a2) (rabbetref1_Encode.f (k + 1) a0 a1 a2) := by
 intro a0 a1 a2 k
 have ih0 := rabbetref1_Encode.mono_l k
 unfold rabbetref1_Encode.f
 repeat' first
   | (with_reducible exact ih0 _ _ _)
   | (with_reducible exact rabbetref1_pack.mono _ _)
   | (with_reducible exact rabbetref1_right.mono _ _ _)
   | (with_reducible exact LeO.refl _)
   | (with_reducible exact LeO.none _)
   | (with_reducible refine LeO.ite ?_ ?_)
   | (with_reducible refine LeO.bind ?_ (fun _ => ?_))
   | exact ih0 _ _ _
   | exact rabbetref1_pack.mono _ _
   | exact rabbetref1_right.mono _ _ _
   | exact LeO.none _
   | refine LeO.ite ?_ ?_
   | refine LeO.bind ?_ (fun _ => ?_)
set_option maxHeartbeats 8000000 in
set_option maxRecDepth 100000 in
theorem rabbetref1_Encode.calls (k : Nat) (a0 : Int) (a1 : Int) (A2 : Option Addr) (c2 : Nat) (l2 : List (S26)) (r1 : List Int) (r2 : Bool) (w : World) (hr2 : Kd.C k26 w A2 l2.length l2) (hc2 : l2.length ≤ c2) (h : rabbetref1_Encode.f k a0 a1 l2 = some (r1, r2)) :
  Calls Tryd.prog 16 #[.int .i64 a0, .int .i64 a1, .slice A2 l2.length c2] w fun e w' => ∃ v0_ : Value, e = .returned (.tuple #[v0_, .bool r2]) ∧ Kd.R (Kd.int .u8) 5 w' w.heap.size (fun _ => True) v0_ r1 ∧ Below w.heap.size w w' := by
 have hu26 := Tryd.underlying26
 have HR2 := ak_ hr2
 have HC2 := ak_ hc2
 clear hr2 hc2
 have HB := ak_ (Below.refl w.heap.size w)
 have H : ((rabbetref1_right.f k a1 l2).bind fun t286 => (if t286 = true then (if a0 = 4 then ((rabbetref1_number.f a1).bind fun t287 => (if t287 = true then (if a0 = 5 then (none) else (rabbetref1_Encode.j0 k a0 l2 false)) else (rabbetref1_Encode.j0 k a0 l2 true))) else (none)) else (rabbetref1_Encode.j0 k a0 l2 true))) = some (r1, r2) := h
 clear h
 have HC4 := ak_ H
 clear H
 go_enter Tryd.func16, Tryd.ntmps16
 go_upto_region 1 with (fail)
 go_cut [38] (fun v38 wc => ∃ (kq : Nat) (x38_3 : Bool), v38 = .bool x38_3 ∧ Aside0 (rabbetref1_Encode.j0 kq a0 l2 x38_3 = some (r1, r2)) ∧ Aside0 (kq ≤ k) ∧ Aside0 (Below w.heap.size w wc))
 case first =>
  have H := HC4.out
  clear HC4
  replace H := Option.bind_eq_some_iff.mp H
  obtain ⟨t286, A50, H⟩ := H
  replace H : (if t286 = true then (if a0 = 4 then ((rabbetref1_number.f a1).bind fun t287 => (if t287 = true then (if a0 = 5 then (none) else (rabbetref1_Encode.j0 k a0 l2 false)) else (rabbetref1_Encode.j0 k a0 l2 true))) else (none)) else (rabbetref1_Encode.j0 k a0 l2 true)) = some (r1, r2) := H
  have A5 := ak_ A50
  clear A50
  by_cases c6 : t286 = true
  ·
   subst c6
   have H1 : (if a0 = 4 then ((rabbetref1_number.f a1).bind fun t287 => (if t287 = true then (if a0 = 5 then (none) else (rabbetref1_Encode.j0 k a0 l2 false)) else (rabbetref1_Encode.j0 k a0 l2 true))) else (none)) = some (r1, r2) := by rw [if_pos rfl] at H; exact H
   clear H
   have H := H1
   clear H1
   by_cases c7 : a0 = 4
   ·
    rw [if_pos c7] at H
    have c7b0 : (a0 == 4) = true := beq_iff_eq.mpr c7
    have c7b1 : (a0 != 4) = false := bne_eq_false_iff_eq.mpr c7
    clear c7
    (first | rw [c7b0] | rw [c7b1] | (simp only [i64_w, i32_w]; rw [c7b0]) | skip)
    replace H := Option.bind_eq_some_iff.mp H
    obtain ⟨t287, A80, H⟩ := H
    replace H : (if t287 = true then (if a0 = 5 then (none) else (rabbetref1_Encode.j0 k a0 l2 false)) else (rabbetref1_Encode.j0 k a0 l2 true)) = some (r1, r2) := H
    have A8 := ak_ A80
    clear A80
    by_cases c9 : t287 = true
    ·
     subst c9
     have H1 : (if a0 = 5 then (none) else (rabbetref1_Encode.j0 k a0 l2 false)) = some (r1, r2) := by rw [if_pos rfl] at H; exact H
     clear H
     have H := H1
     clear H1
     by_cases c10 : a0 = 5
     ·
      rw [if_pos c10] at H
      exact absurd H (by simp)
     ·
      rw [if_neg c10] at H
      have c10b0 : (a0 == 5) = false := beq_eq_false_iff_ne.mpr c10
      have c10b1 : (a0 != 5) = true := bne_iff_ne.mpr c10
      have H' := ak_ H
      clear H
      go_wp2_with (first | ((with_reducible refine gate_callee (f := 33) rfl ?_); refine goesL_ (some 16) rfl rfl Tryd.func33 (by kernel_rfl) rfl #[.int .i64 a1, .slice A2 l2.length c2] rfl (by (try simp only [List.map_toArray, List.map_cons, List.map_nil]); first | done | rfl | (simp only [List.length_drop, List.length_take]; rfl)) ?_; (with_reducible refine (rabbetref1_right.calls k a1 _ _ l2 true _ ?side1 ?side2 A5.out).mono ?_); (case side1 => repeat (first | exact (Kd.C_below HR2.out HB.out) | (with_reducible refine Kd.C_alloc ?_ _) | (with_reducible refine Kd.C_drewN ?_ _) | (with_reducible refine Kd.C_drew ?_))); (case side2 => exact HC2.out); rintro e w11 ⟨rfl, hb⟩; refine ⟨_, rfl, ?_⟩; have n0_ := ak_ (below_step (by repeat (first | (with_reducible first | exact HB.out | apply bl_a | apply bl_n | apply bl_d) | exact HB.out)) hb); clear HB; have HB := n0_; clear n0_; (try clear hb); (try clear hb2); (try clear hk); (try clear hi)) | (go_at_call 34; (with_reducible refine (rabbetref1_number.calls a1 true _ A8.out).mono ?_); rintro e w' ⟨rfl, ⟨nd, rfl⟩⟩))
      go_meet
      case rel => exact ⟨_, (false), (by first | rfl | (simp; done) | (simp [*]; done)), H', ⟨by first | omega | exact Nat.le_refl _⟩, ⟨by repeat (first | (with_reducible first | exact HB.out | apply bl_a | apply bl_n | apply bl_d) | exact HB.out)⟩⟩
    ·
     replace c9 := Bool.eq_false_iff.mpr c9
     subst c9
     have H1 : (rabbetref1_Encode.j0 k a0 l2 true) = some (r1, r2) := by rw [if_neg (show ¬ (false = true) by decide)] at H; exact H
     clear H
     have H := H1
     clear H1
     have H' := ak_ H
     clear H
     go_wp2_with (first | ((with_reducible refine gate_callee (f := 33) rfl ?_); refine goesL_ (some 16) rfl rfl Tryd.func33 (by kernel_rfl) rfl #[.int .i64 a1, .slice A2 l2.length c2] rfl (by (try simp only [List.map_toArray, List.map_cons, List.map_nil]); first | done | rfl | (simp only [List.length_drop, List.length_take]; rfl)) ?_; (with_reducible refine (rabbetref1_right.calls k a1 _ _ l2 true _ ?side1 ?side2 A5.out).mono ?_); (case side1 => repeat (first | exact (Kd.C_below HR2.out HB.out) | (with_reducible refine Kd.C_alloc ?_ _) | (with_reducible refine Kd.C_drewN ?_ _) | (with_reducible refine Kd.C_drew ?_))); (case side2 => exact HC2.out); rintro e w12 ⟨rfl, hb⟩; refine ⟨_, rfl, ?_⟩; have n0_ := ak_ (below_step (by repeat (first | (with_reducible first | exact HB.out | apply bl_a | apply bl_n | apply bl_d) | exact HB.out)) hb); clear HB; have HB := n0_; clear n0_; (try clear hb); (try clear hb2); (try clear hk); (try clear hi)) | (go_at_call 34; (with_reducible refine (rabbetref1_number.calls a1 false _ A8.out).mono ?_); rintro e w' ⟨rfl, ⟨nd, rfl⟩⟩))
     go_meet
     case rel => exact ⟨_, (true), (by first | rfl | (simp; done) | (simp [*]; done)), H', ⟨by first | omega | exact Nat.le_refl _⟩, ⟨by repeat (first | (with_reducible first | exact HB.out | apply bl_a | apply bl_n | apply bl_d) | exact HB.out)⟩⟩
   ·
    rw [if_neg c7] at H
    exact absurd H (by simp)
  ·
   replace c6 := Bool.eq_false_iff.mpr c6
   subst c6
   have H1 : (rabbetref1_Encode.j0 k a0 l2 true) = some (r1, r2) := by rw [if_neg (show ¬ (false = true) by decide)] at H; exact H
   clear H
   have H := H1
   clear H1
   have H' := ak_ H
   clear H
   go_wp2_with (first | ((with_reducible refine gate_callee (f := 33) rfl ?_); refine goesL_ (some 16) rfl rfl Tryd.func33 (by kernel_rfl) rfl #[.int .i64 a1, .slice A2 l2.length c2] rfl (by (try simp only [List.map_toArray, List.map_cons, List.map_nil]); first | done | rfl | (simp only [List.length_drop, List.length_take]; rfl)) ?_; (with_reducible refine (rabbetref1_right.calls k a1 _ _ l2 false _ ?side1 ?side2 A5.out).mono ?_); (case side1 => repeat (first | exact (Kd.C_below HR2.out HB.out) | (with_reducible refine Kd.C_alloc ?_ _) | (with_reducible refine Kd.C_drewN ?_ _) | (with_reducible refine Kd.C_drew ?_))); (case side2 => exact HC2.out); rintro e w13 ⟨rfl, hb⟩; refine ⟨_, rfl, ?_⟩; have n0_ := ak_ (below_step (by repeat (first | (with_reducible first | exact HB.out | apply bl_a | apply bl_n | apply bl_d) | exact HB.out)) hb); clear HB; have HB := n0_; clear n0_; (try clear hb); (try clear hb2); (try clear hk); (try clear hi)))
   go_meet
   case rel => exact ⟨_, (true), (by first | rfl | (simp; done) | (simp [*]; done)), H', ⟨by first | omega | exact Nat.le_refl _⟩, ⟨by repeat (first | (with_reducible first | exact HB.out | apply bl_a | apply bl_n | apply bl_d) | exact HB.out)⟩⟩
 case rest =>
  clear HC4
  try clear c1
  try clear c2
  try clear p2
  try clear c3
  try clear c6
  try clear c7
  try clear c7b0
  try clear c7b1
  try clear c9
  try clear c10
  try clear c10b0
  try clear c10b1
  obtain ⟨kq, x38_3, rfl, HA, HJ3, HB⟩ := hcut
  cases kq with
  | zero => exact absurd HA.out (by simp [rabbetref1_Encode.j0])
  | succ kj3 =>
   have H := HA.out
   clear HA
   simp only [rabbetref1_Encode.j0] at H
   by_cases c14 : x38_3 = true
   ·
    subst c14
    have H1 : (some (([] : List Int), false)) = some (r1, r2) := by rw [if_pos rfl] at H; exact H
    clear H
    have H := H1
    clear H1
    simp only [Option.some.injEq, Prod.mk.injEq] at H
    obtain ⟨rfl, rfl⟩ := H
    go_wp2
    go_ret2
    exact ⟨_, by first | rfl | (simp [errW_none, errW_some] <;> rfl) | (simp [*, errW_none, errW_some] <;> rfl), by first | exact Kd.R_nil _ _ _ _ _ | exact Kd.N_nil _ _ _ _ _ | exact Kd.V_nil _ _ _ _ _ | exact Kd.Q_nil _ _ _ _ _ | exact Kd.S_nil _ _ _ _ _, by repeat (first | (with_reducible first | exact HB.out | apply bl_a | apply bl_n | apply bl_d) | exact HB.out)⟩
   ·
    replace c14 := Bool.eq_false_iff.mpr c14
    subst c14
    have H1 : (if a0 = 1 then (none) else (if a0 = 2 then (none) else (if a0 = 3 then (none) else (if a0 = 4 then ((rabbetref1_pack.f kj3 l2).bind fun t288 => (some (t288, true))) else (none))))) = some (r1, r2) := by rw [if_neg (show ¬ (false = true) by decide)] at H; exact H
    clear H
    have H := H1
    clear H1
    by_cases c15 : a0 = 1
    ·
     rw [if_pos c15] at H
     exact absurd H (by simp)
    ·
     rw [if_neg c15] at H
     have c15b0 : (a0 == 1) = false := beq_eq_false_iff_ne.mpr c15
     have c15b1 : (a0 != 1) = true := bne_iff_ne.mpr c15
     by_cases c16 : a0 = 2
     ·
      rw [if_pos c16] at H
      exact absurd H (by simp)
     ·
      rw [if_neg c16] at H
      have c16b0 : (a0 == 2) = false := beq_eq_false_iff_ne.mpr c16
      have c16b1 : (a0 != 2) = true := bne_iff_ne.mpr c16
      by_cases c17 : a0 = 3
      ·
       rw [if_pos c17] at H
       exact absurd H (by simp)
      ·
       rw [if_neg c17] at H
       have c17b0 : (a0 == 3) = false := beq_eq_false_iff_ne.mpr c17
       have c17b1 : (a0 != 3) = true := bne_iff_ne.mpr c17
       by_cases c18 : a0 = 4
       ·
        rw [if_pos c18] at H
        have c18b0 : (a0 == 4) = true := beq_iff_eq.mpr c18
        have c18b1 : (a0 != 4) = false := bne_eq_false_iff_eq.mpr c18
        clear c18
        replace H := Option.bind_eq_some_iff.mp H
        obtain ⟨t288, A190, H⟩ := H
        replace H : (some (t288, true)) = some (r1, r2) := H
        have A19 := ak_ A190
        clear A190
        simp only [Option.some.injEq, Prod.mk.injEq] at H
        obtain ⟨rfl, rfl⟩ := H
        go_wp2_with (first | ((with_reducible refine gate_callee (f := 38) rfl ?_); refine goesL_ (some 103) rfl rfl Tryd.func38 (by kernel_rfl) rfl #[.slice A2 l2.length c2] rfl (by (try simp only [List.map_toArray, List.map_cons, List.map_nil]); first | done | rfl | (simp only [List.length_drop, List.length_take]; rfl)) ?_; (with_reducible refine (rabbetref1_pack.calls kj3 _ _ l2 t288 _ ?side1 ?side2 A19.out).mono ?_); (case side1 => repeat (first | exact (Kd.C_below HR2.out HB.out) | (with_reducible refine Kd.C_alloc ?_ _) | (with_reducible refine Kd.C_drewN ?_ _) | (with_reducible refine Kd.C_drew ?_))); (case side2 => exact HC2.out); rintro e w20 ⟨v289, rfl, ho0, hb⟩; refine ⟨_, rfl, ?_⟩; have n0_ := ak_ (Kd.R_lower ho0 (below_size (by repeat (first | (with_reducible first | exact HB.out | apply bl_a | apply bl_n | apply bl_d) | exact HB.out)))); have n1_ := ak_ (below_step (by repeat (first | (with_reducible first | exact HB.out | apply bl_a | apply bl_n | apply bl_d) | exact HB.out)) hb); clear HB; have HO290 := n0_; have HB := n1_; clear n0_ n1_; (try clear hb); (try clear hb2); (try clear hk); (try clear hi); (try clear ho0)))
        go_ret2
        exact ⟨_, by first | rfl | (simp [errW_none, errW_some] <;> rfl) | (simp [*, errW_none, errW_some] <;> rfl), by (with_reducible repeat (first | apply Kd.R_alloc | apply Kd.R_drewN | apply Kd.R_drew)); exact HO290.out, by repeat (first | (with_reducible first | exact HB.out | apply bl_a | apply bl_n | apply bl_d) | exact HB.out)⟩
       ·
        rw [if_neg c18] at H
        exact absurd H (by simp)

/-! ### rabbetlaw0_Handed: function 17 -/
/-- Five known bytes stand in the room behind the row. -/
def Spare (w : World) (v : Value) (n : Nat) : Prop := ∃ g cap, v = .slice (some ⟨g, 0, none⟩) n cap ∧ n + 5 ≤ cap ∧ ∀ i, i < 5 → w.cell? ⟨g, n + i, none⟩ = some (.int .u8 ((161 + i : Nat) : Int))
theorem Spare.move {w w1 : World} {v : Value} {n : Nat} (h : Spare w v n) (hm : ∀ k, v.ownBlock = some k → w1.heap[k]? = w.heap[k]?) : Spare w1 v n := by
 obtain ⟨g, cap, rfl, hc, hh⟩ := h
 refine ⟨g, cap, rfl, hc, fun i hi => ?_⟩
 rw [← hh i hi]
 have := hm g rfl
 unfold World.cell?
 rw [this]
def Kd.H {α : Type} (d : Kd α) (e : Nat) (w : World) (base : Nat) (ok : Nat → Prop) (v : Value) (xs : List α) : Prop := d.R e w base ok v xs ∧ Spare w v xs.length
section
variable {α : Type} {d : Kd α} {e e' : Nat} {w w1 W : World} {base base' : Nat} {ok ok' : Nat → Prop} {v u : Value} {xs : List α}
theorem Kd.H_R (h : Kd.H d e w base ok v xs) : d.R e w base ok v xs := h.1
theorem Kd.H_spare (h : Kd.H d e w base ok v xs) : Spare w v xs.length := h.2
theorem Kd.H_mono (h : Kd.H d e w base ok v xs) (hok : ∀ k, ok k → ok' k) : Kd.H d e w base ok' v xs := ⟨Kd.R_mono h.1 hok, h.2⟩
theorem Kd.H_lower (h : Kd.H d e w base ok v xs) (hb : base' ≤ base) : Kd.H d e w base' ok v xs := ⟨Kd.R_lower h.1 hb, h.2⟩
theorem Kd.H_lt (h : Kd.H d e w base ok v xs) : ∀ k, v.ownBlock = some k → k < w.heap.size := Kd.R_lt h.1
theorem Kd.H_base (h : Kd.H d e w base ok v xs) : ∀ k, v.ownBlock = some k → base ≤ k := Kd.R_base h.1
theorem Kd.H_typed (h : Kd.H d e w base ok v xs) : ∀ k, v.ownBlock = some k → ∃ cells, w.heap[k]? = some (.cells cells e (0, 0)) := Kd.R_typed h.1
theorem Kd.H_reads' {A : Option Addr} {n c : Nat} (h : Kd.H d e w base ok (.slice A n c) xs) : n = xs.length ∧ n ≤ c ∧ d.C w A xs.length xs := Kd.R_reads' h.1
theorem Kd.H_form (h : Kd.H d e w base ok v xs) (hp : 0 < xs.length) : ∃ g cap, v = .slice (some ⟨g, 0, none⟩) xs.length cap ∧ base ≤ g ∧ g < w.heap.size ∧ ∃ cells, w.heap[g]? = some (.cells cells e (0, 0)) := Kd.R_form h.1 hp
theorem Kd.H_slice (h : Kd.H d e w base ok v xs) : ∃ A c, v = .slice A xs.length c := Kd.R_slice h.1
theorem Kd.H_below (h : Kd.H d e w base ok v xs) (hb : Below w.heap.size w w1) : Kd.H d e w1 base ok v xs := ⟨Kd.R_below h.1 hb, h.2.move (fun k hk => hb.block k (Kd.R_lt h.1 k hk))⟩
theorem Kd.H_alloc (h : Kd.H d e w base ok v xs) (o : Obj) : Kd.H d e (w.alloc o) base ok v xs := Kd.H_below h (bl_a (Below.refl _ _) o)
theorem Kd.H_drewN (h : Kd.H d e w base ok v xs) (m : Nat) : Kd.H d e (w.drewN m) base ok v xs := Kd.H_below h (bl_n (Below.refl _ _) m)
theorem Kd.H_drew (h : Kd.H d e w base ok v xs) : Kd.H d e w.drew base ok v xs := Kd.H_below h (below_drew (Below.refl _ _))
theorem Kd.H_grown (h : Kd.H d e w base ok v xs) {row : Option Nat} (hg : w.grownBy w1 row) (hok : ∀ k, ok k → some k ≠ row) : Kd.H d e w1 base ok v xs :=
 ⟨Kd.R_grown h.1 hg hok, h.2.move (fun k hk => hg.block k (Kd.R_lt h.1 k hk) (hok k (h.1.1 k hk)))⟩
theorem Kd.H_far (h : Kd.H d e w base ok v xs) {p : Addr} (hok : ∀ k, ok k → k ≠ p.block) (x : Value) : Kd.H d e (w.setCell p x) base ok v xs :=
 ⟨Kd.R_far h.1 hok x, h.2.move (fun k hk => Below.heap_setCell w p x k (hok k (h.1.1 k hk)))⟩
theorem Kd.H_elder' (hu : Kd.H d e W base ok u xs) (hbase : ∀ k, v.ownBlock = some k → W.heap.size ≤ k) (hb : Below W.heap.size W w1) : Kd.H d e w1 base (fun k => ok k ∧ some k ≠ v.ownBlock) u xs :=
 ⟨Kd.R_elder' hu.1 hbase hb, hu.2.move (fun k hk => hb.block k (Kd.R_lt hu.1 k hk))⟩
theorem Kd.H_old (hu : Kd.H d e W base ok u xs) (hb : Below W.heap.size W w1) : Kd.H d e w1 base (fun k => ok k ∧ k < W.heap.size) u xs :=
 ⟨Kd.R_old hu.1 hb, hu.2.move (fun k hk => hb.block k (Kd.R_lt hu.1 k hk))⟩
theorem Kd.H_told {N : Nat} (h : Kd.H d e w1 base (fun k => ok k ∧ k < N) u xs) (hbase : ∀ k, v.ownBlock = some k → N ≤ k) : Kd.H d e w1 base (fun k => (ok k ∧ some k ≠ v.ownBlock) ∧ k < N) u xs := ⟨Kd.R_told h.1 hbase, h.2⟩
theorem Kd.H_apart' (h : Kd.H d e W base ok u xs) (hty : ∀ k, v.ownBlock = some k → ∃ cells, W.heap[k]? = some (.cells cells e' (0, 0))) (ht : ∀ q, q ∈ e :: d.E → q ≠ e') : Kd.H d e W base (fun k => ok k ∧ some k ≠ v.ownBlock) u xs := ⟨Kd.R_apart' h.1 hty ht, h.2⟩
theorem Kd.H_apart_nil (h : Kd.H d e w base ok u xs) : Kd.H d e w base (fun k => ok k ∧ some k ≠ (Value.slice none 0 0).ownBlock) u xs := ⟨Kd.R_apart_nil h.1, h.2⟩
theorem Kd.H_after {v1 : Value} (h : Kd.H d e W base (fun k => ok k ∧ some k ≠ v.ownBlock) u xs) (hg : W.grownBy w1 v.ownBlock) (hat : v1.ownBlock = v.ownBlock ∨ ∃ b, v1.ownBlock = some b ∧ W.heap.size ≤ b) : Kd.H d e w1 base (fun k => ok k ∧ some k ≠ v1.ownBlock) u xs :=
 ⟨Kd.R_after h.1 hg hat, h.2.move (fun k hk => hg.block k (Kd.R_lt h.1 k hk) (h.1.1 k hk).2)⟩
theorem Kd.H_over' (h : Kd.H d e W base ok u xs) (hty : ∀ k, v.ownBlock = some k → ∃ cells, W.heap[k]? = some (.cells cells e' (0, 0))) (ht : ∀ q, q ∈ e :: d.E → q ≠ e') (hg : W.grownBy w1 v.ownBlock) : Kd.H d e w1 base ok u xs :=
 ⟨Kd.R_over' h.1 hty ht hg, h.2.move (fun k hk => hg.block k (Kd.R_lt h.1 k hk) (((Kd.R_apart' h.1 hty ht).1 k hk).2))⟩
theorem Kd.H_types (h : Kd.H d e w base ok v xs) {g t : Nat} {cells : Array Value} (hb : w.heap[g]? = some (.cells cells t (0, 0))) (ht : ∀ q, q ∈ e :: d.E → q ≠ t) : Kd.H d e w base (fun k => ok k ∧ k ≠ g) v xs := ⟨Kd.R_types h.1 hb ht, h.2⟩
theorem Kd.H_ne (h : Kd.H d e w base ok v xs) {g t : Nat} {cells : Array Value} (hb : w.heap[g]? = some (.cells cells t (0, 0))) (ht : e ≠ t) : some g ≠ v.ownBlock := Kd.R_ne h.1 hb ht
end
/-- Nothing that was there has changed, and the five bytes stand behind the row. -/
structure BelowS (w W : World) (v : Value) (n : Nat) : Prop where
 b : Below w.heap.size w W
 s : Spare W v n
section
variable {w W w2 : World} {v : Value} {n : Nat}
theorem spare_below (h : Spare W v n) (hb : Below W.heap.size W w2) : Spare w2 v n := by
 obtain ⟨g, cap, rfl, hc, hh⟩ := h
 exact ⟨g, cap, rfl, hc, fun i hi => (hb.cell (World.block_lt_of_cell? W _ (hh i hi))).trans (hh i hi)⟩
theorem belowS_step (h : BelowS w W v n) (k : Below W.heap.size W w2) : BelowS w w2 v n := ⟨below_step h.b k, spare_below h.s k⟩
theorem belowS_alloc (h : BelowS w W v n) (o : Obj) : BelowS w (W.alloc o) v n := belowS_step h (bl_a (Below.refl _ _) o)
theorem belowS_drewN (h : BelowS w W v n) (m : Nat) : BelowS w (W.drewN m) v n := belowS_step h (bl_n (Below.refl _ _) m)
theorem belowS_drew1 (h : BelowS w W v n) : BelowS w W.drew v n := belowS_step h (below_drew (Below.refl _ _))
theorem belowS_size (h : BelowS w W v n) : w.heap.size ≤ W.heap.size := h.b.size
theorem belowS_spare (h : BelowS w W v n) : Spare W v n := h.s
end
def rabbetlaw0_Handed.f (l0 : List Int) : Option (List Int) := if l0.length ≤ 1000000 then (some l0) else none
theorem rabbetlaw0_Handed.info : (Tryd.prog.info? 5).map (fun i => (i.zero, i.size, i.bytes)) = some (some (.int .u8 0), 1, 1) := by kernel_rfl
theorem rabbetlaw0_Handed.make (n : Nat) (hn : n ≤ 1000000) (W : World) : (Instr.makeSlice 22 (.int .i64 (n : Int)) (.int .i64 ((n : Int) + 5))).run Tryd.prog W = .ok (.slice (some ⟨W.heap.size, 0, none⟩) n (n + 5)) (W.alloc (.cells (madeCells #[.int .u8 0] (n + 5)) 5)) := by
 obtain ⟨i, hi, hz⟩ := Option.map_eq_some_iff.1 rabbetlaw0_Handed.info
 simp only [Prod.mk.injEq] at hz
 obtain ⟨hz0, hz1, hz2⟩ := hz
 have := run_make (P := Tryd.prog) W 22 5 i (.int .u8 0) Tryd.underlying22 hi hz0 .i64 .i64 (n : Int) ((n : Int) + 5) (by omega) (by omega) (by rw [hz2]; omega) (by omega)
 rw [hz1, Nat.mul_one, Int.toNat_natCast, show ((n : Int) + 5).toNat = n + 5 by omega] at this
 exact this
theorem rabbetlaw0_Handed.fill (l : List Int) (n i : Nat) (hi : i < n) (hl : l.length = n) : (l.take i ++ List.replicate (n + 5 - i) 0).set i (rd l (i : Int)) = l.take (i + 1) ++ List.replicate (n + 5 - (i + 1)) 0 := by
 have h1 : (l.take i).length = i := by rw [List.length_take]; omega
 rw [List.set_append_right _ _ (by omega), h1, Nat.sub_self, show n + 5 - i = (n + 5 - (i + 1)) + 1 by omega, List.replicate_succ, List.set_cons_zero]
 rw [List.take_succ_eq_append_getElem (by omega), List.append_assoc]
 congr 1
 simp [rd, List.getD_eq_getElem?_getD, List.getElem?_eq_getElem (show i < l.length by omega)]
def rabbetlaw0_Handed.tail (i : Nat) : List Int := (List.range 5).map fun j => if j < i then ((161 + j : Nat) : Int) else 0
theorem rabbetlaw0_Handed.mark (l : List Int) (n i : Nat) (hi : i < 5) (hl : l.length = n) : (l ++ rabbetlaw0_Handed.tail i).set (n + i) ((161 + i : Nat) : Int) = l ++ rabbetlaw0_Handed.tail (i + 1) := by
 rw [List.set_append_right _ _ (by omega), hl, Nat.add_sub_cancel_left]
 congr 1
 have : i = 0 ∨ i = 1 ∨ i = 2 ∨ i = 3 ∨ i = 4 := by omega
 rcases this with rfl | rfl | rfl | rfl | rfl <;> rfl
theorem rabbetlaw0_Handed.relen {w : World} {base n m : Nat} {e : TypeId} {v : Value} {xs : List Value} (h : n = m) (ho : w.ownsRow base e 1 v n xs) : w.ownsRow base e 1 v m xs := h ▸ ho
theorem rabbetlaw0_Handed.rd_tail (l : List Int) (i : Nat) (hi : i < 5) : rd (l ++ rabbetlaw0_Handed.tail 5) ((l.length + i : Nat) : Int) = ((161 + i : Nat) : Int) := by
 unfold rd
 rw [Int.toNat_natCast, List.getD_eq_getElem?_getD, List.getElem?_append_right (by omega), Nat.add_sub_cancel_left]
 have : i = 0 ∨ i = 1 ∨ i = 2 ∨ i = 3 ∨ i = 4 := by omega
 rcases this with rfl | rfl | rfl | rfl | rfl <;> rfl
theorem rabbetlaw0_Handed.cut (A : Option Addr) (n c : Nat) (hc : n + 5 ≤ c := by omega) : ∀ W : World, (Instr.slice 22 (.slice A n c) none (some (.int .i64 ((n : Int) + 5))) none).run Tryd.prog W = .ok (.slice A (n + 5) c) W := by
 intro W
 obtain ⟨i0, hi0, hz⟩ := Option.map_eq_some_iff.1 rabbetlaw0_Handed.info
 simp only [Prod.mk.injEq] at hz
 have hel : Tryd.prog.elem 22 = 5 := by simp [Program.elem, Tryd.underlying22]
 have hu : Tryd.prog.underlying 22 = some (.slice (Tryd.prog.elem 22)) := by rw [hel]; exact Tryd.underlying22
 rw [run_slice_h W 22 A n c hu .i64 ((n : Int) + 5) (by omega) (by omega), hel]
 simp [sizeOf, typeInfo, hi0, hz.2.1, sliced, Result.andThen]
 refine ⟨fun _ => ?_, by omega⟩
 cases A <;> simp [Addr.add_zero']
set_option maxHeartbeats 4000000 in
set_option maxRecDepth 100000 in
theorem rabbetlaw0_Handed.calls (A0 : Option Addr) (c0 : Nat) (l0 : List Int) (r : List Int) (w : World) (hr0 : Kd.C (Kd.int .u8) w A0 l0.length l0) (hc0 : l0.length ≤ c0) (h : rabbetlaw0_Handed.f l0 = some r) :
  Calls Tryd.prog 17 #[.slice A0 l0.length c0] w fun e w' => ∃ v0_ : Value, e = .returned v0_ ∧ Kd.H (Kd.int .u8) 5 w' w.heap.size (fun _ => True) v0_ r ∧ Below w.heap.size w w' := by
 have hn : l0.length ≤ 1000000 := by
  unfold rabbetlaw0_Handed.f at h
  by_cases c : l0.length ≤ 1000000
  ·
   exact c
  ·
   rw [if_neg c] at h; cases h
 have hr : r = l0 := by unfold rabbetlaw0_Handed.f at h; rw [if_pos hn] at h; exact (Option.some.inj h).symm
 clear h
 have HR := ak_ hr
 clear hr
 have HR0 := ak_ hr0
 clear hr0
 have mk := rabbetlaw0_Handed.make l0.length hn
 have mz : madeCells #[.int .u8 0] (l0.length + 5) = (nums .u8 (l0.take 0 ++ List.replicate (l0.length + 5 - 0) 0)).toArray := by
  apply Array.ext'
  simp only [List.take_zero, List.nil_append, Nat.sub_zero]
  apply List.ext_getElem
  ·
   simp [nums, madeCells]
  ·
   intro i h1 h2
   simp [nums, madeCells, Nat.mod_one]
 have MZ := ak_ mz
 clear mz
 go_enter Tryd.func17, Tryd.ntmps17
 go_wp2
 go_loopg [4] (l0.length + 1) (fun kq v4 w' => ∃ i : Nat, v4 = .int .i64 (i : Int) ∧ Aside0 (i ≤ l0.length ∧ l0.length < kq + i) ∧ Aside0 (w'.ownsRow w.heap.size 5 1 (.slice (some ⟨w.heap.size, 0, none⟩) (l0.length + 5) (l0.length + 5)) (l0.length + 5) (nums .u8 (l0.take i ++ List.replicate (l0.length + 5 - i) 0))) ∧ Aside0 (Below w.heap.size w w'))
 case atStart =>
  refine ⟨0, rfl, ⟨Nat.zero_le _, by omega⟩, ⟨?_⟩, ⟨(Below.refl _ _).alloc (Nat.le_refl _) _⟩⟩
  rw [MZ.out]
  have z := own_lit w w.heap.size 5 .u8 (List.replicate (l0.length + 5) 0) (Nat.le_refl _) (by simp; omega)
  rw [List.length_replicate] at z
  simp only [List.take_zero, List.nil_append, Nat.sub_zero]
  exact z
 case round =>
  obtain ⟨i, rfl, HI, HO, HB⟩ := hrel
  have hi1 := HI.out.1
  by_cases hlt : i < l0.length
  ·
   obtain ⟨ad, e0, hx⟩ := Kd.at_int HR0.out (i : Int) (by omega) (by omega)
   cases e0
   replace hx := (HB.out.cell (World.block_lt_of_cell? w _ hx)).trans hx
   rw [Int.toNat_natCast] at hx
   have hg := own_at HO.out (i : Int) (by omega) (by omega)
   obtain ⟨hg1, hg2⟩ := hg
   rw [Int.toNat_natCast] at hg1 hg2
   have hlt2 : (i : Int) < (l0.length : Int) := by omega
   have hd : decide (i < l0.length) = true := decide_eq_true hlt
   go_wp2
   go_roundg (l0.length - i)
   case measure => have := HI.out; omega
   case rel =>
    refine ⟨i + 1, by go_num, ⟨by omega, by omega⟩, ⟨?_⟩, ⟨?_⟩⟩
    ·
     have := (own_store HO.out (i : Int) (rd l0 (i : Int))).1
     rw [Int.toNat_natCast, rabbetlaw0_Handed.fill l0 l0.length i hlt rfl] at this
     exact this
    ·
     exact HB.out.setCell (Nat.le_refl _) _
  ·
   have hie : i = l0.length := by omega
   have hd : decide (i < l0.length) = false := decide_eq_false hlt
   subst hie
   have HO2 := ak_ (show World.ownsRow _ w.heap.size 5 1 (.slice (some ⟨w.heap.size, 0, none⟩) (l0.length + 5) (l0.length + 5)) (l0.length + 5) (nums .u8 (l0 ++ rabbetlaw0_Handed.tail 0)) from by
    have z := HO.out
    rw [List.take_length, show List.replicate (l0.length + 5 - l0.length) (0 : Int) = rabbetlaw0_Handed.tail 0 by rw [Nat.add_sub_cancel_left]; rfl] at z
    exact z)
   clear HO HI hi1
   have hcut := rabbetlaw0_Handed.cut (some ⟨w.heap.size, 0, none⟩) l0.length (l0.length + 5)
   go_wp2
   go_loopg [6] 6 (fun kq v6 w' => ∃ i : Nat, v6 = .int .i64 (i : Int) ∧ Aside0 (i ≤ 5 ∧ 5 < kq + i) ∧ Aside0 (w'.ownsRow w.heap.size 5 1 (.slice (some ⟨w.heap.size, 0, none⟩) (l0.length + 5) (l0.length + 5)) (l0.length + 5) (nums .u8 (l0 ++ rabbetlaw0_Handed.tail i))) ∧ Aside0 (Below w.heap.size w w'))
   case atStart => exact ⟨0, rfl, ⟨by omega, by omega⟩, HO2, HB⟩
   case round =>
    clear HO2 HB hd hlt hcut
    obtain ⟨i, rfl, HI, HO, HB⟩ := hrel
    have hi1 := HI.out.1
    by_cases hlt : i < 5
    ·
     obtain ⟨hg1, hg2⟩ := own_at HO.out ((l0.length + i : Nat) : Int) (by omega) (by omega)
     rw [Int.toNat_natCast] at hg1 hg2
     have hd : decide ((i : Int) < 5) = true := decide_eq_true (by omega)
     have hlt3 : (i : Int) < 5 := by omega
     have hsum : IntKind.i64.wrap ((l0.length : Int) + (i : Int)) = ((l0.length + i : Nat) : Int) := by simp only [i64_w]; unfold wrap64; omega
     have hin : ((l0.length + i : Nat) : Int) < ((l0.length + 5 : Nat) : Int) := by omega
     have hin2 : decide (l0.length + i < l0.length + 5) = true := decide_eq_true (by omega)
     go_wp2
     go_roundg (5 - i)
     case measure => have := HI.out; omega
     case rel =>
      refine ⟨i + 1, by go_num, ⟨by omega, by have := HI.out; omega⟩, ⟨?_⟩, ⟨?_⟩⟩
      ·
       have z := (own_store HO.out ((l0.length + i : Nat) : Int) ((161 + i : Nat) : Int)).1
       rw [Int.toNat_natCast, rabbetlaw0_Handed.mark l0 l0.length i hlt rfl, show ((161 + i : Nat) : Int) = 161 + (i : Int) by omega] at z
       exact z
      ·
       exact HB.out.setCell (Nat.le_refl _) _
    ·
     have hie : i = 5 := by omega
     subst hie
     go_wp2
     go_ret
     have hx : (l0 ++ rabbetlaw0_Handed.tail 5).length = l0.length + 5 := by rw [List.length_append]; rfl
     have hown := HO.out
     have hown2 := rabbetlaw0_Handed.relen hx.symm hown
     have hR := Kd.R_take (m := l0.length) (Kd.R_of_own (h1 := fun _ => rfl) (ok := fun _ => True) hown2 (fun _ _ => trivial)) (by rw [hx]; omega)
     rw [List.take_left] at hR
     rw [HR.out]
     refine ⟨_, rfl, ⟨hR, ⟨w.heap.size, l0.length + 5, rfl, Nat.le_refl _, fun i hi => ?_⟩⟩, HB.out⟩
     obtain ⟨hg1, _⟩ := own_at HO.out ((l0.length + i : Nat) : Int) (by omega) (by omega)
     rw [Int.toNat_natCast, rabbetlaw0_Handed.rd_tail l0 i hi] at hg1
     exact hg1

end Go.Proofs.YtigldipjkejalaaDoor.PPackAll
