-- Written by xprint.py (a program of this project) out of the translation. Not trusted: Lean checks it.
import Derived.Test.YtgbammocbjghjaaDoorPDeltaFormsx0
import Derived.Test.YtgbammocbjghjaaDoorPDeltaFormsx1
import Derived.Test.YtgbammocbjghjaaDoorPDeltaFormsx3
namespace Go.Proofs.YtgbammocbjghjaaDoor.PDeltaForms
open Go.RowKit Go.Proofs.YtgbammocbjghjaaDoorW.PrintWords Go.Proofs.YtgbammocbjghjaaDoorW.PrintLast Go.Proofs.YtgbammocbjghjaaDoorW.PrintMore
attribute [local go_sem] max2_int min2_int max_two min_two max_three min_three max_four min_four   -- for this text's walks alone
set_option linter.unusedVariables false
set_option linter.unusedSimpArgs false

/-! ### rabbetlaw9_DeltaForms: function 6 -/
def rabbetlaw9_DeltaForms.f (k : Nat)  : Option (Bool) := (rabbetlaw9_begun.f k).bind fun t170 => (if t170 = true then ((delta_Put.f k 2 (([(⟨2, 5, (⟨#[]⟩ : ByteArray)⟩ : S26), (⟨2, 6, (⟨#[]⟩ : ByteArray)⟩ : S26), (⟨2, 4, (⟨#[]⟩ : ByteArray)⟩ : S26)] : List (S26)))).bind fun bt174 => ((delta_Put.f k 2 (([(⟨2, (-9223372036854775808), (⟨#[]⟩ : ByteArray)⟩ : S26), (⟨2, 9223372036854775807, (⟨#[]⟩ : ByteArray)⟩ : S26)] : List (S26)))).bind fun bt181 => ((delta_Put.f k 3 ([] : List (S26))).bind fun bt185 => ((delta_Put.f k 1 ([] : List (S26))).bind fun bt189 => ((delta_Take.f k 1 2 ([254, 255, 3, 2] : List Int)).bind fun bt193 => ((delta_Take.f k 2 2 bt181.1).bind fun bt197 => (if bt174.2 = true then (if (strOfNums bt174.1).toList = ([10, 2, 3] : List UInt8) then (if bt181.2 = true then (if (bt181.1.length : Int) = 11 then (if 10 < (bt181.1.length : Int) then (if (rd bt181.1 10) = 1 then (if bt185.2 = true then (none) else (if bt189.2 = true then (if (bt189.1.length : Int) = 0 then (if bt193.2 = true then (none) else (if bt197.2 = true then (if (bt197.1.length : Int) = 2 then (if 1 < (bt197.1.length : Int) then (some (((rd_T26 bt197.1 1).f1) == 9223372036854775807)) else (none)) else (none)) else (none))) else (none)) else (none))) else (none)) else (none)) else (none)) else (none)) else (none)) else (none)))))))) else (none))
theorem rabbetlaw9_DeltaForms.mono : ∀ k, LeO (rabbetlaw9_DeltaForms.f k ) (rabbetlaw9_DeltaForms.f (k + 1) ) := by
  intro  k
  unfold rabbetlaw9_DeltaForms.f
  repeat' first
      | (with_reducible exact delta_Put.mono _ _ _)
      | (with_reducible exact delta_Take.mono _ _ _ _)
      | (with_reducible exact rabbetlaw9_begun.mono _)
      | (with_reducible exact LeO.refl _)
      | (with_reducible exact LeO.none _)
      | (with_reducible refine LeO.ite ?_ ?_)
      | (with_reducible refine LeO.bind ?_ (fun _ => ?_))
      | exact delta_Put.mono _ _ _
      | exact delta_Take.mono _ _ _ _
      | exact rabbetlaw9_begun.mono _
      | exact LeO.none _
      | refine LeO.ite ?_ ?_
      | refine LeO.bind ?_ (fun _ => ?_)
set_option maxHeartbeats 8000000 in
set_option maxRecDepth 100000 in
theorem rabbetlaw9_DeltaForms.calls (GA : Nat → Addr) (k : Nat)  (r : Bool) (w : World) (hG : Glob GA w) (h : rabbetlaw9_DeltaForms.f k  = some r) :
    Calls Tryd.prog 6 #[] w fun e w' => e = .returned (.bool r) ∧ Below w.heap.size w w' := by
  have hu26 := Tryd.underlying26
  have HG := Aside0.mk hG
  clear hG
  have HB := Aside0.mk (Below.refl w.heap.size w)
  have H : ((rabbetlaw9_begun.f k).bind fun t170 => (if t170 = true then ((delta_Put.f k 2 (([(⟨2, 5, (⟨#[]⟩ : ByteArray)⟩ : S26), (⟨2, 6, (⟨#[]⟩ : ByteArray)⟩ : S26), (⟨2, 4, (⟨#[]⟩ : ByteArray)⟩ : S26)] : List (S26)))).bind fun bt174 => ((delta_Put.f k 2 (([(⟨2, (-9223372036854775808), (⟨#[]⟩ : ByteArray)⟩ : S26), (⟨2, 9223372036854775807, (⟨#[]⟩ : ByteArray)⟩ : S26)] : List (S26)))).bind fun bt181 => ((delta_Put.f k 3 ([] : List (S26))).bind fun bt185 => ((delta_Put.f k 1 ([] : List (S26))).bind fun bt189 => ((delta_Take.f k 1 2 ([254, 255, 3, 2] : List Int)).bind fun bt193 => ((delta_Take.f k 2 2 bt181.1).bind fun bt197 => (if bt174.2 = true then (if (strOfNums bt174.1).toList = ([10, 2, 3] : List UInt8) then (if bt181.2 = true then (if (bt181.1.length : Int) = 11 then (if 10 < (bt181.1.length : Int) then (if (rd bt181.1 10) = 1 then (if bt185.2 = true then (none) else (if bt189.2 = true then (if (bt189.1.length : Int) = 0 then (if bt193.2 = true then (none) else (if bt197.2 = true then (if (bt197.1.length : Int) = 2 then (if 1 < (bt197.1.length : Int) then (some (((rd_T26 bt197.1 1).f1) == 9223372036854775807)) else (none)) else (none)) else (none))) else (none)) else (none))) else (none)) else (none)) else (none)) else (none)) else (none)) else (none)))))))) else (none))) = some r := h
  clear h
  replace H := Option.bind_eq_some_iff.mp H
  obtain ⟨t170, A10, H⟩ := H
  replace H : (if t170 = true then ((delta_Put.f k 2 (([(⟨2, 5, (⟨#[]⟩ : ByteArray)⟩ : S26), (⟨2, 6, (⟨#[]⟩ : ByteArray)⟩ : S26), (⟨2, 4, (⟨#[]⟩ : ByteArray)⟩ : S26)] : List (S26)))).bind fun bt174 => ((delta_Put.f k 2 (([(⟨2, (-9223372036854775808), (⟨#[]⟩ : ByteArray)⟩ : S26), (⟨2, 9223372036854775807, (⟨#[]⟩ : ByteArray)⟩ : S26)] : List (S26)))).bind fun bt181 => ((delta_Put.f k 3 ([] : List (S26))).bind fun bt185 => ((delta_Put.f k 1 ([] : List (S26))).bind fun bt189 => ((delta_Take.f k 1 2 ([254, 255, 3, 2] : List Int)).bind fun bt193 => ((delta_Take.f k 2 2 bt181.1).bind fun bt197 => (if bt174.2 = true then (if (strOfNums bt174.1).toList = ([10, 2, 3] : List UInt8) then (if bt181.2 = true then (if (bt181.1.length : Int) = 11 then (if 10 < (bt181.1.length : Int) then (if (rd bt181.1 10) = 1 then (if bt185.2 = true then (none) else (if bt189.2 = true then (if (bt189.1.length : Int) = 0 then (if bt193.2 = true then (none) else (if bt197.2 = true then (if (bt197.1.length : Int) = 2 then (if 1 < (bt197.1.length : Int) then (some (((rd_T26 bt197.1 1).f1) == 9223372036854775807)) else (none)) else (none)) else (none))) else (none)) else (none))) else (none)) else (none)) else (none)) else (none)) else (none)) else (none)))))))) else (none)) = some r := H
  have A1 := Aside0.mk A10
  clear A10
  by_cases c2 : t170 = true
  · subst c2
    have H1 : ((delta_Put.f k 2 (([(⟨2, 5, (⟨#[]⟩ : ByteArray)⟩ : S26), (⟨2, 6, (⟨#[]⟩ : ByteArray)⟩ : S26), (⟨2, 4, (⟨#[]⟩ : ByteArray)⟩ : S26)] : List (S26)))).bind fun bt174 => ((delta_Put.f k 2 (([(⟨2, (-9223372036854775808), (⟨#[]⟩ : ByteArray)⟩ : S26), (⟨2, 9223372036854775807, (⟨#[]⟩ : ByteArray)⟩ : S26)] : List (S26)))).bind fun bt181 => ((delta_Put.f k 3 ([] : List (S26))).bind fun bt185 => ((delta_Put.f k 1 ([] : List (S26))).bind fun bt189 => ((delta_Take.f k 1 2 ([254, 255, 3, 2] : List Int)).bind fun bt193 => ((delta_Take.f k 2 2 bt181.1).bind fun bt197 => (if bt174.2 = true then (if (strOfNums bt174.1).toList = ([10, 2, 3] : List UInt8) then (if bt181.2 = true then (if (bt181.1.length : Int) = 11 then (if 10 < (bt181.1.length : Int) then (if (rd bt181.1 10) = 1 then (if bt185.2 = true then (none) else (if bt189.2 = true then (if (bt189.1.length : Int) = 0 then (if bt193.2 = true then (none) else (if bt197.2 = true then (if (bt197.1.length : Int) = 2 then (if 1 < (bt197.1.length : Int) then (some (((rd_T26 bt197.1 1).f1) == 9223372036854775807)) else (none)) else (none)) else (none))) else (none)) else (none))) else (none)) else (none)) else (none)) else (none)) else (none)) else (none)))))))) = some r := by rw [if_pos rfl] at H; exact H
    clear H
    have H := H1
    clear H1
    obtain ⟨y171, hy171⟩ : ∃ y_ : List (S26), y_ = (([(⟨2, 5, (⟨#[]⟩ : ByteArray)⟩ : S26), (⟨2, 6, (⟨#[]⟩ : ByteArray)⟩ : S26), (⟨2, 4, (⟨#[]⟩ : ByteArray)⟩ : S26)] : List (S26))) := ⟨_, rfl⟩
    replace H : ((delta_Put.f k 2 y171).bind fun bt174 => ((delta_Put.f k 2 (([(⟨2, (-9223372036854775808), (⟨#[]⟩ : ByteArray)⟩ : S26), (⟨2, 9223372036854775807, (⟨#[]⟩ : ByteArray)⟩ : S26)] : List (S26)))).bind fun bt181 => ((delta_Put.f k 3 ([] : List (S26))).bind fun bt185 => ((delta_Put.f k 1 ([] : List (S26))).bind fun bt189 => ((delta_Take.f k 1 2 ([254, 255, 3, 2] : List Int)).bind fun bt193 => ((delta_Take.f k 2 2 bt181.1).bind fun bt197 => (if bt174.2 = true then (if (strOfNums bt174.1).toList = ([10, 2, 3] : List UInt8) then (if bt181.2 = true then (if (bt181.1.length : Int) = 11 then (if 10 < (bt181.1.length : Int) then (if (rd bt181.1 10) = 1 then (if bt185.2 = true then (none) else (if bt189.2 = true then (if (bt189.1.length : Int) = 0 then (if bt193.2 = true then (none) else (if bt197.2 = true then (if (bt197.1.length : Int) = 2 then (if 1 < (bt197.1.length : Int) then (some (((rd_T26 bt197.1 1).f1) == 9223372036854775807)) else (none)) else (none)) else (none))) else (none)) else (none))) else (none)) else (none)) else (none)) else (none)) else (none)) else (none)))))))) = some r := by first | (rw [hy171]; with_reducible exact H) | (have H2_ := (Option.bind_some _ _).symm.trans H; rw [hy171]; with_reducible exact H2_) | (have H2_ := (Option.bind_some _ _).symm.trans H; with_reducible exact H2_) | with_reducible exact H | (rw [hy171]; exact H) | exact H
    have Ny171 := Aside0.mk hy171
    clear hy171
    replace H := Option.bind_eq_some_iff.mp H
    obtain ⟨⟨t174, t175⟩, A30, H⟩ := H
    replace H : ((delta_Put.f k 2 (([(⟨2, (-9223372036854775808), (⟨#[]⟩ : ByteArray)⟩ : S26), (⟨2, 9223372036854775807, (⟨#[]⟩ : ByteArray)⟩ : S26)] : List (S26)))).bind fun bt181 => ((delta_Put.f k 3 ([] : List (S26))).bind fun bt185 => ((delta_Put.f k 1 ([] : List (S26))).bind fun bt189 => ((delta_Take.f k 1 2 ([254, 255, 3, 2] : List Int)).bind fun bt193 => ((delta_Take.f k 2 2 bt181.1).bind fun bt197 => (if t175 = true then (if (strOfNums t174).toList = ([10, 2, 3] : List UInt8) then (if bt181.2 = true then (if (bt181.1.length : Int) = 11 then (if 10 < (bt181.1.length : Int) then (if (rd bt181.1 10) = 1 then (if bt185.2 = true then (none) else (if bt189.2 = true then (if (bt189.1.length : Int) = 0 then (if bt193.2 = true then (none) else (if bt197.2 = true then (if (bt197.1.length : Int) = 2 then (if 1 < (bt197.1.length : Int) then (some (((rd_T26 bt197.1 1).f1) == 9223372036854775807)) else (none)) else (none)) else (none))) else (none)) else (none))) else (none)) else (none)) else (none)) else (none)) else (none)) else (none))))))) = some r := H
    have A3 := Aside0.mk A30
    clear A30
    obtain ⟨y178, hy178⟩ : ∃ y_ : List (S26), y_ = (([(⟨2, (-9223372036854775808), (⟨#[]⟩ : ByteArray)⟩ : S26), (⟨2, 9223372036854775807, (⟨#[]⟩ : ByteArray)⟩ : S26)] : List (S26))) := ⟨_, rfl⟩
    replace H : ((delta_Put.f k 2 y178).bind fun bt181 => ((delta_Put.f k 3 ([] : List (S26))).bind fun bt185 => ((delta_Put.f k 1 ([] : List (S26))).bind fun bt189 => ((delta_Take.f k 1 2 ([254, 255, 3, 2] : List Int)).bind fun bt193 => ((delta_Take.f k 2 2 bt181.1).bind fun bt197 => (if t175 = true then (if (strOfNums t174).toList = ([10, 2, 3] : List UInt8) then (if bt181.2 = true then (if (bt181.1.length : Int) = 11 then (if 10 < (bt181.1.length : Int) then (if (rd bt181.1 10) = 1 then (if bt185.2 = true then (none) else (if bt189.2 = true then (if (bt189.1.length : Int) = 0 then (if bt193.2 = true then (none) else (if bt197.2 = true then (if (bt197.1.length : Int) = 2 then (if 1 < (bt197.1.length : Int) then (some (((rd_T26 bt197.1 1).f1) == 9223372036854775807)) else (none)) else (none)) else (none))) else (none)) else (none))) else (none)) else (none)) else (none)) else (none)) else (none)) else (none))))))) = some r := by first | (rw [hy178]; with_reducible exact H) | (have H2_ := (Option.bind_some _ _).symm.trans H; rw [hy178]; with_reducible exact H2_) | (have H2_ := (Option.bind_some _ _).symm.trans H; with_reducible exact H2_) | with_reducible exact H | (rw [hy178]; exact H) | exact H
    have Ny178 := Aside0.mk hy178
    clear hy178
    replace H := Option.bind_eq_some_iff.mp H
    obtain ⟨⟨t181, t182⟩, A40, H⟩ := H
    replace H : ((delta_Put.f k 3 ([] : List (S26))).bind fun bt185 => ((delta_Put.f k 1 ([] : List (S26))).bind fun bt189 => ((delta_Take.f k 1 2 ([254, 255, 3, 2] : List Int)).bind fun bt193 => ((delta_Take.f k 2 2 t181).bind fun bt197 => (if t175 = true then (if (strOfNums t174).toList = ([10, 2, 3] : List UInt8) then (if t182 = true then (if (t181.length : Int) = 11 then (if 10 < (t181.length : Int) then (if (rd t181 10) = 1 then (if bt185.2 = true then (none) else (if bt189.2 = true then (if (bt189.1.length : Int) = 0 then (if bt193.2 = true then (none) else (if bt197.2 = true then (if (bt197.1.length : Int) = 2 then (if 1 < (bt197.1.length : Int) then (some (((rd_T26 bt197.1 1).f1) == 9223372036854775807)) else (none)) else (none)) else (none))) else (none)) else (none))) else (none)) else (none)) else (none)) else (none)) else (none)) else (none)))))) = some r := H
    have A4 := Aside0.mk A40
    clear A40
    replace H := Option.bind_eq_some_iff.mp H
    obtain ⟨⟨t185, t186⟩, A50, H⟩ := H
    replace H : ((delta_Put.f k 1 ([] : List (S26))).bind fun bt189 => ((delta_Take.f k 1 2 ([254, 255, 3, 2] : List Int)).bind fun bt193 => ((delta_Take.f k 2 2 t181).bind fun bt197 => (if t175 = true then (if (strOfNums t174).toList = ([10, 2, 3] : List UInt8) then (if t182 = true then (if (t181.length : Int) = 11 then (if 10 < (t181.length : Int) then (if (rd t181 10) = 1 then (if t186 = true then (none) else (if bt189.2 = true then (if (bt189.1.length : Int) = 0 then (if bt193.2 = true then (none) else (if bt197.2 = true then (if (bt197.1.length : Int) = 2 then (if 1 < (bt197.1.length : Int) then (some (((rd_T26 bt197.1 1).f1) == 9223372036854775807)) else (none)) else (none)) else (none))) else (none)) else (none))) else (none)) else (none)) else (none)) else (none)) else (none)) else (none))))) = some r := H
    have A5 := Aside0.mk A50
    clear A50
    replace H := Option.bind_eq_some_iff.mp H
    obtain ⟨⟨t189, t190⟩, A60, H⟩ := H
    replace H : ((delta_Take.f k 1 2 ([254, 255, 3, 2] : List Int)).bind fun bt193 => ((delta_Take.f k 2 2 t181).bind fun bt197 => (if t175 = true then (if (strOfNums t174).toList = ([10, 2, 3] : List UInt8) then (if t182 = true then (if (t181.length : Int) = 11 then (if 10 < (t181.length : Int) then (if (rd t181 10) = 1 then (if t186 = true then (none) else (if t190 = true then (if (t189.length : Int) = 0 then (if bt193.2 = true then (none) else (if bt197.2 = true then (if (bt197.1.length : Int) = 2 then (if 1 < (bt197.1.length : Int) then (some (((rd_T26 bt197.1 1).f1) == 9223372036854775807)) else (none)) else (none)) else (none))) else (none)) else (none))) else (none)) else (none)) else (none)) else (none)) else (none)) else (none)))) = some r := H
    have A6 := Aside0.mk A60
    clear A60
    replace H := Option.bind_eq_some_iff.mp H
    obtain ⟨⟨t193, t194⟩, A70, H⟩ := H
    replace H : ((delta_Take.f k 2 2 t181).bind fun bt197 => (if t175 = true then (if (strOfNums t174).toList = ([10, 2, 3] : List UInt8) then (if t182 = true then (if (t181.length : Int) = 11 then (if 10 < (t181.length : Int) then (if (rd t181 10) = 1 then (if t186 = true then (none) else (if t190 = true then (if (t189.length : Int) = 0 then (if t194 = true then (none) else (if bt197.2 = true then (if (bt197.1.length : Int) = 2 then (if 1 < (bt197.1.length : Int) then (some (((rd_T26 bt197.1 1).f1) == 9223372036854775807)) else (none)) else (none)) else (none))) else (none)) else (none))) else (none)) else (none)) else (none)) else (none)) else (none)) else (none))) = some r := H
    have A7 := Aside0.mk A70
    clear A70
    replace H := Option.bind_eq_some_iff.mp H
    obtain ⟨⟨t197, t198⟩, A80, H⟩ := H
    replace H : (if t175 = true then (if (strOfNums t174).toList = ([10, 2, 3] : List UInt8) then (if t182 = true then (if (t181.length : Int) = 11 then (if 10 < (t181.length : Int) then (if (rd t181 10) = 1 then (if t186 = true then (none) else (if t190 = true then (if (t189.length : Int) = 0 then (if t194 = true then (none) else (if t198 = true then (if (t197.length : Int) = 2 then (if 1 < (t197.length : Int) then (some (((rd_T26 t197 1).f1) == 9223372036854775807)) else (none)) else (none)) else (none))) else (none)) else (none))) else (none)) else (none)) else (none)) else (none)) else (none)) else (none)) = some r := H
    have A8 := Aside0.mk A80
    clear A80
    by_cases c9 : t175 = true
    · subst c9
      have H1 : (if (strOfNums t174).toList = ([10, 2, 3] : List UInt8) then (if t182 = true then (if (t181.length : Int) = 11 then (if 10 < (t181.length : Int) then (if (rd t181 10) = 1 then (if t186 = true then (none) else (if t190 = true then (if (t189.length : Int) = 0 then (if t194 = true then (none) else (if t198 = true then (if (t197.length : Int) = 2 then (if 1 < (t197.length : Int) then (some (((rd_T26 t197 1).f1) == 9223372036854775807)) else (none)) else (none)) else (none))) else (none)) else (none))) else (none)) else (none)) else (none)) else (none)) else (none)) = some r := by rw [if_pos rfl] at H; exact H
      clear H
      have H := H1
      clear H1
      by_cases c10 : (strOfNums t174).toList = ([10, 2, 3] : List UInt8)
      · rw [if_pos c10] at H
        have c10b0 : ((strOfNums t174).toList == ([10, 2, 3] : List UInt8)) = true := beq_iff_eq.mpr c10
        have c10b1 : ((strOfNums t174).toList != ([10, 2, 3] : List UInt8)) = false := bne_eq_false_iff_eq.mpr c10
        clear c10
        by_cases c11 : t182 = true
        · subst c11
          have H1 : (if (t181.length : Int) = 11 then (if 10 < (t181.length : Int) then (if (rd t181 10) = 1 then (if t186 = true then (none) else (if t190 = true then (if (t189.length : Int) = 0 then (if t194 = true then (none) else (if t198 = true then (if (t197.length : Int) = 2 then (if 1 < (t197.length : Int) then (some (((rd_T26 t197 1).f1) == 9223372036854775807)) else (none)) else (none)) else (none))) else (none)) else (none))) else (none)) else (none)) else (none)) = some r := by rw [if_pos rfl] at H; exact H
          clear H
          have H := H1
          clear H1
          by_cases c12 : (t181.length : Int) = 11
          · rw [if_pos c12] at H
            have c12b0 : ((t181.length : Int) == 11) = true := beq_iff_eq.mpr c12
            have c12b1 : ((t181.length : Int) != 11) = false := bne_eq_false_iff_eq.mpr c12
            clear c12
            by_cases c13 : 10 < (t181.length : Int)
            · rw [if_pos c13] at H
              have c13b0 : decide (10 < (t181.length : Int)) = true := decide_eq_true c13
              have c13b1 : decide (10 < t181.length) = true := decide_eq_true (by omega)
              clear c13
              by_cases c14 : (rd t181 10) = 1
              · rw [if_pos c14] at H
                have c14b0 : ((rd t181 10) == 1) = true := beq_iff_eq.mpr c14
                have c14b1 : ((rd t181 10) != 1) = false := bne_eq_false_iff_eq.mpr c14
                clear c14
                by_cases c15 : t186 = true
                · subst c15
                  have H1 : (none) = some r := by rw [if_pos rfl] at H; exact H
                  clear H
                  have H := H1
                  clear H1
                  exact absurd H (by simp)
                · replace c15 := Bool.eq_false_iff.mpr c15
                  subst c15
                  have H1 : (if t190 = true then (if (t189.length : Int) = 0 then (if t194 = true then (none) else (if t198 = true then (if (t197.length : Int) = 2 then (if 1 < (t197.length : Int) then (some (((rd_T26 t197 1).f1) == 9223372036854775807)) else (none)) else (none)) else (none))) else (none)) else (none)) = some r := by rw [if_neg (show ¬ (false = true) by decide)] at H; exact H
                  clear H
                  have H := H1
                  clear H1
                  by_cases c16 : t190 = true
                  · subst c16
                    have H1 : (if (t189.length : Int) = 0 then (if t194 = true then (none) else (if t198 = true then (if (t197.length : Int) = 2 then (if 1 < (t197.length : Int) then (some (((rd_T26 t197 1).f1) == 9223372036854775807)) else (none)) else (none)) else (none))) else (none)) = some r := by rw [if_pos rfl] at H; exact H
                    clear H
                    have H := H1
                    clear H1
                    by_cases c17 : (t189.length : Int) = 0
                    · rw [if_pos c17] at H
                      have c17b0 : ((t189.length : Int) == 0) = true := beq_iff_eq.mpr c17
                      have c17b1 : ((t189.length : Int) != 0) = false := bne_eq_false_iff_eq.mpr c17
                      clear c17
                      by_cases c18 : t194 = true
                      · subst c18
                        have H1 : (none) = some r := by rw [if_pos rfl] at H; exact H
                        clear H
                        have H := H1
                        clear H1
                        exact absurd H (by simp)
                      · replace c18 := Bool.eq_false_iff.mpr c18
                        subst c18
                        have H1 : (if t198 = true then (if (t197.length : Int) = 2 then (if 1 < (t197.length : Int) then (some (((rd_T26 t197 1).f1) == 9223372036854775807)) else (none)) else (none)) else (none)) = some r := by rw [if_neg (show ¬ (false = true) by decide)] at H; exact H
                        clear H
                        have H := H1
                        clear H1
                        by_cases c19 : t198 = true
                        · subst c19
                          have H1 : (if (t197.length : Int) = 2 then (if 1 < (t197.length : Int) then (some (((rd_T26 t197 1).f1) == 9223372036854775807)) else (none)) else (none)) = some r := by rw [if_pos rfl] at H; exact H
                          clear H
                          have H := H1
                          clear H1
                          by_cases c20 : (t197.length : Int) = 2
                          · rw [if_pos c20] at H
                            have c20b0 : ((t197.length : Int) == 2) = true := beq_iff_eq.mpr c20
                            have c20b1 : ((t197.length : Int) != 2) = false := bne_eq_false_iff_eq.mpr c20
                            clear c20
                            by_cases c21 : 1 < (t197.length : Int)
                            · rw [if_pos c21] at H
                              have c21b0 : decide (1 < (t197.length : Int)) = true := decide_eq_true c21
                              have c21b1 : decide (1 < t197.length) = true := decide_eq_true (by omega)
                              clear c21
                              obtain rfl := Option.some.inj H
                              have kcl22 := x_const (P := Tryd.prog) 22 5 Tryd.underlying22 Tryd.underlying5
                              go_enter Tryd.func6, Tryd.ntmps6
                              go_wp2_with (first | ((with_reducible refine gate_callee (f := 12) rfl ?_); refine goesL_ (some 13) rfl rfl Tryd.func12 (by kernel_rfl) rfl #[] rfl (by (try simp only [List.map_toArray, List.map_cons, List.map_nil]); first | done | rfl | (simp only [List.length_drop, List.length_take]; rfl)) ?_; (with_reducible refine (rabbetlaw9_begun.calls GA k  true _ ?side1 A1.out).mono ?_); (case side1 => exact Glob.below HG.out (by repeat (first | (with_reducible first | exact HB.out | apply below_alloc | apply pw_below_drewN | apply below_drew1) | exact HB.out))); rintro e w22 ⟨rfl, hb⟩; refine ⟨_, rfl, ?_⟩; have n0_ := Aside0.mk (below_step (by repeat (first | (with_reducible first | exact HB.out | apply below_alloc | apply pw_below_drewN | apply below_drew1) | exact HB.out)) hb); clear HB; have HB := n0_; clear n0_; (try clear hb); (try clear hb2); (try clear hk); (try clear hi)) | ((with_reducible refine gate_dst (N := 19) rfl ?_); (try (refine gate_guard (by rfl) ?_; dsimp only)); refine Kd.R_lit k26 _ 26 ?hg (N := 19) ?hd (xs := ([(⟨2, 5, (⟨#[]⟩ : ByteArray)⟩ : S26), (⟨2, 6, (⟨#[]⟩ : ByteArray)⟩ : S26), (⟨2, 4, (⟨#[]⟩ : ByteArray)⟩ : S26)] : List (S26))) (inner := [.int .i64 2, .int .i64 5, .string (⟨#[]⟩ : ByteArray), .int .i64 2, .int .i64 6, .string (⟨#[]⟩ : ByteArray), .int .i64 2, .int .i64 4, .string (⟨#[]⟩ : ByteArray)]) (ok := fun _ => True) (okp := fun _ => True) ?hr ?hp (fun _ hk => hk) trivial (Below.refl _ _) (Nat.le_refl _) (by simp) ?_; (case hd => rfl); (case hg => rfl); (case hr => first | (go_simp; done) | (go_simp; rfl)); (case hp => exact (Reps.c3 (show Kd.M k26 _ _ _ (⟨2, 5, (⟨#[]⟩ : ByteArray)⟩ : S26) [.int .i64 2, .int .i64 5, .string (⟨#[]⟩ : ByteArray)] from (k26_mkM _ _ _ (⟨2, 5, (⟨#[]⟩ : ByteArray)⟩ : S26) )) (Reps.c3 (show Kd.M k26 _ _ _ (⟨2, 6, (⟨#[]⟩ : ByteArray)⟩ : S26) [.int .i64 2, .int .i64 6, .string (⟨#[]⟩ : ByteArray)] from (k26_mkM _ _ _ (⟨2, 6, (⟨#[]⟩ : ByteArray)⟩ : S26) )) (Reps.c3 (show Kd.M k26 _ _ _ (⟨2, 4, (⟨#[]⟩ : ByteArray)⟩ : S26) [.int .i64 2, .int .i64 4, .string (⟨#[]⟩ : ByteArray)] from (k26_mkM _ _ _ (⟨2, 4, (⟨#[]⟩ : ByteArray)⟩ : S26) )) (Reps.none _ _))))); intro v172 w23 ho24 hb hg_ hnew_; clear hg_ hnew_; (first | rw [← Ny171.out] at ho24 | (simp only [Int.reduceToNat] at ho24; rw [← Ny171.out] at ho24)); have n0_ := Aside0.mk (Kd.R_lower ho24 (below_size (by repeat (first | (with_reducible first | exact HB.out | apply below_alloc | apply pw_below_drewN | apply below_drew1) | exact HB.out)))); have n1_ := Aside0.mk (below_step (by repeat (first | (with_reducible first | exact HB.out | apply below_alloc | apply pw_below_drewN | apply below_drew1) | exact HB.out)) hb); clear HB; have HO173 := n0_; have HB := n1_; clear n0_ n1_; clear hb ho24; obtain ⟨Ao25, co25, eo25⟩ := Kd.R_slice HO173.out; subst eo25) | ((with_reducible refine gate_callee (f := 14) rfl ?_); refine goesL_ (some 20) rfl rfl Tryd.func14 (by kernel_rfl) rfl #[.int .i64 2, .slice Ao25 y171.length co25] rfl (by (try simp only [List.map_toArray, List.map_cons, List.map_nil]); first | done | rfl | (simp only [List.length_drop, List.length_take]; rfl)) ?_; (with_reducible refine (delta_Put.calls k 2 _ _ y171 t174 true _ ?side1 ?side2 A3.out).mono ?_); (case side1 => repeat (first | exact (Kd.R_reads' HO173.out).2.2 | (with_reducible refine Kd.C_alloc ?_ _) | (with_reducible refine Kd.C_drewN ?_ _) | (with_reducible refine Kd.C_drew ?_))); (case side2 => exact (Kd.R_reads' HO173.out).2.1); rintro e w26 ⟨v176, rfl, ho0, hb⟩; refine ⟨_, rfl, ?_⟩; have n0_ := Aside0.mk (Kd.R_below (by (with_reducible repeat (first | apply Kd.R_alloc | apply Kd.R_drewN | apply Kd.R_drew)); exact HO173.out) hb); have n1_ := Aside0.mk (Kd.R_lower ho0 (below_size (by repeat (first | (with_reducible first | exact HB.out | apply below_alloc | apply pw_below_drewN | apply below_drew1) | exact HB.out)))); have n2_ := Aside0.mk (below_step (by repeat (first | (with_reducible first | exact HB.out | apply below_alloc | apply pw_below_drewN | apply below_drew1) | exact HB.out)) hb); clear HO173; clear HB; have HO173 := n0_; have HO177 := n1_; have HB := n2_; clear n0_ n1_ n2_; (try clear hb); (try clear hb2); (try clear hk); (try clear hi); (try clear ho0)) | ((with_reducible refine gate_dst (N := 26) rfl ?_); (try (refine gate_guard (by rfl) ?_; dsimp only)); refine Kd.R_lit k26 _ 26 ?hg (N := 26) ?hd (xs := ([(⟨2, (-9223372036854775808), (⟨#[]⟩ : ByteArray)⟩ : S26), (⟨2, 9223372036854775807, (⟨#[]⟩ : ByteArray)⟩ : S26)] : List (S26))) (inner := [.int .i64 2, .int .i64 (-9223372036854775808), .string (⟨#[]⟩ : ByteArray), .int .i64 2, .int .i64 9223372036854775807, .string (⟨#[]⟩ : ByteArray)]) (ok := fun _ => True) (okp := fun _ => True) ?hr ?hp (fun _ hk => hk) trivial (Below.refl _ _) (Nat.le_refl _) (by simp) ?_; (case hd => rfl); (case hg => rfl); (case hr => first | (go_simp; done) | (go_simp; rfl)); (case hp => exact (Reps.c3 (show Kd.M k26 _ _ _ (⟨2, (-9223372036854775808), (⟨#[]⟩ : ByteArray)⟩ : S26) [.int .i64 2, .int .i64 (-9223372036854775808), .string (⟨#[]⟩ : ByteArray)] from (k26_mkM _ _ _ (⟨2, (-9223372036854775808), (⟨#[]⟩ : ByteArray)⟩ : S26) )) (Reps.c3 (show Kd.M k26 _ _ _ (⟨2, 9223372036854775807, (⟨#[]⟩ : ByteArray)⟩ : S26) [.int .i64 2, .int .i64 9223372036854775807, .string (⟨#[]⟩ : ByteArray)] from (k26_mkM _ _ _ (⟨2, 9223372036854775807, (⟨#[]⟩ : ByteArray)⟩ : S26) )) (Reps.none _ _)))); intro v179 w27 ho28 hb hg_ hnew_; clear hg_ hnew_; (first | rw [← Ny178.out] at ho28 | (simp only [Int.reduceToNat] at ho28; rw [← Ny178.out] at ho28)); have n0_ := Aside0.mk (Kd.R_elder' (by (with_reducible repeat (first | apply Kd.R_alloc | apply Kd.R_drewN | apply Kd.R_drew)); exact HO173.out) (Kd.R_base ho28) hb); have n1_ := Aside0.mk (Kd.R_below (by (with_reducible repeat (first | apply Kd.R_alloc | apply Kd.R_drewN | apply Kd.R_drew)); exact HO177.out) hb); have n2_ := Aside0.mk (Kd.R_lower (Kd.R_new' ho28 (Kd.R_lt (by (with_reducible repeat (first | apply Kd.R_alloc | apply Kd.R_drewN | apply Kd.R_drew)); exact HO173.out))) (below_size (by repeat (first | (with_reducible first | exact HB.out | apply below_alloc | apply pw_below_drewN | apply below_drew1) | exact HB.out)))); have n3_ := Aside0.mk (below_step (by repeat (first | (with_reducible first | exact HB.out | apply below_alloc | apply pw_below_drewN | apply below_drew1) | exact HB.out)) hb); clear HO173; clear HO177; clear HB; have HO173 := n0_; have HO177 := n1_; have HO180 := n2_; have HB := n3_; clear n0_ n1_ n2_ n3_; clear hb ho28; obtain ⟨Ao29, co29, eo29⟩ := Kd.R_slice HO180.out; subst eo29) | ((with_reducible refine gate_callee (f := 14) rfl ?_); refine goesL_ (some 27) rfl rfl Tryd.func14 (by kernel_rfl) rfl #[.int .i64 2, .slice Ao29 y178.length co29] rfl (by (try simp only [List.map_toArray, List.map_cons, List.map_nil]); first | done | rfl | (simp only [List.length_drop, List.length_take]; rfl)) ?_; (with_reducible refine (delta_Put.calls k 2 _ _ y178 t181 true _ ?side1 ?side2 A4.out).mono ?_); (case side1 => repeat (first | exact (Kd.R_reads' HO180.out).2.2 | (with_reducible refine Kd.C_alloc ?_ _) | (with_reducible refine Kd.C_drewN ?_ _) | (with_reducible refine Kd.C_drew ?_))); (case side2 => exact (Kd.R_reads' HO180.out).2.1); rintro e w30 ⟨v183, rfl, ho0, hb⟩; refine ⟨_, rfl, ?_⟩; have n0_ := Aside0.mk (Kd.R_below (by (with_reducible repeat (first | apply Kd.R_alloc | apply Kd.R_drewN | apply Kd.R_drew)); exact HO173.out) hb); have n1_ := Aside0.mk (Kd.R_elder' (by (with_reducible repeat (first | apply Kd.R_alloc | apply Kd.R_drewN | apply Kd.R_drew)); exact HO177.out) (Kd.R_base ho0) hb); have n2_ := Aside0.mk (Kd.R_below (by (with_reducible repeat (first | apply Kd.R_alloc | apply Kd.R_drewN | apply Kd.R_drew)); exact HO180.out) hb); have n3_ := Aside0.mk (Kd.R_lower (Kd.R_new' ho0 (Kd.R_lt (by (with_reducible repeat (first | apply Kd.R_alloc | apply Kd.R_drewN | apply Kd.R_drew)); exact HO177.out))) (below_size (by repeat (first | (with_reducible first | exact HB.out | apply below_alloc | apply pw_below_drewN | apply below_drew1) | exact HB.out)))); have n4_ := Aside0.mk (below_step (by repeat (first | (with_reducible first | exact HB.out | apply below_alloc | apply pw_below_drewN | apply below_drew1) | exact HB.out)) hb); clear HO173; clear HO177; clear HO180; clear HB; have HO173 := n0_; have HO177 := n1_; have HO180 := n2_; have HO184 := n3_; have HB := n4_; clear n0_ n1_ n2_ n3_ n4_; (try clear hb); (try clear hb2); (try clear hk); (try clear hi); (try clear ho0)) | ((with_reducible refine gate_callee (f := 14) rfl ?_); refine goesL_ (some 31) rfl rfl Tryd.func14 (by kernel_rfl) rfl #[.int .i64 3, .slice none 0 0] rfl (by (try simp only [List.map_toArray, List.map_cons, List.map_nil]); first | done | rfl | (simp only [List.length_drop, List.length_take]; rfl)) ?_; (refine (delta_Put.calls k 3 _ _ ([] : List (S26)) t185 false _ ?side1 ?side2 A5.out).mono ?_); (case side1 => exact Kd.C_nil _ _); (case side2 => exact Nat.le_refl _); rintro e w31 ⟨v187, rfl, ho0, hb⟩; refine ⟨_, rfl, ?_⟩; have n0_ := Aside0.mk (Kd.R_below (by (with_reducible repeat (first | apply Kd.R_alloc | apply Kd.R_drewN | apply Kd.R_drew)); exact HO173.out) hb); have n1_ := Aside0.mk (Kd.R_elder' (by (with_reducible repeat (first | apply Kd.R_alloc | apply Kd.R_drewN | apply Kd.R_drew)); exact HO177.out) (Kd.R_base ho0) hb); have n2_ := Aside0.mk (Kd.R_below (by (with_reducible repeat (first | apply Kd.R_alloc | apply Kd.R_drewN | apply Kd.R_drew)); exact HO180.out) hb); have n3_ := Aside0.mk (Kd.R_elder' (by (with_reducible repeat (first | apply Kd.R_alloc | apply Kd.R_drewN | apply Kd.R_drew)); exact HO184.out) (Kd.R_base ho0) hb); have n4_ := Aside0.mk (Kd.R_lower (Kd.R_new' (Kd.R_new' ho0 (Kd.R_lt (by (with_reducible repeat (first | apply Kd.R_alloc | apply Kd.R_drewN | apply Kd.R_drew)); exact HO177.out))) (Kd.R_lt (by (with_reducible repeat (first | apply Kd.R_alloc | apply Kd.R_drewN | apply Kd.R_drew)); exact HO184.out))) (below_size (by repeat (first | (with_reducible first | exact HB.out | apply below_alloc | apply pw_below_drewN | apply below_drew1) | exact HB.out)))); have n5_ := Aside0.mk (below_step (by repeat (first | (with_reducible first | exact HB.out | apply below_alloc | apply pw_below_drewN | apply below_drew1) | exact HB.out)) hb); clear HO173; clear HO177; clear HO180; clear HO184; clear HB; have HO173 := n0_; have HO177 := n1_; have HO180 := n2_; have HO184 := n3_; have HO188 := n4_; have HB := n5_; clear n0_ n1_ n2_ n3_ n4_ n5_; (try clear hb); (try clear hb2); (try clear hk); (try clear hi); (try clear ho0)) | ((with_reducible refine gate_callee (f := 14) rfl ?_); refine goesL_ (some 35) rfl rfl Tryd.func14 (by kernel_rfl) rfl #[.int .i64 1, .slice none 0 0] rfl (by (try simp only [List.map_toArray, List.map_cons, List.map_nil]); first | done | rfl | (simp only [List.length_drop, List.length_take]; rfl)) ?_; (refine (delta_Put.calls k 1 _ _ ([] : List (S26)) t189 true _ ?side1 ?side2 A6.out).mono ?_); (case side1 => exact Kd.C_nil _ _); (case side2 => exact Nat.le_refl _); rintro e w32 ⟨v191, rfl, ho0, hb⟩; refine ⟨_, rfl, ?_⟩; have n0_ := Aside0.mk (Kd.R_below (by (with_reducible repeat (first | apply Kd.R_alloc | apply Kd.R_drewN | apply Kd.R_drew)); exact HO173.out) hb); have n1_ := Aside0.mk (Kd.R_elder' (by (with_reducible repeat (first | apply Kd.R_alloc | apply Kd.R_drewN | apply Kd.R_drew)); exact HO177.out) (Kd.R_base ho0) hb); have n2_ := Aside0.mk (Kd.R_below (by (with_reducible repeat (first | apply Kd.R_alloc | apply Kd.R_drewN | apply Kd.R_drew)); exact HO180.out) hb); have n3_ := Aside0.mk (Kd.R_elder' (by (with_reducible repeat (first | apply Kd.R_alloc | apply Kd.R_drewN | apply Kd.R_drew)); exact HO184.out) (Kd.R_base ho0) hb); have n4_ := Aside0.mk (Kd.R_elder' (by (with_reducible repeat (first | apply Kd.R_alloc | apply Kd.R_drewN | apply Kd.R_drew)); exact HO188.out) (Kd.R_base ho0) hb); have n5_ := Aside0.mk (Kd.R_lower (Kd.R_new' (Kd.R_new' (Kd.R_new' ho0 (Kd.R_lt (by (with_reducible repeat (first | apply Kd.R_alloc | apply Kd.R_drewN | apply Kd.R_drew)); exact HO177.out))) (Kd.R_lt (by (with_reducible repeat (first | apply Kd.R_alloc | apply Kd.R_drewN | apply Kd.R_drew)); exact HO184.out))) (Kd.R_lt (by (with_reducible repeat (first | apply Kd.R_alloc | apply Kd.R_drewN | apply Kd.R_drew)); exact HO188.out))) (below_size (by repeat (first | (with_reducible first | exact HB.out | apply below_alloc | apply pw_below_drewN | apply below_drew1) | exact HB.out)))); have n6_ := Aside0.mk (below_step (by repeat (first | (with_reducible first | exact HB.out | apply below_alloc | apply pw_below_drewN | apply below_drew1) | exact HB.out)) hb); clear HO173; clear HO177; clear HO180; clear HO184; clear HO188; clear HB; have HO173 := n0_; have HO177 := n1_; have HO180 := n2_; have HO184 := n3_; have HO188 := n4_; have HO192 := n5_; have HB := n6_; clear n0_ n1_ n2_ n3_ n4_ n5_ n6_; (try clear hb); (try clear hb2); (try clear hk); (try clear hi); (try clear ho0)) | ((with_reducible refine gate_callee (f := 17) rfl ?_); refine goesL_ (some 41) rfl rfl Tryd.func17 (by kernel_rfl) rfl #[.int .i64 1, .int .i64 2, .slice (some ⟨_, 0, none⟩) 4 4] rfl (by (try simp only [List.map_toArray, List.map_cons, List.map_nil]); first | done | rfl | (simp only [List.length_drop, List.length_take]; rfl)) ?_; (refine (delta_Take.calls GA k 1 2 _ _ ([254, 255, 3, 2] : List Int) t193 false _ ?side1 ?side2 ?side3 A7.out).mono ?_); (case side1 => repeat (first | exact x_clit _ _ _ _ (by simp) | (with_reducible refine Kd.C_alloc ?_ _) | (with_reducible refine Kd.C_drewN ?_ _) | (with_reducible refine Kd.C_drew ?_))); (case side2 => first | exact Nat.le_refl _ | exact x_room _ _ _ | decide); (case side3 => exact Glob.below HG.out (by repeat (first | (with_reducible first | exact HB.out | apply below_alloc | apply pw_below_drewN | apply below_drew1) | exact HB.out))); rintro e w33 ⟨v195, rfl, ho0, hb⟩; refine ⟨_, rfl, ?_⟩; have n0_ := Aside0.mk (Kd.R_elder' (by (with_reducible repeat (first | apply Kd.R_alloc | apply Kd.R_drewN | apply Kd.R_drew)); exact HO173.out) (Kd.R_base ho0) hb); have n1_ := Aside0.mk (Kd.R_below (by (with_reducible repeat (first | apply Kd.R_alloc | apply Kd.R_drewN | apply Kd.R_drew)); exact HO177.out) hb); have n2_ := Aside0.mk (Kd.R_elder' (by (with_reducible repeat (first | apply Kd.R_alloc | apply Kd.R_drewN | apply Kd.R_drew)); exact HO180.out) (Kd.R_base ho0) hb); have n3_ := Aside0.mk (Kd.R_below (by (with_reducible repeat (first | apply Kd.R_alloc | apply Kd.R_drewN | apply Kd.R_drew)); exact HO184.out) hb); have n4_ := Aside0.mk (Kd.R_below (by (with_reducible repeat (first | apply Kd.R_alloc | apply Kd.R_drewN | apply Kd.R_drew)); exact HO188.out) hb); have n5_ := Aside0.mk (Kd.R_below (by (with_reducible repeat (first | apply Kd.R_alloc | apply Kd.R_drewN | apply Kd.R_drew)); exact HO192.out) hb); have n6_ := Aside0.mk (Kd.R_lower (Kd.R_new' (Kd.R_new' ho0 (Kd.R_lt (by (with_reducible repeat (first | apply Kd.R_alloc | apply Kd.R_drewN | apply Kd.R_drew)); exact HO173.out))) (Kd.R_lt (by (with_reducible repeat (first | apply Kd.R_alloc | apply Kd.R_drewN | apply Kd.R_drew)); exact HO180.out))) (below_size (by repeat (first | (with_reducible first | exact HB.out | apply below_alloc | apply pw_below_drewN | apply below_drew1) | exact HB.out)))); have n7_ := Aside0.mk (below_step (by repeat (first | (with_reducible first | exact HB.out | apply below_alloc | apply pw_below_drewN | apply below_drew1) | exact HB.out)) hb); clear HO173; clear HO177; clear HO180; clear HO184; clear HO188; clear HO192; clear HB; have HO173 := n0_; have HO177 := n1_; have HO180 := n2_; have HO184 := n3_; have HO188 := n4_; have HO192 := n5_; have HO196 := n6_; have HB := n7_; clear n0_ n1_ n2_ n3_ n4_ n5_ n6_ n7_; (try clear hb); (try clear hb2); (try clear hk); (try clear hi); (try clear ho0); obtain ⟨Ao34, co34, eo34⟩ := Kd.R_slice HO184.out; subst eo34) | ((with_reducible refine gate_callee (f := 17) rfl ?_); refine goesL_ (some 46) rfl rfl Tryd.func17 (by kernel_rfl) rfl #[.int .i64 2, .int .i64 2, .slice Ao34 t181.length co34] rfl (by (try simp only [List.map_toArray, List.map_cons, List.map_nil]); first | done | rfl | (simp only [List.length_drop, List.length_take]; rfl)) ?_; (with_reducible refine (delta_Take.calls GA k 2 2 _ _ t181 t197 true _ ?side1 ?side2 ?side3 A8.out).mono ?_); (case side1 => repeat (first | exact (Kd.R_reads' HO184.out).2.2 | (with_reducible refine Kd.C_alloc ?_ _) | (with_reducible refine Kd.C_drewN ?_ _) | (with_reducible refine Kd.C_drew ?_))); (case side2 => exact (Kd.R_reads' HO184.out).2.1); (case side3 => exact Glob.below HG.out (by repeat (first | (with_reducible first | exact HB.out | apply below_alloc | apply pw_below_drewN | apply below_drew1) | exact HB.out))); rintro e w35 ⟨v199, rfl, ho0, hb⟩; refine ⟨_, rfl, ?_⟩; have n0_ := Aside0.mk (Kd.R_elder' (by (with_reducible repeat (first | apply Kd.R_alloc | apply Kd.R_drewN | apply Kd.R_drew)); exact HO173.out) (Kd.R_base ho0) hb); have n1_ := Aside0.mk (Kd.R_below (by (with_reducible repeat (first | apply Kd.R_alloc | apply Kd.R_drewN | apply Kd.R_drew)); exact HO177.out) hb); have n2_ := Aside0.mk (Kd.R_elder' (by (with_reducible repeat (first | apply Kd.R_alloc | apply Kd.R_drewN | apply Kd.R_drew)); exact HO180.out) (Kd.R_base ho0) hb); have n3_ := Aside0.mk (Kd.R_below (by (with_reducible repeat (first | apply Kd.R_alloc | apply Kd.R_drewN | apply Kd.R_drew)); exact HO184.out) hb); have n4_ := Aside0.mk (Kd.R_below (by (with_reducible repeat (first | apply Kd.R_alloc | apply Kd.R_drewN | apply Kd.R_drew)); exact HO188.out) hb); have n5_ := Aside0.mk (Kd.R_below (by (with_reducible repeat (first | apply Kd.R_alloc | apply Kd.R_drewN | apply Kd.R_drew)); exact HO192.out) hb); have n6_ := Aside0.mk (Kd.R_elder' (by (with_reducible repeat (first | apply Kd.R_alloc | apply Kd.R_drewN | apply Kd.R_drew)); exact HO196.out) (Kd.R_base ho0) hb); have n7_ := Aside0.mk (Kd.R_lower (Kd.R_new' (Kd.R_new' (Kd.R_new' ho0 (Kd.R_lt (by (with_reducible repeat (first | apply Kd.R_alloc | apply Kd.R_drewN | apply Kd.R_drew)); exact HO173.out))) (Kd.R_lt (by (with_reducible repeat (first | apply Kd.R_alloc | apply Kd.R_drewN | apply Kd.R_drew)); exact HO180.out))) (Kd.R_lt (by (with_reducible repeat (first | apply Kd.R_alloc | apply Kd.R_drewN | apply Kd.R_drew)); exact HO196.out))) (below_size (by repeat (first | (with_reducible first | exact HB.out | apply below_alloc | apply pw_below_drewN | apply below_drew1) | exact HB.out)))); have n8_ := Aside0.mk (below_step (by repeat (first | (with_reducible first | exact HB.out | apply below_alloc | apply pw_below_drewN | apply below_drew1) | exact HB.out)) hb); clear HO173; clear HO177; clear HO180; clear HO184; clear HO188; clear HO192; clear HO196; clear HB; have HO173 := n0_; have HO177 := n1_; have HO180 := n2_; have HO184 := n3_; have HO188 := n4_; have HO192 := n5_; have HO196 := n6_; have HO200 := n7_; have HB := n8_; clear n0_ n1_ n2_ n3_ n4_ n5_ n6_ n7_ n8_; (try clear hb); (try clear hb2); (try clear hk); (try clear hi); (try clear ho0); have hcv36 := own_string (P := Tryd.prog) Tryd.underlying22 Tryd.underlying5 Tryd.underlying9 (Kd.own_of_R HO177.out); have p201 : 0 ≤ (10 : Int) := (by omega); have q201 : 10 < (t181.length : Int) := of_decide_eq_true (by first | (with_reducible assumption) | assumption); obtain ⟨ad201, e201, hx201_0⟩ := Kd.at_int (Kd.R_reads' HO184.out).2.2 10 p201 q201; cases e201; (try simp only [show (10 : Int).toNat = 10 from rfl, Nat.reduceMul, Nat.reduceEqDiff, Go.Addr.add, ↓reduceIte] at hx201_0); have qi201 : (10 < t181.length) = True := eq_true (by omega); (try rw [show ((10 : Int)).toNat = 10 from rfl] at hx201_0); replace p201 := eq_true p201; replace q201 := eq_true q201; obtain ⟨Ao37, co37, eo37⟩ := Kd.R_slice HO192.out; subst eo37; obtain ⟨Ao38, co38, eo38⟩ := Kd.R_slice HO200.out; subst eo38; have p202 : 0 ≤ (1 : Int) := (by omega); have q202 : 1 < (t197.length : Int) := of_decide_eq_true (by first | (with_reducible assumption) | assumption); obtain ⟨ad202, e202, hx202_0, hx202_1, hx202_2⟩ := at_T26 (Kd.R_reads' HO200.out).2.2 1 p202 q202; cases e202; (try simp only [show (1 : Int).toNat = 1 from rfl, Nat.reduceMul, Nat.reduceEqDiff, Go.Addr.add, ↓reduceIte] at hx202_0); (try simp only [show (1 : Int).toNat = 1 from rfl, Nat.reduceMul, Nat.reduceEqDiff, Go.Addr.add, ↓reduceIte] at hx202_1); (try simp only [show (1 : Int).toNat = 1 from rfl, Nat.reduceMul, Nat.reduceEqDiff, Go.Addr.add, ↓reduceIte] at hx202_2); have qi202 : (1 < t197.length) = True := eq_true (by omega); (try rw [show ((1 : Int)).toNat = 1 from rfl] at hx202_0); (try rw [show 1 * 3 = 3 from rfl] at hx202_0); (try rw [show ((1 : Int)).toNat = 1 from rfl] at hx202_1); (try rw [show 1 * 3 = 3 from rfl] at hx202_1); (try rw [show ((1 : Int)).toNat = 1 from rfl] at hx202_2); (try rw [show 1 * 3 = 3 from rfl] at hx202_2); replace p202 := eq_true p202; replace q202 := eq_true q202))
                              go_ret
                              exact ⟨by first | rfl | (simp [errW_none, errW_some] <;> rfl) | (simp [*, errW_none, errW_some] <;> rfl), by repeat (first | (with_reducible first | exact HB.out | apply below_alloc | apply pw_below_drewN | apply below_drew1) | exact HB.out)⟩
                            · rw [if_neg c21] at H
                              exact absurd H (by simp)
                          · rw [if_neg c20] at H
                            exact absurd H (by simp)
                        · replace c19 := Bool.eq_false_iff.mpr c19
                          subst c19
                          have H1 : (none) = some r := by rw [if_neg (show ¬ (false = true) by decide)] at H; exact H
                          clear H
                          have H := H1
                          clear H1
                          exact absurd H (by simp)
                    · rw [if_neg c17] at H
                      exact absurd H (by simp)
                  · replace c16 := Bool.eq_false_iff.mpr c16
                    subst c16
                    have H1 : (none) = some r := by rw [if_neg (show ¬ (false = true) by decide)] at H; exact H
                    clear H
                    have H := H1
                    clear H1
                    exact absurd H (by simp)
              · rw [if_neg c14] at H
                exact absurd H (by simp)
            · rw [if_neg c13] at H
              exact absurd H (by simp)
          · rw [if_neg c12] at H
            exact absurd H (by simp)
        · replace c11 := Bool.eq_false_iff.mpr c11
          subst c11
          have H1 : (none) = some r := by rw [if_neg (show ¬ (false = true) by decide)] at H; exact H
          clear H
          have H := H1
          clear H1
          exact absurd H (by simp)
      · rw [if_neg c10] at H
        exact absurd H (by simp)
    · replace c9 := Bool.eq_false_iff.mpr c9
      subst c9
      have H1 : (none) = some r := by rw [if_neg (show ¬ (false = true) by decide)] at H; exact H
      clear H
      have H := H1
      clear H1
      exact absurd H (by simp)
  · replace c2 := Bool.eq_false_iff.mpr c2
    subst c2
    have H1 : (none) = some r := by rw [if_neg (show ¬ (false = true) by decide)] at H; exact H
    clear H
    have H := H1
    clear H1
    exact absurd H (by simp)

/-- THE ONE PURE STATEMENT of rabbetlaw9_DeltaForms: yours. -/
def rabbetlaw9_DeltaForms.Pure : Prop := ∃ k, rabbetlaw9_DeltaForms.f k  = some true
theorem rabbetlaw9_DeltaForms.walk (P : rabbetlaw9_DeltaForms.Pure)  (w : World) (GA : Nat → Addr) (hG : Glob GA w)  :
    Calls Tryd.prog 6 #[] w fun e w' => e = .returned (.bool true) ∧ Below w.heap.size w w' := by
  obtain ⟨k, h⟩ := P  
  refine (rabbetlaw9_DeltaForms.calls GA k  true w hG h).mono ?_
  rintro e w' ⟨rfl, hd⟩
  exact ⟨rfl, hd⟩

end Go.Proofs.YtgbammocbjghjaaDoor.PDeltaForms
