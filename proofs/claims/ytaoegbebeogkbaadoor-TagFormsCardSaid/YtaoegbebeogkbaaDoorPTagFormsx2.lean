-- Written by xprint.py (a program of this project) out of the translation. Not trusted: Lean checks it.
import Derived.Test.YtaoegbebeogkbaaDoorPTagFormsx0
import Derived.Test.YtaoegbebeogkbaaDoorPTagFormsx1
namespace Go.Proofs.YtaoegbebeogkbaaDoor.PTagForms
open Go.RowKit Go.Proofs.YtaoegbebeogkbaaDoorW.PrintWords Go.Proofs.YtaoegbebeogkbaaDoorW.PrintLast Go.Proofs.YtaoegbebeogkbaaDoorW.PrintMore
attribute [local go_sem] max2_int min2_int max_two min_two max_three min_three max_four min_four   -- for this text's walks alone
set_option linter.unusedVariables false
set_option linter.unusedSimpArgs false

/-! ### rabbetlaw20_TagForms: function 6 -/
mutual
def rabbetlaw20_TagForms.j0 : Nat → List Int → Bool → Option (Bool)
  | 0, _, _ => none
  | k + 1, x1, x54 => if x54 = true then (none) else (rabbetlaw20_TagForms.l0 k x1 0)
def rabbetlaw20_TagForms.l0 : Nat → List Int → Int → Option (Bool)
  | 0, _, _ => none
  | k + 1, x1, x5 => if x5 < 128 then ((some (([] : List Int) : List Int)).bind fun y191 => (if y191.length + x1.length < 140737488355328 then ((some (y191 ++ x1 : List Int)).bind fun y194 => (if 0 ≤ x5 then (if x5 < (y194.length : Int) then ((tag_Take.f k 16909060 84281096 (y194.set (x5 : Int).toNat (Go.bits .xor .u8 (rd y194 x5) 1))).bind fun bt199 => (if x5 ≥ 9 then (if (bt199.2 != (decide (x5 < 119))) = true then (none) else (if bt199.2 = true then (if (bt199.1.length : Int) = 110 then (if 0 ≤ (wrap64 (x5 - 9)) then (if (wrap64 (x5 - 9)) < (bt199.1.length : Int) then (if (rd bt199.1 (wrap64 (x5 - 9))) = 1 then (rabbetlaw20_TagForms.l0 k x1 (wrap64 (x5 + 1))) else (none)) else (none)) else (none)) else (none)) else (rabbetlaw20_TagForms.l0 k x1 (wrap64 (x5 + 1))))) else (if (bt199.2 != false) = true then (none) else (if bt199.2 = true then (if (bt199.1.length : Int) = 110 then (if 0 ≤ (wrap64 (x5 - 9)) then (if (wrap64 (x5 - 9)) < (bt199.1.length : Int) then (if (rd bt199.1 (wrap64 (x5 - 9))) = 1 then (rabbetlaw20_TagForms.l0 k x1 (wrap64 (x5 + 1))) else (none)) else (none)) else (none)) else (none)) else (rabbetlaw20_TagForms.l0 k x1 (wrap64 (x5 + 1))))))) else (none)) else (none))) else (none))) else (if 128 ≤ 281474976710656 then ((tag_Take.f k 0 0 (List.replicate 128 0)).bind fun bt208 => (if 127 ≤ 281474976710656 then ((tag_Take.f k 0 0 (List.replicate 127 0)).bind fun bt215 => ((tag_Take.f k 1 0 (List.replicate 128 0)).bind fun bt222 => (if bt208.2 = true then (if bt215.2 = true then (none) else (some (!bt222.2))) else (none)))) else (none))) else (none))
end
def rabbetlaw20_TagForms.f (k : Nat)  : Option (Bool) := (rabbetlaw20_begun.f k).bind fun t167 => (if t167 = true then (if 110 ≤ 281474976710656 then ((tag_Put.f 16909060 84281096 (List.replicate 110 0)).bind fun bt171 => (if 111 ≤ 281474976710656 then ((tag_Put.f 1 1 (List.replicate 111 0)).bind fun bt178 => (if bt171.2 = true then (if bt178.2 = true then (rabbetlaw20_TagForms.j0 k bt171.1 true) else (if (bt171.1.length : Int) = 128 then (if 9 ≤ (bt171.1.length : Int) then (if (strOfNums (bt171.1.take 9)).toList = ([1, 2, 3, 4, 5, 6, 7, 8, 110] : List UInt8) then (if 120 ≤ (bt171.1.length : Int) then (if (strOfNums (bt171.1.drop 120)).toList = ([1, 2, 3, 4, 5, 6, 7, 8] : List UInt8) then (if 119 < (bt171.1.length : Int) then (rabbetlaw20_TagForms.j0 k bt171.1 ((rd bt171.1 119) != 0)) else (none)) else (rabbetlaw20_TagForms.j0 k bt171.1 true)) else (none)) else (rabbetlaw20_TagForms.j0 k bt171.1 true)) else (none)) else (rabbetlaw20_TagForms.j0 k bt171.1 true))) else (rabbetlaw20_TagForms.j0 k bt171.1 true))) else (none))) else (none)) else (none))
theorem rabbetlaw20_TagForms.mono_l : ∀ k, (∀ y0 y1, LeO (rabbetlaw20_TagForms.j0 k y0 y1) (rabbetlaw20_TagForms.j0 (k + 1) y0 y1)) ∧ (∀ y0 y1, LeO (rabbetlaw20_TagForms.l0 k y0 y1) (rabbetlaw20_TagForms.l0 (k + 1) y0 y1))
  | 0 => ⟨fun _ _ r h => by simp [rabbetlaw20_TagForms.j0] at h, fun _ _ r h => by simp [rabbetlaw20_TagForms.l0] at h⟩
  | k + 1 => by
    obtain ⟨ih0, ih1⟩ := rabbetlaw20_TagForms.mono_l k
    refine ⟨?_, ?_⟩
    · intro y0 y1
      unfold rabbetlaw20_TagForms.j0
      repeat' first
      | (with_reducible exact ih0 _ _)
      | (with_reducible exact ih1 _ _)
      | (with_reducible exact rabbetlaw20_begun.mono _)
      | (with_reducible exact tag_Take.mono _ _ _ _)
      | (with_reducible exact LeO.refl _)
      | (with_reducible exact LeO.none _)
      | (with_reducible refine LeO.ite ?_ ?_)
      | (with_reducible refine LeO.bind ?_ (fun _ => ?_))
      | exact ih0 _ _
      | exact ih1 _ _
      | exact rabbetlaw20_begun.mono _
      | exact tag_Take.mono _ _ _ _
      | exact LeO.none _
      | refine LeO.ite ?_ ?_
      | refine LeO.bind ?_ (fun _ => ?_)
    · intro y0 y1
      unfold rabbetlaw20_TagForms.l0
      repeat' first
      | (with_reducible exact ih0 _ _)
      | (with_reducible exact ih1 _ _)
      | (with_reducible exact rabbetlaw20_begun.mono _)
      | (with_reducible exact tag_Take.mono _ _ _ _)
      | (with_reducible exact LeO.refl _)
      | (with_reducible exact LeO.none _)
      | (with_reducible refine LeO.ite ?_ ?_)
      | (with_reducible refine LeO.bind ?_ (fun _ => ?_))
      | exact ih0 _ _
      | exact ih1 _ _
      | exact rabbetlaw20_begun.mono _
      | exact tag_Take.mono _ _ _ _
      | exact LeO.none _
      | refine LeO.ite ?_ ?_
      | refine LeO.bind ?_ (fun _ => ?_)
theorem rabbetlaw20_TagForms.mono : ∀ k, LeO (rabbetlaw20_TagForms.f k ) (rabbetlaw20_TagForms.f (k + 1) ) := by
  intro  k
  obtain ⟨ih0, ih1⟩ := rabbetlaw20_TagForms.mono_l k
  unfold rabbetlaw20_TagForms.f
  repeat' first
      | (with_reducible exact ih0 _ _)
      | (with_reducible exact ih1 _ _)
      | (with_reducible exact rabbetlaw20_begun.mono _)
      | (with_reducible exact tag_Take.mono _ _ _ _)
      | (with_reducible exact LeO.refl _)
      | (with_reducible exact LeO.none _)
      | (with_reducible refine LeO.ite ?_ ?_)
      | (with_reducible refine LeO.bind ?_ (fun _ => ?_))
      | exact ih0 _ _
      | exact ih1 _ _
      | exact rabbetlaw20_begun.mono _
      | exact tag_Take.mono _ _ _ _
      | exact LeO.none _
      | refine LeO.ite ?_ ?_
      | refine LeO.bind ?_ (fun _ => ?_)
set_option maxHeartbeats 8000000 in
set_option maxRecDepth 100000 in
theorem rabbetlaw20_TagForms.calls (GA : Nat → Addr) (k : Nat)  (r : Bool) (w : World) (hG : Glob GA w) (h : rabbetlaw20_TagForms.f k  = some r) :
    Calls Tryd.prog 6 #[] w fun e w' => e = .returned (.bool r) ∧ Below w.heap.size w w' := by
  have HG := Aside0.mk hG
  clear hG
  have HB := Aside0.mk (Below.refl w.heap.size w)
  have H : ((rabbetlaw20_begun.f k).bind fun t167 => (if t167 = true then (if 110 ≤ 281474976710656 then ((tag_Put.f 16909060 84281096 (List.replicate 110 0)).bind fun bt171 => (if 111 ≤ 281474976710656 then ((tag_Put.f 1 1 (List.replicate 111 0)).bind fun bt178 => (if bt171.2 = true then (if bt178.2 = true then (rabbetlaw20_TagForms.j0 k bt171.1 true) else (if (bt171.1.length : Int) = 128 then (if 9 ≤ (bt171.1.length : Int) then (if (strOfNums (bt171.1.take 9)).toList = ([1, 2, 3, 4, 5, 6, 7, 8, 110] : List UInt8) then (if 120 ≤ (bt171.1.length : Int) then (if (strOfNums (bt171.1.drop 120)).toList = ([1, 2, 3, 4, 5, 6, 7, 8] : List UInt8) then (if 119 < (bt171.1.length : Int) then (rabbetlaw20_TagForms.j0 k bt171.1 ((rd bt171.1 119) != 0)) else (none)) else (rabbetlaw20_TagForms.j0 k bt171.1 true)) else (none)) else (rabbetlaw20_TagForms.j0 k bt171.1 true)) else (none)) else (rabbetlaw20_TagForms.j0 k bt171.1 true))) else (rabbetlaw20_TagForms.j0 k bt171.1 true))) else (none))) else (none)) else (none))) = some r := h
  clear h
  replace H := Option.bind_eq_some_iff.mp H
  obtain ⟨t167, A10, H⟩ := H
  replace H : (if t167 = true then (if 110 ≤ 281474976710656 then ((tag_Put.f 16909060 84281096 (List.replicate 110 0)).bind fun bt171 => (if 111 ≤ 281474976710656 then ((tag_Put.f 1 1 (List.replicate 111 0)).bind fun bt178 => (if bt171.2 = true then (if bt178.2 = true then (rabbetlaw20_TagForms.j0 k bt171.1 true) else (if (bt171.1.length : Int) = 128 then (if 9 ≤ (bt171.1.length : Int) then (if (strOfNums (bt171.1.take 9)).toList = ([1, 2, 3, 4, 5, 6, 7, 8, 110] : List UInt8) then (if 120 ≤ (bt171.1.length : Int) then (if (strOfNums (bt171.1.drop 120)).toList = ([1, 2, 3, 4, 5, 6, 7, 8] : List UInt8) then (if 119 < (bt171.1.length : Int) then (rabbetlaw20_TagForms.j0 k bt171.1 ((rd bt171.1 119) != 0)) else (none)) else (rabbetlaw20_TagForms.j0 k bt171.1 true)) else (none)) else (rabbetlaw20_TagForms.j0 k bt171.1 true)) else (none)) else (rabbetlaw20_TagForms.j0 k bt171.1 true))) else (rabbetlaw20_TagForms.j0 k bt171.1 true))) else (none))) else (none)) else (none)) = some r := H
  have A1 := Aside0.mk A10
  clear A10
  by_cases c2 : t167 = true
  · subst c2
    have H1 : (if 110 ≤ 281474976710656 then ((tag_Put.f 16909060 84281096 (List.replicate 110 0)).bind fun bt171 => (if 111 ≤ 281474976710656 then ((tag_Put.f 1 1 (List.replicate 111 0)).bind fun bt178 => (if bt171.2 = true then (if bt178.2 = true then (rabbetlaw20_TagForms.j0 k bt171.1 true) else (if (bt171.1.length : Int) = 128 then (if 9 ≤ (bt171.1.length : Int) then (if (strOfNums (bt171.1.take 9)).toList = ([1, 2, 3, 4, 5, 6, 7, 8, 110] : List UInt8) then (if 120 ≤ (bt171.1.length : Int) then (if (strOfNums (bt171.1.drop 120)).toList = ([1, 2, 3, 4, 5, 6, 7, 8] : List UInt8) then (if 119 < (bt171.1.length : Int) then (rabbetlaw20_TagForms.j0 k bt171.1 ((rd bt171.1 119) != 0)) else (none)) else (rabbetlaw20_TagForms.j0 k bt171.1 true)) else (none)) else (rabbetlaw20_TagForms.j0 k bt171.1 true)) else (none)) else (rabbetlaw20_TagForms.j0 k bt171.1 true))) else (rabbetlaw20_TagForms.j0 k bt171.1 true))) else (none))) else (none)) = some r := by rw [if_pos rfl] at H; exact H
    clear H
    have H := H1
    clear H1
    by_cases c3 : 110 ≤ 281474976710656
    · rw [if_pos c3] at H
      have c3b0 := eq_true c3
      have c3b1 : decide (110 ≤ 281474976710656) = true := decide_eq_true c3
      clear c3
      obtain ⟨y168, hy168⟩ : ∃ y_ : List Int, y_ = (List.replicate 110 0) := ⟨_, rfl⟩
      replace H : ((tag_Put.f 16909060 84281096 y168).bind fun bt171 => (if 111 ≤ 281474976710656 then ((tag_Put.f 1 1 (List.replicate 111 0)).bind fun bt178 => (if bt171.2 = true then (if bt178.2 = true then (rabbetlaw20_TagForms.j0 k bt171.1 true) else (if (bt171.1.length : Int) = 128 then (if 9 ≤ (bt171.1.length : Int) then (if (strOfNums (bt171.1.take 9)).toList = ([1, 2, 3, 4, 5, 6, 7, 8, 110] : List UInt8) then (if 120 ≤ (bt171.1.length : Int) then (if (strOfNums (bt171.1.drop 120)).toList = ([1, 2, 3, 4, 5, 6, 7, 8] : List UInt8) then (if 119 < (bt171.1.length : Int) then (rabbetlaw20_TagForms.j0 k bt171.1 ((rd bt171.1 119) != 0)) else (none)) else (rabbetlaw20_TagForms.j0 k bt171.1 true)) else (none)) else (rabbetlaw20_TagForms.j0 k bt171.1 true)) else (none)) else (rabbetlaw20_TagForms.j0 k bt171.1 true))) else (rabbetlaw20_TagForms.j0 k bt171.1 true))) else (none))) = some r := by first | (rw [hy168]; with_reducible exact H) | (have H2_ := (Option.bind_some _ _).symm.trans H; rw [hy168]; with_reducible exact H2_) | (have H2_ := (Option.bind_some _ _).symm.trans H; with_reducible exact H2_) | with_reducible exact H | (rw [hy168]; exact H) | exact H
      have Ny168 := Aside0.mk hy168
      clear hy168
      replace H := Option.bind_eq_some_iff.mp H
      obtain ⟨⟨t171, t174⟩, A40, H⟩ := H
      replace H : (if 111 ≤ 281474976710656 then ((tag_Put.f 1 1 (List.replicate 111 0)).bind fun bt178 => (if t174 = true then (if bt178.2 = true then (rabbetlaw20_TagForms.j0 k t171 true) else (if (t171.length : Int) = 128 then (if 9 ≤ (t171.length : Int) then (if (strOfNums (t171.take 9)).toList = ([1, 2, 3, 4, 5, 6, 7, 8, 110] : List UInt8) then (if 120 ≤ (t171.length : Int) then (if (strOfNums (t171.drop 120)).toList = ([1, 2, 3, 4, 5, 6, 7, 8] : List UInt8) then (if 119 < (t171.length : Int) then (rabbetlaw20_TagForms.j0 k t171 ((rd t171 119) != 0)) else (none)) else (rabbetlaw20_TagForms.j0 k t171 true)) else (none)) else (rabbetlaw20_TagForms.j0 k t171 true)) else (none)) else (rabbetlaw20_TagForms.j0 k t171 true))) else (rabbetlaw20_TagForms.j0 k t171 true))) else (none)) = some r := H
      have A4 := Aside0.mk A40
      clear A40
      by_cases c5 : 111 ≤ 281474976710656
      · rw [if_pos c5] at H
        have c5b0 := eq_true c5
        have c5b1 : decide (111 ≤ 281474976710656) = true := decide_eq_true c5
        clear c5
        obtain ⟨y175, hy175⟩ : ∃ y_ : List Int, y_ = (List.replicate 111 0) := ⟨_, rfl⟩
        replace H : ((tag_Put.f 1 1 y175).bind fun bt178 => (if t174 = true then (if bt178.2 = true then (rabbetlaw20_TagForms.j0 k t171 true) else (if (t171.length : Int) = 128 then (if 9 ≤ (t171.length : Int) then (if (strOfNums (t171.take 9)).toList = ([1, 2, 3, 4, 5, 6, 7, 8, 110] : List UInt8) then (if 120 ≤ (t171.length : Int) then (if (strOfNums (t171.drop 120)).toList = ([1, 2, 3, 4, 5, 6, 7, 8] : List UInt8) then (if 119 < (t171.length : Int) then (rabbetlaw20_TagForms.j0 k t171 ((rd t171 119) != 0)) else (none)) else (rabbetlaw20_TagForms.j0 k t171 true)) else (none)) else (rabbetlaw20_TagForms.j0 k t171 true)) else (none)) else (rabbetlaw20_TagForms.j0 k t171 true))) else (rabbetlaw20_TagForms.j0 k t171 true))) = some r := by first | (rw [hy175]; with_reducible exact H) | (have H2_ := (Option.bind_some _ _).symm.trans H; rw [hy175]; with_reducible exact H2_) | (have H2_ := (Option.bind_some _ _).symm.trans H; with_reducible exact H2_) | with_reducible exact H | (rw [hy175]; exact H) | exact H
        have Ny175 := Aside0.mk hy175
        clear hy175
        replace H := Option.bind_eq_some_iff.mp H
        obtain ⟨⟨t178, t181⟩, A60, H⟩ := H
        replace H : (if t174 = true then (if t181 = true then (rabbetlaw20_TagForms.j0 k t171 true) else (if (t171.length : Int) = 128 then (if 9 ≤ (t171.length : Int) then (if (strOfNums (t171.take 9)).toList = ([1, 2, 3, 4, 5, 6, 7, 8, 110] : List UInt8) then (if 120 ≤ (t171.length : Int) then (if (strOfNums (t171.drop 120)).toList = ([1, 2, 3, 4, 5, 6, 7, 8] : List UInt8) then (if 119 < (t171.length : Int) then (rabbetlaw20_TagForms.j0 k t171 ((rd t171 119) != 0)) else (none)) else (rabbetlaw20_TagForms.j0 k t171 true)) else (none)) else (rabbetlaw20_TagForms.j0 k t171 true)) else (none)) else (rabbetlaw20_TagForms.j0 k t171 true))) else (rabbetlaw20_TagForms.j0 k t171 true)) = some r := H
        have A6 := Aside0.mk A60
        clear A60
        have HC7 := Aside0.mk H
        clear H
        go_enter Tryd.func6, Tryd.ntmps6
        go_upto_region 5 with (first | ((with_reducible refine gate_callee (f := 10) rfl ?_); refine goesL_ (some 15) rfl rfl Tryd.func10 (by kernel_rfl) rfl #[] rfl (by (try simp only [List.map_toArray, List.map_cons, List.map_nil]); first | done | rfl | (simp only [List.length_drop, List.length_take]; rfl)) ?_; (with_reducible refine (rabbetlaw20_begun.calls GA k  true _ ?side1 A1.out).mono ?_); (case side1 => exact Glob.below HG.out (by repeat (first | (with_reducible first | exact HB.out | apply below_alloc | apply pw_below_drewN | apply below_drew1) | exact HB.out))); rintro e w8 ⟨rfl, hb⟩; refine ⟨_, rfl, ?_⟩; have n0_ := Aside0.mk (below_step (by repeat (first | (with_reducible first | exact HB.out | apply below_alloc | apply pw_below_drewN | apply below_drew1) | exact HB.out)) hb); clear HB; have HB := n0_; clear n0_; (try clear hb); (try clear hb2); (try clear hk); (try clear hi)) | ((with_reducible refine gate_dst (N := 18) rfl ?_); (try (refine gate_guard (by rfl) ?_; dsimp only)); refine Kd.R_make (Kd.int .u8) _ 5 rfl (N := 18) rfl 23 _ _ rfl 110 rfl rfl Tryd.underlying23 (.int .u8 0) 1 info5 rfl (by decide) (by omega) 0 (ok := fun _ => True) (okp := fun _ => True) rfl (fun _ hk => hk) trivial (by omega) (by omega) (Below.refl _ _) (Nat.le_refl _) ?_; intro v169 w9 ho10 hb hg_ hnew_; clear hg_ hnew_; (first | rw [← Ny168.out] at ho10 | (simp only [Int.reduceToNat] at ho10; rw [← Ny168.out] at ho10)); have n0_ := Aside0.mk (Kd.R_lower ho10 (below_size (by repeat (first | (with_reducible first | exact HB.out | apply below_alloc | apply pw_below_drewN | apply below_drew1) | exact HB.out)))); have n1_ := Aside0.mk (below_step (by repeat (first | (with_reducible first | exact HB.out | apply below_alloc | apply pw_below_drewN | apply below_drew1) | exact HB.out)) hb); clear HB; have HO170 := n0_; have HB := n1_; clear n0_ n1_; clear hb ho10; obtain ⟨Ao11, co11, eo11⟩ := Kd.R_slice HO170.out; subst eo11) | ((with_reducible refine gate_callee (f := 12) rfl ?_); refine goesL_ (some 19) rfl rfl Tryd.func12 (by kernel_rfl) rfl #[.int .u32 16909060, .int .u32 84281096, .slice Ao11 y168.length co11] rfl (by (try simp only [List.map_toArray, List.map_cons, List.map_nil]); first | done | rfl | (simp only [List.length_drop, List.length_take]; rfl)) ?_; (with_reducible refine (tag_Put.calls 16909060 84281096 (fun k_ => some k_ = (.slice Ao11 y168.length co11 : Value).ownBlock) _ _ y168 t171 t174 _ ?side1 A4.out).mono ?_); (case side1 => exact Kd.R_V (Kd.R_tight rfl (HO170.out))); rintro e w12 ⟨v172, rfl, ho0, hb⟩; refine ⟨_, rfl, ?_⟩; have n0_ := Aside0.mk (Kd.R_elder' (by (with_reducible repeat (first | apply Kd.R_alloc | apply Kd.R_drewN | apply Kd.R_drew)); exact HO170.out) (Kd.R_base ho0) hb); have n1_ := Aside0.mk (Kd.R_lower (Kd.R_new' (Kd.R_mono (ok' := fun k_ => True) ho0 (fun _ hk_ => trivial)) (Kd.R_lt (by (with_reducible repeat (first | apply Kd.R_alloc | apply Kd.R_drewN | apply Kd.R_drew)); exact HO170.out))) (below_size (by repeat (first | (with_reducible first | exact HB.out | apply below_alloc | apply pw_below_drewN | apply below_drew1) | exact HB.out)))); have n2_ := Aside0.mk (below_step (by repeat (first | (with_reducible first | exact HB.out | apply below_alloc | apply pw_below_drewN | apply below_drew1) | exact HB.out)) hb); clear HO170; clear HB; have HO170 := n0_; have HO173 := n1_; have HB := n2_; clear n0_ n1_ n2_; (try clear hb); (try clear hb2); (try clear hk); (try clear hi); (try clear ho0)) | ((with_reducible refine gate_dst (N := 23) rfl ?_); (try (refine gate_guard (by rfl) ?_; dsimp only)); refine Kd.R_make (Kd.int .u8) _ 5 rfl (N := 23) rfl 23 _ _ rfl 111 rfl rfl Tryd.underlying23 (.int .u8 0) 1 info5 rfl (by decide) (by omega) 0 (ok := fun _ => True) (okp := fun _ => True) rfl (fun _ hk => hk) trivial (by omega) (by omega) (Below.refl _ _) (Nat.le_refl _) ?_; intro v176 w13 ho14 hb hg_ hnew_; clear hg_ hnew_; (first | rw [← Ny175.out] at ho14 | (simp only [Int.reduceToNat] at ho14; rw [← Ny175.out] at ho14)); have n0_ := Aside0.mk (Kd.R_elder' (by (with_reducible repeat (first | apply Kd.R_alloc | apply Kd.R_drewN | apply Kd.R_drew)); exact HO170.out) (Kd.R_base ho14) hb); have n1_ := Aside0.mk (Kd.R_elder' (by (with_reducible repeat (first | apply Kd.R_alloc | apply Kd.R_drewN | apply Kd.R_drew)); exact HO173.out) (Kd.R_base ho14) hb); have n2_ := Aside0.mk (Kd.R_lower (Kd.R_new' (Kd.R_new' ho14 (Kd.R_lt (by (with_reducible repeat (first | apply Kd.R_alloc | apply Kd.R_drewN | apply Kd.R_drew)); exact HO170.out))) (Kd.R_lt (by (with_reducible repeat (first | apply Kd.R_alloc | apply Kd.R_drewN | apply Kd.R_drew)); exact HO173.out))) (below_size (by repeat (first | (with_reducible first | exact HB.out | apply below_alloc | apply pw_below_drewN | apply below_drew1) | exact HB.out)))); have n3_ := Aside0.mk (below_step (by repeat (first | (with_reducible first | exact HB.out | apply below_alloc | apply pw_below_drewN | apply below_drew1) | exact HB.out)) hb); clear HO170; clear HO173; clear HB; have HO170 := n0_; have HO173 := n1_; have HO177 := n2_; have HB := n3_; clear n0_ n1_ n2_ n3_; clear hb ho14; obtain ⟨Ao15, co15, eo15⟩ := Kd.R_slice HO177.out; subst eo15) | ((with_reducible refine gate_callee (f := 12) rfl ?_); refine goesL_ (some 24) rfl rfl Tryd.func12 (by kernel_rfl) rfl #[.int .u32 1, .int .u32 1, .slice Ao15 y175.length co15] rfl (by (try simp only [List.map_toArray, List.map_cons, List.map_nil]); first | done | rfl | (simp only [List.length_drop, List.length_take]; rfl)) ?_; (with_reducible refine (tag_Put.calls 1 1 (fun k_ => some k_ = (.slice Ao15 y175.length co15 : Value).ownBlock) _ _ y175 t178 t181 _ ?side1 A6.out).mono ?_); (case side1 => exact Kd.R_V (Kd.R_tight rfl (HO177.out))); rintro e w16 ⟨v179, rfl, ho0, hb⟩; refine ⟨_, rfl, ?_⟩; have n0_ := Aside0.mk (Kd.R_elder' (by (with_reducible repeat (first | apply Kd.R_alloc | apply Kd.R_drewN | apply Kd.R_drew)); exact HO170.out) (Kd.R_base ho0) hb); have n1_ := Aside0.mk (Kd.R_elder' (by (with_reducible repeat (first | apply Kd.R_alloc | apply Kd.R_drewN | apply Kd.R_drew)); exact HO173.out) (Kd.R_base ho0) hb); have n2_ := Aside0.mk (Kd.R_elder' (by (with_reducible repeat (first | apply Kd.R_alloc | apply Kd.R_drewN | apply Kd.R_drew)); exact HO177.out) (Kd.R_base ho0) hb); have n3_ := Aside0.mk (Kd.R_lower (Kd.R_new' (Kd.R_new' (Kd.R_new' (Kd.R_mono (ok' := fun k_ => True) ho0 (fun _ hk_ => trivial)) (Kd.R_lt (by (with_reducible repeat (first | apply Kd.R_alloc | apply Kd.R_drewN | apply Kd.R_drew)); exact HO170.out))) (Kd.R_lt (by (with_reducible repeat (first | apply Kd.R_alloc | apply Kd.R_drewN | apply Kd.R_drew)); exact HO173.out))) (Kd.R_lt (by (with_reducible repeat (first | apply Kd.R_alloc | apply Kd.R_drewN | apply Kd.R_drew)); exact HO177.out))) (below_size (by repeat (first | (with_reducible first | exact HB.out | apply below_alloc | apply pw_below_drewN | apply below_drew1) | exact HB.out)))); have n4_ := Aside0.mk (below_step (by repeat (first | (with_reducible first | exact HB.out | apply below_alloc | apply pw_below_drewN | apply below_drew1) | exact HB.out)) hb); clear HO170; clear HO173; clear HO177; clear HB; have HO170 := n0_; have HO173 := n1_; have HO177 := n2_; have HO180 := n3_; have HB := n4_; clear n0_ n1_ n2_ n3_ n4_; (try clear hb); (try clear hb2); (try clear hk); (try clear hi); (try clear ho0)))
        (try simp only [Act.put, List.setIfInBounds_toArray, List.set_cons_zero, List.set_cons_succ])
        go_cut [54] (fun v54 wc => ∃ (kq : Nat) (x54_6 : Bool), v54 = .bool x54_6 ∧ Aside0 (rabbetlaw20_TagForms.j0 kq t171 x54_6 = some r) ∧ Aside0 (kq ≤ k) ∧ Aside0 (Kd.R (Kd.int .u8) 5 wc w.heap.size (fun _ => True) v172 t171) ∧ Aside0 (Below w.heap.size w wc))
        case first =>
          have H := HC7.out
          clear HC7
          by_cases c17 : t174 = true
          · subst c17
            have H1 : (if t181 = true then (rabbetlaw20_TagForms.j0 k t171 true) else (if (t171.length : Int) = 128 then (if 9 ≤ (t171.length : Int) then (if (strOfNums (t171.take 9)).toList = ([1, 2, 3, 4, 5, 6, 7, 8, 110] : List UInt8) then (if 120 ≤ (t171.length : Int) then (if (strOfNums (t171.drop 120)).toList = ([1, 2, 3, 4, 5, 6, 7, 8] : List UInt8) then (if 119 < (t171.length : Int) then (rabbetlaw20_TagForms.j0 k t171 ((rd t171 119) != 0)) else (none)) else (rabbetlaw20_TagForms.j0 k t171 true)) else (none)) else (rabbetlaw20_TagForms.j0 k t171 true)) else (none)) else (rabbetlaw20_TagForms.j0 k t171 true))) = some r := by rw [if_pos rfl] at H; exact H
            clear H
            have H := H1
            clear H1
            by_cases c18 : t181 = true
            · subst c18
              have H1 : (rabbetlaw20_TagForms.j0 k t171 true) = some r := by rw [if_pos rfl] at H; exact H
              clear H
              have H := H1
              clear H1
              have H' := Aside0.mk H
              clear H
              go_wp2
              go_meet
              case rel => exact ⟨_, (true), (by first | rfl | (simp; done) | (simp [*]; done)), H', ⟨by first | omega | exact Nat.le_refl _⟩, ⟨by (with_reducible repeat (first | apply Kd.R_alloc | apply Kd.R_drewN | apply Kd.R_drew)); exact Kd.R_mono HO173.out (fun _ hk => trivial)⟩, ⟨by repeat (first | (with_reducible first | exact HB.out | apply below_alloc | apply pw_below_drewN | apply below_drew1) | exact HB.out)⟩⟩
            · replace c18 := Bool.eq_false_iff.mpr c18
              subst c18
              have H1 : (if (t171.length : Int) = 128 then (if 9 ≤ (t171.length : Int) then (if (strOfNums (t171.take 9)).toList = ([1, 2, 3, 4, 5, 6, 7, 8, 110] : List UInt8) then (if 120 ≤ (t171.length : Int) then (if (strOfNums (t171.drop 120)).toList = ([1, 2, 3, 4, 5, 6, 7, 8] : List UInt8) then (if 119 < (t171.length : Int) then (rabbetlaw20_TagForms.j0 k t171 ((rd t171 119) != 0)) else (none)) else (rabbetlaw20_TagForms.j0 k t171 true)) else (none)) else (rabbetlaw20_TagForms.j0 k t171 true)) else (none)) else (rabbetlaw20_TagForms.j0 k t171 true)) = some r := by rw [if_neg (show ¬ (false = true) by decide)] at H; exact H
              clear H
              have H := H1
              clear H1
              by_cases c19 : (t171.length : Int) = 128
              · rw [if_pos c19] at H
                have c19b0 : ((t171.length : Int) == 128) = true := beq_iff_eq.mpr c19
                have c19b1 : ((t171.length : Int) != 128) = false := bne_eq_false_iff_eq.mpr c19
                clear c19
                (first | rw [c19b0] | rw [c19b1] | (simp only [i64_w, i32_w]; rw [c19b0]) | skip)
                by_cases c20 : 9 ≤ (t171.length : Int)
                · rw [if_pos c20] at H
                  have c20b0 := eq_true c20
                  have c20b1 : decide (9 ≤ (t171.length : Int)) = true := decide_eq_true c20
                  clear c20
                  obtain ⟨y182, hy182⟩ : ∃ y_ : List Int, y_ = (t171.take 9) := ⟨_, rfl⟩
                  replace H : (if (strOfNums y182).toList = ([1, 2, 3, 4, 5, 6, 7, 8, 110] : List UInt8) then (if 120 ≤ (t171.length : Int) then (if (strOfNums (t171.drop 120)).toList = ([1, 2, 3, 4, 5, 6, 7, 8] : List UInt8) then (if 119 < (t171.length : Int) then (rabbetlaw20_TagForms.j0 k t171 ((rd t171 119) != 0)) else (none)) else (rabbetlaw20_TagForms.j0 k t171 true)) else (none)) else (rabbetlaw20_TagForms.j0 k t171 true)) = some r := by first | (rw [hy182]; with_reducible exact H) | (have H2_ := (Option.bind_some _ _).symm.trans H; rw [hy182]; with_reducible exact H2_) | (have H2_ := (Option.bind_some _ _).symm.trans H; with_reducible exact H2_) | with_reducible exact H | (rw [hy182]; exact H) | exact H
                  have Ny182 := Aside0.mk hy182
                  clear hy182
                  by_cases c21 : (strOfNums y182).toList = ([1, 2, 3, 4, 5, 6, 7, 8, 110] : List UInt8)
                  · rw [if_pos c21] at H
                    have c21b0 : ((strOfNums y182).toList == ([1, 2, 3, 4, 5, 6, 7, 8, 110] : List UInt8)) = true := beq_iff_eq.mpr c21
                    have c21b1 : ((strOfNums y182).toList != ([1, 2, 3, 4, 5, 6, 7, 8, 110] : List UInt8)) = false := bne_eq_false_iff_eq.mpr c21
                    clear c21
                    by_cases c22 : 120 ≤ (t171.length : Int)
                    · rw [if_pos c22] at H
                      have c22b0 := eq_true c22
                      have c22b1 : decide (120 ≤ (t171.length : Int)) = true := decide_eq_true c22
                      clear c22
                      obtain ⟨y186, hy186⟩ : ∃ y_ : List Int, y_ = (t171.drop 120) := ⟨_, rfl⟩
                      replace H : (if (strOfNums y186).toList = ([1, 2, 3, 4, 5, 6, 7, 8] : List UInt8) then (if 119 < (t171.length : Int) then (rabbetlaw20_TagForms.j0 k t171 ((rd t171 119) != 0)) else (none)) else (rabbetlaw20_TagForms.j0 k t171 true)) = some r := by first | (rw [hy186]; with_reducible exact H) | (have H2_ := (Option.bind_some _ _).symm.trans H; rw [hy186]; with_reducible exact H2_) | (have H2_ := (Option.bind_some _ _).symm.trans H; with_reducible exact H2_) | with_reducible exact H | (rw [hy186]; exact H) | exact H
                      have Ny186 := Aside0.mk hy186
                      clear hy186
                      by_cases c23 : (strOfNums y186).toList = ([1, 2, 3, 4, 5, 6, 7, 8] : List UInt8)
                      · rw [if_pos c23] at H
                        have c23b0 : ((strOfNums y186).toList == ([1, 2, 3, 4, 5, 6, 7, 8] : List UInt8)) = true := beq_iff_eq.mpr c23
                        have c23b1 : ((strOfNums y186).toList != ([1, 2, 3, 4, 5, 6, 7, 8] : List UInt8)) = false := bne_eq_false_iff_eq.mpr c23
                        clear c23
                        by_cases c24 : 119 < (t171.length : Int)
                        · rw [if_pos c24] at H
                          have c24b0 : decide (119 < (t171.length : Int)) = true := decide_eq_true c24
                          have c24b1 : decide (119 < t171.length) = true := decide_eq_true (by omega)
                          clear c24
                          have H' := Aside0.mk H
                          clear H
                          obtain ⟨Ao25, co25, eo25⟩ := Kd.R_slice HO173.out
                          subst eo25
                          have q26 : (9 : Int) ≤ ((t171.length : Int) : Int) := of_decide_eq_true (by first | (with_reducible assumption) | assumption)
                          obtain ⟨i026, hi026, _, hsz26, _⟩ := info_parts info5
                          have hroom26 : t171.length ≤ co25 := (Kd.R_reads' HO173.out).2.1
                          have hC26 : Kd.C (Kd.int .u8) _ Ao25 t171.length t171 := (Kd.R_reads' HO173.out).2.2
                          have hcut26 := cut_to (P := Tryd.prog) 23 5 .i64 Tryd.underlying23 hi026 Ao25 t171.length co25 9 (by omega) q26 hroom26
                          have hr26 := Kd.C_take (m := 9) hC26 (by omega)
                          have hy26 : y182.length = (9 : Int).toNat := (by rw [Ny182.out, List.length_take]; omega)
                          rw [← Ny182.out] at hr26
                          rw [← hy26] at hcut26
                          have HR185 := Aside0.mk hr26
                          have HC185 := Aside0.mk (show y182.length ≤ co25 from by omega)
                          clear hr26 hC26 hroom26 hi026 hsz26
                          have KY26 := Aside0.mk hy26
                          clear hy26
                          have KL26 := Aside0.mk (show 9 ≤ t171.length from by omega)
                          replace q26 := eq_true q26
                          have hcv27 := Kd.C_string (P := Tryd.prog) (A := Ao25) (c := co25) Tryd.underlying23 Tryd.underlying5 Tryd.underlying9 (by repeat (first | (with_reducible exact HR185.out) | (with_reducible refine Kd.C_alloc ?_ _) | (with_reducible refine Kd.C_drewN ?_ _) | (with_reducible refine Kd.C_drew ?_) | exact HR185.out))
                          have q28 : (120 : Int) ≤ ((t171.length : Int) : Int) := of_decide_eq_true (by first | (with_reducible assumption) | assumption)
                          obtain ⟨i028, hi028, _, hsz28, _⟩ := info_parts info5
                          have hroom28 : t171.length ≤ co25 := (Kd.R_reads' HO173.out).2.1
                          have hC28 : Kd.C (Kd.int .u8) _ Ao25 t171.length t171 := (Kd.R_reads' HO173.out).2.2
                          have hcut28 := cut_from (P := Tryd.prog) 23 5 .i64 Tryd.underlying23 hi028 1 hsz28 Ao25 t171.length co25 120 (by omega) q28
                          have hr28 := Kd.C_drop (m := (120 : Int).toNat) (c := co25) hC28 (by omega) hroom28
                          obtain ⟨A28, hA28⟩ : ∃ A1, A1 = (if co25 = (120 : Int).toNat then Ao25 else (Ao25 : Option Addr).map (·.add ((120 : Int).toNat * 1))) := ⟨_, rfl⟩
                          obtain ⟨c28, hc28⟩ : ∃ c1, c1 = co25 - (120 : Int).toNat := ⟨_, rfl⟩
                          have hy28 : y186.length = t171.length - (120 : Int).toNat := (by rw [Ny186.out, List.length_drop] <;> omega)
                          rw [show (t171).drop (120 : Int).toNat = y186 from Ny186.out.symm] at hr28
                          replace hr28 : Kd.C (Kd.int .u8) _ A28 y186.length y186 := (by rw [hA28]; exact hr28)
                          rw [← hy28, ← hA28, ← hc28] at hcut28
                          have HR189 := Aside0.mk hr28
                          have HC189 := Aside0.mk (show y186.length ≤ c28 from by rw [hy28, hc28]; exact Nat.sub_le_sub_right hroom28 _)
                          clear hr28 hC28 hroom28 hi028 hsz28 hc28
                          have KY28 := Aside0.mk hy28
                          have KA28 := Aside0.mk hA28
                          clear hy28 hA28
                          have KL28 := Aside0.mk (show 120 ≤ t171.length from by omega)
                          replace q28 := eq_true q28
                          have hcv29 := Kd.C_string (P := Tryd.prog) (A := A28) (c := c28) Tryd.underlying23 Tryd.underlying5 Tryd.underlying9 (by repeat (first | (with_reducible exact HR189.out) | (with_reducible refine Kd.C_alloc ?_ _) | (with_reducible refine Kd.C_drewN ?_ _) | (with_reducible refine Kd.C_drew ?_) | exact HR189.out))
                          have p190 : 0 ≤ (119 : Int) := (by omega)
                          have q190 : 119 < (t171.length : Int) := of_decide_eq_true (by first | (with_reducible assumption) | assumption)
                          obtain ⟨ad190, e190, hx190_0⟩ := Kd.at_int (Kd.R_reads' HO173.out).2.2 119 p190 q190
                          cases e190
                          (try simp only [show (119 : Int).toNat = 119 from rfl, Nat.reduceMul, Nat.reduceEqDiff, Go.Addr.add, ↓reduceIte] at hx190_0)
                          have qi190 : (119 < t171.length) = True := eq_true (by omega)
                          (try rw [show ((119 : Int)).toNat = 119 from rfl] at hx190_0)
                          replace p190 := eq_true p190
                          replace q190 := eq_true q190
                          go_wp2
                          go_meet
                          case rel => exact ⟨_, (((rd t171 119) != 0)), (by first | rfl | (simp; done) | (simp [*]; done)), H', ⟨by first | omega | exact Nat.le_refl _⟩, ⟨by (with_reducible repeat (first | apply Kd.R_alloc | apply Kd.R_drewN | apply Kd.R_drew)); exact Kd.R_mono HO173.out (fun _ hk => trivial)⟩, ⟨by repeat (first | (with_reducible first | exact HB.out | apply below_alloc | apply pw_below_drewN | apply below_drew1) | exact HB.out)⟩⟩
                        · rw [if_neg c24] at H
                          exact absurd H (by simp)
                      · rw [if_neg c23] at H
                        have c23b0 : ((strOfNums y186).toList == ([1, 2, 3, 4, 5, 6, 7, 8] : List UInt8)) = false := beq_eq_false_iff_ne.mpr c23
                        have c23b1 : ((strOfNums y186).toList != ([1, 2, 3, 4, 5, 6, 7, 8] : List UInt8)) = true := bne_iff_ne.mpr c23
                        have H' := Aside0.mk H
                        clear H
                        obtain ⟨Ao30, co30, eo30⟩ := Kd.R_slice HO173.out
                        subst eo30
                        have q31 : (9 : Int) ≤ ((t171.length : Int) : Int) := of_decide_eq_true (by first | (with_reducible assumption) | assumption)
                        obtain ⟨i031, hi031, _, hsz31, _⟩ := info_parts info5
                        have hroom31 : t171.length ≤ co30 := (Kd.R_reads' HO173.out).2.1
                        have hC31 : Kd.C (Kd.int .u8) _ Ao30 t171.length t171 := (Kd.R_reads' HO173.out).2.2
                        have hcut31 := cut_to (P := Tryd.prog) 23 5 .i64 Tryd.underlying23 hi031 Ao30 t171.length co30 9 (by omega) q31 hroom31
                        have hr31 := Kd.C_take (m := 9) hC31 (by omega)
                        have hy31 : y182.length = (9 : Int).toNat := (by rw [Ny182.out, List.length_take]; omega)
                        rw [← Ny182.out] at hr31
                        rw [← hy31] at hcut31
                        have HR185 := Aside0.mk hr31
                        have HC185 := Aside0.mk (show y182.length ≤ co30 from by omega)
                        clear hr31 hC31 hroom31 hi031 hsz31
                        have KY31 := Aside0.mk hy31
                        clear hy31
                        have KL31 := Aside0.mk (show 9 ≤ t171.length from by omega)
                        replace q31 := eq_true q31
                        have hcv32 := Kd.C_string (P := Tryd.prog) (A := Ao30) (c := co30) Tryd.underlying23 Tryd.underlying5 Tryd.underlying9 (by repeat (first | (with_reducible exact HR185.out) | (with_reducible refine Kd.C_alloc ?_ _) | (with_reducible refine Kd.C_drewN ?_ _) | (with_reducible refine Kd.C_drew ?_) | exact HR185.out))
                        have q33 : (120 : Int) ≤ ((t171.length : Int) : Int) := of_decide_eq_true (by first | (with_reducible assumption) | assumption)
                        obtain ⟨i033, hi033, _, hsz33, _⟩ := info_parts info5
                        have hroom33 : t171.length ≤ co30 := (Kd.R_reads' HO173.out).2.1
                        have hC33 : Kd.C (Kd.int .u8) _ Ao30 t171.length t171 := (Kd.R_reads' HO173.out).2.2
                        have hcut33 := cut_from (P := Tryd.prog) 23 5 .i64 Tryd.underlying23 hi033 1 hsz33 Ao30 t171.length co30 120 (by omega) q33
                        have hr33 := Kd.C_drop (m := (120 : Int).toNat) (c := co30) hC33 (by omega) hroom33
                        obtain ⟨A33, hA33⟩ : ∃ A1, A1 = (if co30 = (120 : Int).toNat then Ao30 else (Ao30 : Option Addr).map (·.add ((120 : Int).toNat * 1))) := ⟨_, rfl⟩
                        obtain ⟨c33, hc33⟩ : ∃ c1, c1 = co30 - (120 : Int).toNat := ⟨_, rfl⟩
                        have hy33 : y186.length = t171.length - (120 : Int).toNat := (by rw [Ny186.out, List.length_drop] <;> omega)
                        rw [show (t171).drop (120 : Int).toNat = y186 from Ny186.out.symm] at hr33
                        replace hr33 : Kd.C (Kd.int .u8) _ A33 y186.length y186 := (by rw [hA33]; exact hr33)
                        rw [← hy33, ← hA33, ← hc33] at hcut33
                        have HR189 := Aside0.mk hr33
                        have HC189 := Aside0.mk (show y186.length ≤ c33 from by rw [hy33, hc33]; exact Nat.sub_le_sub_right hroom33 _)
                        clear hr33 hC33 hroom33 hi033 hsz33 hc33
                        have KY33 := Aside0.mk hy33
                        have KA33 := Aside0.mk hA33
                        clear hy33 hA33
                        have KL33 := Aside0.mk (show 120 ≤ t171.length from by omega)
                        replace q33 := eq_true q33
                        have hcv34 := Kd.C_string (P := Tryd.prog) (A := A33) (c := c33) Tryd.underlying23 Tryd.underlying5 Tryd.underlying9 (by repeat (first | (with_reducible exact HR189.out) | (with_reducible refine Kd.C_alloc ?_ _) | (with_reducible refine Kd.C_drewN ?_ _) | (with_reducible refine Kd.C_drew ?_) | exact HR189.out))
                        go_wp2
                        go_meet
                        case rel => exact ⟨_, (true), (by first | rfl | (simp; done) | (simp [*]; done)), H', ⟨by first | omega | exact Nat.le_refl _⟩, ⟨by (with_reducible repeat (first | apply Kd.R_alloc | apply Kd.R_drewN | apply Kd.R_drew)); exact Kd.R_mono HO173.out (fun _ hk => trivial)⟩, ⟨by repeat (first | (with_reducible first | exact HB.out | apply below_alloc | apply pw_below_drewN | apply below_drew1) | exact HB.out)⟩⟩
                    · rw [if_neg c22] at H
                      exact absurd H (by simp)
                  · rw [if_neg c21] at H
                    have c21b0 : ((strOfNums y182).toList == ([1, 2, 3, 4, 5, 6, 7, 8, 110] : List UInt8)) = false := beq_eq_false_iff_ne.mpr c21
                    have c21b1 : ((strOfNums y182).toList != ([1, 2, 3, 4, 5, 6, 7, 8, 110] : List UInt8)) = true := bne_iff_ne.mpr c21
                    have H' := Aside0.mk H
                    clear H
                    obtain ⟨Ao35, co35, eo35⟩ := Kd.R_slice HO173.out
                    subst eo35
                    have q36 : (9 : Int) ≤ ((t171.length : Int) : Int) := of_decide_eq_true (by first | (with_reducible assumption) | assumption)
                    obtain ⟨i036, hi036, _, hsz36, _⟩ := info_parts info5
                    have hroom36 : t171.length ≤ co35 := (Kd.R_reads' HO173.out).2.1
                    have hC36 : Kd.C (Kd.int .u8) _ Ao35 t171.length t171 := (Kd.R_reads' HO173.out).2.2
                    have hcut36 := cut_to (P := Tryd.prog) 23 5 .i64 Tryd.underlying23 hi036 Ao35 t171.length co35 9 (by omega) q36 hroom36
                    have hr36 := Kd.C_take (m := 9) hC36 (by omega)
                    have hy36 : y182.length = (9 : Int).toNat := (by rw [Ny182.out, List.length_take]; omega)
                    rw [← Ny182.out] at hr36
                    rw [← hy36] at hcut36
                    have HR185 := Aside0.mk hr36
                    have HC185 := Aside0.mk (show y182.length ≤ co35 from by omega)
                    clear hr36 hC36 hroom36 hi036 hsz36
                    have KY36 := Aside0.mk hy36
                    clear hy36
                    have KL36 := Aside0.mk (show 9 ≤ t171.length from by omega)
                    replace q36 := eq_true q36
                    have hcv37 := Kd.C_string (P := Tryd.prog) (A := Ao35) (c := co35) Tryd.underlying23 Tryd.underlying5 Tryd.underlying9 (by repeat (first | (with_reducible exact HR185.out) | (with_reducible refine Kd.C_alloc ?_ _) | (with_reducible refine Kd.C_drewN ?_ _) | (with_reducible refine Kd.C_drew ?_) | exact HR185.out))
                    go_wp2
                    go_meet
                    case rel => exact ⟨_, (true), (by first | rfl | (simp; done) | (simp [*]; done)), H', ⟨by first | omega | exact Nat.le_refl _⟩, ⟨by (with_reducible repeat (first | apply Kd.R_alloc | apply Kd.R_drewN | apply Kd.R_drew)); exact Kd.R_mono HO173.out (fun _ hk => trivial)⟩, ⟨by repeat (first | (with_reducible first | exact HB.out | apply below_alloc | apply pw_below_drewN | apply below_drew1) | exact HB.out)⟩⟩
                · rw [if_neg c20] at H
                  exact absurd H (by simp)
              · rw [if_neg c19] at H
                have c19b0 : ((t171.length : Int) == 128) = false := beq_eq_false_iff_ne.mpr c19
                have c19b1 : ((t171.length : Int) != 128) = true := bne_iff_ne.mpr c19
                (first | rw [c19b0] | rw [c19b1] | (simp only [i64_w, i32_w]; rw [c19b0]) | skip)
                have H' := Aside0.mk H
                clear H
                obtain ⟨Ao38, co38, eo38⟩ := Kd.R_slice HO173.out
                subst eo38
                go_wp2
                go_meet
                case rel => exact ⟨_, (true), (by first | rfl | (simp; done) | (simp [*]; done)), H', ⟨by first | omega | exact Nat.le_refl _⟩, ⟨by (with_reducible repeat (first | apply Kd.R_alloc | apply Kd.R_drewN | apply Kd.R_drew)); exact Kd.R_mono HO173.out (fun _ hk => trivial)⟩, ⟨by repeat (first | (with_reducible first | exact HB.out | apply below_alloc | apply pw_below_drewN | apply below_drew1) | exact HB.out)⟩⟩
          · replace c17 := Bool.eq_false_iff.mpr c17
            subst c17
            have H1 : (rabbetlaw20_TagForms.j0 k t171 true) = some r := by rw [if_neg (show ¬ (false = true) by decide)] at H; exact H
            clear H
            have H := H1
            clear H1
            have H' := Aside0.mk H
            clear H
            go_wp2
            go_meet
            case rel => exact ⟨_, (true), (by first | rfl | (simp; done) | (simp [*]; done)), H', ⟨by first | omega | exact Nat.le_refl _⟩, ⟨by (with_reducible repeat (first | apply Kd.R_alloc | apply Kd.R_drewN | apply Kd.R_drew)); exact Kd.R_mono HO173.out (fun _ hk => trivial)⟩, ⟨by repeat (first | (with_reducible first | exact HB.out | apply below_alloc | apply pw_below_drewN | apply below_drew1) | exact HB.out)⟩⟩
        case rest =>
          clear HC7
          try clear c1
          try clear p1
          try clear q1
          try clear hx1
          try clear qi1
          try clear c2
          try clear p2
          try clear q2
          try clear hcv2
          try clear c3
          try clear c3b0
          try clear c3b1
          try clear q3
          try clear hcv3
          try clear c5
          try clear c5b0
          try clear c5b1
          try clear c6
          try clear c10
          try clear c12
          try clear c17
          try clear c18
          try clear c19
          try clear c19b0
          try clear c19b1
          try clear p19
          try clear q19
          try clear hx19
          try clear qi19
          try clear c20
          try clear c20b0
          try clear c20b1
          try clear c21
          try clear c21b0
          try clear c21b1
          try clear c22
          try clear c22b0
          try clear c22b1
          try clear c23
          try clear c23b0
          try clear c23b1
          try clear c24
          try clear c24b0
          try clear c24b1
          try clear q26
          try clear hcv27
          try clear c28
          try clear q28
          try clear hcv29
          try clear q31
          try clear hcv32
          try clear c33
          try clear q33
          try clear hcv34
          try clear q36
          try clear hcv37
          try clear hx190_0
          try clear p190
          try clear q190
          try clear q26
          try clear q28
          try clear q31
          try clear q33
          try clear q36
          obtain ⟨kq, x54_6, rfl, HA, HJ6, HO_1, HB⟩ := hcut
          cases kq with
          | zero => exact absurd HA.out (by simp [rabbetlaw20_TagForms.j0])
          | succ kj6 =>
            have H := HA.out
            clear HA
            simp only [rabbetlaw20_TagForms.j0] at H
            by_cases c39 : x54_6 = true
            · subst c39
              have H1 : (none) = some r := by rw [if_pos rfl] at H; exact H
              clear H
              have H := H1
              clear H1
              exact absurd H (by simp)
            · replace c39 := Bool.eq_false_iff.mpr c39
              subst c39
              have H1 : (rabbetlaw20_TagForms.l0 kj6 t171 0) = some r := by rw [if_neg (show ¬ (false = true) by decide)] at H; exact H
              clear H
              have H := H1
              clear H1
              have H' := Aside0.mk H
              clear H
              go_wp2
              go_loopg [5] kj6 (fun kq v5 w' => ∃ (x1_2 : List Int) (x5_2 : Int), v5 = .int .i64 x5_2 ∧ Aside0 (rabbetlaw20_TagForms.l0 kq x1_2 x5_2 = some r) ∧ Aside0 (kq ≤ kj6) ∧ Aside0 (Kd.R (Kd.int .u8) 5 w' w.heap.size (fun _ => True) v172 x1_2) ∧ Aside0 (Below w.heap.size w w'))
              case atStart => exact ⟨(t171), (0), (by first | rfl | (simp; done) | (simp [*]; done)), H', ⟨Nat.le_refl _⟩, ⟨by (with_reducible repeat (first | apply Kd.R_alloc | apply Kd.R_drewN | apply Kd.R_drew)); exact HO_1.out⟩, ⟨by repeat (first | (with_reducible first | exact HB.out | apply below_alloc | apply pw_below_drewN | apply below_drew1) | exact HB.out)⟩⟩
              case round =>
                clear H'
                try clear c1
                try clear p1
                try clear q1
                try clear hx1
                try clear qi1
                try clear c2
                try clear p2
                try clear q2
                try clear hcv2
                try clear c3
                try clear c3b0
                try clear c3b1
                try clear q3
                try clear hcv3
                try clear c5
                try clear c5b0
                try clear c5b1
                try clear c6
                try clear c10
                try clear c12
                try clear c17
                try clear c18
                try clear c19
                try clear c19b0
                try clear c19b1
                try clear p19
                try clear q19
                try clear hx19
                try clear qi19
                try clear c20
                try clear c20b0
                try clear c20b1
                try clear c21
                try clear c21b0
                try clear c21b1
                try clear c22
                try clear c22b0
                try clear c22b1
                try clear c23
                try clear c23b0
                try clear c23b1
                try clear c24
                try clear c24b0
                try clear c24b1
                try clear q26
                try clear hcv27
                try clear c28
                try clear q28
                try clear hcv29
                try clear q31
                try clear hcv32
                try clear c33
                try clear q33
                try clear hcv34
                try clear q36
                try clear hcv37
                try clear c39
                try clear hx190_0
                try clear p1
                try clear p19
                try clear p190
                try clear p2
                try clear q1
                try clear q19
                try clear q190
                try clear q2
                try clear q26
                try clear q28
                try clear q3
                try clear q31
                try clear q33
                try clear q36
                obtain ⟨x1_2, x5_2, rfl, HA, HK2, HO_1, HB⟩ := hrel
                cases gk with
                | zero => exact absurd HA.out (by simp [rabbetlaw20_TagForms.l0])
                | succ k2 =>
                  have H := HA.out
                  clear HA
                  simp only [rabbetlaw20_TagForms.l0] at H
                  by_cases c40 : x5_2 < 128
                  · rw [if_pos c40] at H
                    have c40b0 : decide (x5_2 < 128) = true := decide_eq_true c40
                    clear c40
                    obtain ⟨y191, hy191⟩ : ∃ y_ : List Int, y_ = (([] : List Int)) := ⟨_, rfl⟩
                    replace H : (if y191.length + x1_2.length < 140737488355328 then ((some (y191 ++ x1_2 : List Int)).bind fun y194 => (if 0 ≤ x5_2 then (if x5_2 < (y194.length : Int) then ((tag_Take.f k2 16909060 84281096 (y194.set (x5_2 : Int).toNat (Go.bits .xor .u8 (rd y194 x5_2) 1))).bind fun bt199 => (if x5_2 ≥ 9 then (if (bt199.2 != (decide (x5_2 < 119))) = true then (none) else (if bt199.2 = true then (if (bt199.1.length : Int) = 110 then (if 0 ≤ (wrap64 (x5_2 - 9)) then (if (wrap64 (x5_2 - 9)) < (bt199.1.length : Int) then (if (rd bt199.1 (wrap64 (x5_2 - 9))) = 1 then (rabbetlaw20_TagForms.l0 k2 x1_2 (wrap64 (x5_2 + 1))) else (none)) else (none)) else (none)) else (none)) else (rabbetlaw20_TagForms.l0 k2 x1_2 (wrap64 (x5_2 + 1))))) else (if (bt199.2 != false) = true then (none) else (if bt199.2 = true then (if (bt199.1.length : Int) = 110 then (if 0 ≤ (wrap64 (x5_2 - 9)) then (if (wrap64 (x5_2 - 9)) < (bt199.1.length : Int) then (if (rd bt199.1 (wrap64 (x5_2 - 9))) = 1 then (rabbetlaw20_TagForms.l0 k2 x1_2 (wrap64 (x5_2 + 1))) else (none)) else (none)) else (none)) else (none)) else (rabbetlaw20_TagForms.l0 k2 x1_2 (wrap64 (x5_2 + 1))))))) else (none)) else (none))) else (none)) = some r := by first | (rw [hy191]; with_reducible exact H) | (have H2_ := (Option.bind_some _ _).symm.trans H; rw [hy191]; with_reducible exact H2_) | (have H2_ := (Option.bind_some _ _).symm.trans H; with_reducible exact H2_) | with_reducible exact H | (rw [hy191]; exact H) | exact H
                    have Ny191 := Aside0.mk hy191
                    clear hy191
                    by_cases c41 : y191.length + x1_2.length < 140737488355328
                    · rw [if_pos c41] at H
                      have LMc41 := Aside0.mk c41
                      clear c41
                      obtain ⟨y194, hy194⟩ : ∃ y_ : List Int, y_ = (y191 ++ x1_2) := ⟨_, rfl⟩
                      replace H : (if 0 ≤ x5_2 then (if x5_2 < (y194.length : Int) then ((tag_Take.f k2 16909060 84281096 (y194.set (x5_2 : Int).toNat (Go.bits .xor .u8 (rd y194 x5_2) 1))).bind fun bt199 => (if x5_2 ≥ 9 then (if (bt199.2 != (decide (x5_2 < 119))) = true then (none) else (if bt199.2 = true then (if (bt199.1.length : Int) = 110 then (if 0 ≤ (wrap64 (x5_2 - 9)) then (if (wrap64 (x5_2 - 9)) < (bt199.1.length : Int) then (if (rd bt199.1 (wrap64 (x5_2 - 9))) = 1 then (rabbetlaw20_TagForms.l0 k2 x1_2 (wrap64 (x5_2 + 1))) else (none)) else (none)) else (none)) else (none)) else (rabbetlaw20_TagForms.l0 k2 x1_2 (wrap64 (x5_2 + 1))))) else (if (bt199.2 != false) = true then (none) else (if bt199.2 = true then (if (bt199.1.length : Int) = 110 then (if 0 ≤ (wrap64 (x5_2 - 9)) then (if (wrap64 (x5_2 - 9)) < (bt199.1.length : Int) then (if (rd bt199.1 (wrap64 (x5_2 - 9))) = 1 then (rabbetlaw20_TagForms.l0 k2 x1_2 (wrap64 (x5_2 + 1))) else (none)) else (none)) else (none)) else (none)) else (rabbetlaw20_TagForms.l0 k2 x1_2 (wrap64 (x5_2 + 1))))))) else (none)) else (none)) = some r := by first | (rw [hy194]; with_reducible exact H) | (have H2_ := (Option.bind_some _ _).symm.trans H; rw [hy194]; with_reducible exact H2_) | (have H2_ := (Option.bind_some _ _).symm.trans H; with_reducible exact H2_) | with_reducible exact H | (rw [hy194]; exact H) | exact H
                      have Ny194 := Aside0.mk hy194
                      clear hy194
                      by_cases c42 : 0 ≤ x5_2
                      · rw [if_pos c42] at H
                        have c42b0 : decide (0 ≤ x5_2) = true := decide_eq_true c42
                        clear c42
                        by_cases c43 : x5_2 < (y194.length : Int)
                        · rw [if_pos c43] at H
                          have c43b0 : decide (x5_2 < (y194.length : Int)) = true := decide_eq_true c43
                          clear c43
                          obtain ⟨y198, hy198⟩ : ∃ y_ : List Int, y_ = (y194.set (x5_2 : Int).toNat (Go.bits .xor .u8 (rd y194 x5_2) 1)) := ⟨_, rfl⟩
                          replace H : ((tag_Take.f k2 16909060 84281096 y198).bind fun bt199 => (if x5_2 ≥ 9 then (if (bt199.2 != (decide (x5_2 < 119))) = true then (none) else (if bt199.2 = true then (if (bt199.1.length : Int) = 110 then (if 0 ≤ (wrap64 (x5_2 - 9)) then (if (wrap64 (x5_2 - 9)) < (bt199.1.length : Int) then (if (rd bt199.1 (wrap64 (x5_2 - 9))) = 1 then (rabbetlaw20_TagForms.l0 k2 x1_2 (wrap64 (x5_2 + 1))) else (none)) else (none)) else (none)) else (none)) else (rabbetlaw20_TagForms.l0 k2 x1_2 (wrap64 (x5_2 + 1))))) else (if (bt199.2 != false) = true then (none) else (if bt199.2 = true then (if (bt199.1.length : Int) = 110 then (if 0 ≤ (wrap64 (x5_2 - 9)) then (if (wrap64 (x5_2 - 9)) < (bt199.1.length : Int) then (if (rd bt199.1 (wrap64 (x5_2 - 9))) = 1 then (rabbetlaw20_TagForms.l0 k2 x1_2 (wrap64 (x5_2 + 1))) else (none)) else (none)) else (none)) else (none)) else (rabbetlaw20_TagForms.l0 k2 x1_2 (wrap64 (x5_2 + 1))))))) = some r := by first | (rw [hy198]; with_reducible exact H) | (have H2_ := (Option.bind_some _ _).symm.trans H; rw [hy198]; with_reducible exact H2_) | (have H2_ := (Option.bind_some _ _).symm.trans H; with_reducible exact H2_) | with_reducible exact H | (rw [hy198]; exact H) | exact H
                          have Ny198 := Aside0.mk hy198
                          clear hy198
                          replace H := Option.bind_eq_some_iff.mp H
                          obtain ⟨⟨t199, t200⟩, A450, H⟩ := H
                          replace H : (if x5_2 ≥ 9 then (if (t200 != (decide (x5_2 < 119))) = true then (none) else (if t200 = true then (if (t199.length : Int) = 110 then (if 0 ≤ (wrap64 (x5_2 - 9)) then (if (wrap64 (x5_2 - 9)) < (t199.length : Int) then (if (rd t199 (wrap64 (x5_2 - 9))) = 1 then (rabbetlaw20_TagForms.l0 k2 x1_2 (wrap64 (x5_2 + 1))) else (none)) else (none)) else (none)) else (none)) else (rabbetlaw20_TagForms.l0 k2 x1_2 (wrap64 (x5_2 + 1))))) else (if (t200 != false) = true then (none) else (if t200 = true then (if (t199.length : Int) = 110 then (if 0 ≤ (wrap64 (x5_2 - 9)) then (if (wrap64 (x5_2 - 9)) < (t199.length : Int) then (if (rd t199 (wrap64 (x5_2 - 9))) = 1 then (rabbetlaw20_TagForms.l0 k2 x1_2 (wrap64 (x5_2 + 1))) else (none)) else (none)) else (none)) else (none)) else (rabbetlaw20_TagForms.l0 k2 x1_2 (wrap64 (x5_2 + 1)))))) = some r := H
                          have A45 := Aside0.mk A450
                          clear A450
                          by_cases c46 : x5_2 ≥ 9
                          · rw [if_pos c46] at H
                            have c46b0 : decide (9 ≤ x5_2) = true := decide_eq_true c46
                            clear c46
                            by_cases c47 : (t200 != (decide (x5_2 < 119))) = true
                            · rw [if_pos c47] at H
                              exact absurd H (by simp)
                            · rw [if_neg c47] at H
                              have c47b0 : (t200 != (decide (x5_2 < 119))) = false := by simpa using c47
                              (try (have c47b1 : decide (t200 = (decide (x5_2 < 119))) = true := by simpa using c47))
                              (try (have c47b2 : (t200 == (decide (x5_2 < 119))) = true := by simpa using c47))
                              clear c47
                              by_cases c48 : t200 = true
                              · subst c48
                                have H1 : (if (t199.length : Int) = 110 then (if 0 ≤ (wrap64 (x5_2 - 9)) then (if (wrap64 (x5_2 - 9)) < (t199.length : Int) then (if (rd t199 (wrap64 (x5_2 - 9))) = 1 then (rabbetlaw20_TagForms.l0 k2 x1_2 (wrap64 (x5_2 + 1))) else (none)) else (none)) else (none)) else (none)) = some r := by rw [if_pos rfl] at H; exact H
                                clear H
                                have H := H1
                                clear H1
                                by_cases c49 : (t199.length : Int) = 110
                                · rw [if_pos c49] at H
                                  have c49b0 : ((t199.length : Int) == 110) = true := beq_iff_eq.mpr c49
                                  have c49b1 : ((t199.length : Int) != 110) = false := bne_eq_false_iff_eq.mpr c49
                                  clear c49
                                  obtain ⟨ji50, hji50⟩ : ∃ j_ : Int, (wrap64 (x5_2 - 9)) = j_ := ⟨_, rfl⟩
                                  replace H : (if 0 ≤ (ji50) then (if (ji50) < (t199.length : Int) then (if (rd t199 (ji50)) = 1 then (rabbetlaw20_TagForms.l0 k2 x1_2 (wrap64 (x5_2 + 1))) else (none)) else (none)) else (none)) = some r := by first | (rw [hji50] at H; exact H) | (simp only [hji50] at H ⊢; exact H) | exact H
                                  (try rw [hji50] at A45)
                                  have hji50w : (IntKind.i64.wrap (x5_2 - 9)) = ji50 := (i64_w _).trans hji50
                                  by_cases c51 : 0 ≤ (ji50)
                                  · rw [if_pos c51] at H
                                    have c51b0 : decide (0 ≤ (ji50)) = true := decide_eq_true c51
                                    clear c51
                                    by_cases c52 : (ji50) < (t199.length : Int)
                                    · rw [if_pos c52] at H
                                      have c52b0 : decide ((ji50) < (t199.length : Int)) = true := decide_eq_true c52
                                      clear c52
                                      by_cases c53 : (rd t199 (ji50)) = 1
                                      · rw [if_pos c53] at H
                                        have c53b0 : ((rd t199 (ji50)) == 1) = true := beq_iff_eq.mpr c53
                                        have c53b1 : ((rd t199 (ji50)) != 1) = false := bne_eq_false_iff_eq.mpr c53
                                        clear c53
                                        have H' := Aside0.mk H
                                        clear H
                                        go_wp2_with (first | ((with_reducible refine gate_dst (N := 59) rfl ?_); (try (refine gate_guard (by rfl) ?_; dsimp only)); refine Kd.R_lit (Kd.int .u8) _ 5 ?hg (N := 59) ?hd (xs := ([] : List Int)) (inner := []) (ok := fun _ => True) (okp := fun _ => True) ?hr ?hp (fun _ hk => hk) trivial (Below.refl _ _) (Nat.le_refl _) (by simp) ?_; (case hd => rfl); (case hg => rfl); (case hr => first | (go_simp; done) | (go_simp; rfl)); (case hp => exact (Reps.none _ _)); intro v192 w54 ho55 hb hg_ hnew_; clear hg_ hnew_; (first | rw [← Ny191.out] at ho55 | (simp only [Int.reduceToNat] at ho55; rw [← Ny191.out] at ho55)); have n0_ := Aside0.mk (Kd.R_elder' (by (with_reducible repeat (first | apply Kd.R_alloc | apply Kd.R_drewN | apply Kd.R_drew)); exact HO_1.out) (Kd.R_base ho55) hb); have n1_ := Aside0.mk (Kd.R_lower (Kd.R_new' ho55 (Kd.R_lt (by (with_reducible repeat (first | apply Kd.R_alloc | apply Kd.R_drewN | apply Kd.R_drew)); exact HO_1.out))) (below_size (by repeat (first | (with_reducible first | exact HB.out | apply below_alloc | apply pw_below_drewN | apply below_drew1) | exact HB.out)))); have n2_ := Aside0.mk (below_step (by repeat (first | (with_reducible first | exact HB.out | apply below_alloc | apply pw_below_drewN | apply below_drew1) | exact HB.out)) hb); clear HO_1; clear HB; have HO_1 := n0_; have HO193 := n1_; have HB := n2_; clear n0_ n1_ n2_; clear hb ho55; obtain ⟨Ao57, co57, eo57⟩ := Kd.R_slice HO_1.out; subst eo57) | ((with_reducible refine gate_builtin (b := .append) (xs := #[.tmp 59, .tmp 60]) rfl ?_); (try (refine gate_guard (by rfl) ?_; dsimp only)); at_builtin; refine Kd.R_append_rows (Kd.int .u8) (w0 := w) w.heap.size rfl (.tmp 59) (.tmp 60) 23 5 (.int .u8 0) 1 rfl Tryd.underlying23 info5 rfl (by decide) (by omega) v192 y191 x1_2 _ _ _ (fun k_ => some k_ ≠ (.slice Ao57 x1_2.length co57 : Value).ownBlock) (fun _ => False) rfl rfl ?aO ?aR (fun _ _ h => h) (fun _ h => h.elim) ?aF ?aB ?aS ?aL ?_; (case aR => repeat (first | exact (Kd.R_reads' HO_1.out).2.2 | (with_reducible refine Kd.C_alloc ?_ _) | (with_reducible refine Kd.C_drewN ?_ _) | (with_reducible refine Kd.C_drew ?_))); (case aB => exact (by repeat (first | (with_reducible first | exact HB.out | apply below_alloc | apply pw_below_drewN | apply below_drew1) | exact HB.out))); (case aF => exact (fun k_ hk => Kd.fresh' (Kd.R_lt (by (with_reducible repeat (first | apply Kd.R_alloc | apply Kd.R_drewN | apply Kd.R_drew)); exact HO_1.out)) k_ hk)); (case aO => exact (by (with_reducible repeat (first | apply Kd.R_alloc | apply Kd.R_drewN | apply Kd.R_drew)); exact Kd.R_mono HO193.out (fun _ hk => hk.2))); (case aS => exact (below_size (by repeat (first | (with_reducible first | exact HB.out | apply below_alloc | apply pw_below_drewN | apply below_drew1) | exact HB.out)))); (case aL => have := LMc41.out; omega); intro v195 w56 ho hb hg hat; rw [← Ny194.out] at ho; have n0_ := Aside0.mk (Kd.R_after (ok := (fun _ => True)) (by (with_reducible repeat (first | apply Kd.R_alloc | apply Kd.R_drewN | apply Kd.R_drew)); exact HO_1.out) hg hat); have n1_ := Aside0.mk (hb); have n2_ := Aside0.mk (ho); clear HO_1; clear HB; clear HO193; have HO_1 := n0_; have HB := n1_; have HO196 := n2_; clear n0_ n1_ n2_; clear ho hb hg hat; obtain ⟨Ao58, co58, eo58⟩ := Kd.R_slice HO196.out; subst eo58; have p197 : 0 ≤ (x5_2 : Int) := of_decide_eq_true (by first | (with_reducible assumption) | assumption); have q197 : x5_2 < (y194.length : Int) := of_decide_eq_true (by first | (with_reducible assumption) | assumption); obtain ⟨ad197, e197, hx197_0⟩ := Kd.at_int (Kd.R_reads' HO196.out).2.2 x5_2 p197 q197; cases e197; replace p197 := eq_true p197; replace q197 := eq_true q197; have p44 : 0 ≤ (x5_2 : Int) := of_decide_eq_true (by first | (with_reducible assumption) | assumption); have q44 : (x5_2 : Int) < ((y194.length : Int) : Int) := of_decide_eq_true (by first | (with_reducible assumption) | assumption); obtain ⟨go44, co44, eo44, gb44, gl44, cl44, HG44⟩ := Kd.R_form HO196.out (by omega); (first | cases eo44 | (injection eo44 with ea_ en_ ec_; (first | subst ea_ | (injection ea_ with ea_; subst ea_)); subst ec_; clear en_)); have GB44 := Aside0.mk gb44; have GG44 := Aside0.mk HG44; clear gb44 gl44 HG44; (first | simp only [add_plain] at hx197_0 | skip); obtain ⟨hx44_0, hf44_0⟩ := Kd.R_celln 0 HO196.out (x5_2 : Int) p44 q44; replace p44 := eq_true p44; replace q44 := eq_true q44; obtain ⟨hy59_, hz59_⟩ := Kd.R_celln 0 HO196.out (x5_2 : Int) (of_decide_eq_true (by first | (with_reducible assumption) | assumption)) (of_decide_eq_true (by first | (with_reducible assumption) | assumption)); have HP59 := Kd.R_putg HO196.out (x5_2 : Int) (Go.bits .xor .u8 (rd y194 x5_2) 1)) | ((with_reducible refine gate_store (t := 5) (p := 67) rfl ?_); refine store_event (t := 5) (p := 67) (v := ?vo_w60) (w1 := (w56.setCell ⟨go44, (x5_2 : Int).toNat, none⟩ (.int .u8 (Go.bits .xor .u8 (rd y194 x5_2) 1)))) ?hg ?ho ?hn ?hr ?_; (case ho => rfl); (case hg => rfl); (case hn => rfl); (case hr => first | (go_simp; done) | (go_simp; rfl)); intro w60 hw; have hg : w56.grownBy w60 (some go44) := (by rw [hw]; exact HP59.2); have hp_ : Kd.R (Kd.int .u8) 5 w60 w.heap.size (fun k_ => some k_ ≠ (.slice Ao57 x1_2.length co57 : Value).ownBlock) (.slice (some ⟨go44, 0, none⟩) y194.length co58) y198 := (by rw [hw, Ny198.out]; exact HP59.1); clear HP59; have n0_ := Aside0.mk (Kd.R_after (v := (.slice (some ⟨go44, 0, none⟩) y194.length co58)) (v1 := (.slice (some ⟨go44, 0, none⟩) y194.length co58)) (ok := (fun _ => True)) (by (with_reducible repeat (first | apply Kd.R_alloc | apply Kd.R_drewN | apply Kd.R_drew)); exact HO_1.out) hg (.inl rfl)); have n1_ := Aside0.mk (hp_); have n2_ := Aside0.mk ((by rw [hw]; exact below_set (HB.out) GB44.out : Below w.heap.size w w60)); clear HO_1; clear HO196; clear HB; have HO_1 := n0_; have HO196 := n1_; have HB := n2_; clear n0_ n1_ n2_; clear hg hw hp_) | ((with_reducible refine gate_callee (f := 14) rfl ?_); refine goesL_ (some 70) rfl rfl Tryd.func14 (by kernel_rfl) rfl #[.int .u32 16909060, .int .u32 84281096, .slice (some ⟨go44, 0, none⟩) y198.length co58] rfl (by (try simp only [List.map_toArray, List.map_cons, List.map_nil]); first | done | (rw [show y198.length = y194.length from (Kd.R_reads' HO196.out).1.symm] <;> rfl) | rfl | (simp only [List.length_drop, List.length_take]; rfl)) ?_; (first | (with_reducible refine (tag_Take.calls GA k2 16909060 84281096 _ _ y198 t199 true _ ?side1 ?side2 ?side3 A45.out).mono ?_) | ((try rw [hji50]); (try rw [← KY26.out]); (try rw [← KY28.out]); (try rw [← KY31.out]); (try rw [← KY33.out]); (try rw [← KY36.out]); (with_reducible refine (tag_Take.calls GA k2 16909060 84281096 _ _ y198 t199 true _ ?side1 ?side2 ?side3 A45.out).mono ?_))); (case side1 => repeat (first | exact (Kd.R_reads' HO196.out).2.2 | (with_reducible refine Kd.C_alloc ?_ _) | (with_reducible refine Kd.C_drewN ?_ _) | (with_reducible refine Kd.C_drew ?_))); (case side2 => rw [show y198.length = y194.length from (Kd.R_reads' HO196.out).1.symm]; exact (Kd.R_reads' HO196.out).2.1); (case side3 => exact Glob.below HG.out (by repeat (first | (with_reducible first | exact HB.out | apply below_alloc | apply pw_below_drewN | apply below_drew1) | exact HB.out))); rintro e w61 ⟨v201, rfl, ho0, hb⟩; refine ⟨_, rfl, ?_⟩; have n0_ := Aside0.mk (Kd.R_elder' (by (with_reducible repeat (first | apply Kd.R_alloc | apply Kd.R_drewN | apply Kd.R_drew)); exact HO_1.out) (Kd.R_base ho0) hb); have n1_ := Aside0.mk (Kd.R_elder' (by (with_reducible repeat (first | apply Kd.R_alloc | apply Kd.R_drewN | apply Kd.R_drew)); exact HO196.out) (Kd.R_base ho0) hb); have n2_ := Aside0.mk (Kd.R_lower (Kd.R_new' (Kd.R_new' ho0 (Kd.R_lt (by (with_reducible repeat (first | apply Kd.R_alloc | apply Kd.R_drewN | apply Kd.R_drew)); exact HO_1.out))) (Kd.R_lt (by (with_reducible repeat (first | apply Kd.R_alloc | apply Kd.R_drewN | apply Kd.R_drew)); exact HO196.out))) (below_size (by repeat (first | (with_reducible first | exact HB.out | apply below_alloc | apply pw_below_drewN | apply below_drew1) | exact HB.out)))); have n3_ := Aside0.mk (below_step (by repeat (first | (with_reducible first | exact HB.out | apply below_alloc | apply pw_below_drewN | apply below_drew1) | exact HB.out)) hb); clear HO_1; clear HO196; clear HB; have HO_1 := n0_; have HO196 := n1_; have HO202 := n2_; have HB := n3_; clear n0_ n1_ n2_ n3_; (try clear hb); (try clear hb2); (try clear hk); (try clear hi); (try clear ho0); obtain ⟨Ao62, co62, eo62⟩ := Kd.R_slice HO202.out; subst eo62; have p203 : 0 ≤ ((ji50) : Int) := of_decide_eq_true (by first | (with_reducible assumption) | assumption); have q203 : (ji50) < (t199.length : Int) := of_decide_eq_true (by first | (with_reducible assumption) | assumption); obtain ⟨ad203, e203, hx203_0⟩ := Kd.at_int (Kd.R_reads' HO202.out).2.2 (ji50) p203 q203; cases e203; replace p203 := eq_true p203; replace q203 := eq_true q203))
                                        go_roundg k2
                                        case measure => have := HJ6.out; have := HK2.out; omega
                                        case rel => exact ⟨(x1_2), (wrap64 (x5_2 + 1)), (by first | rfl | (simp; done) | (simp [*]; done)), H', ⟨by have := HJ6.out; have := HK2.out; omega⟩, ⟨by (with_reducible repeat (first | apply Kd.R_alloc | apply Kd.R_drewN | apply Kd.R_drew)); exact Kd.R_mono HO_1.out (fun _ hk => trivial)⟩, ⟨by repeat (first | (with_reducible first | exact HB.out | apply below_alloc | apply pw_below_drewN | apply below_drew1) | exact HB.out)⟩⟩
                                      · rw [if_neg c53] at H
                                        exact absurd H (by simp)
                                    · rw [if_neg c52] at H
                                      exact absurd H (by simp)
                                  · rw [if_neg c51] at H
                                    exact absurd H (by simp)
                                · rw [if_neg c49] at H
                                  exact absurd H (by simp)
                              · replace c48 := Bool.eq_false_iff.mpr c48
                                subst c48
                                have H1 : (rabbetlaw20_TagForms.l0 k2 x1_2 (wrap64 (x5_2 + 1))) = some r := by rw [if_neg (show ¬ (false = true) by decide)] at H; exact H
                                clear H
                                have H := H1
                                clear H1
                                have H' := Aside0.mk H
                                clear H
                                go_wp2_with (first | ((with_reducible refine gate_dst (N := 59) rfl ?_); (try (refine gate_guard (by rfl) ?_; dsimp only)); refine Kd.R_lit (Kd.int .u8) _ 5 ?hg (N := 59) ?hd (xs := ([] : List Int)) (inner := []) (ok := fun _ => True) (okp := fun _ => True) ?hr ?hp (fun _ hk => hk) trivial (Below.refl _ _) (Nat.le_refl _) (by simp) ?_; (case hd => rfl); (case hg => rfl); (case hr => first | (go_simp; done) | (go_simp; rfl)); (case hp => exact (Reps.none _ _)); intro v192 w63 ho64 hb hg_ hnew_; clear hg_ hnew_; (first | rw [← Ny191.out] at ho64 | (simp only [Int.reduceToNat] at ho64; rw [← Ny191.out] at ho64)); have n0_ := Aside0.mk (Kd.R_elder' (by (with_reducible repeat (first | apply Kd.R_alloc | apply Kd.R_drewN | apply Kd.R_drew)); exact HO_1.out) (Kd.R_base ho64) hb); have n1_ := Aside0.mk (Kd.R_lower (Kd.R_new' ho64 (Kd.R_lt (by (with_reducible repeat (first | apply Kd.R_alloc | apply Kd.R_drewN | apply Kd.R_drew)); exact HO_1.out))) (below_size (by repeat (first | (with_reducible first | exact HB.out | apply below_alloc | apply pw_below_drewN | apply below_drew1) | exact HB.out)))); have n2_ := Aside0.mk (below_step (by repeat (first | (with_reducible first | exact HB.out | apply below_alloc | apply pw_below_drewN | apply below_drew1) | exact HB.out)) hb); clear HO_1; clear HB; have HO_1 := n0_; have HO193 := n1_; have HB := n2_; clear n0_ n1_ n2_; clear hb ho64; obtain ⟨Ao66, co66, eo66⟩ := Kd.R_slice HO_1.out; subst eo66) | ((with_reducible refine gate_builtin (b := .append) (xs := #[.tmp 59, .tmp 60]) rfl ?_); (try (refine gate_guard (by rfl) ?_; dsimp only)); at_builtin; refine Kd.R_append_rows (Kd.int .u8) (w0 := w) w.heap.size rfl (.tmp 59) (.tmp 60) 23 5 (.int .u8 0) 1 rfl Tryd.underlying23 info5 rfl (by decide) (by omega) v192 y191 x1_2 _ _ _ (fun k_ => some k_ ≠ (.slice Ao66 x1_2.length co66 : Value).ownBlock) (fun _ => False) rfl rfl ?aO ?aR (fun _ _ h => h) (fun _ h => h.elim) ?aF ?aB ?aS ?aL ?_; (case aR => repeat (first | exact (Kd.R_reads' HO_1.out).2.2 | (with_reducible refine Kd.C_alloc ?_ _) | (with_reducible refine Kd.C_drewN ?_ _) | (with_reducible refine Kd.C_drew ?_))); (case aB => exact (by repeat (first | (with_reducible first | exact HB.out | apply below_alloc | apply pw_below_drewN | apply below_drew1) | exact HB.out))); (case aF => exact (fun k_ hk => Kd.fresh' (Kd.R_lt (by (with_reducible repeat (first | apply Kd.R_alloc | apply Kd.R_drewN | apply Kd.R_drew)); exact HO_1.out)) k_ hk)); (case aO => exact (by (with_reducible repeat (first | apply Kd.R_alloc | apply Kd.R_drewN | apply Kd.R_drew)); exact Kd.R_mono HO193.out (fun _ hk => hk.2))); (case aS => exact (below_size (by repeat (first | (with_reducible first | exact HB.out | apply below_alloc | apply pw_below_drewN | apply below_drew1) | exact HB.out)))); (case aL => have := LMc41.out; omega); intro v195 w65 ho hb hg hat; rw [← Ny194.out] at ho; have n0_ := Aside0.mk (Kd.R_after (ok := (fun _ => True)) (by (with_reducible repeat (first | apply Kd.R_alloc | apply Kd.R_drewN | apply Kd.R_drew)); exact HO_1.out) hg hat); have n1_ := Aside0.mk (hb); have n2_ := Aside0.mk (ho); clear HO_1; clear HB; clear HO193; have HO_1 := n0_; have HB := n1_; have HO196 := n2_; clear n0_ n1_ n2_; clear ho hb hg hat; obtain ⟨Ao67, co67, eo67⟩ := Kd.R_slice HO196.out; subst eo67; have p197 : 0 ≤ (x5_2 : Int) := of_decide_eq_true (by first | (with_reducible assumption) | assumption); have q197 : x5_2 < (y194.length : Int) := of_decide_eq_true (by first | (with_reducible assumption) | assumption); obtain ⟨ad197, e197, hx197_0⟩ := Kd.at_int (Kd.R_reads' HO196.out).2.2 x5_2 p197 q197; cases e197; replace p197 := eq_true p197; replace q197 := eq_true q197; have p44 : 0 ≤ (x5_2 : Int) := of_decide_eq_true (by first | (with_reducible assumption) | assumption); have q44 : (x5_2 : Int) < ((y194.length : Int) : Int) := of_decide_eq_true (by first | (with_reducible assumption) | assumption); obtain ⟨go44, co44, eo44, gb44, gl44, cl44, HG44⟩ := Kd.R_form HO196.out (by omega); (first | cases eo44 | (injection eo44 with ea_ en_ ec_; (first | subst ea_ | (injection ea_ with ea_; subst ea_)); subst ec_; clear en_)); have GB44 := Aside0.mk gb44; have GG44 := Aside0.mk HG44; clear gb44 gl44 HG44; (first | simp only [add_plain] at hx197_0 | skip); obtain ⟨hx44_0, hf44_0⟩ := Kd.R_celln 0 HO196.out (x5_2 : Int) p44 q44; replace p44 := eq_true p44; replace q44 := eq_true q44; obtain ⟨hy68_, hz68_⟩ := Kd.R_celln 0 HO196.out (x5_2 : Int) (of_decide_eq_true (by first | (with_reducible assumption) | assumption)) (of_decide_eq_true (by first | (with_reducible assumption) | assumption)); have HP68 := Kd.R_putg HO196.out (x5_2 : Int) (Go.bits .xor .u8 (rd y194 x5_2) 1)) | ((with_reducible refine gate_store (t := 5) (p := 67) rfl ?_); refine store_event (t := 5) (p := 67) (v := ?vo_w69) (w1 := (w65.setCell ⟨go44, (x5_2 : Int).toNat, none⟩ (.int .u8 (Go.bits .xor .u8 (rd y194 x5_2) 1)))) ?hg ?ho ?hn ?hr ?_; (case ho => rfl); (case hg => rfl); (case hn => rfl); (case hr => first | (go_simp; done) | (go_simp; rfl)); intro w69 hw; have hg : w65.grownBy w69 (some go44) := (by rw [hw]; exact HP68.2); have hp_ : Kd.R (Kd.int .u8) 5 w69 w.heap.size (fun k_ => some k_ ≠ (.slice Ao66 x1_2.length co66 : Value).ownBlock) (.slice (some ⟨go44, 0, none⟩) y194.length co67) y198 := (by rw [hw, Ny198.out]; exact HP68.1); clear HP68; have n0_ := Aside0.mk (Kd.R_after (v := (.slice (some ⟨go44, 0, none⟩) y194.length co67)) (v1 := (.slice (some ⟨go44, 0, none⟩) y194.length co67)) (ok := (fun _ => True)) (by (with_reducible repeat (first | apply Kd.R_alloc | apply Kd.R_drewN | apply Kd.R_drew)); exact HO_1.out) hg (.inl rfl)); have n1_ := Aside0.mk (hp_); have n2_ := Aside0.mk ((by rw [hw]; exact below_set (HB.out) GB44.out : Below w.heap.size w w69)); clear HO_1; clear HO196; clear HB; have HO_1 := n0_; have HO196 := n1_; have HB := n2_; clear n0_ n1_ n2_; clear hg hw hp_) | ((with_reducible refine gate_callee (f := 14) rfl ?_); refine goesL_ (some 70) rfl rfl Tryd.func14 (by kernel_rfl) rfl #[.int .u32 16909060, .int .u32 84281096, .slice (some ⟨go44, 0, none⟩) y198.length co67] rfl (by (try simp only [List.map_toArray, List.map_cons, List.map_nil]); first | done | (rw [show y198.length = y194.length from (Kd.R_reads' HO196.out).1.symm] <;> rfl) | rfl | (simp only [List.length_drop, List.length_take]; rfl)) ?_; (first | (with_reducible refine (tag_Take.calls GA k2 16909060 84281096 _ _ y198 t199 false _ ?side1 ?side2 ?side3 A45.out).mono ?_) | ((try rw [hji50]); (try rw [← KY26.out]); (try rw [← KY28.out]); (try rw [← KY31.out]); (try rw [← KY33.out]); (try rw [← KY36.out]); (with_reducible refine (tag_Take.calls GA k2 16909060 84281096 _ _ y198 t199 false _ ?side1 ?side2 ?side3 A45.out).mono ?_))); (case side1 => repeat (first | exact (Kd.R_reads' HO196.out).2.2 | (with_reducible refine Kd.C_alloc ?_ _) | (with_reducible refine Kd.C_drewN ?_ _) | (with_reducible refine Kd.C_drew ?_))); (case side2 => rw [show y198.length = y194.length from (Kd.R_reads' HO196.out).1.symm]; exact (Kd.R_reads' HO196.out).2.1); (case side3 => exact Glob.below HG.out (by repeat (first | (with_reducible first | exact HB.out | apply below_alloc | apply pw_below_drewN | apply below_drew1) | exact HB.out))); rintro e w70 ⟨v201, rfl, ho0, hb⟩; refine ⟨_, rfl, ?_⟩; have n0_ := Aside0.mk (Kd.R_elder' (by (with_reducible repeat (first | apply Kd.R_alloc | apply Kd.R_drewN | apply Kd.R_drew)); exact HO_1.out) (Kd.R_base ho0) hb); have n1_ := Aside0.mk (Kd.R_elder' (by (with_reducible repeat (first | apply Kd.R_alloc | apply Kd.R_drewN | apply Kd.R_drew)); exact HO196.out) (Kd.R_base ho0) hb); have n2_ := Aside0.mk (Kd.R_lower (Kd.R_new' (Kd.R_new' ho0 (Kd.R_lt (by (with_reducible repeat (first | apply Kd.R_alloc | apply Kd.R_drewN | apply Kd.R_drew)); exact HO_1.out))) (Kd.R_lt (by (with_reducible repeat (first | apply Kd.R_alloc | apply Kd.R_drewN | apply Kd.R_drew)); exact HO196.out))) (below_size (by repeat (first | (with_reducible first | exact HB.out | apply below_alloc | apply pw_below_drewN | apply below_drew1) | exact HB.out)))); have n3_ := Aside0.mk (below_step (by repeat (first | (with_reducible first | exact HB.out | apply below_alloc | apply pw_below_drewN | apply below_drew1) | exact HB.out)) hb); clear HO_1; clear HO196; clear HB; have HO_1 := n0_; have HO196 := n1_; have HO202 := n2_; have HB := n3_; clear n0_ n1_ n2_ n3_; (try clear hb); (try clear hb2); (try clear hk); (try clear hi); (try clear ho0)))
                                go_roundg k2
                                case measure => have := HJ6.out; have := HK2.out; omega
                                case rel => exact ⟨(x1_2), (wrap64 (x5_2 + 1)), (by first | rfl | (simp; done) | (simp [*]; done)), H', ⟨by have := HJ6.out; have := HK2.out; omega⟩, ⟨by (with_reducible repeat (first | apply Kd.R_alloc | apply Kd.R_drewN | apply Kd.R_drew)); exact Kd.R_mono HO_1.out (fun _ hk => trivial)⟩, ⟨by repeat (first | (with_reducible first | exact HB.out | apply below_alloc | apply pw_below_drewN | apply below_drew1) | exact HB.out)⟩⟩
                          · rw [if_neg c46] at H
                            have c46b0 : decide (9 ≤ x5_2) = false := decide_eq_false c46
                            clear c46
                            by_cases c71 : (t200 != false) = true
                            · rw [if_pos c71] at H
                              exact absurd H (by simp)
                            · rw [if_neg c71] at H
                              have c71b0 : (t200 != false) = false := by simpa using c71
                              (try (have c71b1 : decide (t200 = false) = true := by simpa using c71))
                              (try (have c71b2 : (t200 == false) = true := by simpa using c71))
                              clear c71
                              by_cases c72 : t200 = true
                              · subst c72
                                have H1 : (if (t199.length : Int) = 110 then (if 0 ≤ (wrap64 (x5_2 - 9)) then (if (wrap64 (x5_2 - 9)) < (t199.length : Int) then (if (rd t199 (wrap64 (x5_2 - 9))) = 1 then (rabbetlaw20_TagForms.l0 k2 x1_2 (wrap64 (x5_2 + 1))) else (none)) else (none)) else (none)) else (none)) = some r := by rw [if_pos rfl] at H; exact H
                                clear H
                                have H := H1
                                clear H1
                                by_cases c73 : (t199.length : Int) = 110
                                · rw [if_pos c73] at H
                                  have c73b0 : ((t199.length : Int) == 110) = true := beq_iff_eq.mpr c73
                                  have c73b1 : ((t199.length : Int) != 110) = false := bne_eq_false_iff_eq.mpr c73
                                  clear c73
                                  obtain ⟨ji74, hji74⟩ : ∃ j_ : Int, (wrap64 (x5_2 - 9)) = j_ := ⟨_, rfl⟩
                                  replace H : (if 0 ≤ (ji74) then (if (ji74) < (t199.length : Int) then (if (rd t199 (ji74)) = 1 then (rabbetlaw20_TagForms.l0 k2 x1_2 (wrap64 (x5_2 + 1))) else (none)) else (none)) else (none)) = some r := by first | (rw [hji74] at H; exact H) | (simp only [hji74] at H ⊢; exact H) | exact H
                                  (try rw [hji74] at A45)
                                  have hji74w : (IntKind.i64.wrap (x5_2 - 9)) = ji74 := (i64_w _).trans hji74
                                  by_cases c75 : 0 ≤ (ji74)
                                  · rw [if_pos c75] at H
                                    have c75b0 : decide (0 ≤ (ji74)) = true := decide_eq_true c75
                                    clear c75
                                    by_cases c76 : (ji74) < (t199.length : Int)
                                    · rw [if_pos c76] at H
                                      have c76b0 : decide ((ji74) < (t199.length : Int)) = true := decide_eq_true c76
                                      clear c76
                                      by_cases c77 : (rd t199 (ji74)) = 1
                                      · rw [if_pos c77] at H
                                        have c77b0 : ((rd t199 (ji74)) == 1) = true := beq_iff_eq.mpr c77
                                        have c77b1 : ((rd t199 (ji74)) != 1) = false := bne_eq_false_iff_eq.mpr c77
                                        clear c77
                                        have H' := Aside0.mk H
                                        clear H
                                        go_wp2_with (first | ((with_reducible refine gate_dst (N := 59) rfl ?_); (try (refine gate_guard (by rfl) ?_; dsimp only)); refine Kd.R_lit (Kd.int .u8) _ 5 ?hg (N := 59) ?hd (xs := ([] : List Int)) (inner := []) (ok := fun _ => True) (okp := fun _ => True) ?hr ?hp (fun _ hk => hk) trivial (Below.refl _ _) (Nat.le_refl _) (by simp) ?_; (case hd => rfl); (case hg => rfl); (case hr => first | (go_simp; done) | (go_simp; rfl)); (case hp => exact (Reps.none _ _)); intro v192 w78 ho79 hb hg_ hnew_; clear hg_ hnew_; (first | rw [← Ny191.out] at ho79 | (simp only [Int.reduceToNat] at ho79; rw [← Ny191.out] at ho79)); have n0_ := Aside0.mk (Kd.R_elder' (by (with_reducible repeat (first | apply Kd.R_alloc | apply Kd.R_drewN | apply Kd.R_drew)); exact HO_1.out) (Kd.R_base ho79) hb); have n1_ := Aside0.mk (Kd.R_lower (Kd.R_new' ho79 (Kd.R_lt (by (with_reducible repeat (first | apply Kd.R_alloc | apply Kd.R_drewN | apply Kd.R_drew)); exact HO_1.out))) (below_size (by repeat (first | (with_reducible first | exact HB.out | apply below_alloc | apply pw_below_drewN | apply below_drew1) | exact HB.out)))); have n2_ := Aside0.mk (below_step (by repeat (first | (with_reducible first | exact HB.out | apply below_alloc | apply pw_below_drewN | apply below_drew1) | exact HB.out)) hb); clear HO_1; clear HB; have HO_1 := n0_; have HO193 := n1_; have HB := n2_; clear n0_ n1_ n2_; clear hb ho79; obtain ⟨Ao81, co81, eo81⟩ := Kd.R_slice HO_1.out; subst eo81) | ((with_reducible refine gate_builtin (b := .append) (xs := #[.tmp 59, .tmp 60]) rfl ?_); (try (refine gate_guard (by rfl) ?_; dsimp only)); at_builtin; refine Kd.R_append_rows (Kd.int .u8) (w0 := w) w.heap.size rfl (.tmp 59) (.tmp 60) 23 5 (.int .u8 0) 1 rfl Tryd.underlying23 info5 rfl (by decide) (by omega) v192 y191 x1_2 _ _ _ (fun k_ => some k_ ≠ (.slice Ao81 x1_2.length co81 : Value).ownBlock) (fun _ => False) rfl rfl ?aO ?aR (fun _ _ h => h) (fun _ h => h.elim) ?aF ?aB ?aS ?aL ?_; (case aR => repeat (first | exact (Kd.R_reads' HO_1.out).2.2 | (with_reducible refine Kd.C_alloc ?_ _) | (with_reducible refine Kd.C_drewN ?_ _) | (with_reducible refine Kd.C_drew ?_))); (case aB => exact (by repeat (first | (with_reducible first | exact HB.out | apply below_alloc | apply pw_below_drewN | apply below_drew1) | exact HB.out))); (case aF => exact (fun k_ hk => Kd.fresh' (Kd.R_lt (by (with_reducible repeat (first | apply Kd.R_alloc | apply Kd.R_drewN | apply Kd.R_drew)); exact HO_1.out)) k_ hk)); (case aO => exact (by (with_reducible repeat (first | apply Kd.R_alloc | apply Kd.R_drewN | apply Kd.R_drew)); exact Kd.R_mono HO193.out (fun _ hk => hk.2))); (case aS => exact (below_size (by repeat (first | (with_reducible first | exact HB.out | apply below_alloc | apply pw_below_drewN | apply below_drew1) | exact HB.out)))); (case aL => have := LMc41.out; omega); intro v195 w80 ho hb hg hat; rw [← Ny194.out] at ho; have n0_ := Aside0.mk (Kd.R_after (ok := (fun _ => True)) (by (with_reducible repeat (first | apply Kd.R_alloc | apply Kd.R_drewN | apply Kd.R_drew)); exact HO_1.out) hg hat); have n1_ := Aside0.mk (hb); have n2_ := Aside0.mk (ho); clear HO_1; clear HB; clear HO193; have HO_1 := n0_; have HB := n1_; have HO196 := n2_; clear n0_ n1_ n2_; clear ho hb hg hat; obtain ⟨Ao82, co82, eo82⟩ := Kd.R_slice HO196.out; subst eo82; have p197 : 0 ≤ (x5_2 : Int) := of_decide_eq_true (by first | (with_reducible assumption) | assumption); have q197 : x5_2 < (y194.length : Int) := of_decide_eq_true (by first | (with_reducible assumption) | assumption); obtain ⟨ad197, e197, hx197_0⟩ := Kd.at_int (Kd.R_reads' HO196.out).2.2 x5_2 p197 q197; cases e197; replace p197 := eq_true p197; replace q197 := eq_true q197; have p44 : 0 ≤ (x5_2 : Int) := of_decide_eq_true (by first | (with_reducible assumption) | assumption); have q44 : (x5_2 : Int) < ((y194.length : Int) : Int) := of_decide_eq_true (by first | (with_reducible assumption) | assumption); obtain ⟨go44, co44, eo44, gb44, gl44, cl44, HG44⟩ := Kd.R_form HO196.out (by omega); (first | cases eo44 | (injection eo44 with ea_ en_ ec_; (first | subst ea_ | (injection ea_ with ea_; subst ea_)); subst ec_; clear en_)); have GB44 := Aside0.mk gb44; have GG44 := Aside0.mk HG44; clear gb44 gl44 HG44; (first | simp only [add_plain] at hx197_0 | skip); obtain ⟨hx44_0, hf44_0⟩ := Kd.R_celln 0 HO196.out (x5_2 : Int) p44 q44; replace p44 := eq_true p44; replace q44 := eq_true q44; obtain ⟨hy83_, hz83_⟩ := Kd.R_celln 0 HO196.out (x5_2 : Int) (of_decide_eq_true (by first | (with_reducible assumption) | assumption)) (of_decide_eq_true (by first | (with_reducible assumption) | assumption)); have HP83 := Kd.R_putg HO196.out (x5_2 : Int) (Go.bits .xor .u8 (rd y194 x5_2) 1)) | ((with_reducible refine gate_store (t := 5) (p := 67) rfl ?_); refine store_event (t := 5) (p := 67) (v := ?vo_w84) (w1 := (w80.setCell ⟨go44, (x5_2 : Int).toNat, none⟩ (.int .u8 (Go.bits .xor .u8 (rd y194 x5_2) 1)))) ?hg ?ho ?hn ?hr ?_; (case ho => rfl); (case hg => rfl); (case hn => rfl); (case hr => first | (go_simp; done) | (go_simp; rfl)); intro w84 hw; have hg : w80.grownBy w84 (some go44) := (by rw [hw]; exact HP83.2); have hp_ : Kd.R (Kd.int .u8) 5 w84 w.heap.size (fun k_ => some k_ ≠ (.slice Ao81 x1_2.length co81 : Value).ownBlock) (.slice (some ⟨go44, 0, none⟩) y194.length co82) y198 := (by rw [hw, Ny198.out]; exact HP83.1); clear HP83; have n0_ := Aside0.mk (Kd.R_after (v := (.slice (some ⟨go44, 0, none⟩) y194.length co82)) (v1 := (.slice (some ⟨go44, 0, none⟩) y194.length co82)) (ok := (fun _ => True)) (by (with_reducible repeat (first | apply Kd.R_alloc | apply Kd.R_drewN | apply Kd.R_drew)); exact HO_1.out) hg (.inl rfl)); have n1_ := Aside0.mk (hp_); have n2_ := Aside0.mk ((by rw [hw]; exact below_set (HB.out) GB44.out : Below w.heap.size w w84)); clear HO_1; clear HO196; clear HB; have HO_1 := n0_; have HO196 := n1_; have HB := n2_; clear n0_ n1_ n2_; clear hg hw hp_) | ((with_reducible refine gate_callee (f := 14) rfl ?_); refine goesL_ (some 70) rfl rfl Tryd.func14 (by kernel_rfl) rfl #[.int .u32 16909060, .int .u32 84281096, .slice (some ⟨go44, 0, none⟩) y198.length co82] rfl (by (try simp only [List.map_toArray, List.map_cons, List.map_nil]); first | done | (rw [show y198.length = y194.length from (Kd.R_reads' HO196.out).1.symm] <;> rfl) | rfl | (simp only [List.length_drop, List.length_take]; rfl)) ?_; (first | (with_reducible refine (tag_Take.calls GA k2 16909060 84281096 _ _ y198 t199 true _ ?side1 ?side2 ?side3 A45.out).mono ?_) | ((try rw [hji50]); (try rw [hji74]); (try rw [← KY26.out]); (try rw [← KY28.out]); (try rw [← KY31.out]); (try rw [← KY33.out]); (try rw [← KY36.out]); (with_reducible refine (tag_Take.calls GA k2 16909060 84281096 _ _ y198 t199 true _ ?side1 ?side2 ?side3 A45.out).mono ?_))); (case side1 => repeat (first | exact (Kd.R_reads' HO196.out).2.2 | (with_reducible refine Kd.C_alloc ?_ _) | (with_reducible refine Kd.C_drewN ?_ _) | (with_reducible refine Kd.C_drew ?_))); (case side2 => rw [show y198.length = y194.length from (Kd.R_reads' HO196.out).1.symm]; exact (Kd.R_reads' HO196.out).2.1); (case side3 => exact Glob.below HG.out (by repeat (first | (with_reducible first | exact HB.out | apply below_alloc | apply pw_below_drewN | apply below_drew1) | exact HB.out))); rintro e w85 ⟨v201, rfl, ho0, hb⟩; refine ⟨_, rfl, ?_⟩; have n0_ := Aside0.mk (Kd.R_elder' (by (with_reducible repeat (first | apply Kd.R_alloc | apply Kd.R_drewN | apply Kd.R_drew)); exact HO_1.out) (Kd.R_base ho0) hb); have n1_ := Aside0.mk (Kd.R_elder' (by (with_reducible repeat (first | apply Kd.R_alloc | apply Kd.R_drewN | apply Kd.R_drew)); exact HO196.out) (Kd.R_base ho0) hb); have n2_ := Aside0.mk (Kd.R_lower (Kd.R_new' (Kd.R_new' ho0 (Kd.R_lt (by (with_reducible repeat (first | apply Kd.R_alloc | apply Kd.R_drewN | apply Kd.R_drew)); exact HO_1.out))) (Kd.R_lt (by (with_reducible repeat (first | apply Kd.R_alloc | apply Kd.R_drewN | apply Kd.R_drew)); exact HO196.out))) (below_size (by repeat (first | (with_reducible first | exact HB.out | apply below_alloc | apply pw_below_drewN | apply below_drew1) | exact HB.out)))); have n3_ := Aside0.mk (below_step (by repeat (first | (with_reducible first | exact HB.out | apply below_alloc | apply pw_below_drewN | apply below_drew1) | exact HB.out)) hb); clear HO_1; clear HO196; clear HB; have HO_1 := n0_; have HO196 := n1_; have HO202 := n2_; have HB := n3_; clear n0_ n1_ n2_ n3_; (try clear hb); (try clear hb2); (try clear hk); (try clear hi); (try clear ho0); obtain ⟨Ao86, co86, eo86⟩ := Kd.R_slice HO202.out; subst eo86; have p204 : 0 ≤ ((ji74) : Int) := of_decide_eq_true (by first | (with_reducible assumption) | assumption); have q204 : (ji74) < (t199.length : Int) := of_decide_eq_true (by first | (with_reducible assumption) | assumption); obtain ⟨ad204, e204, hx204_0⟩ := Kd.at_int (Kd.R_reads' HO202.out).2.2 (ji74) p204 q204; cases e204; replace p204 := eq_true p204; replace q204 := eq_true q204))
                                        go_roundg k2
                                        case measure => have := HJ6.out; have := HK2.out; omega
                                        case rel => exact ⟨(x1_2), (wrap64 (x5_2 + 1)), (by first | rfl | (simp; done) | (simp [*]; done)), H', ⟨by have := HJ6.out; have := HK2.out; omega⟩, ⟨by (with_reducible repeat (first | apply Kd.R_alloc | apply Kd.R_drewN | apply Kd.R_drew)); exact Kd.R_mono HO_1.out (fun _ hk => trivial)⟩, ⟨by repeat (first | (with_reducible first | exact HB.out | apply below_alloc | apply pw_below_drewN | apply below_drew1) | exact HB.out)⟩⟩
                                      · rw [if_neg c77] at H
                                        exact absurd H (by simp)
                                    · rw [if_neg c76] at H
                                      exact absurd H (by simp)
                                  · rw [if_neg c75] at H
                                    exact absurd H (by simp)
                                · rw [if_neg c73] at H
                                  exact absurd H (by simp)
                              · replace c72 := Bool.eq_false_iff.mpr c72
                                subst c72
                                have H1 : (rabbetlaw20_TagForms.l0 k2 x1_2 (wrap64 (x5_2 + 1))) = some r := by rw [if_neg (show ¬ (false = true) by decide)] at H; exact H
                                clear H
                                have H := H1
                                clear H1
                                have H' := Aside0.mk H
                                clear H
                                go_wp2_with (first | ((with_reducible refine gate_dst (N := 59) rfl ?_); (try (refine gate_guard (by rfl) ?_; dsimp only)); refine Kd.R_lit (Kd.int .u8) _ 5 ?hg (N := 59) ?hd (xs := ([] : List Int)) (inner := []) (ok := fun _ => True) (okp := fun _ => True) ?hr ?hp (fun _ hk => hk) trivial (Below.refl _ _) (Nat.le_refl _) (by simp) ?_; (case hd => rfl); (case hg => rfl); (case hr => first | (go_simp; done) | (go_simp; rfl)); (case hp => exact (Reps.none _ _)); intro v192 w87 ho88 hb hg_ hnew_; clear hg_ hnew_; (first | rw [← Ny191.out] at ho88 | (simp only [Int.reduceToNat] at ho88; rw [← Ny191.out] at ho88)); have n0_ := Aside0.mk (Kd.R_elder' (by (with_reducible repeat (first | apply Kd.R_alloc | apply Kd.R_drewN | apply Kd.R_drew)); exact HO_1.out) (Kd.R_base ho88) hb); have n1_ := Aside0.mk (Kd.R_lower (Kd.R_new' ho88 (Kd.R_lt (by (with_reducible repeat (first | apply Kd.R_alloc | apply Kd.R_drewN | apply Kd.R_drew)); exact HO_1.out))) (below_size (by repeat (first | (with_reducible first | exact HB.out | apply below_alloc | apply pw_below_drewN | apply below_drew1) | exact HB.out)))); have n2_ := Aside0.mk (below_step (by repeat (first | (with_reducible first | exact HB.out | apply below_alloc | apply pw_below_drewN | apply below_drew1) | exact HB.out)) hb); clear HO_1; clear HB; have HO_1 := n0_; have HO193 := n1_; have HB := n2_; clear n0_ n1_ n2_; clear hb ho88; obtain ⟨Ao90, co90, eo90⟩ := Kd.R_slice HO_1.out; subst eo90) | ((with_reducible refine gate_builtin (b := .append) (xs := #[.tmp 59, .tmp 60]) rfl ?_); (try (refine gate_guard (by rfl) ?_; dsimp only)); at_builtin; refine Kd.R_append_rows (Kd.int .u8) (w0 := w) w.heap.size rfl (.tmp 59) (.tmp 60) 23 5 (.int .u8 0) 1 rfl Tryd.underlying23 info5 rfl (by decide) (by omega) v192 y191 x1_2 _ _ _ (fun k_ => some k_ ≠ (.slice Ao90 x1_2.length co90 : Value).ownBlock) (fun _ => False) rfl rfl ?aO ?aR (fun _ _ h => h) (fun _ h => h.elim) ?aF ?aB ?aS ?aL ?_; (case aR => repeat (first | exact (Kd.R_reads' HO_1.out).2.2 | (with_reducible refine Kd.C_alloc ?_ _) | (with_reducible refine Kd.C_drewN ?_ _) | (with_reducible refine Kd.C_drew ?_))); (case aB => exact (by repeat (first | (with_reducible first | exact HB.out | apply below_alloc | apply pw_below_drewN | apply below_drew1) | exact HB.out))); (case aF => exact (fun k_ hk => Kd.fresh' (Kd.R_lt (by (with_reducible repeat (first | apply Kd.R_alloc | apply Kd.R_drewN | apply Kd.R_drew)); exact HO_1.out)) k_ hk)); (case aO => exact (by (with_reducible repeat (first | apply Kd.R_alloc | apply Kd.R_drewN | apply Kd.R_drew)); exact Kd.R_mono HO193.out (fun _ hk => hk.2))); (case aS => exact (below_size (by repeat (first | (with_reducible first | exact HB.out | apply below_alloc | apply pw_below_drewN | apply below_drew1) | exact HB.out)))); (case aL => have := LMc41.out; omega); intro v195 w89 ho hb hg hat; rw [← Ny194.out] at ho; have n0_ := Aside0.mk (Kd.R_after (ok := (fun _ => True)) (by (with_reducible repeat (first | apply Kd.R_alloc | apply Kd.R_drewN | apply Kd.R_drew)); exact HO_1.out) hg hat); have n1_ := Aside0.mk (hb); have n2_ := Aside0.mk (ho); clear HO_1; clear HB; clear HO193; have HO_1 := n0_; have HB := n1_; have HO196 := n2_; clear n0_ n1_ n2_; clear ho hb hg hat; obtain ⟨Ao91, co91, eo91⟩ := Kd.R_slice HO196.out; subst eo91; have p197 : 0 ≤ (x5_2 : Int) := of_decide_eq_true (by first | (with_reducible assumption) | assumption); have q197 : x5_2 < (y194.length : Int) := of_decide_eq_true (by first | (with_reducible assumption) | assumption); obtain ⟨ad197, e197, hx197_0⟩ := Kd.at_int (Kd.R_reads' HO196.out).2.2 x5_2 p197 q197; cases e197; replace p197 := eq_true p197; replace q197 := eq_true q197; have p44 : 0 ≤ (x5_2 : Int) := of_decide_eq_true (by first | (with_reducible assumption) | assumption); have q44 : (x5_2 : Int) < ((y194.length : Int) : Int) := of_decide_eq_true (by first | (with_reducible assumption) | assumption); obtain ⟨go44, co44, eo44, gb44, gl44, cl44, HG44⟩ := Kd.R_form HO196.out (by omega); (first | cases eo44 | (injection eo44 with ea_ en_ ec_; (first | subst ea_ | (injection ea_ with ea_; subst ea_)); subst ec_; clear en_)); have GB44 := Aside0.mk gb44; have GG44 := Aside0.mk HG44; clear gb44 gl44 HG44; (first | simp only [add_plain] at hx197_0 | skip); obtain ⟨hx44_0, hf44_0⟩ := Kd.R_celln 0 HO196.out (x5_2 : Int) p44 q44; replace p44 := eq_true p44; replace q44 := eq_true q44; obtain ⟨hy92_, hz92_⟩ := Kd.R_celln 0 HO196.out (x5_2 : Int) (of_decide_eq_true (by first | (with_reducible assumption) | assumption)) (of_decide_eq_true (by first | (with_reducible assumption) | assumption)); have HP92 := Kd.R_putg HO196.out (x5_2 : Int) (Go.bits .xor .u8 (rd y194 x5_2) 1)) | ((with_reducible refine gate_store (t := 5) (p := 67) rfl ?_); refine store_event (t := 5) (p := 67) (v := ?vo_w93) (w1 := (w89.setCell ⟨go44, (x5_2 : Int).toNat, none⟩ (.int .u8 (Go.bits .xor .u8 (rd y194 x5_2) 1)))) ?hg ?ho ?hn ?hr ?_; (case ho => rfl); (case hg => rfl); (case hn => rfl); (case hr => first | (go_simp; done) | (go_simp; rfl)); intro w93 hw; have hg : w89.grownBy w93 (some go44) := (by rw [hw]; exact HP92.2); have hp_ : Kd.R (Kd.int .u8) 5 w93 w.heap.size (fun k_ => some k_ ≠ (.slice Ao90 x1_2.length co90 : Value).ownBlock) (.slice (some ⟨go44, 0, none⟩) y194.length co91) y198 := (by rw [hw, Ny198.out]; exact HP92.1); clear HP92; have n0_ := Aside0.mk (Kd.R_after (v := (.slice (some ⟨go44, 0, none⟩) y194.length co91)) (v1 := (.slice (some ⟨go44, 0, none⟩) y194.length co91)) (ok := (fun _ => True)) (by (with_reducible repeat (first | apply Kd.R_alloc | apply Kd.R_drewN | apply Kd.R_drew)); exact HO_1.out) hg (.inl rfl)); have n1_ := Aside0.mk (hp_); have n2_ := Aside0.mk ((by rw [hw]; exact below_set (HB.out) GB44.out : Below w.heap.size w w93)); clear HO_1; clear HO196; clear HB; have HO_1 := n0_; have HO196 := n1_; have HB := n2_; clear n0_ n1_ n2_; clear hg hw hp_) | ((with_reducible refine gate_callee (f := 14) rfl ?_); refine goesL_ (some 70) rfl rfl Tryd.func14 (by kernel_rfl) rfl #[.int .u32 16909060, .int .u32 84281096, .slice (some ⟨go44, 0, none⟩) y198.length co91] rfl (by (try simp only [List.map_toArray, List.map_cons, List.map_nil]); first | done | (rw [show y198.length = y194.length from (Kd.R_reads' HO196.out).1.symm] <;> rfl) | rfl | (simp only [List.length_drop, List.length_take]; rfl)) ?_; (first | (with_reducible refine (tag_Take.calls GA k2 16909060 84281096 _ _ y198 t199 false _ ?side1 ?side2 ?side3 A45.out).mono ?_) | ((try rw [hji50]); (try rw [hji74]); (try rw [← KY26.out]); (try rw [← KY28.out]); (try rw [← KY31.out]); (try rw [← KY33.out]); (try rw [← KY36.out]); (with_reducible refine (tag_Take.calls GA k2 16909060 84281096 _ _ y198 t199 false _ ?side1 ?side2 ?side3 A45.out).mono ?_))); (case side1 => repeat (first | exact (Kd.R_reads' HO196.out).2.2 | (with_reducible refine Kd.C_alloc ?_ _) | (with_reducible refine Kd.C_drewN ?_ _) | (with_reducible refine Kd.C_drew ?_))); (case side2 => rw [show y198.length = y194.length from (Kd.R_reads' HO196.out).1.symm]; exact (Kd.R_reads' HO196.out).2.1); (case side3 => exact Glob.below HG.out (by repeat (first | (with_reducible first | exact HB.out | apply below_alloc | apply pw_below_drewN | apply below_drew1) | exact HB.out))); rintro e w94 ⟨v201, rfl, ho0, hb⟩; refine ⟨_, rfl, ?_⟩; have n0_ := Aside0.mk (Kd.R_elder' (by (with_reducible repeat (first | apply Kd.R_alloc | apply Kd.R_drewN | apply Kd.R_drew)); exact HO_1.out) (Kd.R_base ho0) hb); have n1_ := Aside0.mk (Kd.R_elder' (by (with_reducible repeat (first | apply Kd.R_alloc | apply Kd.R_drewN | apply Kd.R_drew)); exact HO196.out) (Kd.R_base ho0) hb); have n2_ := Aside0.mk (Kd.R_lower (Kd.R_new' (Kd.R_new' ho0 (Kd.R_lt (by (with_reducible repeat (first | apply Kd.R_alloc | apply Kd.R_drewN | apply Kd.R_drew)); exact HO_1.out))) (Kd.R_lt (by (with_reducible repeat (first | apply Kd.R_alloc | apply Kd.R_drewN | apply Kd.R_drew)); exact HO196.out))) (below_size (by repeat (first | (with_reducible first | exact HB.out | apply below_alloc | apply pw_below_drewN | apply below_drew1) | exact HB.out)))); have n3_ := Aside0.mk (below_step (by repeat (first | (with_reducible first | exact HB.out | apply below_alloc | apply pw_below_drewN | apply below_drew1) | exact HB.out)) hb); clear HO_1; clear HO196; clear HB; have HO_1 := n0_; have HO196 := n1_; have HO202 := n2_; have HB := n3_; clear n0_ n1_ n2_ n3_; (try clear hb); (try clear hb2); (try clear hk); (try clear hi); (try clear ho0)))
                                go_roundg k2
                                case measure => have := HJ6.out; have := HK2.out; omega
                                case rel => exact ⟨(x1_2), (wrap64 (x5_2 + 1)), (by first | rfl | (simp; done) | (simp [*]; done)), H', ⟨by have := HJ6.out; have := HK2.out; omega⟩, ⟨by (with_reducible repeat (first | apply Kd.R_alloc | apply Kd.R_drewN | apply Kd.R_drew)); exact Kd.R_mono HO_1.out (fun _ hk => trivial)⟩, ⟨by repeat (first | (with_reducible first | exact HB.out | apply below_alloc | apply pw_below_drewN | apply below_drew1) | exact HB.out)⟩⟩
                        · rw [if_neg c43] at H
                          exact absurd H (by simp)
                      · rw [if_neg c42] at H
                        exact absurd H (by simp)
                    · rw [if_neg c41] at H
                      exact absurd H (by simp)
                  · rw [if_neg c40] at H
                    have c40b0 : decide (x5_2 < 128) = false := decide_eq_false c40
                    clear c40
                    by_cases c95 : 128 ≤ 281474976710656
                    · rw [if_pos c95] at H
                      have c95b0 := eq_true c95
                      have c95b1 : decide (128 ≤ 281474976710656) = true := decide_eq_true c95
                      clear c95
                      obtain ⟨y205, hy205⟩ : ∃ y_ : List Int, y_ = (List.replicate 128 0) := ⟨_, rfl⟩
                      replace H : ((tag_Take.f k2 0 0 y205).bind fun bt208 => (if 127 ≤ 281474976710656 then ((tag_Take.f k2 0 0 (List.replicate 127 0)).bind fun bt215 => ((tag_Take.f k2 1 0 (List.replicate 128 0)).bind fun bt222 => (if bt208.2 = true then (if bt215.2 = true then (none) else (some (!bt222.2))) else (none)))) else (none))) = some r := by first | (rw [hy205]; with_reducible exact H) | (have H2_ := (Option.bind_some _ _).symm.trans H; rw [hy205]; with_reducible exact H2_) | (have H2_ := (Option.bind_some _ _).symm.trans H; with_reducible exact H2_) | with_reducible exact H | (rw [hy205]; exact H) | exact H
                      have Ny205 := Aside0.mk hy205
                      clear hy205
                      replace H := Option.bind_eq_some_iff.mp H
                      obtain ⟨⟨t208, t209⟩, A960, H⟩ := H
                      replace H : (if 127 ≤ 281474976710656 then ((tag_Take.f k2 0 0 (List.replicate 127 0)).bind fun bt215 => ((tag_Take.f k2 1 0 (List.replicate 128 0)).bind fun bt222 => (if t209 = true then (if bt215.2 = true then (none) else (some (!bt222.2))) else (none)))) else (none)) = some r := H
                      have A96 := Aside0.mk A960
                      clear A960
                      by_cases c97 : 127 ≤ 281474976710656
                      · rw [if_pos c97] at H
                        have c97b0 := eq_true c97
                        have c97b1 : decide (127 ≤ 281474976710656) = true := decide_eq_true c97
                        clear c97
                        obtain ⟨y212, hy212⟩ : ∃ y_ : List Int, y_ = (List.replicate 127 0) := ⟨_, rfl⟩
                        replace H : ((tag_Take.f k2 0 0 y212).bind fun bt215 => ((tag_Take.f k2 1 0 (List.replicate 128 0)).bind fun bt222 => (if t209 = true then (if bt215.2 = true then (none) else (some (!bt222.2))) else (none)))) = some r := by first | (rw [hy212]; with_reducible exact H) | (have H2_ := (Option.bind_some _ _).symm.trans H; rw [hy212]; with_reducible exact H2_) | (have H2_ := (Option.bind_some _ _).symm.trans H; with_reducible exact H2_) | with_reducible exact H | (rw [hy212]; exact H) | exact H
                        have Ny212 := Aside0.mk hy212
                        clear hy212
                        replace H := Option.bind_eq_some_iff.mp H
                        obtain ⟨⟨t215, t216⟩, A980, H⟩ := H
                        replace H : ((tag_Take.f k2 1 0 (List.replicate 128 0)).bind fun bt222 => (if t209 = true then (if t216 = true then (none) else (some (!bt222.2))) else (none))) = some r := H
                        have A98 := Aside0.mk A980
                        clear A980
                        obtain ⟨y219, hy219⟩ : ∃ y_ : List Int, y_ = (List.replicate 128 0) := ⟨_, rfl⟩
                        replace H : ((tag_Take.f k2 1 0 y219).bind fun bt222 => (if t209 = true then (if t216 = true then (none) else (some (!bt222.2))) else (none))) = some r := by first | (rw [hy219]; with_reducible exact H) | (have H2_ := (Option.bind_some _ _).symm.trans H; rw [hy219]; with_reducible exact H2_) | (have H2_ := (Option.bind_some _ _).symm.trans H; with_reducible exact H2_) | with_reducible exact H | (rw [hy219]; exact H) | exact H
                        have Ny219 := Aside0.mk hy219
                        clear hy219
                        replace H := Option.bind_eq_some_iff.mp H
                        obtain ⟨⟨t222, t223⟩, A990, H⟩ := H
                        replace H : (if t209 = true then (if t216 = true then (none) else (some (!t223))) else (none)) = some r := H
                        have A99 := Aside0.mk A990
                        clear A990
                        by_cases c100 : t209 = true
                        · subst c100
                          have H1 : (if t216 = true then (none) else (some (!t223))) = some r := by rw [if_pos rfl] at H; exact H
                          clear H
                          have H := H1
                          clear H1
                          by_cases c101 : t216 = true
                          · subst c101
                            have H1 : (none) = some r := by rw [if_pos rfl] at H; exact H
                            clear H
                            have H := H1
                            clear H1
                            exact absurd H (by simp)
                          · replace c101 := Bool.eq_false_iff.mpr c101
                            subst c101
                            have H1 : (some (!t223)) = some r := by rw [if_neg (show ¬ (false = true) by decide)] at H; exact H
                            clear H
                            have H := H1
                            clear H1
                            obtain rfl := Option.some.inj H
                            go_wp2_with (first | ((with_reducible refine gate_dst (N := 98) rfl ?_); (try (refine gate_guard (by rfl) ?_; dsimp only)); refine Kd.R_make (Kd.int .u8) _ 5 rfl (N := 98) rfl 23 _ _ rfl 128 rfl rfl Tryd.underlying23 (.int .u8 0) 1 info5 rfl (by decide) (by omega) 0 (ok := fun _ => True) (okp := fun _ => True) rfl (fun _ hk => hk) trivial (by omega) (by omega) (Below.refl _ _) (Nat.le_refl _) ?_; intro v206 w102 ho103 hb hg_ hnew_; clear hg_ hnew_; (first | rw [← Ny205.out] at ho103 | (simp only [Int.reduceToNat] at ho103; rw [← Ny205.out] at ho103)); have n0_ := Aside0.mk (Kd.R_elder' (by (with_reducible repeat (first | apply Kd.R_alloc | apply Kd.R_drewN | apply Kd.R_drew)); exact HO_1.out) (Kd.R_base ho103) hb); have n1_ := Aside0.mk (Kd.R_lower (Kd.R_new' ho103 (Kd.R_lt (by (with_reducible repeat (first | apply Kd.R_alloc | apply Kd.R_drewN | apply Kd.R_drew)); exact HO_1.out))) (below_size (by repeat (first | (with_reducible first | exact HB.out | apply below_alloc | apply pw_below_drewN | apply below_drew1) | exact HB.out)))); have n2_ := Aside0.mk (below_step (by repeat (first | (with_reducible first | exact HB.out | apply below_alloc | apply pw_below_drewN | apply below_drew1) | exact HB.out)) hb); clear HO_1; clear HB; have HO_1 := n0_; have HO207 := n1_; have HB := n2_; clear n0_ n1_ n2_; clear hb ho103; obtain ⟨Ao104, co104, eo104⟩ := Kd.R_slice HO207.out; subst eo104) | ((with_reducible refine gate_callee (f := 14) rfl ?_); refine goesL_ (some 99) rfl rfl Tryd.func14 (by kernel_rfl) rfl #[.int .u32 0, .int .u32 0, .slice Ao104 y205.length co104] rfl (by (try simp only [List.map_toArray, List.map_cons, List.map_nil]); first | done | rfl | (simp only [List.length_drop, List.length_take]; rfl)) ?_; (first | (with_reducible refine (tag_Take.calls GA k2 0 0 _ _ y205 t208 true _ ?side1 ?side2 ?side3 A96.out).mono ?_) | ((try rw [hji50]); (try rw [hji74]); (try rw [← KY26.out]); (try rw [← KY28.out]); (try rw [← KY31.out]); (try rw [← KY33.out]); (try rw [← KY36.out]); (with_reducible refine (tag_Take.calls GA k2 0 0 _ _ y205 t208 true _ ?side1 ?side2 ?side3 A96.out).mono ?_))); (case side1 => repeat (first | exact (Kd.R_reads' HO207.out).2.2 | (with_reducible refine Kd.C_alloc ?_ _) | (with_reducible refine Kd.C_drewN ?_ _) | (with_reducible refine Kd.C_drew ?_))); (case side2 => exact (Kd.R_reads' HO207.out).2.1); (case side3 => exact Glob.below HG.out (by repeat (first | (with_reducible first | exact HB.out | apply below_alloc | apply pw_below_drewN | apply below_drew1) | exact HB.out))); rintro e w105 ⟨v210, rfl, ho0, hb⟩; refine ⟨_, rfl, ?_⟩; have n0_ := Aside0.mk (Kd.R_elder' (by (with_reducible repeat (first | apply Kd.R_alloc | apply Kd.R_drewN | apply Kd.R_drew)); exact HO_1.out) (Kd.R_base ho0) hb); have n1_ := Aside0.mk (Kd.R_elder' (by (with_reducible repeat (first | apply Kd.R_alloc | apply Kd.R_drewN | apply Kd.R_drew)); exact HO207.out) (Kd.R_base ho0) hb); have n2_ := Aside0.mk (Kd.R_lower (Kd.R_new' (Kd.R_new' ho0 (Kd.R_lt (by (with_reducible repeat (first | apply Kd.R_alloc | apply Kd.R_drewN | apply Kd.R_drew)); exact HO_1.out))) (Kd.R_lt (by (with_reducible repeat (first | apply Kd.R_alloc | apply Kd.R_drewN | apply Kd.R_drew)); exact HO207.out))) (below_size (by repeat (first | (with_reducible first | exact HB.out | apply below_alloc | apply pw_below_drewN | apply below_drew1) | exact HB.out)))); have n3_ := Aside0.mk (below_step (by repeat (first | (with_reducible first | exact HB.out | apply below_alloc | apply pw_below_drewN | apply below_drew1) | exact HB.out)) hb); clear HO_1; clear HO207; clear HB; have HO_1 := n0_; have HO207 := n1_; have HO211 := n2_; have HB := n3_; clear n0_ n1_ n2_ n3_; (try clear hb); (try clear hb2); (try clear hk); (try clear hi); (try clear ho0)) | ((with_reducible refine gate_dst (N := 103) rfl ?_); (try (refine gate_guard (by rfl) ?_; dsimp only)); refine Kd.R_make (Kd.int .u8) _ 5 rfl (N := 103) rfl 23 _ _ rfl 127 rfl rfl Tryd.underlying23 (.int .u8 0) 1 info5 rfl (by decide) (by omega) 0 (ok := fun _ => True) (okp := fun _ => True) rfl (fun _ hk => hk) trivial (by omega) (by omega) (Below.refl _ _) (Nat.le_refl _) ?_; intro v213 w106 ho107 hb hg_ hnew_; clear hg_ hnew_; (first | rw [← Ny212.out] at ho107 | (simp only [Int.reduceToNat] at ho107; rw [← Ny212.out] at ho107)); have n0_ := Aside0.mk (Kd.R_elder' (by (with_reducible repeat (first | apply Kd.R_alloc | apply Kd.R_drewN | apply Kd.R_drew)); exact HO_1.out) (Kd.R_base ho107) hb); have n1_ := Aside0.mk (Kd.R_elder' (by (with_reducible repeat (first | apply Kd.R_alloc | apply Kd.R_drewN | apply Kd.R_drew)); exact HO207.out) (Kd.R_base ho107) hb); have n2_ := Aside0.mk (Kd.R_elder' (by (with_reducible repeat (first | apply Kd.R_alloc | apply Kd.R_drewN | apply Kd.R_drew)); exact HO211.out) (Kd.R_base ho107) hb); have n3_ := Aside0.mk (Kd.R_lower (Kd.R_new' (Kd.R_new' (Kd.R_new' ho107 (Kd.R_lt (by (with_reducible repeat (first | apply Kd.R_alloc | apply Kd.R_drewN | apply Kd.R_drew)); exact HO_1.out))) (Kd.R_lt (by (with_reducible repeat (first | apply Kd.R_alloc | apply Kd.R_drewN | apply Kd.R_drew)); exact HO207.out))) (Kd.R_lt (by (with_reducible repeat (first | apply Kd.R_alloc | apply Kd.R_drewN | apply Kd.R_drew)); exact HO211.out))) (below_size (by repeat (first | (with_reducible first | exact HB.out | apply below_alloc | apply pw_below_drewN | apply below_drew1) | exact HB.out)))); have n4_ := Aside0.mk (below_step (by repeat (first | (with_reducible first | exact HB.out | apply below_alloc | apply pw_below_drewN | apply below_drew1) | exact HB.out)) hb); clear HO_1; clear HO207; clear HO211; clear HB; have HO_1 := n0_; have HO207 := n1_; have HO211 := n2_; have HO214 := n3_; have HB := n4_; clear n0_ n1_ n2_ n3_ n4_; clear hb ho107; obtain ⟨Ao108, co108, eo108⟩ := Kd.R_slice HO214.out; subst eo108) | ((with_reducible refine gate_callee (f := 14) rfl ?_); refine goesL_ (some 104) rfl rfl Tryd.func14 (by kernel_rfl) rfl #[.int .u32 0, .int .u32 0, .slice Ao108 y212.length co108] rfl (by (try simp only [List.map_toArray, List.map_cons, List.map_nil]); first | done | rfl | (simp only [List.length_drop, List.length_take]; rfl)) ?_; (first | (with_reducible refine (tag_Take.calls GA k2 0 0 _ _ y212 t215 false _ ?side1 ?side2 ?side3 A98.out).mono ?_) | ((try rw [hji50]); (try rw [hji74]); (try rw [← KY26.out]); (try rw [← KY28.out]); (try rw [← KY31.out]); (try rw [← KY33.out]); (try rw [← KY36.out]); (with_reducible refine (tag_Take.calls GA k2 0 0 _ _ y212 t215 false _ ?side1 ?side2 ?side3 A98.out).mono ?_))); (case side1 => repeat (first | exact (Kd.R_reads' HO214.out).2.2 | (with_reducible refine Kd.C_alloc ?_ _) | (with_reducible refine Kd.C_drewN ?_ _) | (with_reducible refine Kd.C_drew ?_))); (case side2 => exact (Kd.R_reads' HO214.out).2.1); (case side3 => exact Glob.below HG.out (by repeat (first | (with_reducible first | exact HB.out | apply below_alloc | apply pw_below_drewN | apply below_drew1) | exact HB.out))); rintro e w109 ⟨v217, rfl, ho0, hb⟩; refine ⟨_, rfl, ?_⟩; have n0_ := Aside0.mk (Kd.R_elder' (by (with_reducible repeat (first | apply Kd.R_alloc | apply Kd.R_drewN | apply Kd.R_drew)); exact HO_1.out) (Kd.R_base ho0) hb); have n1_ := Aside0.mk (Kd.R_elder' (by (with_reducible repeat (first | apply Kd.R_alloc | apply Kd.R_drewN | apply Kd.R_drew)); exact HO207.out) (Kd.R_base ho0) hb); have n2_ := Aside0.mk (Kd.R_elder' (by (with_reducible repeat (first | apply Kd.R_alloc | apply Kd.R_drewN | apply Kd.R_drew)); exact HO211.out) (Kd.R_base ho0) hb); have n3_ := Aside0.mk (Kd.R_elder' (by (with_reducible repeat (first | apply Kd.R_alloc | apply Kd.R_drewN | apply Kd.R_drew)); exact HO214.out) (Kd.R_base ho0) hb); have n4_ := Aside0.mk (Kd.R_lower (Kd.R_new' (Kd.R_new' (Kd.R_new' (Kd.R_new' ho0 (Kd.R_lt (by (with_reducible repeat (first | apply Kd.R_alloc | apply Kd.R_drewN | apply Kd.R_drew)); exact HO_1.out))) (Kd.R_lt (by (with_reducible repeat (first | apply Kd.R_alloc | apply Kd.R_drewN | apply Kd.R_drew)); exact HO207.out))) (Kd.R_lt (by (with_reducible repeat (first | apply Kd.R_alloc | apply Kd.R_drewN | apply Kd.R_drew)); exact HO211.out))) (Kd.R_lt (by (with_reducible repeat (first | apply Kd.R_alloc | apply Kd.R_drewN | apply Kd.R_drew)); exact HO214.out))) (below_size (by repeat (first | (with_reducible first | exact HB.out | apply below_alloc | apply pw_below_drewN | apply below_drew1) | exact HB.out)))); have n5_ := Aside0.mk (below_step (by repeat (first | (with_reducible first | exact HB.out | apply below_alloc | apply pw_below_drewN | apply below_drew1) | exact HB.out)) hb); clear HO_1; clear HO207; clear HO211; clear HO214; clear HB; have HO_1 := n0_; have HO207 := n1_; have HO211 := n2_; have HO214 := n3_; have HO218 := n4_; have HB := n5_; clear n0_ n1_ n2_ n3_ n4_ n5_; (try clear hb); (try clear hb2); (try clear hk); (try clear hi); (try clear ho0)) | ((with_reducible refine gate_dst (N := 108) rfl ?_); (try (refine gate_guard (by rfl) ?_; dsimp only)); refine Kd.R_make (Kd.int .u8) _ 5 rfl (N := 108) rfl 23 _ _ rfl 128 rfl rfl Tryd.underlying23 (.int .u8 0) 1 info5 rfl (by decide) (by omega) 0 (ok := fun _ => True) (okp := fun _ => True) rfl (fun _ hk => hk) trivial (by omega) (by omega) (Below.refl _ _) (Nat.le_refl _) ?_; intro v220 w110 ho111 hb hg_ hnew_; clear hg_ hnew_; (first | rw [← Ny219.out] at ho111 | (simp only [Int.reduceToNat] at ho111; rw [← Ny219.out] at ho111)); have n0_ := Aside0.mk (Kd.R_elder' (by (with_reducible repeat (first | apply Kd.R_alloc | apply Kd.R_drewN | apply Kd.R_drew)); exact HO_1.out) (Kd.R_base ho111) hb); have n1_ := Aside0.mk (Kd.R_elder' (by (with_reducible repeat (first | apply Kd.R_alloc | apply Kd.R_drewN | apply Kd.R_drew)); exact HO207.out) (Kd.R_base ho111) hb); have n2_ := Aside0.mk (Kd.R_elder' (by (with_reducible repeat (first | apply Kd.R_alloc | apply Kd.R_drewN | apply Kd.R_drew)); exact HO211.out) (Kd.R_base ho111) hb); have n3_ := Aside0.mk (Kd.R_elder' (by (with_reducible repeat (first | apply Kd.R_alloc | apply Kd.R_drewN | apply Kd.R_drew)); exact HO214.out) (Kd.R_base ho111) hb); have n4_ := Aside0.mk (Kd.R_elder' (by (with_reducible repeat (first | apply Kd.R_alloc | apply Kd.R_drewN | apply Kd.R_drew)); exact HO218.out) (Kd.R_base ho111) hb); have n5_ := Aside0.mk (Kd.R_lower (Kd.R_new' (Kd.R_new' (Kd.R_new' (Kd.R_new' (Kd.R_new' ho111 (Kd.R_lt (by (with_reducible repeat (first | apply Kd.R_alloc | apply Kd.R_drewN | apply Kd.R_drew)); exact HO_1.out))) (Kd.R_lt (by (with_reducible repeat (first | apply Kd.R_alloc | apply Kd.R_drewN | apply Kd.R_drew)); exact HO207.out))) (Kd.R_lt (by (with_reducible repeat (first | apply Kd.R_alloc | apply Kd.R_drewN | apply Kd.R_drew)); exact HO211.out))) (Kd.R_lt (by (with_reducible repeat (first | apply Kd.R_alloc | apply Kd.R_drewN | apply Kd.R_drew)); exact HO214.out))) (Kd.R_lt (by (with_reducible repeat (first | apply Kd.R_alloc | apply Kd.R_drewN | apply Kd.R_drew)); exact HO218.out))) (below_size (by repeat (first | (with_reducible first | exact HB.out | apply below_alloc | apply pw_below_drewN | apply below_drew1) | exact HB.out)))); have n6_ := Aside0.mk (below_step (by repeat (first | (with_reducible first | exact HB.out | apply below_alloc | apply pw_below_drewN | apply below_drew1) | exact HB.out)) hb); clear HO_1; clear HO207; clear HO211; clear HO214; clear HO218; clear HB; have HO_1 := n0_; have HO207 := n1_; have HO211 := n2_; have HO214 := n3_; have HO218 := n4_; have HO221 := n5_; have HB := n6_; clear n0_ n1_ n2_ n3_ n4_ n5_ n6_; clear hb ho111; obtain ⟨Ao112, co112, eo112⟩ := Kd.R_slice HO221.out; subst eo112) | ((with_reducible refine gate_callee (f := 14) rfl ?_); refine goesL_ (some 109) rfl rfl Tryd.func14 (by kernel_rfl) rfl #[.int .u32 1, .int .u32 0, .slice Ao112 y219.length co112] rfl (by (try simp only [List.map_toArray, List.map_cons, List.map_nil]); first | done | rfl | (simp only [List.length_drop, List.length_take]; rfl)) ?_; (first | (with_reducible refine (tag_Take.calls GA k2 1 0 _ _ y219 t222 t223 _ ?side1 ?side2 ?side3 A99.out).mono ?_) | ((try rw [hji50]); (try rw [hji74]); (try rw [← KY26.out]); (try rw [← KY28.out]); (try rw [← KY31.out]); (try rw [← KY33.out]); (try rw [← KY36.out]); (with_reducible refine (tag_Take.calls GA k2 1 0 _ _ y219 t222 t223 _ ?side1 ?side2 ?side3 A99.out).mono ?_))); (case side1 => repeat (first | exact (Kd.R_reads' HO221.out).2.2 | (with_reducible refine Kd.C_alloc ?_ _) | (with_reducible refine Kd.C_drewN ?_ _) | (with_reducible refine Kd.C_drew ?_))); (case side2 => exact (Kd.R_reads' HO221.out).2.1); (case side3 => exact Glob.below HG.out (by repeat (first | (with_reducible first | exact HB.out | apply below_alloc | apply pw_below_drewN | apply below_drew1) | exact HB.out))); rintro e w113 ⟨v224, rfl, ho0, hb⟩; refine ⟨_, rfl, ?_⟩; have n0_ := Aside0.mk (Kd.R_elder' (by (with_reducible repeat (first | apply Kd.R_alloc | apply Kd.R_drewN | apply Kd.R_drew)); exact HO_1.out) (Kd.R_base ho0) hb); have n1_ := Aside0.mk (Kd.R_elder' (by (with_reducible repeat (first | apply Kd.R_alloc | apply Kd.R_drewN | apply Kd.R_drew)); exact HO207.out) (Kd.R_base ho0) hb); have n2_ := Aside0.mk (Kd.R_elder' (by (with_reducible repeat (first | apply Kd.R_alloc | apply Kd.R_drewN | apply Kd.R_drew)); exact HO211.out) (Kd.R_base ho0) hb); have n3_ := Aside0.mk (Kd.R_elder' (by (with_reducible repeat (first | apply Kd.R_alloc | apply Kd.R_drewN | apply Kd.R_drew)); exact HO214.out) (Kd.R_base ho0) hb); have n4_ := Aside0.mk (Kd.R_elder' (by (with_reducible repeat (first | apply Kd.R_alloc | apply Kd.R_drewN | apply Kd.R_drew)); exact HO218.out) (Kd.R_base ho0) hb); have n5_ := Aside0.mk (Kd.R_elder' (by (with_reducible repeat (first | apply Kd.R_alloc | apply Kd.R_drewN | apply Kd.R_drew)); exact HO221.out) (Kd.R_base ho0) hb); have n6_ := Aside0.mk (Kd.R_lower (Kd.R_new' (Kd.R_new' (Kd.R_new' (Kd.R_new' (Kd.R_new' (Kd.R_new' ho0 (Kd.R_lt (by (with_reducible repeat (first | apply Kd.R_alloc | apply Kd.R_drewN | apply Kd.R_drew)); exact HO_1.out))) (Kd.R_lt (by (with_reducible repeat (first | apply Kd.R_alloc | apply Kd.R_drewN | apply Kd.R_drew)); exact HO207.out))) (Kd.R_lt (by (with_reducible repeat (first | apply Kd.R_alloc | apply Kd.R_drewN | apply Kd.R_drew)); exact HO211.out))) (Kd.R_lt (by (with_reducible repeat (first | apply Kd.R_alloc | apply Kd.R_drewN | apply Kd.R_drew)); exact HO214.out))) (Kd.R_lt (by (with_reducible repeat (first | apply Kd.R_alloc | apply Kd.R_drewN | apply Kd.R_drew)); exact HO218.out))) (Kd.R_lt (by (with_reducible repeat (first | apply Kd.R_alloc | apply Kd.R_drewN | apply Kd.R_drew)); exact HO221.out))) (below_size (by repeat (first | (with_reducible first | exact HB.out | apply below_alloc | apply pw_below_drewN | apply below_drew1) | exact HB.out)))); have n7_ := Aside0.mk (below_step (by repeat (first | (with_reducible first | exact HB.out | apply below_alloc | apply pw_below_drewN | apply below_drew1) | exact HB.out)) hb); clear HO_1; clear HO207; clear HO211; clear HO214; clear HO218; clear HO221; clear HB; have HO_1 := n0_; have HO207 := n1_; have HO211 := n2_; have HO214 := n3_; have HO218 := n4_; have HO221 := n5_; have HO225 := n6_; have HB := n7_; clear n0_ n1_ n2_ n3_ n4_ n5_ n6_ n7_; (try clear hb); (try clear hb2); (try clear hk); (try clear hi); (try clear ho0)))
                            go_ret
                            exact ⟨by first | rfl | (simp [errW_none, errW_some] <;> rfl) | (simp [*, errW_none, errW_some] <;> rfl), by repeat (first | (with_reducible first | exact HB.out | apply below_alloc | apply pw_below_drewN | apply below_drew1) | exact HB.out)⟩
                        · replace c100 := Bool.eq_false_iff.mpr c100
                          subst c100
                          have H1 : (none) = some r := by rw [if_neg (show ¬ (false = true) by decide)] at H; exact H
                          clear H
                          have H := H1
                          clear H1
                          exact absurd H (by simp)
                      · rw [if_neg c97] at H
                        exact absurd H (by simp)
                    · rw [if_neg c95] at H
                      exact absurd H (by simp)
      · rw [if_neg c5] at H
        exact absurd H (by simp)
    · rw [if_neg c3] at H
      exact absurd H (by simp)
  · replace c2 := Bool.eq_false_iff.mpr c2
    subst c2
    have H1 : (none) = some r := by rw [if_neg (show ¬ (false = true) by decide)] at H; exact H
    clear H
    have H := H1
    clear H1
    exact absurd H (by simp)

/-- THE ONE PURE STATEMENT of rabbetlaw20_TagForms: yours. -/
def rabbetlaw20_TagForms.Pure : Prop := ∃ k, rabbetlaw20_TagForms.f k  = some true
theorem rabbetlaw20_TagForms.walk (P : rabbetlaw20_TagForms.Pure)  (w : World) (GA : Nat → Addr) (hG : Glob GA w)  :
    Calls Tryd.prog 6 #[] w fun e w' => e = .returned (.bool true) ∧ Below w.heap.size w w' := by
  obtain ⟨k, h⟩ := P  
  refine (rabbetlaw20_TagForms.calls GA k  true w hG h).mono ?_
  rintro e w' ⟨rfl, hd⟩
  exact ⟨rfl, hd⟩

end Go.Proofs.YtaoegbebeogkbaaDoor.PTagForms
