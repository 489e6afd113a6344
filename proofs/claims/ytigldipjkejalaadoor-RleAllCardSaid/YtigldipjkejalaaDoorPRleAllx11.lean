-- Written by xprint.py (a program of this project) out of the translation. Not trusted: Lean checks it. -- squeezed
import Derived.Test.YtigldipjkejalaaDoorPRleAllx0
import Derived.Test.YtigldipjkejalaaDoorPRleAllx8
import Derived.Test.YtigldipjkejalaaDoorPRleAllx9
import Derived.Test.YtigldipjkejalaaDoorPRleAllx10
namespace Go.Proofs.YtigldipjkejalaaDoor.PRleAll
open Go.RowKit Go.Proofs.YtigldipjkejalaaDoorW.PrintWords Go.Proofs.YtigldipjkejalaaDoorW.PrintLast Go.Proofs.YtigldipjkejalaaDoorW.PrintMore
attribute [local go_sem] max2_int min2_int max_two min_two max_three min_three max_four min_four   -- for this text's walks alone
set_option linter.unusedVariables false
set_option linter.unusedSimpArgs false
mutual
def rle_read.j0 : Nat → Int → Int → List Int → List (S26) → Bool → Option ((List (S26)) × Option Int)
 | 0, _, _, _, _, _ => none
 | k + 1, x0, x1, x2, x6, x22 => if x22 = true then (some (([] : List (S26)), some 5)) else (rle_read.l0 k x0 x1 x2 x6 x2)
def rle_read.l0 : Nat → Int → Int → List Int → List (S26) → List Int → Option ((List (S26)) × Option Int)
 | 0, _, _, _, _, _ => none
 | k + 1, x0, x1, x2, x6, x8 => if (x8.length : Int) > 0 then ((num_Take.f k x8).bind fun bt283 => (if bt283.2.2 = true then (rle_read.j2 k x0 x1 x2 x6 x8 bt283.1 bt283.2.1 (decide (bt283.1 > (IntKind.u64.wrap (wrap64 (x1 - (x6.length : Int))))))) else (rle_read.j2 k x0 x1 x2 x6 x8 bt283.1 bt283.2.1 true))) else ((rle_Put.f k x0 x6).bind fun bt312 => (if bt312.2 = true then (if (x6.length : Int) = x1 then ((bytes_Equal.f bt312.1 x2).bind fun t316 => (if t316 = true then (some (x6, none)) else (some (([] : List (S26)), some 7)))) else (some (([] : List (S26)), some 7))) else (some (([] : List (S26)), some 7))))
def rle_read.j2 : Nat → Int → Int → List Int → List (S26) → List Int → Int → Int → Bool → Option ((List (S26)) × Option Int)
 | 0, _, _, _, _, _, _, _, _ => none
 | k + 1, x0, x1, x2, x6, x8, x9, x10, x46 => if x46 = true then (some (([] : List (S26)), some 6)) else (if 0 ≤ x10 then (if x10 ≤ (x8.length : Int) then ((rle_first.f k x0 (x8.drop (x10 : Int).toNat)).bind fun bt291 => (if bt291.2.2.2.2.isNone = true then ((api_Value.f (([(⟨bt291.1, bt291.2.1, bt291.2.2.1⟩ : S26)] : List (S26))) (wrap64 (x9))).bind fun t301 => (if x6.length + t301.length < 4398046511104 then (if 0 ≤ (wrap64 (x10 + bt291.2.2.2.1)) then (if (wrap64 (x10 + bt291.2.2.2.1)) ≤ (x8.length : Int) then (rle_read.l0 k x0 x1 x2 (x6 ++ t301) (x8.drop ((wrap64 (x10 + bt291.2.2.2.1)) : Int).toNat)) else (none)) else (none)) else (none))) else (some (([] : List (S26)), some (bt291.2.2.2.2.getD 0))))) else (none)) else (none))
end
def rle_read.f (k : Nat) (a0 : Int) (a1 : Int) (l2 : List Int) : Option ((List (S26)) × Option Int) := if a1 < 0 then (rle_read.j0 k a0 a1 l2 ([] : List (S26)) true) else (rle_read.j0 k a0 a1 l2 ([] : List (S26)) (decide (a1 > 1000)))
theorem rle_read.mono_l : ∀ k, (∀ y0 y1 y2 y3 y4, LeO (rle_read.j0 k y0 y1 y2 y3 y4) (rle_read.j0 (k + 1) y0 y1 y2 y3 y4)) ∧ (∀ y0 y1 y2 y3 y4, LeO (rle_read.l0 k y0 y1 y2 y3 y4) (rle_read.l0 (k + 1) y0 y1 y2 y3 y4)) ∧ (∀ y0 y1 y2 y3 y4 y5 y6 y7, LeO (rle_read.j2 k y0 y1 y2 y3 y4 y5 y6 y7) (rle_read.j2 (k + 1) y0 y1 y2 y3 y4 y5 y6 y7))
 | 0 => ⟨fun _ _ _ _ _ r h => by simp [rle_read.j0] at h, fun _ _ _ _ _ r h => by simp [rle_read.l0] at h, fun _ _ _ _ _ _ _ _ r h => by simp [rle_read.j2] at h⟩
 | k + 1 => by
  obtain ⟨ih0, ih1, ih2⟩ := rle_read.mono_l k
  refine ⟨?_, ?_, ?_⟩
  ·
   intro y0 y1 y2 y3 y4
   unfold rle_read.j0
   repeat' first
   | (with_reducible exact ih0 _ _ _ _ _)
   | (with_reducible exact ih1 _ _ _ _ _)
   | (with_reducible exact ih2 _ _ _ _ _ _ _ _)
   | (with_reducible exact num_Take.mono _ _)
   | (with_reducible exact rle_Put.mono _ _ _)
   | (with_reducible exact rle_first.mono _ _ _)
   | (with_reducible exact LeO.refl _)
   | (with_reducible exact LeO.none _)
   | (with_reducible refine LeO.ite ?_ ?_)
   | (with_reducible refine LeO.bind ?_ (fun _ => ?_))
   | exact ih0 _ _ _ _ _
   | exact ih1 _ _ _ _ _
   | exact ih2 _ _ _ _ _ _ _ _
   | exact num_Take.mono _ _
   | exact rle_Put.mono _ _ _
   | exact rle_first.mono _ _ _
   | exact LeO.none _
   | refine LeO.ite ?_ ?_
   | refine LeO.bind ?_ (fun _ => ?_)
  ·
   intro y0 y1 y2 y3 y4
   unfold rle_read.l0
   repeat' first
   | (with_reducible exact ih0 _ _ _ _ _)
   | (with_reducible exact ih1 _ _ _ _ _)
   | (with_reducible exact ih2 _ _ _ _ _ _ _ _)
   | (with_reducible exact num_Take.mono _ _)
   | (with_reducible exact rle_Put.mono _ _ _)
   | (with_reducible exact rle_first.mono _ _ _)
   | (with_reducible exact LeO.refl _)
   | (with_reducible exact LeO.none _)
   | (with_reducible refine LeO.ite ?_ ?_)
   | (with_reducible refine LeO.bind ?_ (fun _ => ?_))
   | exact ih0 _ _ _ _ _
   | exact ih1 _ _ _ _ _
   | exact ih2 _ _ _ _ _ _ _ _
   | exact num_Take.mono _ _
   | exact rle_Put.mono _ _ _
   | exact rle_first.mono _ _ _
   | exact LeO.none _
   | refine LeO.ite ?_ ?_
   | refine LeO.bind ?_ (fun _ => ?_)
  ·
   intro y0 y1 y2 y3 y4 y5 y6 y7
   unfold rle_read.j2
   repeat' first
   | (with_reducible exact ih0 _ _ _ _ _)
   | (with_reducible exact ih1 _ _ _ _ _)
   | (with_reducible exact ih2 _ _ _ _ _ _ _ _)
   | (with_reducible exact num_Take.mono _ _)
   | (with_reducible exact rle_Put.mono _ _ _)
   | (with_reducible exact rle_first.mono _ _ _)
   | (with_reducible exact LeO.refl _)
   | (with_reducible exact LeO.none _)
   | (with_reducible refine LeO.ite ?_ ?_)
   | (with_reducible refine LeO.bind ?_ (fun _ => ?_))
   | exact ih0 _ _ _ _ _
   | exact ih1 _ _ _ _ _
   | exact ih2 _ _ _ _ _ _ _ _
   | exact num_Take.mono _ _
   | exact rle_Put.mono _ _ _
   | exact rle_first.mono _ _ _
   | exact LeO.none _
   | refine LeO.ite ?_ ?_
   | refine LeO.bind ?_ (fun _ => ?_)
theorem rle_read.mono : ∀ a0 a1 a2 k, LeO (rle_read.f k a0 a1 a2) (rle_read.f (k + 1) a0 a1 a2) := by
 intro a0 a1 a2 k
 obtain ⟨ih0, ih1, ih2⟩ := rle_read.mono_l k
 unfold rle_read.f
 repeat' first
   | (with_reducible exact ih0 _ _ _ _ _)
   | (with_reducible exact ih1 _ _ _ _ _)
   | (with_reducible exact ih2 _ _ _ _ _ _ _ _)
   | (with_reducible exact num_Take.mono _ _)
   | (with_reducible exact rle_Put.mono _ _ _)
   | (with_reducible exact rle_first.mono _ _ _)
   | (with_reducible exact LeO.refl _)
   | (with_reducible exact LeO.none _)
   | (with_reducible refine LeO.ite ?_ ?_)
   | (with_reducible refine LeO.bind ?_ (fun _ => ?_))
   | exact ih0 _ _ _ _ _
   | exact ih1 _ _ _ _ _
   | exact ih2 _ _ _ _ _ _ _ _
   | exact num_Take.mono _ _
   | exact rle_Put.mono _ _ _
   | exact rle_first.mono _ _ _
   | exact LeO.none _
   | refine LeO.ite ?_ ?_
   | refine LeO.bind ?_ (fun _ => ?_)
def rle_read.T11 : Bool × List (List Nat × List Nat) := (true, [([], []), ([], []), ([1], [1]), ([], []), ([3], [3]), ([2, 4], [2, 4]), ([0, 5, 5], [0, 5]), ([], []), ([], []), ([], []), ([8, 9], [8, 9]), ([7, 10], [7, 10]), ([6, 6, 0, 1, 2, 3, 4, 5, 6], [0, 6]), ([11, 12, 0, 1, 2, 3, 4, 5, 6, 7, 8, 9, 10, 11, 12], [7, 11])])
def rle_read.B11 : List Nat := [0, 0, 2, 0, 8, 30, 63, 0, 0, 0, 768, 1920, 127, 8191]
theorem rle_read.tab11 : rtab .any (opsOf Tryd.f46 11) = rle_read.T11 := by kernel_rfl
theorem rle_read.bits11 : waitsOk rle_read.T11.2 rle_read.B11 = true := by kernel_rfl
set_option maxHeartbeats 8000000 in
set_option maxRecDepth 100000 in
theorem rle_read.calls (GA : Nat → Addr) (k : Nat) (a0 : Int) (a1 : Int) (P2_ : Nat → Prop) (A2 : Option Addr) (c2 : Nat) (l2 : List Int) (r1 : List (S26)) (r2 : Option Int) (w : World) (hs2 : Kd.V (Kd.int .u8) 5 w w.heap.size (fun k_ => P2_ k_) (.slice A2 l2.length c2) l2) (hG : Glob GA w) (h : rle_read.f k a0 a1 l2 = some (r1, r2)) :
  Calls Tryd.prog 46 #[.int .i64 a0, .int .i64 a1, .slice A2 l2.length c2] w fun e w' => ∃ v0_ : Value, e = .returned (.tuple #[v0_, errW GA r2]) ∧ Kd.R k26 26 w' w.heap.size (fun k_ => (w.heap.size ≤ k_)) v0_ r1 ∧ Below w.heap.size w w' := by
 have hu26 := Tryd.underlying26
 have hu60 := Tryd.underlying60
 have hu89 := Tryd.underlying89
 have HG := ak_ hG
 clear hG
 have HO2 := ak_ (show Kd.V (Kd.int .u8) 5 w w.heap.size (fun k_ => (P2_ k_ ∨ w.heap.size ≤ k_)) (.slice A2 l2.length c2) l2 from Kd.V_mono hs2 (fun k_ hk => .inl hk))
 have HB := ak_ (Below.refl w.heap.size w)
 have H : (if a1 < 0 then (rle_read.j0 k a0 a1 l2 ([] : List (S26)) true) else (rle_read.j0 k a0 a1 l2 ([] : List (S26)) (decide (a1 > 1000)))) = some (r1, r2) := h
 clear h
 have HC4 := ak_ H
 clear H
 go_enter Tryd.func46, Tryd.ntmps46
 go_upto_region 1 with (fail)
 go_cut [22] (fun v22 wc => ∃ (kq : Nat) (x22_3 : Bool), v22 = .bool x22_3 ∧ Aside0 (rle_read.j0 kq a0 a1 l2 ([] : List (S26)) x22_3 = some (r1, r2)) ∧ Aside0 (kq ≤ k) ∧ Aside0 (Kd.V (Kd.int .u8) 5 wc w.heap.size (fun k_ => (P2_ k_ ∨ w.heap.size ≤ k_) ∧ some k_ ≠ ((.slice none 0 0) : Value).ownBlock) (.slice A2 l2.length c2) l2) ∧ Aside0 (Kd.R k26 26 wc w.heap.size (fun k_ => (w.heap.size ≤ k_)) (.slice none 0 0) ([] : List (S26))) ∧ Aside0 (Below w.heap.size w wc))
 case first =>
  have H := HC4.out
  clear HC4
  by_cases c5 : a1 < 0
  ·
   rw [if_pos c5] at H
   have c5b0 : decide (a1 < 0) = true := decide_eq_true c5
   clear c5
   (first | rw [c5b0] | rw [c5b1] | (simp only [i64_w, i32_w]; rw [c5b0]) | skip)
   have H' := ak_ H
   clear H
   go_wp2
   go_meet
   case rel => exact ⟨_, (true), (by first | rfl | (simp; done) | (simp [*]; done)), H', ⟨by first | omega | exact Nat.le_refl _⟩, ⟨by (with_reducible repeat (first | apply Kd.V_alloc | apply Kd.V_drewN | apply Kd.V_drew)); exact Kd.V_mono HO2.out (fun _ hk => ⟨hk, (by simp [Value.ownBlock])⟩)⟩, ⟨by first | exact Kd.R_nil _ _ _ _ _ | exact Kd.N_nil _ _ _ _ _ | exact Kd.V_nil _ _ _ _ _ | exact Kd.Q_nil _ _ _ _ _ | exact Kd.S_nil _ _ _ _ _⟩, ⟨by repeat (first | (with_reducible first | exact HB.out | apply bl_a | apply bl_n | apply bl_d) | exact HB.out)⟩⟩
  ·
   rw [if_neg c5] at H
   have c5b0 : decide (a1 < 0) = false := decide_eq_false c5
   clear c5
   (first | rw [c5b0] | rw [c5b1] | (simp only [i64_w, i32_w]; rw [c5b0]) | skip)
   have H' := ak_ H
   clear H
   go_wp2
   go_meet
   case rel => exact ⟨_, (decide (a1 > 1000)), (by first | rfl | (simp; done) | (simp [*]; done)), H', ⟨by first | omega | exact Nat.le_refl _⟩, ⟨by (with_reducible repeat (first | apply Kd.V_alloc | apply Kd.V_drewN | apply Kd.V_drew)); exact Kd.V_mono HO2.out (fun _ hk => ⟨hk, (by simp [Value.ownBlock])⟩)⟩, ⟨by first | exact Kd.R_nil _ _ _ _ _ | exact Kd.N_nil _ _ _ _ _ | exact Kd.V_nil _ _ _ _ _ | exact Kd.Q_nil _ _ _ _ _ | exact Kd.S_nil _ _ _ _ _⟩, ⟨by repeat (first | (with_reducible first | exact HB.out | apply bl_a | apply bl_n | apply bl_d) | exact HB.out)⟩⟩
 case rest =>
  clear HC4
  try clear c2
  try clear p2
  try clear c4
  try clear c5
  try clear c5b0
  obtain ⟨kq, x22_3, rfl, HA, HJ3, HO_2, HO_6, HB⟩ := hcut
  cases kq with
  | zero => exact absurd HA.out (by simp [rle_read.j0])
  | succ kj3 =>
   have H := HA.out
   clear HA
   simp only [rle_read.j0] at H
   by_cases c6 : x22_3 = true
   ·
    subst c6
    have H1 : (some (([] : List (S26)), some 5)) = some (r1, r2) := by rw [if_pos rfl] at H; exact H
    clear H
    have H := H1
    clear H1
    simp only [Option.some.injEq, Prod.mk.injEq] at H
    obtain ⟨rfl, rfl⟩ := H
    try go_wp2
    have n0_ := ak_ (Kd.V_drew HO_2.out)
    have n1_ := ak_ (Kd.R_drew HO_6.out)
    have n2_ := ak_ (bl_d HB.out)
    clear HO_2
    clear HO_6
    clear HB
    have HO_2 := n0_
    have HO_6 := n1_
    have HB := n2_
    clear n0_ n1_ n2_
    refine start_ (n := 5) (S := fun w' => w'.cell? ⟨1, 0, none⟩ = some (.iface 117 (.pointer (some (GA 1))))) (ds := []) #[false, false, false, false, false] (by kernel_rfl) rfl rfl (((HB.out.cell (World.block_lt_of_cell? w _ HG.out.c1)).trans HG.out.c1)) (fun hHeld => ?_)
    generalize wc.drew = w7 at HO_2 HO_6 HB hHeld ⊢
    refine pure_ (i := 3) (N := some 6) (v := ?_) (a' := ?_) #[false, false, false, true, false] rfl rfl (by kernel_rfl) (fun _ _ _ h => h) (Or.inl ⟨by rfl, ?_⟩) ?_ ?_
    rotate_left
    ·
     intro w'
     go_simp
     with_reducible rfl
    rotate_left
    ·
     simp only [Act.put, List.setIfInBounds_toArray, List.set_cons_zero, List.set_cons_succ, i64_w, i32_w]
     rfl
    refine take_ (i := 0) (N := some 23) (v := ?_) (a' := ?_) #[true, false, false, true, false] rfl rfl (by kernel_rfl) (fun _ _ _ h => h) (Or.inl ⟨by rfl, ?_⟩) hHeld ?_ ?_
    rotate_left
    ·
     intro w' s0
     go_simp
     with_reducible rfl
    rotate_left
    ·
     simp only [Act.put, List.setIfInBounds_toArray, List.set_cons_zero, List.set_cons_succ, i64_w, i32_w]
     rfl
    refine pure_ (i := 1) (N := some 24) (v := ?_) (a' := ?_) #[true, true, false, true, false] rfl rfl (by kernel_rfl) (fun _ _ _ h => h) (Or.inl ⟨by rfl, ?_⟩) ?_ ?_
    rotate_left
    ·
     intro w'
     go_simp
     with_reducible rfl
    rotate_left
    ·
     simp only [Act.put, List.setIfInBounds_toArray, List.set_cons_zero, List.set_cons_succ, i64_w, i32_w]
     rfl
    refine pure_ (i := 2) (N := some 25) (v := ?_) (a' := ?_) #[true, true, true, true, false] rfl rfl (by kernel_rfl) (fun _ _ _ h => h) (Or.inl ⟨by rfl, ?_⟩) ?_ ?_
    rotate_left
    ·
     intro w'
     go_simp
     with_reducible rfl
    rotate_left
    ·
     simp only [Act.put, List.setIfInBounds_toArray, List.set_cons_zero, List.set_cons_succ, i64_w, i32_w]
     rfl
    refine pure_ (i := 4) (N := some 7) (v := ?_) (a' := ?_) #[true, true, true, true, true] rfl rfl (by kernel_rfl) (fun _ _ _ h => h) (Or.inl ⟨by rfl, ?_⟩) ?_ ?_
    rotate_left
    ·
     intro w'
     go_simp
     with_reducible rfl
    rotate_left
    ·
     simp only [Act.put, List.setIfInBounds_toArray, List.set_cons_zero, List.set_cons_succ, i64_w, i32_w]
     rfl
    refine done_ (by kernel_rfl) ?_
    try go_wp2
    go_ret2
    exact ⟨_, by first | rfl | (simp [errW_none, errW_some] <;> rfl) | (simp [*, errW_none, errW_some] <;> rfl), by first | exact Kd.R_nil _ _ _ _ _ | exact Kd.N_nil _ _ _ _ _ | exact Kd.V_nil _ _ _ _ _ | exact Kd.Q_nil _ _ _ _ _ | exact Kd.S_nil _ _ _ _ _, by repeat (first | (with_reducible first | exact HB.out | apply bl_a | apply bl_n | apply bl_d) | exact HB.out)⟩
   ·
    replace c6 := Bool.eq_false_iff.mpr c6
    subst c6
    have H1 : (rle_read.l0 kj3 a0 a1 l2 ([] : List (S26)) l2) = some (r1, r2) := by rw [if_neg (show ¬ (false = true) by decide)] at H; exact H
    clear H
    have H := H1
    clear H1
    have H' := ak_ H
    clear H
    go_wp2
    go_loopg [6, 8] kj3 (fun kq v6 v8 w' => ∃ (x6_2 : List (S26)) (x8_2 : List Int), Aside0 (rle_read.l0 kq a0 a1 l2 x6_2 x8_2 = some (r1, r2)) ∧ Aside0 (kq ≤ kj3) ∧ Aside0 (Kd.V (Kd.int .u8) 5 w' w.heap.size (fun k_ => (P2_ k_ ∨ w.heap.size ≤ k_) ∧ some k_ ≠ (v6 : Value).ownBlock) (.slice A2 l2.length c2) l2) ∧ Aside0 (Kd.R k26 26 w' w.heap.size (fun k_ => (w.heap.size ≤ k_)) v6 x6_2) ∧ Aside0 (Kd.V (Kd.int .u8) 5 w' w.heap.size (fun k_ => (P2_ k_ ∨ w.heap.size ≤ k_) ∧ some k_ ≠ (v6 : Value).ownBlock) v8 x8_2) ∧ Aside0 (Below w.heap.size w w'))
    case atStart => exact ⟨(([] : List (S26))), (l2), H', ⟨Nat.le_refl _⟩, ⟨by (with_reducible repeat (first | apply Kd.V_alloc | apply Kd.V_drewN | apply Kd.V_drew)); exact HO_2.out⟩, ⟨by (with_reducible repeat (first | apply Kd.R_alloc | apply Kd.R_drewN | apply Kd.R_drew)); exact HO_6.out⟩, ⟨by (with_reducible repeat (first | apply Kd.V_alloc | apply Kd.V_drewN | apply Kd.V_drew)); exact HO_2.out⟩, ⟨by repeat (first | (with_reducible first | exact HB.out | apply bl_a | apply bl_n | apply bl_d) | exact HB.out)⟩⟩
    case round =>
     clear H'
     try clear c1
     try clear c2
     try clear p2
     try clear c4
     try clear c5
     try clear c5b0
     try clear c6
     try clear p2
     obtain ⟨x6_2, x8_2, HA, HK2, HO_2, HO_6, HO_8, HB⟩ := hrel
     cases gk with
     | zero => exact absurd HA.out (by simp [rle_read.l0])
     | succ k2 =>
      have H := HA.out
      clear HA
      simp only [rle_read.l0] at H
      by_cases c8 : (x8_2.length : Int) > 0
      ·
       rw [if_pos c8] at H
       have c8b0 : decide (0 < (x8_2.length : Int)) = true := decide_eq_true c8
       have c8b1 : decide (0 < x8_2.length) = true := decide_eq_true (by omega)
       (try (have c8b1p : (0 < x8_2.length) = True := eq_true (of_decide_eq_true c8b1)))
       clear c8
       replace H := Option.bind_eq_some_iff.mp H
       obtain ⟨⟨t283, t284, t285⟩, A90, H⟩ := H
       replace H : (if t285 = true then (rle_read.j2 k2 a0 a1 l2 x6_2 x8_2 t283 t284 (decide (t283 > (IntKind.u64.wrap (wrap64 (a1 - (x6_2.length : Int))))))) else (rle_read.j2 k2 a0 a1 l2 x6_2 x8_2 t283 t284 true)) = some (r1, r2) := H
       have A9 := ak_ A90
       clear A90
       have HC10 := ak_ H
       clear H
       obtain ⟨Ao11, co11, eo11⟩ := Kd.V_slice HO_8.out
       subst eo11
       go_upto_region 6 with (first | ((with_reducible refine gate_callee (f := 57) rfl ?_); refine goesL_ (some 32) rfl rfl Tryd.func57 (by kernel_rfl) rfl #[.slice Ao11 x8_2.length co11] rfl (by (try simp only [List.map_toArray, List.map_cons, List.map_nil]); first | done | rfl | (simp only [List.length_drop, List.length_take]; rfl)) ?_; (with_reducible refine (num_Take.calls GA k2 _ _ x8_2 t283 t284 t285 _ ?side1 ?side2 ?side3 A9.out).mono ?_); (case side1 => repeat (first | exact (Kd.V_reads' HO_8.out).2.2 | (with_reducible refine Kd.C_alloc ?_ _) | (with_reducible refine Kd.C_drewN ?_ _) | (with_reducible refine Kd.C_drew ?_))); (case side2 => exact (Kd.V_reads' HO_8.out).2.1); (case side3 => exact Glob.below HG.out (by repeat (first | (with_reducible first | exact HB.out | apply bl_a | apply bl_n | apply bl_d) | exact HB.out))); rintro e w12 ⟨rfl, hb⟩; refine ⟨_, rfl, ?_⟩; have n0_ := ak_ (Kd.V_below (by (with_reducible repeat (first | apply Kd.V_alloc | apply Kd.V_drewN | apply Kd.V_drew)); exact HO_2.out) hb); have n1_ := ak_ (Kd.R_below (by (with_reducible repeat (first | apply Kd.R_alloc | apply Kd.R_drewN | apply Kd.R_drew)); exact HO_6.out) hb); have n2_ := ak_ (Kd.V_below (by (with_reducible repeat (first | apply Kd.V_alloc | apply Kd.V_drewN | apply Kd.V_drew)); exact HO_8.out) hb); have n3_ := ak_ (below_step (by repeat (first | (with_reducible first | exact HB.out | apply bl_a | apply bl_n | apply bl_d) | exact HB.out)) hb); clear HO_2; clear HO_6; clear HO_8; clear HB; have HO_2 := n0_; have HO_6 := n1_; have HO_8 := n2_; have HB := n3_; clear n0_ n1_ n2_ n3_; (try clear hb); (try clear hb2); (try clear hk); (try clear hi)))
       (try simp only [Act.put, List.setIfInBounds_toArray, List.set_cons_zero, List.set_cons_succ])
       go_cut [46] (fun v46 wc => ∃ (kq : Nat) (x46_9 : Bool), v46 = .bool x46_9 ∧ Aside0 (rle_read.j2 kq a0 a1 l2 x6_2 x8_2 t283 t284 x46_9 = some (r1, r2)) ∧ Aside0 (kq ≤ k2) ∧ Aside0 (Kd.V (Kd.int .u8) 5 wc w.heap.size (fun k_ => (P2_ k_ ∨ w.heap.size ≤ k_) ∧ some k_ ≠ (u6 : Value).ownBlock) (.slice A2 l2.length c2) l2) ∧ Aside0 (Kd.R k26 26 wc w.heap.size (fun k_ => (w.heap.size ≤ k_)) u6 x6_2) ∧ Aside0 (Kd.V (Kd.int .u8) 5 wc w.heap.size (fun k_ => (P2_ k_ ∨ w.heap.size ≤ k_) ∧ some k_ ≠ (u6 : Value).ownBlock) (.slice Ao11 x8_2.length co11) x8_2) ∧ Aside0 (Below w.heap.size w wc))
       case first =>
        have H := HC10.out
        clear HC10
        by_cases c13 : t285 = true
        ·
         subst c13
         have H1 : (rle_read.j2 k2 a0 a1 l2 x6_2 x8_2 t283 t284 (decide (t283 > (IntKind.u64.wrap (wrap64 (a1 - (x6_2.length : Int))))))) = some (r1, r2) := by rw [if_pos rfl] at H; exact H
         clear H
         have H := H1
         clear H1
         have H' := ak_ H
         clear H
         obtain ⟨Ao14, co14, eo14⟩ := Kd.R_slice HO_6.out
         subst eo14
         go_wp2
         go_meet
         case rel => exact ⟨_, (decide (t283 > (IntKind.u64.wrap (wrap64 (a1 - (x6_2.length : Int)))))), (by first | rfl | (simp; done) | (simp [*]; done)), H', ⟨by have := HJ3.out; have := HK2.out; first | omega | exact Nat.le_refl _⟩, ⟨by (with_reducible repeat (first | apply Kd.V_alloc | apply Kd.V_drewN | apply Kd.V_drew)); exact HO_2.out⟩, ⟨by (with_reducible repeat (first | apply Kd.R_alloc | apply Kd.R_drewN | apply Kd.R_drew)); exact HO_6.out⟩, ⟨by (with_reducible repeat (first | apply Kd.V_alloc | apply Kd.V_drewN | apply Kd.V_drew)); exact HO_8.out⟩, ⟨by repeat (first | (with_reducible first | exact HB.out | apply bl_a | apply bl_n | apply bl_d) | exact HB.out)⟩⟩
        ·
         replace c13 := Bool.eq_false_iff.mpr c13
         subst c13
         have H1 : (rle_read.j2 k2 a0 a1 l2 x6_2 x8_2 t283 t284 true) = some (r1, r2) := by rw [if_neg (show ¬ (false = true) by decide)] at H; exact H
         clear H
         have H := H1
         clear H1
         have H' := ak_ H
         clear H
         go_wp2
         go_meet
         case rel => exact ⟨_, (true), (by first | rfl | (simp; done) | (simp [*]; done)), H', ⟨by have := HJ3.out; have := HK2.out; first | omega | exact Nat.le_refl _⟩, ⟨by (with_reducible repeat (first | apply Kd.V_alloc | apply Kd.V_drewN | apply Kd.V_drew)); exact HO_2.out⟩, ⟨by (with_reducible repeat (first | apply Kd.R_alloc | apply Kd.R_drewN | apply Kd.R_drew)); exact HO_6.out⟩, ⟨by (with_reducible repeat (first | apply Kd.V_alloc | apply Kd.V_drewN | apply Kd.V_drew)); exact HO_8.out⟩, ⟨by repeat (first | (with_reducible first | exact HB.out | apply bl_a | apply bl_n | apply bl_d) | exact HB.out)⟩⟩
       case rest =>
        clear HC10
        try clear c1
        try clear c2
        try clear p2
        try clear c4
        try clear c5
        try clear c5b0
        try clear c6
        try clear p6
        try clear c8
        try clear c8b0
        try clear c8b1
        try clear c13
        try clear p2
        obtain ⟨kq, x46_9, rfl, HA, HJ9, HO_2, HO_6, HO_8, HB⟩ := hcut
        cases kq with
        | zero => exact absurd HA.out (by simp [rle_read.j2])
        | succ kj9 =>
         have H := HA.out
         clear HA
         simp only [rle_read.j2] at H
         by_cases c15 : x46_9 = true
         ·
          subst c15
          have H1 : (some (([] : List (S26)), some 6)) = some (r1, r2) := by rw [if_pos rfl] at H; exact H
          clear H
          have H := H1
          clear H1
          simp only [Option.some.injEq, Prod.mk.injEq] at H
          obtain ⟨rfl, rfl⟩ := H
          try go_wp2
          have n0_ := ak_ (Kd.V_drew HO_2.out)
          have n1_ := ak_ (Kd.R_drew HO_6.out)
          have n2_ := ak_ (Kd.V_drew HO_8.out)
          have n3_ := ak_ (bl_d HB.out)
          clear HO_2
          clear HO_6
          clear HO_8
          clear HB
          have HO_2 := n0_
          have HO_6 := n1_
          have HO_8 := n2_
          have HB := n3_
          clear n0_ n1_ n2_ n3_
          refine start_ (n := 5) (S := fun w' => w'.cell? ⟨1, 0, none⟩ = some (.iface 117 (.pointer (some (GA 1))))) (ds := []) #[false, false, false, false, false] (by kernel_rfl) rfl rfl (((HB.out.cell (World.block_lt_of_cell? w _ HG.out.c1)).trans HG.out.c1)) (fun hHeld => ?_)
          generalize wc.drew = w16 at HO_2 HO_6 HO_8 HB hHeld ⊢
          refine pure_ (i := 3) (N := some 6) (v := ?_) (a' := ?_) #[false, false, false, true, false] rfl rfl (by kernel_rfl) (fun _ _ _ h => h) (Or.inl ⟨by rfl, ?_⟩) ?_ ?_
          rotate_left
          ·
           intro w'
           go_simp
           with_reducible rfl
          rotate_left
          ·
           simp only [Act.put, List.setIfInBounds_toArray, List.set_cons_zero, List.set_cons_succ, i64_w, i32_w]
           rfl
          refine take_ (i := 0) (N := some 47) (v := ?_) (a' := ?_) #[true, false, false, true, false] rfl rfl (by kernel_rfl) (fun _ _ _ h => h) (Or.inl ⟨by rfl, ?_⟩) hHeld ?_ ?_
          rotate_left
          ·
           intro w' s0
           go_simp
           with_reducible rfl
          rotate_left
          ·
           simp only [Act.put, List.setIfInBounds_toArray, List.set_cons_zero, List.set_cons_succ, i64_w, i32_w]
           rfl
          refine pure_ (i := 1) (N := some 48) (v := ?_) (a' := ?_) #[true, true, false, true, false] rfl rfl (by kernel_rfl) (fun _ _ _ h => h) (Or.inl ⟨by rfl, ?_⟩) ?_ ?_
          rotate_left
          ·
           intro w'
           go_simp
           with_reducible rfl
          rotate_left
          ·
           simp only [Act.put, List.setIfInBounds_toArray, List.set_cons_zero, List.set_cons_succ, i64_w, i32_w]
           rfl
          refine pure_ (i := 2) (N := some 49) (v := ?_) (a' := ?_) #[true, true, true, true, false] rfl rfl (by kernel_rfl) (fun _ _ _ h => h) (Or.inl ⟨by rfl, ?_⟩) ?_ ?_
          rotate_left
          ·
           intro w'
           go_simp
           with_reducible rfl
          rotate_left
          ·
           simp only [Act.put, List.setIfInBounds_toArray, List.set_cons_zero, List.set_cons_succ, i64_w, i32_w]
           rfl
          refine pure_ (i := 4) (N := some 7) (v := ?_) (a' := ?_) #[true, true, true, true, true] rfl rfl (by kernel_rfl) (fun _ _ _ h => h) (Or.inl ⟨by rfl, ?_⟩) ?_ ?_
          rotate_left
          ·
           intro w'
           go_simp
           with_reducible rfl
          rotate_left
          ·
           simp only [Act.put, List.setIfInBounds_toArray, List.set_cons_zero, List.set_cons_succ, i64_w, i32_w]
           rfl
          refine done_ (by kernel_rfl) ?_
          try go_wp2
          go_ret2
          exact ⟨_, by first | rfl | (simp [errW_none, errW_some] <;> rfl) | (simp [*, errW_none, errW_some] <;> rfl), by first | exact Kd.R_nil _ _ _ _ _ | exact Kd.N_nil _ _ _ _ _ | exact Kd.V_nil _ _ _ _ _ | exact Kd.Q_nil _ _ _ _ _ | exact Kd.S_nil _ _ _ _ _, by repeat (first | (with_reducible first | exact HB.out | apply bl_a | apply bl_n | apply bl_d) | exact HB.out)⟩
         ·
          replace c15 := Bool.eq_false_iff.mpr c15
          subst c15
          have H1 : (if 0 ≤ t284 then (if t284 ≤ (x8_2.length : Int) then ((rle_first.f kj9 a0 (x8_2.drop (t284 : Int).toNat)).bind fun bt291 => (if bt291.2.2.2.2.isNone = true then ((api_Value.f (([(⟨bt291.1, bt291.2.1, bt291.2.2.1⟩ : S26)] : List (S26))) (wrap64 (t283))).bind fun t301 => (if x6_2.length + t301.length < 4398046511104 then (if 0 ≤ (wrap64 (t284 + bt291.2.2.2.1)) then (if (wrap64 (t284 + bt291.2.2.2.1)) ≤ (x8_2.length : Int) then (rle_read.l0 kj9 a0 a1 l2 (x6_2 ++ t301) (x8_2.drop ((wrap64 (t284 + bt291.2.2.2.1)) : Int).toNat)) else (none)) else (none)) else (none))) else (some (([] : List (S26)), some (bt291.2.2.2.2.getD 0))))) else (none)) else (none)) = some (r1, r2) := by rw [if_neg (show ¬ (false = true) by decide)] at H; exact H
          clear H
          have H := H1
          clear H1
          by_cases c17 : 0 ≤ t284
          ·
           rw [if_pos c17] at H
           have c17b0 := eq_true c17
           have c17b1 : decide (0 ≤ t284) = true := decide_eq_true c17
           clear c17
           by_cases c18 : t284 ≤ (x8_2.length : Int)
           ·
            rw [if_pos c18] at H
            have c18b0 := eq_true c18
            have c18b1 : decide (t284 ≤ (x8_2.length : Int)) = true := decide_eq_true c18
            clear c18
            obtain ⟨y286, hy286⟩ : ∃ y_ : List Int, y_ = (x8_2.drop (t284 : Int).toNat) := ⟨_, rfl⟩
            replace H : ((rle_first.f kj9 a0 y286).bind fun bt291 => (if bt291.2.2.2.2.isNone = true then ((api_Value.f (([(⟨bt291.1, bt291.2.1, bt291.2.2.1⟩ : S26)] : List (S26))) (wrap64 (t283))).bind fun t301 => (if x6_2.length + t301.length < 4398046511104 then (if 0 ≤ (wrap64 (t284 + bt291.2.2.2.1)) then (if (wrap64 (t284 + bt291.2.2.2.1)) ≤ (x8_2.length : Int) then (rle_read.l0 kj9 a0 a1 l2 (x6_2 ++ t301) (x8_2.drop ((wrap64 (t284 + bt291.2.2.2.1)) : Int).toNat)) else (none)) else (none)) else (none))) else (some (([] : List (S26)), some (bt291.2.2.2.2.getD 0))))) = some (r1, r2) := by first | (rw [hy286]; with_reducible exact H) | (have H2_ := (Option.bind_some _ _).symm.trans H; rw [hy286]; with_reducible exact H2_) | (have H2_ := (Option.bind_some _ _).symm.trans H; with_reducible exact H2_) | with_reducible exact H | (rw [hy286]; exact H) | exact H
            have Ny286 := ak_ hy286
            clear hy286
            replace H := Option.bind_eq_some_iff.mp H
            obtain ⟨⟨t291, t292, t293, t294, t295⟩, A190, H⟩ := H
            replace H : (if t295.isNone = true then ((api_Value.f (([(⟨t291, t292, t293⟩ : S26)] : List (S26))) (wrap64 (t283))).bind fun t301 => (if x6_2.length + t301.length < 4398046511104 then (if 0 ≤ (wrap64 (t284 + t294)) then (if (wrap64 (t284 + t294)) ≤ (x8_2.length : Int) then (rle_read.l0 kj9 a0 a1 l2 (x6_2 ++ t301) (x8_2.drop ((wrap64 (t284 + t294)) : Int).toNat)) else (none)) else (none)) else (none))) else (some (([] : List (S26)), some (t295.getD 0)))) = some (r1, r2) := H
            have A19 := ak_ A190
            clear A190
            rcases t295 with _ | q297
            ·
             have H1 : ((api_Value.f (([(⟨t291, t292, t293⟩ : S26)] : List (S26))) (wrap64 (t283))).bind fun t301 => (if x6_2.length + t301.length < 4398046511104 then (if 0 ≤ (wrap64 (t284 + t294)) then (if (wrap64 (t284 + t294)) ≤ (x8_2.length : Int) then (rle_read.l0 kj9 a0 a1 l2 (x6_2 ++ t301) (x8_2.drop ((wrap64 (t284 + t294)) : Int).toNat)) else (none)) else (none)) else (none))) = some (r1, r2) := by rw [if_pos (show (none : Option Int).isNone = true by rfl)] at H; exact H
             clear H
             have H := H1
             clear H1
             try simp only [errW_none, errW_some]
             obtain ⟨y298, hy298⟩ : ∃ y_ : List (S26), y_ = (([(⟨t291, t292, t293⟩ : S26)] : List (S26))) := ⟨_, rfl⟩
             replace H : ((api_Value.f y298 (wrap64 (t283))).bind fun t301 => (if x6_2.length + t301.length < 4398046511104 then (if 0 ≤ (wrap64 (t284 + t294)) then (if (wrap64 (t284 + t294)) ≤ (x8_2.length : Int) then (rle_read.l0 kj9 a0 a1 l2 (x6_2 ++ t301) (x8_2.drop ((wrap64 (t284 + t294)) : Int).toNat)) else (none)) else (none)) else (none))) = some (r1, r2) := by first | (rw [hy298]; with_reducible exact H) | (have H2_ := (Option.bind_some _ _).symm.trans H; rw [hy298]; with_reducible exact H2_) | (have H2_ := (Option.bind_some _ _).symm.trans H; with_reducible exact H2_) | with_reducible exact H | (rw [hy298]; exact H) | exact H
             have Ny298 := ak_ hy298
             clear hy298
             replace H := Option.bind_eq_some_iff.mp H
             obtain ⟨t301, A200, H⟩ := H
             replace H : (if x6_2.length + t301.length < 4398046511104 then (if 0 ≤ (wrap64 (t284 + t294)) then (if (wrap64 (t284 + t294)) ≤ (x8_2.length : Int) then (rle_read.l0 kj9 a0 a1 l2 (x6_2 ++ t301) (x8_2.drop ((wrap64 (t284 + t294)) : Int).toNat)) else (none)) else (none)) else (none)) = some (r1, r2) := H
             have A20 := ak_ A200
             clear A200
             by_cases c21 : x6_2.length + t301.length < 4398046511104
             ·
              rw [if_pos c21] at H
              have LMc21 := ak_ c21
              clear c21
              obtain ⟨y304, hy304⟩ : ∃ y_ : List (S26), y_ = (x6_2 ++ t301) := ⟨_, rfl⟩
              replace H : (if 0 ≤ (wrap64 (t284 + t294)) then (if (wrap64 (t284 + t294)) ≤ (x8_2.length : Int) then (rle_read.l0 kj9 a0 a1 l2 y304 (x8_2.drop ((wrap64 (t284 + t294)) : Int).toNat)) else (none)) else (none)) = some (r1, r2) := by first | (rw [hy304]; with_reducible exact H) | (have H2_ := (Option.bind_some _ _).symm.trans H; rw [hy304]; with_reducible exact H2_) | (have H2_ := (Option.bind_some _ _).symm.trans H; with_reducible exact H2_) | with_reducible exact H | (rw [hy304]; exact H) | exact H
              have Ny304 := ak_ hy304
              clear hy304
              obtain ⟨ji22, hji22⟩ : ∃ j_ : Int, (wrap64 (t284 + t294)) = j_ := ⟨_, rfl⟩
              replace H : (if 0 ≤ (ji22) then (if (ji22) ≤ (x8_2.length : Int) then (rle_read.l0 kj9 a0 a1 l2 y304 (x8_2.drop ((ji22) : Int).toNat)) else (none)) else (none)) = some (r1, r2) := by first | (rw [hji22] at H; exact H) | (simp only [hji22] at H ⊢; exact H) | exact H
              (try rw [hji22] at A19)
              (try rw [hji22] at A20)
              have hji22w : (IntKind.i64.wrap (t284 + t294)) = ji22 := (i64_w _).trans hji22
              by_cases c23 : 0 ≤ (ji22)
              ·
               rw [if_pos c23] at H
               have c23b0 := eq_true c23
               have c23b1 : decide (0 ≤ (ji22)) = true := decide_eq_true c23
               clear c23
               by_cases c24 : (ji22) ≤ (x8_2.length : Int)
               ·
                rw [if_pos c24] at H
                have c24b0 := eq_true c24
                have c24b1 : decide ((ji22) ≤ (x8_2.length : Int)) = true := decide_eq_true c24
                clear c24
                obtain ⟨y307, hy307⟩ : ∃ y_ : List Int, y_ = (x8_2.drop ((ji22) : Int).toNat) := ⟨_, rfl⟩
                replace H : (rle_read.l0 kj9 a0 a1 l2 y304 y307) = some (r1, r2) := by first | (rw [hy307]; with_reducible exact H) | (have H2_ := (Option.bind_some _ _).symm.trans H; rw [hy307]; with_reducible exact H2_) | (have H2_ := (Option.bind_some _ _).symm.trans H; with_reducible exact H2_) | with_reducible exact H | (rw [hy307]; exact H) | exact H
                have Ny307 := ak_ hy307
                clear hy307
                have H' := ak_ H
                clear H
                have q25 : (t284 : Int) ≤ ((x8_2.length : Int) : Int) := of_decide_eq_true (by first | (with_reducible assumption) | assumption)
                obtain ⟨i025, hi025, _, hsz25, _⟩ := info_parts info5
                have hroom25 : x8_2.length ≤ co11 := (Kd.V_reads' HO_8.out).2.1
                have hC25 : Kd.F (Kd.int .u8) _ _ Ao11 x8_2.length x8_2 := (Kd.V_at (base := w.heap.size) HO_8.out).2.2
                have q025 : (0 : Int) ≤ (t284 : Int) := of_decide_eq_true (by first | (with_reducible assumption) | assumption)
                have hcut25 := cut_from (P := Tryd.prog) 22 5 .i64 Tryd.underlying22 hi025 1 hsz25 Ao11 x8_2.length co11 t284 q025 q25
                have hr25 := Kd.F_cut (m := (t284 : Int).toNat) (c := co11) hC25 (by omega) hroom25
                obtain ⟨A25, hA25⟩ : ∃ A1, A1 = (if co11 = (t284 : Int).toNat then Ao11 else (Ao11 : Option Addr).map (·.add ((t284 : Int).toNat * 1))) := ⟨_, rfl⟩
                obtain ⟨c25, hc25⟩ : ∃ c1, c1 = co11 - (t284 : Int).toNat := ⟨_, rfl⟩
                have hy25 : y286.length = x8_2.length - (t284 : Int).toNat := (by rw [Ny286.out, List.length_drop] <;> omega)
                rw [show (x8_2).drop (t284 : Int).toNat = y286 from Ny286.out.symm] at hr25
                replace hr25 : Kd.F (Kd.int .u8) _ _ A25 y286.length y286 := (by rw [hA25]; exact hr25)
                rw [← hy25, ← hA25, ← hc25] at hcut25
                have HO290 := ak_ (show Kd.V (Kd.int .u8) 5 _ w.heap.size _ (.slice A25 y286.length c25) y286 from Kd.V_mk (by rw [hy25, hc25]; exact Nat.sub_le_sub_right hroom25 _) hr25)
                have HC290 := ak_ (show y286.length ≤ c25 from by rw [hy25, hc25]; exact Nat.sub_le_sub_right hroom25 _)
                clear hr25 hC25 hroom25 hi025 hsz25 hc25
                have KY25 := ak_ hy25
                have KA25 := ak_ hA25
                clear hy25 hA25
                replace q25 := eq_true q25
                try go_wp2_with (first | ((with_reducible refine gate_callee (f := 68) rfl ?_); refine goesL_ (some 55) rfl rfl Tryd.func68 (by kernel_rfl) rfl #[.int .i64 a0, .slice A25 y286.length c25] rfl (by (try simp only [List.map_toArray, List.map_cons, List.map_nil]); first | done | rfl | (simp only [List.length_drop, List.length_take]; rfl)) ?_; (first | (with_reducible refine (rle_first.calls GA kj9 a0 _ _ y286 t291 t292 t293 t294 none _ ?side1 ?side2 ?side3 A19.out).mono ?_) | ((try rw [hji22]); (try rw [← KY25.out]); (with_reducible refine (rle_first.calls GA kj9 a0 _ _ y286 t291 t292 t293 t294 none _ ?side1 ?side2 ?side3 A19.out).mono ?_))); (case side1 => repeat (first | exact (Kd.V_reads' HO290.out).2.2 | (with_reducible refine Kd.C_alloc ?_ _) | (with_reducible refine Kd.C_drewN ?_ _) | (with_reducible refine Kd.C_drew ?_))); (case side2 => exact (Kd.V_reads' HO290.out).2.1); (case side3 => exact Glob.below HG.out (by repeat (first | (with_reducible first | exact HB.out | apply bl_a | apply bl_n | apply bl_d) | exact HB.out))); rintro e w26 ⟨rfl, hb⟩; refine ⟨_, rfl, ?_⟩; have n0_ := ak_ (Kd.V_below (by (with_reducible repeat (first | apply Kd.V_alloc | apply Kd.V_drewN | apply Kd.V_drew)); exact HO_2.out) hb); have n1_ := ak_ (Kd.R_below (by (with_reducible repeat (first | apply Kd.R_alloc | apply Kd.R_drewN | apply Kd.R_drew)); exact HO_6.out) hb); have n2_ := ak_ (Kd.V_below (by (with_reducible repeat (first | apply Kd.V_alloc | apply Kd.V_drewN | apply Kd.V_drew)); exact HO_8.out) hb); have n3_ := ak_ (Kd.V_below (by (with_reducible repeat (first | apply Kd.V_alloc | apply Kd.V_drewN | apply Kd.V_drew)); exact HO290.out) hb); have n4_ := ak_ (below_step (by repeat (first | (with_reducible first | exact HB.out | apply bl_a | apply bl_n | apply bl_d) | exact HB.out)) hb); clear HO_2; clear HO_6; clear HO_8; clear HO290; clear HB; have HO_2 := n0_; have HO_6 := n1_; have HO_8 := n2_; have HO290 := n3_; have HB := n4_; clear n0_ n1_ n2_ n3_ n4_; (try clear hb); (try clear hb2); (try clear hk); (try clear hi); (try simp only [errW_none, errW_some])) | ((with_reducible refine gate_dst (N := 12) rfl ?_); (try (refine gate_guard (by rfl) ?_; dsimp only)); refine box_event ?hg (N := 12) ?hd (cs := #[.int .i64 0, .int .i64 0, .string (⟨#[]⟩ : ByteArray)]) (t := 26) ?hr ?_; (case hd => rfl); (case hg => rfl); (case hr => first | (go_simp; done) | (go_simp; rfl)); intro gb296 hg w27 hbox hb; have n0_ := ak_ (Kd.V_below (Kd.V_elderB (by (with_reducible repeat (first | apply Kd.V_alloc | apply Kd.V_drewN | apply Kd.V_drew)); exact HO_2.out) gb296 (Nat.le_of_eq hg.symm)) hb); have n1_ := ak_ (Kd.R_below (Kd.R_elderB (by (with_reducible repeat (first | apply Kd.R_alloc | apply Kd.R_drewN | apply Kd.R_drew)); exact HO_6.out) gb296 (Nat.le_of_eq hg.symm)) hb); have n2_ := ak_ (Kd.V_below (Kd.V_elderB (by (with_reducible repeat (first | apply Kd.V_alloc | apply Kd.V_drewN | apply Kd.V_drew)); exact HO_8.out) gb296 (Nat.le_of_eq hg.symm)) hb); have n3_ := ak_ (Kd.V_below (Kd.V_elderB (by (with_reducible repeat (first | apply Kd.V_alloc | apply Kd.V_drewN | apply Kd.V_drew)); exact HO290.out) gb296 (Nat.le_of_eq hg.symm)) hb); have n4_ := ak_ (below_step (by repeat (first | (with_reducible first | exact HB.out | apply bl_a | apply bl_n | apply bl_d) | exact HB.out)) hb); have n5_ := ak_ (hbox); have n6_ := ak_ ((by rw [hg]; exact (below_size (by repeat (first | (with_reducible first | exact HB.out | apply bl_a | apply bl_n | apply bl_d) | exact HB.out))) : w.heap.size ≤ gb296)); have n7_ := ak_ ((by rw [hg]; exact (below_size (by repeat (first | (with_reducible first | exact HB.out | apply bl_a | apply bl_n | apply bl_d) | exact HB.out))) : w.heap.size ≤ gb296)); clear HO_2; clear HO_6; clear HO_8; clear HO290; clear HB; have HO_2 := n0_; have HO_6 := n1_; have HO_8 := n2_; have HO290 := n3_; have HB := n4_; have BK296 := n5_; have GW296 := n6_; have GE296 := n7_; clear n0_ n1_ n2_ n3_ n4_ n5_ n6_ n7_; clear hb hbox hg; have hcz28_0 : w27.cell? ⟨gb296, 0, none⟩ = some (.int .i64 0) := (blk_cell BK296.out 0).trans rfl; have hcz28_1 : w27.cell? ⟨gb296, 1, none⟩ = some (.int .i64 0) := (blk_cell BK296.out 1).trans rfl; have hcz28_2 : w27.cell? ⟨gb296, 2, none⟩ = some (.string (⟨#[]⟩ : ByteArray)) := (blk_cell BK296.out 2).trans rfl; have hfz28_0 := blk_frozen BK296.out 0; have hfz28_1 := blk_frozen BK296.out 1; have hfz28_2 := blk_frozen BK296.out 2))
                have n0_ : Aside0 (Kd.V (Kd.int .u8) 5 (((w27.setCell ⟨gb296, 0, none⟩ (.int .i64 t291)).setCell ⟨gb296, 1, none⟩ (.int .i64 t292)).setCell ⟨gb296, 2, none⟩ (.string t293)) w.heap.size (fun k_ => (P2_ k_ ∨ w.heap.size ≤ k_) ∧ some k_ ≠ (u6 : Value).ownBlock ∧ k_ ≠ gb296) (.slice A2 l2.length c2) l2) := ⟨by (with_reducible repeat (first | apply Kd.V_alloc | apply Kd.V_drewN | apply Kd.V_drew)); exact Kd.V_mono (Kd.V_far (p := ⟨gb296, 2, none⟩) (Kd.V_far (p := ⟨gb296, 1, none⟩) (Kd.V_far (p := ⟨gb296, 0, none⟩) (Kd.V_mono HO_2.out (fun k_ hk => (⟨hk, hk.2⟩ : _ ∧ k_ ≠ gb296))) (fun _ hk => hk.2) (.int .i64 t291)) (fun _ hk => hk.2) (.int .i64 t292)) (fun _ hk => hk.2) (.string t293)) (fun _ hk => ⟨hk.1.1.1, ⟨hk.1.1.2, hk.1.2⟩⟩)⟩
                have n1_ : Aside0 (Kd.R k26 26 (((w27.setCell ⟨gb296, 0, none⟩ (.int .i64 t291)).setCell ⟨gb296, 1, none⟩ (.int .i64 t292)).setCell ⟨gb296, 2, none⟩ (.string t293)) w.heap.size (fun k_ => (w.heap.size ≤ k_) ∧ k_ ≠ gb296) u6 x6_2) := ⟨by (with_reducible repeat (first | apply Kd.R_alloc | apply Kd.R_drewN | apply Kd.R_drew)); exact Kd.R_mono (Kd.R_far (p := ⟨gb296, 2, none⟩) (Kd.R_far (p := ⟨gb296, 1, none⟩) (Kd.R_far (p := ⟨gb296, 0, none⟩) (Kd.R_mono HO_6.out (fun k_ hk => (⟨hk, hk.2⟩ : _ ∧ k_ ≠ gb296))) (fun _ hk => hk.2) (.int .i64 t291)) (fun _ hk => hk.2) (.int .i64 t292)) (fun _ hk => hk.2) (.string t293)) (fun _ hk => ⟨hk.1.1, hk.1.2⟩)⟩
                have n2_ : Aside0 (Kd.V (Kd.int .u8) 5 (((w27.setCell ⟨gb296, 0, none⟩ (.int .i64 t291)).setCell ⟨gb296, 1, none⟩ (.int .i64 t292)).setCell ⟨gb296, 2, none⟩ (.string t293)) w.heap.size (fun k_ => (P2_ k_ ∨ w.heap.size ≤ k_) ∧ some k_ ≠ (u6 : Value).ownBlock ∧ k_ ≠ gb296) (.slice Ao11 x8_2.length co11) x8_2) := ⟨by (with_reducible repeat (first | apply Kd.V_alloc | apply Kd.V_drewN | apply Kd.V_drew)); exact Kd.V_mono (Kd.V_far (p := ⟨gb296, 2, none⟩) (Kd.V_far (p := ⟨gb296, 1, none⟩) (Kd.V_far (p := ⟨gb296, 0, none⟩) (Kd.V_mono HO_8.out (fun k_ hk => (⟨hk, hk.2⟩ : _ ∧ k_ ≠ gb296))) (fun _ hk => hk.2) (.int .i64 t291)) (fun _ hk => hk.2) (.int .i64 t292)) (fun _ hk => hk.2) (.string t293)) (fun _ hk => ⟨hk.1.1.1, ⟨hk.1.1.2, hk.1.2⟩⟩)⟩
                have n3_ : Aside0 (Kd.V (Kd.int .u8) 5 (((w27.setCell ⟨gb296, 0, none⟩ (.int .i64 t291)).setCell ⟨gb296, 1, none⟩ (.int .i64 t292)).setCell ⟨gb296, 2, none⟩ (.string t293)) w.heap.size (fun k_ => (P2_ k_ ∨ w.heap.size ≤ k_) ∧ some k_ ≠ (u6 : Value).ownBlock ∧ k_ ≠ gb296) (.slice A25 y286.length c25) y286) := ⟨by (with_reducible repeat (first | apply Kd.V_alloc | apply Kd.V_drewN | apply Kd.V_drew)); exact Kd.V_mono (Kd.V_far (p := ⟨gb296, 2, none⟩) (Kd.V_far (p := ⟨gb296, 1, none⟩) (Kd.V_far (p := ⟨gb296, 0, none⟩) (Kd.V_mono HO290.out (fun k_ hk => (⟨hk, hk.2⟩ : _ ∧ k_ ≠ gb296))) (fun _ hk => hk.2) (.int .i64 t291)) (fun _ hk => hk.2) (.int .i64 t292)) (fun _ hk => hk.2) (.string t293)) (fun _ hk => ⟨hk.1.1.1, ⟨hk.1.1.2, hk.1.2⟩⟩)⟩
                have n4_ : Aside0 ((((w27.setCell ⟨gb296, 0, none⟩ (.int .i64 t291)).setCell ⟨gb296, 1, none⟩ (.int .i64 t292)).setCell ⟨gb296, 2, none⟩ (.string t293)).heap[gb296]? = some (.cells #[.int .i64 t291, .int .i64 t292, .string t293] 26 (0, 0))) := ⟨by (with_reducible repeat (first | refine bk_n ?_ _ | refine bk_d ?_ | refine bk_a ?_ _)); refine blk_put (cs := #[.int .i64 t291, .int .i64 t292, .string (⟨#[]⟩ : ByteArray)]) ?_ 2 _ rfl; (with_reducible repeat (first | refine bk_n ?_ _ | refine bk_d ?_ | refine bk_a ?_ _)); refine blk_put (cs := #[.int .i64 t291, .int .i64 0, .string (⟨#[]⟩ : ByteArray)]) ?_ 1 _ rfl; (with_reducible repeat (first | refine bk_n ?_ _ | refine bk_d ?_ | refine bk_a ?_ _)); refine blk_put (cs := #[.int .i64 0, .int .i64 0, .string (⟨#[]⟩ : ByteArray)]) ?_ 0 _ rfl; (with_reducible repeat (first | refine bk_n ?_ _ | refine bk_d ?_ | refine bk_a ?_ _)); exact BK296.out⟩
                have n5_ : Aside0 (Below w.heap.size w (((w27.setCell ⟨gb296, 0, none⟩ (.int .i64 t291)).setCell ⟨gb296, 1, none⟩ (.int .i64 t292)).setCell ⟨gb296, 2, none⟩ (.string t293))) := ⟨by repeat (first | (with_reducible first | exact HB.out | apply bl_a | apply bl_n | apply bl_d | refine below_set ?_ GE296.out) | exact HB.out)⟩
                (try clear HO_2)
                (try clear HO_6)
                (try clear HO_8)
                (try clear HO290)
                (try clear BK296)
                (try clear HB)
                generalize (((w27.setCell ⟨gb296, 0, none⟩ (.int .i64 t291)).setCell ⟨gb296, 1, none⟩ (.int .i64 t292)).setCell ⟨gb296, 2, none⟩ (.string t293)) = w29 at n0_ n1_ n2_ n3_ n4_ n5_ ⊢
                have HO_2 := n0_
                have HO_6 := n1_
                have HO_8 := n2_
                have HO290 := n3_
                have BK296 := n4_
                have HB := n5_
                clear n0_ n1_ n2_ n3_ n4_ n5_
                have n0_ := ak_ (Kd.V_drew HO_2.out)
                have n1_ := ak_ (Kd.R_drew HO_6.out)
                have n2_ := ak_ (Kd.V_drew HO_8.out)
                have n3_ := ak_ (Kd.V_drew HO290.out)
                have n4_ := ak_ (bk_d BK296.out)
                have n5_ := ak_ (bl_d HB.out)
                clear HO_2
                clear HO_6
                clear HO_8
                clear HO290
                clear BK296
                clear HB
                have HO_2 := n0_
                have HO_6 := n1_
                have HO_8 := n2_
                have HO290 := n3_
                have BK296 := n4_
                have HB := n5_
                clear n0_ n1_ n2_ n3_ n4_ n5_
                have q31 : ((ji22) : Int) ≤ ((x8_2.length : Int) : Int) := of_decide_eq_true (by first | (with_reducible assumption) | assumption)
                obtain ⟨i031, hi031, _, hsz31, _⟩ := info_parts info5
                have hroom31 : x8_2.length ≤ co11 := (Kd.V_reads' HO_8.out).2.1
                have hC31 : Kd.F (Kd.int .u8) _ _ Ao11 x8_2.length x8_2 := (Kd.V_at (base := w.heap.size) HO_8.out).2.2
                have q031 : (0 : Int) ≤ ((ji22) : Int) := of_decide_eq_true (by first | (with_reducible assumption) | assumption)
                have hcut31 := cut_from (P := Tryd.prog) 22 5 .i64 Tryd.underlying22 hi031 1 hsz31 Ao11 x8_2.length co11 (ji22) q031 q31
                have hr31 := Kd.F_cut (m := ((ji22) : Int).toNat) (c := co11) hC31 (by omega) hroom31
                obtain ⟨A31, hA31⟩ : ∃ A1, A1 = (if co11 = ((ji22) : Int).toNat then Ao11 else (Ao11 : Option Addr).map (·.add (((ji22) : Int).toNat * 1))) := ⟨_, rfl⟩
                obtain ⟨c31, hc31⟩ : ∃ c1, c1 = co11 - ((ji22) : Int).toNat := ⟨_, rfl⟩
                have hy31 : y307.length = x8_2.length - ((ji22) : Int).toNat := (by rw [Ny307.out, List.length_drop] <;> omega)
                rw [show (x8_2).drop ((ji22) : Int).toNat = y307 from Ny307.out.symm] at hr31
                replace hr31 : Kd.F (Kd.int .u8) _ _ A31 y307.length y307 := (by rw [hA31]; exact hr31)
                rw [← hy31, ← hA31, ← hc31] at hcut31
                have HO311 := ak_ (show Kd.V (Kd.int .u8) 5 _ w.heap.size _ (.slice A31 y307.length c31) y307 from Kd.V_mk (by rw [hy31, hc31]; exact Nat.sub_le_sub_right hroom31 _) hr31)
                have HC311 := ak_ (show y307.length ≤ c31 from by rw [hy31, hc31]; exact Nat.sub_le_sub_right hroom31 _)
                clear hr31 hC31 hroom31 hi031 hsz31 hc31
                have KY31 := ak_ hy31
                have KA31 := ak_ hA31
                clear hy31 hA31
                replace q31 := eq_true q31
                refine start_ (n := 14) (S := fun w' => w'.cell? ⟨gb296, 0, none⟩ = some (.int .i64 t291) ∧ w'.cell? ⟨gb296, 1, none⟩ = some (.int .i64 t292) ∧ w'.cell? ⟨gb296, 2, none⟩ = some (.string t293)) (ds := []) #[false, false, false, false, false, false, false, false, false, false, false, false, false, false] (by kernel_rfl) rfl rfl ⟨(blk_cell BK296.out 0).trans rfl, (blk_cell BK296.out 1).trans rfl, (blk_cell BK296.out 2).trans rfl⟩ (fun hHeld => ?_); refine with_tabW rle_read.tab11 rle_read.bits11 (fun HT_ HW_ => ?_)
                generalize w29.drew = w30 at HO_2 HO_6 HO_8 HO290 BK296 HB HO311 hHeld ⊢
                refine pure_ (i := 0) (N := some 62) (v := ?_) (a' := ?_) #[true, false, false, false, false, false, false, false, false, false, false, false, false, false] rfl rfl (any_of HT_.out (by kernel_rfl)) (fun _ _ _ h => h) (Or.inl ⟨by rfl, ?_⟩) ?_ ?_
                rotate_left
                ·
                 intro w'
                 go_simp
                 with_reducible rfl
                rotate_left
                ·
                 simp only [Act.put, List.setIfInBounds_toArray, List.set_cons_zero, List.set_cons_succ, i64_w, i32_w]
                 rfl
                refine pure_ (i := 3) (N := some 65) (v := ?_) (a' := ?_) #[true, false, false, true, false, false, false, false, false, false, false, false, false, false] rfl rfl (any_of HT_.out (by kernel_rfl)) (fun _ _ _ h => h) (Or.inl ⟨by rfl, ?_⟩) ?_ ?_
                rotate_left
                ·
                 intro w'
                 go_simp
                 with_reducible rfl
                rotate_left
                ·
                 simp only [Act.put, List.setIfInBounds_toArray, List.set_cons_zero, List.set_cons_succ, i64_w, i32_w]
                 rfl
                refine pure_ (i := 4) (N := some 66) (v := ?_) (a' := ?_) #[true, false, false, true, true, false, false, false, false, false, false, false, false, false] rfl rfl (any_of HT_.out (by kernel_rfl)) (fun _ _ _ h => h) (Or.inl ⟨by rfl, ?_⟩) ?_ ?_
                rotate_left
                ·
                 intro w'
                 go_simp
                 with_reducible rfl
                rotate_left
                ·
                 simp only [Act.put, List.setIfInBounds_toArray, List.set_cons_zero, List.set_cons_succ, i64_w, i32_w]
                 rfl
                refine pure_ (i := 7) (N := some 69) (v := ?_) (a' := ?_) #[true, false, false, true, true, false, false, true, false, false, false, false, false, false] rfl rfl (any_of HT_.out (by kernel_rfl)) (fun _ _ _ h => h) (Or.inl ⟨by rfl, ?_⟩) ?_ ?_
                rotate_left
                ·
                 intro w'
                 go_simp
                 with_reducible rfl
                rotate_left
                ·
                 simp only [Act.put, List.setIfInBounds_toArray, List.set_cons_zero, List.set_cons_succ, i64_w, i32_w]
                 rfl
                refine pure_ (i := 8) (N := some 70) (v := ?_) (a' := ?_) #[true, false, false, true, true, false, false, true, true, false, false, false, false, false] rfl rfl (any_of HT_.out (by kernel_rfl)) (fun _ _ _ h => h) (Or.inl ⟨by rfl, ?_⟩) ?_ ?_
                rotate_left
                ·
                 intro w'
                 go_simp
                 with_reducible rfl
                rotate_left
                ·
                 simp only [Act.put, List.setIfInBounds_toArray, List.set_cons_zero, List.set_cons_succ, i64_w, i32_w]
                 rfl
                refine pure_ (i := 9) (N := some 71) (v := ?_) (a' := ?_) #[true, false, false, true, true, false, false, true, true, true, false, false, false, false] rfl rfl (any_of HT_.out (by kernel_rfl)) (fun _ _ _ h => h) (Or.inl ⟨by rfl, ?_⟩) ?_ ?_
                rotate_left
                ·
                 intro w'
                 go_simp
                 with_reducible rfl
                rotate_left
                ·
                 simp only [Act.put, List.setIfInBounds_toArray, List.set_cons_zero, List.set_cons_succ, i64_w, i32_w]
                 rfl
                refine pure_ (i := 10) (N := some 72) (v := ?_) (a' := ?_) #[true, false, false, true, true, false, false, true, true, true, true, false, false, false] rfl rfl (any_of HT_.out (by kernel_rfl)) (fun _ _ _ h => h) (Or.inl ⟨by rfl, ?_⟩) ?_ ?_
                rotate_left
                ·
                 intro w'
                 go_simp
                 with_reducible rfl
                rotate_left
                ·
                 simp only [Act.put, List.setIfInBounds_toArray, List.set_cons_zero, List.set_cons_succ, i64_w, i32_w]
                 rfl
                refine pure_ (i := 11) (N := some 73) (v := ?_) (a' := ?_) #[true, false, false, true, true, false, false, true, true, true, true, true, false, false] rfl rfl (any_of HT_.out (by kernel_rfl)) (fun _ _ _ h => h) (Or.inl ⟨by rfl, ?_⟩) ?_ ?_
                rotate_left
                ·
                 intro w'
                 go_simp
                 with_reducible rfl
                rotate_left
                ·
                 simp only [Act.put, List.setIfInBounds_toArray, List.set_cons_zero, List.set_cons_succ, i64_w, i32_w]
                 rfl
                refine take_ (i := 1) (N := some 63) (v := ?_) (a' := ?_) #[true, true, false, true, true, false, false, true, true, true, true, true, false, false] rfl rfl (take_ofW HT_.out HW_.out (by kernel_rfl)) (fun _ _ _ h => h) (Or.inl ⟨by rfl, ?_⟩) hHeld ?_ ?_
                rotate_left
                ·
                 rintro w' ⟨s0, s1, s2⟩
                 go_simp
                 with_reducible rfl
                rotate_left
                ·
                 simp only [Act.put, List.setIfInBounds_toArray, List.set_cons_zero, List.set_cons_succ, i64_w, i32_w]
                 rfl
                refine one_ (i := 2) (N := some 64) #[true, true, true, true, true, false, false, true, true, true, true, true, false, false] rfl rfl (one_of HT_.out (by kernel_rfl)) (by decide) (fun K hK => ?_)
                refine Kd.R_lit_step k26 _ 26 ?hg (N := 64) ?hd (xs := ([(⟨t291, t292, t293⟩ : S26)] : List (S26))) (inner := [.int .i64 t291, .int .i64 t292, .string t293]) (ok := fun _ => True) (okp := fun _ => True) ?hr ?hp (fun _ hk => hk) trivial (Below.refl _ _) (Nat.le_refl _) (by simp) ?_; (case hd => rfl); (case hg => rfl); (case hr => first | (go_simp; done) | (go_simp; rfl)); (case hp => exact (Reps.c3 (show Kd.M k26 _ _ _ (⟨t291, t292, t293⟩ : S26) [.int .i64 t291, .int .i64 t292, .string t293] from (k26_mkM _ _ _ (⟨t291, t292, t293⟩ : S26) )) (Reps.none _ _)))
                intro v299 w32 ho33 hb hg_ hnew_
                clear hg_ hnew_
                (first | rw [← Ny298.out] at ho33 | (simp only [Int.reduceToNat] at ho33; rw [← Ny298.out] at ho33))
                have n0_ := ak_ (Kd.V_elder' (by (with_reducible repeat (first | apply Kd.V_alloc | apply Kd.V_drewN | apply Kd.V_drew)); exact HO_2.out) (Kd.R_base ho33) hb)
                have n1_ := ak_ (Kd.R_elder' (by (with_reducible repeat (first | apply Kd.R_alloc | apply Kd.R_drewN | apply Kd.R_drew)); exact HO_6.out) (Kd.R_base ho33) hb)
                have n2_ := ak_ (Kd.V_elder' (by (with_reducible repeat (first | apply Kd.V_alloc | apply Kd.V_drewN | apply Kd.V_drew)); exact HO_8.out) (Kd.R_base ho33) hb)
                have n3_ := ak_ (Kd.V_elder' (by (with_reducible repeat (first | apply Kd.V_alloc | apply Kd.V_drewN | apply Kd.V_drew)); exact HO290.out) (Kd.R_base ho33) hb)
                have n4_ := ak_ (Kd.V_elder' (by (with_reducible repeat (first | apply Kd.V_alloc | apply Kd.V_drewN | apply Kd.V_drew)); exact HO311.out) (Kd.R_base ho33) hb)
                have n5_ := ak_ (Kd.R_lower (Kd.R_newB (Kd.R_new' (Kd.R_newM (M := fun k_ => (w.heap.size ≤ k_)) ho33 (below_size (by repeat (first | (with_reducible first | exact HB.out | apply bl_a | apply bl_n | apply bl_d | refine below_set ?_ GE296.out) | exact HB.out))) (fun k_ h_ => h_)) (Kd.R_lt (by (with_reducible repeat (first | apply Kd.R_alloc | apply Kd.R_drewN | apply Kd.R_drew)); exact HO_6.out))) (g := gb296) (o := .cells #[.int .i64 t291, .int .i64 t292, .string t293] 26 (0, 0)) (by (with_reducible repeat (first | refine bk_n ?_ _ | refine bk_d ?_ | refine bk_a ?_ _)); exact BK296.out)) (below_size (by repeat (first | (with_reducible first | exact HB.out | apply bl_a | apply bl_n | apply bl_d | refine below_set ?_ GE296.out) | exact HB.out))))
                have n6_ := ak_ (blk_below (g := gb296) (o := .cells #[.int .i64 t291, .int .i64 t292, .string t293] 26 (0, 0)) (by (with_reducible repeat (first | refine bk_n ?_ _ | refine bk_d ?_ | refine bk_a ?_ _)); exact BK296.out) hb)
                have n7_ := ak_ (below_step (by repeat (first | (with_reducible first | exact HB.out | apply bl_a | apply bl_n | apply bl_d | refine below_set ?_ GE296.out) | exact HB.out)) hb)
                clear HO_2
                clear HO_6
                clear HO_8
                clear HO290
                clear HO311
                clear BK296
                clear HB
                have HO_2 := n0_
                have HO_6 := n1_
                have HO_8 := n2_
                have HO290 := n3_
                have HO311 := n4_
                have HO300 := n5_
                have BK296 := n6_
                have HB := n7_
                clear n0_ n1_ n2_ n3_ n4_ n5_ n6_ n7_
                clear hb ho33
                obtain ⟨Ao34, co34, eo34⟩ := Kd.R_slice HO300.out
                (first | subst eo34 | (injection eo34 with f1_ f2_ f3_; have f4_ := f1_.symm; have f5_ := f3_.symm; clear f1_ f2_ f3_; subst f4_; subst f5_))
                refine hK.out _ _ ⟨(blk_cell BK296.out 0).trans rfl, (blk_cell BK296.out 1).trans rfl, (blk_cell BK296.out 2).trans rfl⟩ (fun hHeld => ?_)
                clear hK K
                refine norm_ (a' := ?_) ?_ ?_
                rotate_left
                ·
                 show Act.put _ (some 64) _ = _
                 simp only [Act.put, List.setIfInBounds_toArray, List.set_cons_zero, List.set_cons_succ, i64_w, i32_w]
                 rfl
                refine one_ (i := 5) (N := some 67) #[true, true, true, true, true, true, false, true, true, true, true, true, false, false] rfl rfl (one_of HT_.out (by kernel_rfl)) (by decide) (fun K hK => ?_)
                refine goes_ Tryd.func69 (by kernel_rfl) rfl #[.slice Ao34 y298.length co34, .int .i64 (wrap64 (t283))] (by rfl) rfl rfl (by (try simp only [List.map_toArray, List.map_cons, List.map_nil]); first | done | rfl | (simp only [List.length_drop, List.length_take]; rfl)) ?_
                with_reducible refine (api_Value.calls _ _ y298 (wrap64 (t283)) t301 _ ?side1 ?side2 A20.out).mono ?_
                (case side1 => repeat (first | exact (Kd.R_reads' HO300.out).2.2 | (with_reducible refine Kd.C_alloc ?_ _) | (with_reducible refine Kd.C_drewN ?_ _) | (with_reducible refine Kd.C_drew ?_)))
                (case side2 => exact (Kd.R_reads' HO300.out).2.1)
                rintro e w35 ⟨v302, rfl, ho0, hb⟩
                refine ⟨_, rfl, ?_⟩
                have n0_ := ak_ (Kd.V_elder' (by (with_reducible repeat (first | apply Kd.V_alloc | apply Kd.V_drewN | apply Kd.V_drew)); exact HO_2.out) (Kd.R_base ho0) hb)
                have n1_ := ak_ (Kd.R_elder' (by (with_reducible repeat (first | apply Kd.R_alloc | apply Kd.R_drewN | apply Kd.R_drew)); exact HO_6.out) (Kd.R_base ho0) hb)
                have n2_ := ak_ (Kd.V_elder' (by (with_reducible repeat (first | apply Kd.V_alloc | apply Kd.V_drewN | apply Kd.V_drew)); exact HO_8.out) (Kd.R_base ho0) hb)
                have n3_ := ak_ (Kd.V_elder' (by (with_reducible repeat (first | apply Kd.V_alloc | apply Kd.V_drewN | apply Kd.V_drew)); exact HO290.out) (Kd.R_base ho0) hb)
                have n4_ := ak_ (Kd.V_elder' (by (with_reducible repeat (first | apply Kd.V_alloc | apply Kd.V_drewN | apply Kd.V_drew)); exact HO311.out) (Kd.R_base ho0) hb)
                have n5_ := ak_ (Kd.R_elder' (by (with_reducible repeat (first | apply Kd.R_alloc | apply Kd.R_drewN | apply Kd.R_drew)); exact HO300.out) (Kd.R_base ho0) hb)
                have n6_ := ak_ (Kd.R_lower (Kd.R_newB (Kd.R_new' (Kd.R_new' (Kd.R_newM (M := fun k_ => (w.heap.size ≤ k_)) ho0 (below_size (by repeat (first | (with_reducible first | exact HB.out | apply bl_a | apply bl_n | apply bl_d | refine below_set ?_ GE296.out) | exact HB.out))) (fun k_ h_ => h_)) (Kd.R_lt (by (with_reducible repeat (first | apply Kd.R_alloc | apply Kd.R_drewN | apply Kd.R_drew)); exact HO_6.out))) (Kd.R_lt (by (with_reducible repeat (first | apply Kd.R_alloc | apply Kd.R_drewN | apply Kd.R_drew)); exact HO300.out))) (g := gb296) (o := .cells #[.int .i64 t291, .int .i64 t292, .string t293] 26 (0, 0)) (by (with_reducible repeat (first | refine bk_n ?_ _ | refine bk_d ?_ | refine bk_a ?_ _)); exact BK296.out)) (below_size (by repeat (first | (with_reducible first | exact HB.out | apply bl_a | apply bl_n | apply bl_d | refine below_set ?_ GE296.out) | exact HB.out))))
                have n7_ := ak_ (blk_below (g := gb296) (o := .cells #[.int .i64 t291, .int .i64 t292, .string t293] 26 (0, 0)) (by (with_reducible repeat (first | refine bk_n ?_ _ | refine bk_d ?_ | refine bk_a ?_ _)); exact BK296.out) hb)
                have n8_ := ak_ (below_step (by repeat (first | (with_reducible first | exact HB.out | apply bl_a | apply bl_n | apply bl_d | refine below_set ?_ GE296.out) | exact HB.out)) hb)
                clear HO_2
                clear HO_6
                clear HO_8
                clear HO290
                clear HO311
                clear HO300
                clear BK296
                clear HB
                have HO_2 := n0_
                have HO_6 := n1_
                have HO_8 := n2_
                have HO290 := n3_
                have HO311 := n4_
                have HO300 := n5_
                have HO303 := n6_
                have BK296 := n7_
                have HB := n8_
                clear n0_ n1_ n2_ n3_ n4_ n5_ n6_ n7_ n8_
                (try clear hb)
                (try clear hb2)
                (try clear hk)
                (try clear hi)
                (try clear ho0)
                obtain ⟨Ao37, co37, eo37⟩ := Kd.R_slice HO303.out
                (first | subst eo37 | (injection eo37 with f1_ f2_ f3_; have f4_ := f1_.symm; have f5_ := f3_.symm; clear f1_ f2_ f3_; subst f4_; subst f5_))
                refine hK.out _ _ ⟨(blk_cell BK296.out 0).trans rfl, (blk_cell BK296.out 1).trans rfl, (blk_cell BK296.out 2).trans rfl⟩ (fun hHeld => ?_)
                clear hK K
                refine norm_ (a' := ?_) ?_ ?_
                rotate_left
                ·
                 show Act.put _ (some 67) _ = _
                 simp only [Act.put, List.setIfInBounds_toArray, List.set_cons_zero, List.set_cons_succ, i64_w, i32_w]
                 rfl
                refine one_ (i := 6) (N := some 68) #[true, true, true, true, true, true, true, true, true, true, true, true, false, false] rfl rfl (one_of HT_.out (by kernel_rfl)) (by decide) (fun K hK => ?_)
                refine Kd.R_append_rows_step k26 (w0 := w) w.heap.size (by rfl) (.tmp 62) (.tmp 67) 23 26 (.agg #[(.int .i64 0), (.int .i64 0), (.string ⟨#[]⟩)]) 32 rfl Tryd.underlying23 info26 rfl (by decide) (by omega) u6 x6_2 t301 _ _ _ (fun k_ => (w.heap.size ≤ k_) ∧ some k_ ≠ (.slice Ao34 y298.length co34 : Value).ownBlock ∧ some k_ ≠ (.slice Ao37 t301.length co37 : Value).ownBlock ∧ k_ ≠ gb296) (fun _ => False) rfl rfl ?aO ?aR (fun _ _ h => h) (fun _ h => h.elim) ?aF ?aB ?aS ?aL ?_
                (case aR => repeat (first | exact (Kd.R_reads' HO303.out).2.2 | (with_reducible refine Kd.C_alloc ?_ _) | (with_reducible refine Kd.C_drewN ?_ _) | (with_reducible refine Kd.C_drew ?_)))
                (case aB => exact (by repeat (first | (with_reducible first | exact HB.out | apply bl_a | apply bl_n | apply bl_d | refine below_set ?_ GE296.out) | exact HB.out)))
                (case aF => exact (fun k_ hk => ⟨(Nat.le_trans (below_size (by repeat (first | (with_reducible first | exact HB.out | apply bl_a | apply bl_n | apply bl_d | refine below_set ?_ GE296.out) | exact HB.out))) hk), Kd.fresh' (Kd.R_lt (by (with_reducible repeat (first | apply Kd.R_alloc | apply Kd.R_drewN | apply Kd.R_drew)); exact HO300.out)) k_ hk, Kd.fresh' (Kd.R_lt (by (with_reducible repeat (first | apply Kd.R_alloc | apply Kd.R_drewN | apply Kd.R_drew)); exact HO303.out)) k_ hk, Kd.freshB (g := gb296) (o := .cells #[.int .i64 t291, .int .i64 t292, .string t293] 26 (0, 0)) (by (with_reducible repeat (first | refine bk_n ?_ _ | refine bk_d ?_ | refine bk_a ?_ _)); exact BK296.out) k_ hk⟩))
                (case aO => exact (by (with_reducible repeat (first | apply Kd.R_alloc | apply Kd.R_drewN | apply Kd.R_drew)); exact Kd.R_mono HO_6.out (fun _ hk => ⟨hk.1.1.1, ⟨hk.1.2, ⟨hk.2, hk.1.1.2⟩⟩⟩)))
                (case aS => exact (below_size (by repeat (first | (with_reducible first | exact HB.out | apply bl_a | apply bl_n | apply bl_d | refine below_set ?_ GE296.out) | exact HB.out))))
                (case aL => have := LMc21.out; omega)
                intro v305 w36 ho hb hg hat
                rw [← Ny304.out] at ho
                have n0_ := ak_ (Kd.V_afterv (ok := (fun k_ => (P2_ k_ ∨ w.heap.size ≤ k_) ∧ some k_ ≠ (.slice Ao34 y298.length co34 : Value).ownBlock ∧ some k_ ≠ (.slice Ao37 t301.length co37 : Value).ownBlock ∧ k_ ≠ gb296)) (by (with_reducible repeat (first | apply Kd.V_alloc | apply Kd.V_drewN | apply Kd.V_drew)); exact Kd.V_mono HO_2.out (fun _ hk => ⟨⟨hk.1.1.1, ⟨hk.1.2, ⟨hk.2, hk.1.1.2.2⟩⟩⟩, hk.1.1.2.1⟩)) hg hat)
                have n1_ := ak_ (Kd.V_afterv (ok := (fun k_ => (P2_ k_ ∨ w.heap.size ≤ k_) ∧ some k_ ≠ (.slice Ao34 y298.length co34 : Value).ownBlock ∧ some k_ ≠ (.slice Ao37 t301.length co37 : Value).ownBlock ∧ k_ ≠ gb296)) (by (with_reducible repeat (first | apply Kd.V_alloc | apply Kd.V_drewN | apply Kd.V_drew)); exact Kd.V_mono HO_8.out (fun _ hk => ⟨⟨hk.1.1.1, ⟨hk.1.2, ⟨hk.2, hk.1.1.2.2⟩⟩⟩, hk.1.1.2.1⟩)) hg hat)
                have n2_ := ak_ (Kd.V_afterv (ok := (fun k_ => (P2_ k_ ∨ w.heap.size ≤ k_) ∧ some k_ ≠ (.slice Ao34 y298.length co34 : Value).ownBlock ∧ some k_ ≠ (.slice Ao37 t301.length co37 : Value).ownBlock ∧ k_ ≠ gb296)) (by (with_reducible repeat (first | apply Kd.V_alloc | apply Kd.V_drewN | apply Kd.V_drew)); exact Kd.V_mono HO290.out (fun _ hk => ⟨⟨hk.1.1.1, ⟨hk.1.2, ⟨hk.2, hk.1.1.2.2⟩⟩⟩, hk.1.1.2.1⟩)) hg hat)
                have n3_ := ak_ (blk_grown (g := gb296) (o := .cells #[.int .i64 t291, .int .i64 t292, .string t293] 26 (0, 0)) (by (with_reducible repeat (first | refine bk_n ?_ _ | refine bk_d ?_ | refine bk_a ?_ _)); exact BK296.out) hg (Kd.R_away HO_6.out (fun _ hk => hk.1.1.2)))
                have n4_ := ak_ (Kd.V_afterv (ok := (fun k_ => (P2_ k_ ∨ w.heap.size ≤ k_) ∧ some k_ ≠ (.slice Ao34 y298.length co34 : Value).ownBlock ∧ some k_ ≠ (.slice Ao37 t301.length co37 : Value).ownBlock ∧ k_ ≠ gb296)) (by (with_reducible repeat (first | apply Kd.V_alloc | apply Kd.V_drewN | apply Kd.V_drew)); exact Kd.V_mono HO311.out (fun _ hk => ⟨⟨hk.1.1.1, ⟨hk.1.2, ⟨hk.2, hk.1.1.2.2⟩⟩⟩, hk.1.1.2.1⟩)) hg hat)
                have n5_ := ak_ (Kd.R_after (ok := (fun k_ => (w.heap.size ≤ k_) ∧ some k_ ≠ (.slice Ao37 t301.length co37 : Value).ownBlock ∧ k_ ≠ gb296)) (by (with_reducible repeat (first | apply Kd.R_alloc | apply Kd.R_drewN | apply Kd.R_drew)); exact Kd.R_mono HO300.out (fun _ hk => ⟨⟨hk.1.1.1.1, ⟨hk.2, hk.1.2⟩⟩, hk.1.1.2⟩)) hg hat)
                have n6_ := ak_ (Kd.R_after (ok := (fun k_ => (w.heap.size ≤ k_) ∧ some k_ ≠ (.slice Ao34 y298.length co34 : Value).ownBlock ∧ k_ ≠ gb296)) (by (with_reducible repeat (first | apply Kd.R_alloc | apply Kd.R_drewN | apply Kd.R_drew)); exact Kd.R_mono HO303.out (fun _ hk => ⟨⟨hk.1.1.1.1, ⟨hk.1.2, hk.2⟩⟩, hk.1.1.2⟩)) hg hat)
                have n7_ := ak_ (hb)
                have n8_ := ak_ (ho)
                clear HO_2
                clear HO_8
                clear HO290
                clear BK296
                clear HO311
                clear HO300
                clear HO303
                clear HB
                clear HO_6
                have HO_2 := n0_
                have HO_8 := n1_
                have HO290 := n2_
                have BK296 := n3_
                have HO311 := n4_
                have HO300 := n5_
                have HO303 := n6_
                have HB := n7_
                have HO306 := n8_
                clear n0_ n1_ n2_ n3_ n4_ n5_ n6_ n7_ n8_
                clear ho hb hg hat
                refine hK.out _ _ ⟨(blk_cell BK296.out 0).trans rfl, (blk_cell BK296.out 1).trans rfl, (blk_cell BK296.out 2).trans rfl⟩ (fun hHeld => ?_)
                clear hK K
                refine norm_ (a' := ?_) ?_ ?_
                rotate_left
                ·
                 show Act.put _ (some 68) _ = _
                 simp only [Act.put, List.setIfInBounds_toArray, List.set_cons_zero, List.set_cons_succ, i64_w, i32_w]
                 rfl
                refine pure_ (i := 12) (N := some 6) (v := ?_) (a' := ?_) #[true, true, true, true, true, true, true, true, true, true, true, true, true, false] rfl rfl (any_of HT_.out (by kernel_rfl)) (fun _ _ _ h => h) (Or.inl ⟨by rfl, ?_⟩) ?_ ?_
                rotate_left
                ·
                 intro w'
                 go_simp
                 with_reducible rfl
                rotate_left
                ·
                 simp only [Act.put, List.setIfInBounds_toArray, List.set_cons_zero, List.set_cons_succ, i64_w, i32_w]
                 rfl
                refine pure_ (i := 13) (N := some 8) (v := ?_) (a' := ?_) #[true, true, true, true, true, true, true, true, true, true, true, true, true, true] rfl rfl (any_of HT_.out (by kernel_rfl)) (fun _ _ _ h => h) (Or.inl ⟨by rfl, ?_⟩) ?_ ?_
                rotate_left
                ·
                 intro w'
                 go_simp
                 with_reducible rfl
                rotate_left
                ·
                 simp only [Act.put, List.setIfInBounds_toArray, List.set_cons_zero, List.set_cons_succ, i64_w, i32_w]
                 rfl
                refine done_ (done_of HT_.out (by kernel_rfl)) ?_
                try go_wp2
                go_roundg kj9
                case measure => have := HJ3.out; have := HK2.out; have := HJ9.out; omega
                case rel => exact ⟨(y304), (y307), H', ⟨by have := HJ3.out; have := HK2.out; have := HJ9.out; omega⟩, ⟨by (with_reducible repeat (first | apply Kd.V_alloc | apply Kd.V_drewN | apply Kd.V_drew)); exact Kd.V_mono HO_2.out (fun _ hk => ⟨hk.1.1, hk.2⟩)⟩, ⟨by (with_reducible repeat (first | apply Kd.R_alloc | apply Kd.R_drewN | apply Kd.R_drew)); exact Kd.R_mono HO306.out (fun _ hk => hk.1)⟩, ⟨by (with_reducible repeat (first | apply Kd.V_alloc | apply Kd.V_drewN | apply Kd.V_drew)); exact Kd.V_mono HO311.out (fun _ hk => ⟨hk.1.1, hk.2⟩)⟩, ⟨by repeat (first | (with_reducible first | exact HB.out | apply bl_a | apply bl_n | apply bl_d | refine below_set ?_ GE296.out) | exact HB.out)⟩⟩
               ·
                rw [if_neg c24] at H
                exact absurd H (by simp)
              ·
               rw [if_neg c23] at H
               exact absurd H (by simp)
             ·
              rw [if_neg c21] at H
              exact absurd H (by simp)
            ·
             have H1 : (some (([] : List (S26)), some q297)) = some (r1, r2) := by rw [if_neg (show ¬ (some q297).isNone = true by simp)] at H; exact H
             clear H
             have H := H1
             clear H1
             try simp only [errW_none, errW_some]
             simp only [Option.some.injEq, Prod.mk.injEq] at H
             obtain ⟨rfl, rfl⟩ := H
             have q38 : (t284 : Int) ≤ ((x8_2.length : Int) : Int) := of_decide_eq_true (by first | (with_reducible assumption) | assumption)
             obtain ⟨i038, hi038, _, hsz38, _⟩ := info_parts info5
             have hroom38 : x8_2.length ≤ co11 := (Kd.V_reads' HO_8.out).2.1
             have hC38 : Kd.F (Kd.int .u8) _ _ Ao11 x8_2.length x8_2 := (Kd.V_at (base := w.heap.size) HO_8.out).2.2
             have q038 : (0 : Int) ≤ (t284 : Int) := of_decide_eq_true (by first | (with_reducible assumption) | assumption)
             have hcut38 := cut_from (P := Tryd.prog) 22 5 .i64 Tryd.underlying22 hi038 1 hsz38 Ao11 x8_2.length co11 t284 q038 q38
             have hr38 := Kd.F_cut (m := (t284 : Int).toNat) (c := co11) hC38 (by omega) hroom38
             obtain ⟨A38, hA38⟩ : ∃ A1, A1 = (if co11 = (t284 : Int).toNat then Ao11 else (Ao11 : Option Addr).map (·.add ((t284 : Int).toNat * 1))) := ⟨_, rfl⟩
             obtain ⟨c38, hc38⟩ : ∃ c1, c1 = co11 - (t284 : Int).toNat := ⟨_, rfl⟩
             have hy38 : y286.length = x8_2.length - (t284 : Int).toNat := (by rw [Ny286.out, List.length_drop] <;> omega)
             rw [show (x8_2).drop (t284 : Int).toNat = y286 from Ny286.out.symm] at hr38
             replace hr38 : Kd.F (Kd.int .u8) _ _ A38 y286.length y286 := (by rw [hA38]; exact hr38)
             rw [← hy38, ← hA38, ← hc38] at hcut38
             have HO290 := ak_ (show Kd.V (Kd.int .u8) 5 _ w.heap.size _ (.slice A38 y286.length c38) y286 from Kd.V_mk (by rw [hy38, hc38]; exact Nat.sub_le_sub_right hroom38 _) hr38)
             have HC290 := ak_ (show y286.length ≤ c38 from by rw [hy38, hc38]; exact Nat.sub_le_sub_right hroom38 _)
             clear hr38 hC38 hroom38 hi038 hsz38 hc38
             have KY38 := ak_ hy38
             have KA38 := ak_ hA38
             clear hy38 hA38
             replace q38 := eq_true q38
             go_wp2_with (first | ((with_reducible refine gate_callee (f := 68) rfl ?_); refine goesL_ (some 55) rfl rfl Tryd.func68 (by kernel_rfl) rfl #[.int .i64 a0, .slice A38 y286.length c38] rfl (by (try simp only [List.map_toArray, List.map_cons, List.map_nil]); first | done | rfl | (simp only [List.length_drop, List.length_take]; rfl)) ?_; (first | (with_reducible refine (rle_first.calls GA kj9 a0 _ _ y286 t291 t292 t293 t294 (some q297) _ ?side1 ?side2 ?side3 A19.out).mono ?_) | ((try rw [hji22]); (try rw [← KY25.out]); (try rw [← KY31.out]); (try rw [← KY38.out]); (with_reducible refine (rle_first.calls GA kj9 a0 _ _ y286 t291 t292 t293 t294 (some q297) _ ?side1 ?side2 ?side3 A19.out).mono ?_))); (case side1 => repeat (first | exact (Kd.V_reads' HO290.out).2.2 | (with_reducible refine Kd.C_alloc ?_ _) | (with_reducible refine Kd.C_drewN ?_ _) | (with_reducible refine Kd.C_drew ?_))); (case side2 => exact (Kd.V_reads' HO290.out).2.1); (case side3 => exact Glob.below HG.out (by repeat (first | (with_reducible first | exact HB.out | apply bl_a | apply bl_n | apply bl_d) | exact HB.out))); rintro e w39 ⟨rfl, hb⟩; refine ⟨_, rfl, ?_⟩; have n0_ := ak_ (Kd.V_below (by (with_reducible repeat (first | apply Kd.V_alloc | apply Kd.V_drewN | apply Kd.V_drew)); exact HO_2.out) hb); have n1_ := ak_ (Kd.R_below (by (with_reducible repeat (first | apply Kd.R_alloc | apply Kd.R_drewN | apply Kd.R_drew)); exact HO_6.out) hb); have n2_ := ak_ (Kd.V_below (by (with_reducible repeat (first | apply Kd.V_alloc | apply Kd.V_drewN | apply Kd.V_drew)); exact HO_8.out) hb); have n3_ := ak_ (Kd.V_below (by (with_reducible repeat (first | apply Kd.V_alloc | apply Kd.V_drewN | apply Kd.V_drew)); exact HO290.out) hb); have n4_ := ak_ (below_step (by repeat (first | (with_reducible first | exact HB.out | apply bl_a | apply bl_n | apply bl_d) | exact HB.out)) hb); clear HO_2; clear HO_6; clear HO_8; clear HO290; clear HB; have HO_2 := n0_; have HO_6 := n1_; have HO_8 := n2_; have HO290 := n3_; have HB := n4_; clear n0_ n1_ n2_ n3_ n4_; (try clear hb); (try clear hb2); (try clear hk); (try clear hi); (try simp only [errW_none, errW_some])) | ((with_reducible refine gate_dst (N := 12) rfl ?_); (try (refine gate_guard (by rfl) ?_; dsimp only)); refine box_event ?hg (N := 12) ?hd (cs := #[.int .i64 0, .int .i64 0, .string (⟨#[]⟩ : ByteArray)]) (t := 26) ?hr ?_; (case hd => rfl); (case hg => rfl); (case hr => first | (go_simp; done) | (go_simp; rfl)); intro gb296 hg w40 hbox hb; have n0_ := ak_ (Kd.V_below (Kd.V_elderB (by (with_reducible repeat (first | apply Kd.V_alloc | apply Kd.V_drewN | apply Kd.V_drew)); exact HO_2.out) gb296 (Nat.le_of_eq hg.symm)) hb); have n1_ := ak_ (Kd.R_below (Kd.R_elderB (by (with_reducible repeat (first | apply Kd.R_alloc | apply Kd.R_drewN | apply Kd.R_drew)); exact HO_6.out) gb296 (Nat.le_of_eq hg.symm)) hb); have n2_ := ak_ (Kd.V_below (Kd.V_elderB (by (with_reducible repeat (first | apply Kd.V_alloc | apply Kd.V_drewN | apply Kd.V_drew)); exact HO_8.out) gb296 (Nat.le_of_eq hg.symm)) hb); have n3_ := ak_ (Kd.V_below (Kd.V_elderB (by (with_reducible repeat (first | apply Kd.V_alloc | apply Kd.V_drewN | apply Kd.V_drew)); exact HO290.out) gb296 (Nat.le_of_eq hg.symm)) hb); have n4_ := ak_ (below_step (by repeat (first | (with_reducible first | exact HB.out | apply bl_a | apply bl_n | apply bl_d) | exact HB.out)) hb); have n5_ := ak_ (hbox); have n6_ := ak_ ((by rw [hg]; exact (below_size (by repeat (first | (with_reducible first | exact HB.out | apply bl_a | apply bl_n | apply bl_d) | exact HB.out))) : w.heap.size ≤ gb296)); have n7_ := ak_ ((by rw [hg]; exact (below_size (by repeat (first | (with_reducible first | exact HB.out | apply bl_a | apply bl_n | apply bl_d) | exact HB.out))) : w.heap.size ≤ gb296)); clear HO_2; clear HO_6; clear HO_8; clear HO290; clear HB; have HO_2 := n0_; have HO_6 := n1_; have HO_8 := n2_; have HO290 := n3_; have HB := n4_; have BK296 := n5_; have GW296 := n6_; have GE296 := n7_; clear n0_ n1_ n2_ n3_ n4_ n5_ n6_ n7_; clear hb hbox hg; have hcz41_0 : w40.cell? ⟨gb296, 0, none⟩ = some (.int .i64 0) := (blk_cell BK296.out 0).trans rfl; have hcz41_1 : w40.cell? ⟨gb296, 1, none⟩ = some (.int .i64 0) := (blk_cell BK296.out 1).trans rfl; have hcz41_2 : w40.cell? ⟨gb296, 2, none⟩ = some (.string (⟨#[]⟩ : ByteArray)) := (blk_cell BK296.out 2).trans rfl; have hfz41_0 := blk_frozen BK296.out 0; have hfz41_1 := blk_frozen BK296.out 1; have hfz41_2 := blk_frozen BK296.out 2))
             go_ret2
             exact ⟨_, by first | rfl | (simp [errW_none, errW_some] <;> rfl) | (simp [*, errW_none, errW_some] <;> rfl), by first | exact Kd.R_nil _ _ _ _ _ | exact Kd.N_nil _ _ _ _ _ | exact Kd.V_nil _ _ _ _ _ | exact Kd.Q_nil _ _ _ _ _ | exact Kd.S_nil _ _ _ _ _, by repeat (first | (with_reducible first | exact HB.out | apply bl_a | apply bl_n | apply bl_d | refine below_set ?_ GE296.out) | exact HB.out)⟩
           ·
            rw [if_neg c18] at H
            exact absurd H (by simp)
          ·
           rw [if_neg c17] at H
           exact absurd H (by simp)
      ·
       rw [if_neg c8] at H
       have c8b0 : decide (0 < (x8_2.length : Int)) = false := decide_eq_false c8
       have c8b1 : decide (0 < x8_2.length) = false := decide_eq_false (by omega)
       (try (have c8b1p : (0 < x8_2.length) = False := eq_false (of_decide_eq_false c8b1)))
       clear c8
       replace H := Option.bind_eq_some_iff.mp H
       obtain ⟨⟨t312, t315⟩, A420, H⟩ := H
       replace H : (if t315 = true then (if (x6_2.length : Int) = a1 then ((bytes_Equal.f t312 l2).bind fun t316 => (if t316 = true then (some (x6_2, none)) else (some (([] : List (S26)), some 7)))) else (some (([] : List (S26)), some 7))) else (some (([] : List (S26)), some 7))) = some (r1, r2) := H
       have A42 := ak_ A420
       clear A420
       by_cases c43 : t315 = true
       ·
        subst c43
        have H1 : (if (x6_2.length : Int) = a1 then ((bytes_Equal.f t312 l2).bind fun t316 => (if t316 = true then (some (x6_2, none)) else (some (([] : List (S26)), some 7)))) else (some (([] : List (S26)), some 7))) = some (r1, r2) := by rw [if_pos rfl] at H; exact H
        clear H
        have H := H1
        clear H1
        by_cases c44 : (x6_2.length : Int) = a1
        ·
         rw [if_pos c44] at H
         have c44b0 : ((x6_2.length : Int) == a1) = true := beq_iff_eq.mpr c44
         have c44b1 : ((x6_2.length : Int) != a1) = false := bne_eq_false_iff_eq.mpr c44
         clear c44
         replace H := Option.bind_eq_some_iff.mp H
         obtain ⟨t316, A450, H⟩ := H
         replace H : (if t316 = true then (some (x6_2, none)) else (some (([] : List (S26)), some 7))) = some (r1, r2) := H
         have A45 := ak_ A450
         clear A450
         by_cases c46 : t316 = true
         ·
          subst c46
          have H1 : (some (x6_2, none)) = some (r1, r2) := by rw [if_pos rfl] at H; exact H
          clear H
          have H := H1
          clear H1
          simp only [Option.some.injEq, Prod.mk.injEq] at H
          obtain ⟨rfl, rfl⟩ := H
          obtain ⟨Ao47, co47, eo47⟩ := Kd.V_slice HO_8.out
          subst eo47
          obtain ⟨Ao48, co48, eo48⟩ := Kd.R_slice HO_6.out
          subst eo48
          go_wp2_with (first | ((with_reducible refine gate_callee (f := 24) rfl ?_); refine goesL_ (some 77) rfl rfl Tryd.func24 (by kernel_rfl) rfl #[.int .i64 a0, .slice Ao48 x6_2.length co48] rfl (by (try simp only [List.map_toArray, List.map_cons, List.map_nil]); first | done | rfl | (simp only [List.length_drop, List.length_take]; rfl)) ?_; (with_reducible refine (rle_Put.calls k2 a0 (fun k_ => some k_ = (.slice Ao48 x6_2.length co48 : Value).ownBlock) _ _ x6_2 t312 true _ ?side1 A42.out).mono ?_); (case side1 => exact Kd.R_V (Kd.R_tight rfl (HO_6.out))); rintro e w49 ⟨v313, rfl, ho0, hb⟩; refine ⟨_, rfl, ?_⟩; have n0_ := ak_ (Kd.V_elder' (by (with_reducible repeat (first | apply Kd.V_alloc | apply Kd.V_drewN | apply Kd.V_drew)); exact HO_2.out) (Kd.R_base ho0) hb); have n1_ := ak_ (Kd.R_below (by (with_reducible repeat (first | apply Kd.R_alloc | apply Kd.R_drewN | apply Kd.R_drew)); exact HO_6.out) hb); have n2_ := ak_ (Kd.V_elder' (by (with_reducible repeat (first | apply Kd.V_alloc | apply Kd.V_drewN | apply Kd.V_drew)); exact HO_8.out) (Kd.R_base ho0) hb); have n3_ := ak_ (Kd.R_lower (Kd.R_newM (M := fun k_ => (w.heap.size ≤ k_)) (Kd.R_mono (ok' := fun k_ => True) ho0 (fun _ hk_ => trivial)) (below_size (by repeat (first | (with_reducible first | exact HB.out | apply bl_a | apply bl_n | apply bl_d) | exact HB.out))) (fun k_ h_ => h_)) (below_size (by repeat (first | (with_reducible first | exact HB.out | apply bl_a | apply bl_n | apply bl_d) | exact HB.out)))); have n4_ := ak_ (below_step (by repeat (first | (with_reducible first | exact HB.out | apply bl_a | apply bl_n | apply bl_d) | exact HB.out)) hb); clear HO_2; clear HO_6; clear HO_8; clear HB; have HO_2 := n0_; have HO_6 := n1_; have HO_8 := n2_; have HO314 := n3_; have HB := n4_; clear n0_ n1_ n2_ n3_ n4_; (try clear hb); (try clear hb2); (try clear hk); (try clear hi); (try clear ho0); obtain ⟨Ao50, co50, eo50⟩ := Kd.R_slice HO314.out; subst eo50) | (go_at_call 60; (with_reducible refine (bytes_Equal.calls _ _ t312 _ _ l2 true _ ?side1 ?side2 ?side3 ?side4 A45.out).mono ?_); (case side1 => repeat (first | exact (Kd.R_reads' HO314.out).2.2 | (with_reducible refine Kd.C_alloc ?_ _) | (with_reducible refine Kd.C_drewN ?_ _) | (with_reducible refine Kd.C_drew ?_))); (case side2 => exact (Kd.R_reads' HO314.out).2.1); (case side3 => repeat (first | exact (Kd.V_reads' HO_2.out).2.2 | (with_reducible refine Kd.C_alloc ?_ _) | (with_reducible refine Kd.C_drewN ?_ _) | (with_reducible refine Kd.C_drew ?_))); (case side4 => exact (Kd.V_reads' HO_2.out).2.1); rintro e w' ⟨rfl, ⟨nd, rfl⟩⟩))
          go_ret2
          exact ⟨_, by first | rfl | (simp [errW_none, errW_some] <;> rfl) | (simp [*, errW_none, errW_some] <;> rfl), by (with_reducible repeat (first | apply Kd.R_alloc | apply Kd.R_drewN | apply Kd.R_drew)); exact HO_6.out, by repeat (first | (with_reducible first | exact HB.out | apply bl_a | apply bl_n | apply bl_d) | exact HB.out)⟩
         ·
          replace c46 := Bool.eq_false_iff.mpr c46
          subst c46
          have H1 : (some (([] : List (S26)), some 7)) = some (r1, r2) := by rw [if_neg (show ¬ (false = true) by decide)] at H; exact H
          clear H
          have H := H1
          clear H1
          simp only [Option.some.injEq, Prod.mk.injEq] at H
          obtain ⟨rfl, rfl⟩ := H
          obtain ⟨Ao51, co51, eo51⟩ := Kd.V_slice HO_8.out
          subst eo51
          obtain ⟨Ao52, co52, eo52⟩ := Kd.R_slice HO_6.out
          subst eo52
          try go_wp2_with (first | ((with_reducible refine gate_callee (f := 24) rfl ?_); refine goesL_ (some 77) rfl rfl Tryd.func24 (by kernel_rfl) rfl #[.int .i64 a0, .slice Ao52 x6_2.length co52] rfl (by (try simp only [List.map_toArray, List.map_cons, List.map_nil]); first | done | rfl | (simp only [List.length_drop, List.length_take]; rfl)) ?_; (with_reducible refine (rle_Put.calls k2 a0 (fun k_ => some k_ = (.slice Ao52 x6_2.length co52 : Value).ownBlock) _ _ x6_2 t312 true _ ?side1 A42.out).mono ?_); (case side1 => exact Kd.R_V (Kd.R_tight rfl (HO_6.out))); rintro e w53 ⟨v313, rfl, ho0, hb⟩; refine ⟨_, rfl, ?_⟩; have n0_ := ak_ (Kd.V_elder' (by (with_reducible repeat (first | apply Kd.V_alloc | apply Kd.V_drewN | apply Kd.V_drew)); exact HO_2.out) (Kd.R_base ho0) hb); have n1_ := ak_ (Kd.R_below (by (with_reducible repeat (first | apply Kd.R_alloc | apply Kd.R_drewN | apply Kd.R_drew)); exact HO_6.out) hb); have n2_ := ak_ (Kd.V_elder' (by (with_reducible repeat (first | apply Kd.V_alloc | apply Kd.V_drewN | apply Kd.V_drew)); exact HO_8.out) (Kd.R_base ho0) hb); have n3_ := ak_ (Kd.R_lower (Kd.R_newM (M := fun k_ => (w.heap.size ≤ k_)) (Kd.R_mono (ok' := fun k_ => True) ho0 (fun _ hk_ => trivial)) (below_size (by repeat (first | (with_reducible first | exact HB.out | apply bl_a | apply bl_n | apply bl_d) | exact HB.out))) (fun k_ h_ => h_)) (below_size (by repeat (first | (with_reducible first | exact HB.out | apply bl_a | apply bl_n | apply bl_d) | exact HB.out)))); have n4_ := ak_ (below_step (by repeat (first | (with_reducible first | exact HB.out | apply bl_a | apply bl_n | apply bl_d) | exact HB.out)) hb); clear HO_2; clear HO_6; clear HO_8; clear HB; have HO_2 := n0_; have HO_6 := n1_; have HO_8 := n2_; have HO314 := n3_; have HB := n4_; clear n0_ n1_ n2_ n3_ n4_; (try clear hb); (try clear hb2); (try clear hk); (try clear hi); (try clear ho0); obtain ⟨Ao54, co54, eo54⟩ := Kd.R_slice HO314.out; subst eo54) | (go_at_call 60; (with_reducible refine (bytes_Equal.calls _ _ t312 _ _ l2 false _ ?side1 ?side2 ?side3 ?side4 A45.out).mono ?_); (case side1 => repeat (first | exact (Kd.R_reads' HO314.out).2.2 | (with_reducible refine Kd.C_alloc ?_ _) | (with_reducible refine Kd.C_drewN ?_ _) | (with_reducible refine Kd.C_drew ?_))); (case side2 => exact (Kd.R_reads' HO314.out).2.1); (case side3 => repeat (first | exact (Kd.V_reads' HO_2.out).2.2 | (with_reducible refine Kd.C_alloc ?_ _) | (with_reducible refine Kd.C_drewN ?_ _) | (with_reducible refine Kd.C_drew ?_))); (case side4 => exact (Kd.V_reads' HO_2.out).2.1); rintro e w' ⟨rfl, ⟨nd, rfl⟩⟩))
          (try (rw [drewN_self w53]; generalize hq_ : World.drewN w53 _ = w53; have n0_ : Aside0 (Kd.R (Kd.int .u8) 5 w53 w.heap.size (fun k_ => (w.heap.size ≤ k_)) (.slice Ao54 t312.length co54) t312) := ⟨by rw [← hq_]; exact (by (with_reducible repeat (first | apply Kd.R_alloc | apply Kd.R_drewN | apply Kd.R_drew)); exact Kd.R_mono HO314.out (fun _ hk => hk.1))⟩; have n1_ : Aside0 (Kd.V (Kd.int .u8) 5 w53 w.heap.size (fun k_ => (P2_ k_ ∨ w.heap.size ≤ k_) ∧ some k_ ≠ (.slice Ao54 t312.length co54 : Value).ownBlock ∧ some k_ ≠ (.slice Ao52 x6_2.length co52 : Value).ownBlock) (.slice A2 l2.length c2) l2) := ⟨by rw [← hq_]; exact (by (with_reducible repeat (first | apply Kd.V_alloc | apply Kd.V_drewN | apply Kd.V_drew)); exact Kd.V_mono HO_2.out (fun _ hk => ⟨hk.1.1, ⟨hk.2, hk.1.2⟩⟩))⟩; have n2_ : Aside0 (Kd.R k26 26 w53 w.heap.size (fun k_ => (w.heap.size ≤ k_)) (.slice Ao52 x6_2.length co52) x6_2) := ⟨by rw [← hq_]; exact (by (with_reducible repeat (first | apply Kd.R_alloc | apply Kd.R_drewN | apply Kd.R_drew)); exact HO_6.out)⟩; have n3_ : Aside0 (Kd.V (Kd.int .u8) 5 w53 w.heap.size (fun k_ => (P2_ k_ ∨ w.heap.size ≤ k_) ∧ some k_ ≠ (.slice Ao54 t312.length co54 : Value).ownBlock ∧ some k_ ≠ (.slice Ao52 x6_2.length co52 : Value).ownBlock) (.slice Ao51 x8_2.length co51) x8_2) := ⟨by rw [← hq_]; exact (by (with_reducible repeat (first | apply Kd.V_alloc | apply Kd.V_drewN | apply Kd.V_drew)); exact Kd.V_mono HO_8.out (fun _ hk => ⟨hk.1.1, ⟨hk.2, hk.1.2⟩⟩))⟩; have n4_ : Aside0 (Below w.heap.size w w53) := ⟨by rw [← hq_]; exact (by repeat (first | (with_reducible first | exact HB.out | apply bl_a | apply bl_n | apply bl_d) | exact HB.out))⟩; clear HO314 HO_2 HO_6 HO_8 HB hq_; have HO314 := n0_; have HO_2 := n1_; have HO_6 := n2_; have HO_8 := n3_; have HB := n4_; clear n0_ n1_ n2_ n3_ n4_))
          have n0_ := ak_ (Kd.V_drew HO_2.out)
          have n1_ := ak_ (Kd.R_drew HO_6.out)
          have n2_ := ak_ (Kd.V_drew HO_8.out)
          have n3_ := ak_ (Kd.R_drew HO314.out)
          have n4_ := ak_ (bl_d HB.out)
          clear HO_2
          clear HO_6
          clear HO_8
          clear HO314
          clear HB
          have HO_2 := n0_
          have HO_6 := n1_
          have HO_8 := n2_
          have HO314 := n3_
          have HB := n4_
          clear n0_ n1_ n2_ n3_ n4_
          refine start_ (n := 5) (S := fun w' => w'.cell? ⟨1, 0, none⟩ = some (.iface 117 (.pointer (some (GA 1))))) (ds := []) #[false, false, false, false, false] (by kernel_rfl) rfl rfl (((HB.out.cell (World.block_lt_of_cell? w _ HG.out.c1)).trans HG.out.c1)) (fun hHeld => ?_)
          generalize w53.drew = w55 at HO_2 HO_6 HO_8 HO314 HB hHeld ⊢
          refine pure_ (i := 3) (N := some 6) (v := ?_) (a' := ?_) #[false, false, false, true, false] rfl rfl (by kernel_rfl) (fun _ _ _ h => h) (Or.inl ⟨by rfl, ?_⟩) ?_ ?_
          rotate_left
          ·
           intro w'
           go_simp
           with_reducible rfl
          rotate_left
          ·
           simp only [Act.put, List.setIfInBounds_toArray, List.set_cons_zero, List.set_cons_succ, i64_w, i32_w]
           rfl
          refine take_ (i := 0) (N := some 94) (v := ?_) (a' := ?_) #[true, false, false, true, false] rfl rfl (by kernel_rfl) (fun _ _ _ h => h) (Or.inl ⟨by rfl, ?_⟩) hHeld ?_ ?_
          rotate_left
          ·
           intro w' s0
           go_simp
           with_reducible rfl
          rotate_left
          ·
           simp only [Act.put, List.setIfInBounds_toArray, List.set_cons_zero, List.set_cons_succ, i64_w, i32_w]
           rfl
          refine pure_ (i := 1) (N := some 95) (v := ?_) (a' := ?_) #[true, true, false, true, false] rfl rfl (by kernel_rfl) (fun _ _ _ h => h) (Or.inl ⟨by rfl, ?_⟩) ?_ ?_
          rotate_left
          ·
           intro w'
           go_simp
           with_reducible rfl
          rotate_left
          ·
           simp only [Act.put, List.setIfInBounds_toArray, List.set_cons_zero, List.set_cons_succ, i64_w, i32_w]
           rfl
          refine pure_ (i := 2) (N := some 96) (v := ?_) (a' := ?_) #[true, true, true, true, false] rfl rfl (by kernel_rfl) (fun _ _ _ h => h) (Or.inl ⟨by rfl, ?_⟩) ?_ ?_
          rotate_left
          ·
           intro w'
           go_simp
           with_reducible rfl
          rotate_left
          ·
           simp only [Act.put, List.setIfInBounds_toArray, List.set_cons_zero, List.set_cons_succ, i64_w, i32_w]
           rfl
          refine pure_ (i := 4) (N := some 7) (v := ?_) (a' := ?_) #[true, true, true, true, true] rfl rfl (by kernel_rfl) (fun _ _ _ h => h) (Or.inl ⟨by rfl, ?_⟩) ?_ ?_
          rotate_left
          ·
           intro w'
           go_simp
           with_reducible rfl
          rotate_left
          ·
           simp only [Act.put, List.setIfInBounds_toArray, List.set_cons_zero, List.set_cons_succ, i64_w, i32_w]
           rfl
          refine done_ (by kernel_rfl) ?_
          try go_wp2
          go_ret2
          exact ⟨_, by first | rfl | (simp [errW_none, errW_some] <;> rfl) | (simp [*, errW_none, errW_some] <;> rfl), by first | exact Kd.R_nil _ _ _ _ _ | exact Kd.N_nil _ _ _ _ _ | exact Kd.V_nil _ _ _ _ _ | exact Kd.Q_nil _ _ _ _ _ | exact Kd.S_nil _ _ _ _ _, by repeat (first | (with_reducible first | exact HB.out | apply bl_a | apply bl_n | apply bl_d) | exact HB.out)⟩
        ·
         rw [if_neg c44] at H
         have c44b0 : ((x6_2.length : Int) == a1) = false := beq_eq_false_iff_ne.mpr c44
         have c44b1 : ((x6_2.length : Int) != a1) = true := bne_iff_ne.mpr c44
         simp only [Option.some.injEq, Prod.mk.injEq] at H
         obtain ⟨rfl, rfl⟩ := H
         obtain ⟨Ao56, co56, eo56⟩ := Kd.V_slice HO_8.out
         subst eo56
         obtain ⟨Ao57, co57, eo57⟩ := Kd.R_slice HO_6.out
         subst eo57
         try go_wp2_with (first | ((with_reducible refine gate_callee (f := 24) rfl ?_); refine goesL_ (some 77) rfl rfl Tryd.func24 (by kernel_rfl) rfl #[.int .i64 a0, .slice Ao57 x6_2.length co57] rfl (by (try simp only [List.map_toArray, List.map_cons, List.map_nil]); first | done | rfl | (simp only [List.length_drop, List.length_take]; rfl)) ?_; (with_reducible refine (rle_Put.calls k2 a0 (fun k_ => some k_ = (.slice Ao57 x6_2.length co57 : Value).ownBlock) _ _ x6_2 t312 true _ ?side1 A42.out).mono ?_); (case side1 => exact Kd.R_V (Kd.R_tight rfl (HO_6.out))); rintro e w58 ⟨v313, rfl, ho0, hb⟩; refine ⟨_, rfl, ?_⟩; have n0_ := ak_ (Kd.V_elder' (by (with_reducible repeat (first | apply Kd.V_alloc | apply Kd.V_drewN | apply Kd.V_drew)); exact HO_2.out) (Kd.R_base ho0) hb); have n1_ := ak_ (Kd.R_below (by (with_reducible repeat (first | apply Kd.R_alloc | apply Kd.R_drewN | apply Kd.R_drew)); exact HO_6.out) hb); have n2_ := ak_ (Kd.V_elder' (by (with_reducible repeat (first | apply Kd.V_alloc | apply Kd.V_drewN | apply Kd.V_drew)); exact HO_8.out) (Kd.R_base ho0) hb); have n3_ := ak_ (Kd.R_lower (Kd.R_newM (M := fun k_ => (w.heap.size ≤ k_)) (Kd.R_mono (ok' := fun k_ => True) ho0 (fun _ hk_ => trivial)) (below_size (by repeat (first | (with_reducible first | exact HB.out | apply bl_a | apply bl_n | apply bl_d) | exact HB.out))) (fun k_ h_ => h_)) (below_size (by repeat (first | (with_reducible first | exact HB.out | apply bl_a | apply bl_n | apply bl_d) | exact HB.out)))); have n4_ := ak_ (below_step (by repeat (first | (with_reducible first | exact HB.out | apply bl_a | apply bl_n | apply bl_d) | exact HB.out)) hb); clear HO_2; clear HO_6; clear HO_8; clear HB; have HO_2 := n0_; have HO_6 := n1_; have HO_8 := n2_; have HO314 := n3_; have HB := n4_; clear n0_ n1_ n2_ n3_ n4_; (try clear hb); (try clear hb2); (try clear hk); (try clear hi); (try clear ho0)))
         have n0_ := ak_ (Kd.V_drew HO_2.out)
         have n1_ := ak_ (Kd.R_drew HO_6.out)
         have n2_ := ak_ (Kd.V_drew HO_8.out)
         have n3_ := ak_ (Kd.R_drew HO314.out)
         have n4_ := ak_ (bl_d HB.out)
         clear HO_2
         clear HO_6
         clear HO_8
         clear HO314
         clear HB
         have HO_2 := n0_
         have HO_6 := n1_
         have HO_8 := n2_
         have HO314 := n3_
         have HB := n4_
         clear n0_ n1_ n2_ n3_ n4_
         refine start_ (n := 5) (S := fun w' => w'.cell? ⟨1, 0, none⟩ = some (.iface 117 (.pointer (some (GA 1))))) (ds := []) #[false, false, false, false, false] (by kernel_rfl) rfl rfl (((HB.out.cell (World.block_lt_of_cell? w _ HG.out.c1)).trans HG.out.c1)) (fun hHeld => ?_)
         generalize w58.drew = w59 at HO_2 HO_6 HO_8 HO314 HB hHeld ⊢
         refine pure_ (i := 3) (N := some 6) (v := ?_) (a' := ?_) #[false, false, false, true, false] rfl rfl (by kernel_rfl) (fun _ _ _ h => h) (Or.inl ⟨by rfl, ?_⟩) ?_ ?_
         rotate_left
         ·
          intro w'
          go_simp
          with_reducible rfl
         rotate_left
         ·
          simp only [Act.put, List.setIfInBounds_toArray, List.set_cons_zero, List.set_cons_succ, i64_w, i32_w]
          rfl
         refine take_ (i := 0) (N := some 94) (v := ?_) (a' := ?_) #[true, false, false, true, false] rfl rfl (by kernel_rfl) (fun _ _ _ h => h) (Or.inl ⟨by rfl, ?_⟩) hHeld ?_ ?_
         rotate_left
         ·
          intro w' s0
          go_simp
          with_reducible rfl
         rotate_left
         ·
          simp only [Act.put, List.setIfInBounds_toArray, List.set_cons_zero, List.set_cons_succ, i64_w, i32_w]
          rfl
         refine pure_ (i := 1) (N := some 95) (v := ?_) (a' := ?_) #[true, true, false, true, false] rfl rfl (by kernel_rfl) (fun _ _ _ h => h) (Or.inl ⟨by rfl, ?_⟩) ?_ ?_
         rotate_left
         ·
          intro w'
          go_simp
          with_reducible rfl
         rotate_left
         ·
          simp only [Act.put, List.setIfInBounds_toArray, List.set_cons_zero, List.set_cons_succ, i64_w, i32_w]
          rfl
         refine pure_ (i := 2) (N := some 96) (v := ?_) (a' := ?_) #[true, true, true, true, false] rfl rfl (by kernel_rfl) (fun _ _ _ h => h) (Or.inl ⟨by rfl, ?_⟩) ?_ ?_
         rotate_left
         ·
          intro w'
          go_simp
          with_reducible rfl
         rotate_left
         ·
          simp only [Act.put, List.setIfInBounds_toArray, List.set_cons_zero, List.set_cons_succ, i64_w, i32_w]
          rfl
         refine pure_ (i := 4) (N := some 7) (v := ?_) (a' := ?_) #[true, true, true, true, true] rfl rfl (by kernel_rfl) (fun _ _ _ h => h) (Or.inl ⟨by rfl, ?_⟩) ?_ ?_
         rotate_left
         ·
          intro w'
          go_simp
          with_reducible rfl
         rotate_left
         ·
          simp only [Act.put, List.setIfInBounds_toArray, List.set_cons_zero, List.set_cons_succ, i64_w, i32_w]
          rfl
         refine done_ (by kernel_rfl) ?_
         try go_wp2
         go_ret2
         exact ⟨_, by first | rfl | (simp [errW_none, errW_some] <;> rfl) | (simp [*, errW_none, errW_some] <;> rfl), by first | exact Kd.R_nil _ _ _ _ _ | exact Kd.N_nil _ _ _ _ _ | exact Kd.V_nil _ _ _ _ _ | exact Kd.Q_nil _ _ _ _ _ | exact Kd.S_nil _ _ _ _ _, by repeat (first | (with_reducible first | exact HB.out | apply bl_a | apply bl_n | apply bl_d) | exact HB.out)⟩
       ·
        replace c43 := Bool.eq_false_iff.mpr c43
        subst c43
        have H1 : (some (([] : List (S26)), some 7)) = some (r1, r2) := by rw [if_neg (show ¬ (false = true) by decide)] at H; exact H
        clear H
        have H := H1
        clear H1
        simp only [Option.some.injEq, Prod.mk.injEq] at H
        obtain ⟨rfl, rfl⟩ := H
        obtain ⟨Ao60, co60, eo60⟩ := Kd.V_slice HO_8.out
        subst eo60
        obtain ⟨Ao61, co61, eo61⟩ := Kd.R_slice HO_6.out
        subst eo61
        try go_wp2_with (first | ((with_reducible refine gate_callee (f := 24) rfl ?_); refine goesL_ (some 77) rfl rfl Tryd.func24 (by kernel_rfl) rfl #[.int .i64 a0, .slice Ao61 x6_2.length co61] rfl (by (try simp only [List.map_toArray, List.map_cons, List.map_nil]); first | done | rfl | (simp only [List.length_drop, List.length_take]; rfl)) ?_; (with_reducible refine (rle_Put.calls k2 a0 (fun k_ => some k_ = (.slice Ao61 x6_2.length co61 : Value).ownBlock) _ _ x6_2 t312 false _ ?side1 A42.out).mono ?_); (case side1 => exact Kd.R_V (Kd.R_tight rfl (HO_6.out))); rintro e w62 ⟨v313, rfl, ho0, hb⟩; refine ⟨_, rfl, ?_⟩; have n0_ := ak_ (Kd.V_elder' (by (with_reducible repeat (first | apply Kd.V_alloc | apply Kd.V_drewN | apply Kd.V_drew)); exact HO_2.out) (Kd.R_base ho0) hb); have n1_ := ak_ (Kd.R_below (by (with_reducible repeat (first | apply Kd.R_alloc | apply Kd.R_drewN | apply Kd.R_drew)); exact HO_6.out) hb); have n2_ := ak_ (Kd.V_elder' (by (with_reducible repeat (first | apply Kd.V_alloc | apply Kd.V_drewN | apply Kd.V_drew)); exact HO_8.out) (Kd.R_base ho0) hb); have n3_ := ak_ (Kd.R_lower (Kd.R_newM (M := fun k_ => (w.heap.size ≤ k_)) (Kd.R_mono (ok' := fun k_ => True) ho0 (fun _ hk_ => trivial)) (below_size (by repeat (first | (with_reducible first | exact HB.out | apply bl_a | apply bl_n | apply bl_d) | exact HB.out))) (fun k_ h_ => h_)) (below_size (by repeat (first | (with_reducible first | exact HB.out | apply bl_a | apply bl_n | apply bl_d) | exact HB.out)))); have n4_ := ak_ (below_step (by repeat (first | (with_reducible first | exact HB.out | apply bl_a | apply bl_n | apply bl_d) | exact HB.out)) hb); clear HO_2; clear HO_6; clear HO_8; clear HB; have HO_2 := n0_; have HO_6 := n1_; have HO_8 := n2_; have HO314 := n3_; have HB := n4_; clear n0_ n1_ n2_ n3_ n4_; (try clear hb); (try clear hb2); (try clear hk); (try clear hi); (try clear ho0)))
        have n0_ := ak_ (Kd.V_drew HO_2.out)
        have n1_ := ak_ (Kd.R_drew HO_6.out)
        have n2_ := ak_ (Kd.V_drew HO_8.out)
        have n3_ := ak_ (Kd.R_drew HO314.out)
        have n4_ := ak_ (bl_d HB.out)
        clear HO_2
        clear HO_6
        clear HO_8
        clear HO314
        clear HB
        have HO_2 := n0_
        have HO_6 := n1_
        have HO_8 := n2_
        have HO314 := n3_
        have HB := n4_
        clear n0_ n1_ n2_ n3_ n4_
        refine start_ (n := 5) (S := fun w' => w'.cell? ⟨1, 0, none⟩ = some (.iface 117 (.pointer (some (GA 1))))) (ds := []) #[false, false, false, false, false] (by kernel_rfl) rfl rfl (((HB.out.cell (World.block_lt_of_cell? w _ HG.out.c1)).trans HG.out.c1)) (fun hHeld => ?_)
        generalize w62.drew = w63 at HO_2 HO_6 HO_8 HO314 HB hHeld ⊢
        refine pure_ (i := 3) (N := some 6) (v := ?_) (a' := ?_) #[false, false, false, true, false] rfl rfl (by kernel_rfl) (fun _ _ _ h => h) (Or.inl ⟨by rfl, ?_⟩) ?_ ?_
        rotate_left
        ·
         intro w'
         go_simp
         with_reducible rfl
        rotate_left
        ·
         simp only [Act.put, List.setIfInBounds_toArray, List.set_cons_zero, List.set_cons_succ, i64_w, i32_w]
         rfl
        refine take_ (i := 0) (N := some 94) (v := ?_) (a' := ?_) #[true, false, false, true, false] rfl rfl (by kernel_rfl) (fun _ _ _ h => h) (Or.inl ⟨by rfl, ?_⟩) hHeld ?_ ?_
        rotate_left
        ·
         intro w' s0
         go_simp
         with_reducible rfl
        rotate_left
        ·
         simp only [Act.put, List.setIfInBounds_toArray, List.set_cons_zero, List.set_cons_succ, i64_w, i32_w]
         rfl
        refine pure_ (i := 1) (N := some 95) (v := ?_) (a' := ?_) #[true, true, false, true, false] rfl rfl (by kernel_rfl) (fun _ _ _ h => h) (Or.inl ⟨by rfl, ?_⟩) ?_ ?_
        rotate_left
        ·
         intro w'
         go_simp
         with_reducible rfl
        rotate_left
        ·
         simp only [Act.put, List.setIfInBounds_toArray, List.set_cons_zero, List.set_cons_succ, i64_w, i32_w]
         rfl
        refine pure_ (i := 2) (N := some 96) (v := ?_) (a' := ?_) #[true, true, true, true, false] rfl rfl (by kernel_rfl) (fun _ _ _ h => h) (Or.inl ⟨by rfl, ?_⟩) ?_ ?_
        rotate_left
        ·
         intro w'
         go_simp
         with_reducible rfl
        rotate_left
        ·
         simp only [Act.put, List.setIfInBounds_toArray, List.set_cons_zero, List.set_cons_succ, i64_w, i32_w]
         rfl
        refine pure_ (i := 4) (N := some 7) (v := ?_) (a' := ?_) #[true, true, true, true, true] rfl rfl (by kernel_rfl) (fun _ _ _ h => h) (Or.inl ⟨by rfl, ?_⟩) ?_ ?_
        rotate_left
        ·
         intro w'
         go_simp
         with_reducible rfl
        rotate_left
        ·
         simp only [Act.put, List.setIfInBounds_toArray, List.set_cons_zero, List.set_cons_succ, i64_w, i32_w]
         rfl
        refine done_ (by kernel_rfl) ?_
        try go_wp2
        go_ret2
        exact ⟨_, by first | rfl | (simp [errW_none, errW_some] <;> rfl) | (simp [*, errW_none, errW_some] <;> rfl), by first | exact Kd.R_nil _ _ _ _ _ | exact Kd.N_nil _ _ _ _ _ | exact Kd.V_nil _ _ _ _ _ | exact Kd.Q_nil _ _ _ _ _ | exact Kd.S_nil _ _ _ _ _, by repeat (first | (with_reducible first | exact HB.out | apply bl_a | apply bl_n | apply bl_d) | exact HB.out)⟩
end Go.Proofs.YtigldipjkejalaaDoor.PRleAll