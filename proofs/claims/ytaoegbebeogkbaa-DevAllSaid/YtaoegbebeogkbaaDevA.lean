/- DevAll: what blocks say, in any run: the walk. Conditions: none. -/
import Derived.Test.YtaoegbebeogkbaaDevK
import Derived.Deep.CutBlock
namespace Go.Proofs.Ytaoegbebeogkbaa.PDev
open Go.RowKit Go.Proofs.YtaoegbebeogkbaaW.PrintWords Go.Proofs.YtaoegbebeogkbaaW.PrintLast Go.Proofs.YtaoegbebeogkbaaW.PrintMore
open Go.Extern.Stop Go.Stop Go.Extern
set_option linter.unusedVariables false
set_option linter.unusedSimpArgs false
theorem handed_ (A : Option Addr) (n c : Nat) (l : List Int) (w : World) (hC : Kd.C (Kd.int .u8) w A n l) (hc : n ≤ c) (hl : n ≤ 1000000) :
    Calls Try.prog 22 #[.slice A n c] w fun e w' => ∃ Ah ch, e = .returned (.slice Ah n ch) ∧ n ≤ ch ∧ Kd.H (Kd.int .u8) 5 w' w.heap.size (fun _ => True) (.slice Ah n ch) l ∧ Below w.heap.size w w' := by
  have hn : l.length = n := hC.1
  subst hn
  refine (rabbetlaw0_Handed.calls A c l l w hC hc (by unfold rabbetlaw0_Handed.f; rw [if_pos hl])).mono ?_
  rintro e w' ⟨v, rfl, hH, hB⟩
  obtain ⟨Ah, ch, rfl⟩ := Kd.H_slice hH
  exact ⟨Ah, ch, rfl, (Kd.H_reads' hH).2.1, hH, hB⟩
theorem same_ (Ah Ab : Option Addr) (n ch cb : Nat) (l : List Int) (B : Nat) (ok : Nat → Prop) (w : World) (hH : Kd.H (Kd.int .u8) 5 w B ok (.slice Ah n ch) l) (hC : Kd.C (Kd.int .u8) w Ab n l) (hch : n ≤ ch) (hcb : n ≤ cb) :
    Calls Try.prog 24 #[.slice Ah n ch, .slice Ab n cb] w fun e w' => e = .returned (.bool true) ∧ Drawn0 w w' := by
  have hn : l.length = n := hC.1
  subst hn
  exact rabbetlaw0_Same.calls Ah ch l Ab cb l true w ⟨B, ok, hH⟩ hch hC hcb (by unfold rabbetlaw0_Same.f; rw [if_pos rfl])
def all18.T : Bool × List (List Nat × List Nat) := (true, [([], []), ([], []), ([1], [1]), ([], []), ([0, 2, 3], [0, 2, 3]), ([], []), ([], []), ([6], [6]), ([], []), ([5, 7, 8, 4], [5, 7, 8]), ([4, 9], [4, 9]), ([10, 9], [10]), ([11], [11]), ([11], [11]), ([12, 13, 11, 11], [11, 12, 13]), ([14, 11], [11, 14]), ([11, 15], [11, 15])])
def all18.B : List Nat := [0, 0, 2, 0, 15, 0, 0, 64, 0, 511, 1023, 2047, 4095, 4095, 16383, 32767, 65535]
theorem all18.tab : rtab .any (opsOf Try.f5 18) = all18.T := by kernel_rfl
theorem all18.bits : waitsOk all18.T.2 all18.B = true := by kernel_rfl
set_option maxHeartbeats 64000000 in
set_option maxRecDepth 100000 in
theorem all_no (n0 : Int) (A1 : Option Addr) (c1 : Nat) (l1 : List S34) (w : World) (hr1 : Kd.C k34 w A1 l1.length l1) (hc1 : l1.length ≤ c1) (HNO : Aside0 (¬ (1 ≤ n0 ∧ n0 ≤ 4000))) (HLA : Aside0 (∀ w' : World, Kd.C k34 w' A1 l1.length l1 → Calls Try.prog 8 #[.slice A1 l1.length c1] w' fun e w'' => e = .returned (.bool true) ∧ Drawn0 w' w'')) :
    Calls Try.prog 5 #[.int .i64 n0, .slice A1 l1.length c1] w fun e w' => e = .returned (.bool true) ∧ Below w.heap.size w w' := by
  have HR := Aside0.mk hr1
  clear hr1
  by_cases h50 : 50 < n0
  · have d1 : decide (50 < n0) = true := decide_eq_true h50
    have d2 : decide (n0 ≤ 4000) = false := decide_eq_false (fun h => HNO.out ⟨by omega, h⟩)
    go_enter Try.func5, Try.ntmps5
    go_wp2_with (first | (go_at_call 7; (refine (begun _).mono ?_); rintro e w1 ⟨rfl, hb⟩; have HB := Aside0.mk hb; clear hb) | (go_at_call 8; (refine (HLA.out _ (Kd.C_below HR.out HB.out)).mono ?_); rintro e w2 ⟨rfl, hd⟩; have n0 := Aside0.mk (below_step HB.out hd.below); clear HB hd; have HB := n0; clear n0) | (go_at_call 9; (refine (new_no n0 _ HNO.out).mono ?_); rintro e wz ⟨rfl, hww⟩; subst hww) | (go_at_call 16; (refine (Ref_new_no n0 _ HNO.out).mono ?_); rintro e wz ⟨rfl, hww⟩; subst hww))
    go_loopg [9] 1 (fun kq v9 w4 => v9 = .int .i64 0 ∧ Aside0 (0 < kq) ∧ Aside0 (Below w.heap.size w w4))
    case atStart => exact ⟨rfl, ⟨by decide⟩, HB⟩
    case round =>
      clear HB
      obtain ⟨rfl, HI, HB⟩ := hrel
      have hbl : ∀ P : Prop, (∀ b : Bool, decide ((0 : Int) < (l1.length : Int)) = b → P) → P := fun P h => h _ rfl
      apply hbl
      intro b hb0
      have hb1 : decide (0 < l1.length) = b := by rw [← hb0]; exact decide_eq_decide.2 (by omega)
      clear hbl
      cases b with
      | false =>
        go_wp2
        go_loopg [18] 1 (fun kq v18 w4 => v18 = .int .i64 0 ∧ Aside0 (0 < kq) ∧ Aside0 (Below w.heap.size w w4))
        case atStart => exact ⟨rfl, ⟨by decide⟩, HB⟩
        case round =>
          clear HB
          obtain ⟨rfl, HI2, HB⟩ := hrel
          go_wp2_with (first | (go_at_call 14; (with_reducible refine (nil_Read _).mono ?_); rintro e wz ⟨rfl, hww⟩; subst hww) | (go_at_call 12; (with_reducible refine (nil_Flush _).mono ?_); rintro e wz ⟨rfl, hww⟩; subst hww) | (go_at_call 18; (with_reducible refine (nil_Stop 1 _).mono ?_); rintro e wz ⟨rfl, hww⟩; subst hww) | (go_at_call 13; (with_reducible refine (nil_Crash (.slice none 0 0) 0 0 _).mono ?_); rintro e wz ⟨rfl, hww⟩; subst hww) | (go_at_call 10; (refine (full none 0 0 [] _ (rowC (Kd.R_nil (Kd.int .u8) 5 _ 0 (fun _ => True))) rfl (by decide) (by decide)).mono ?_); rintro e w30 ⟨Af, cf, rfl, hcf, hR, hb⟩; have n0 := Aside0.mk (below_step HB.out hb); clear HB hb hR; have HB := n0; clear n0) | (go_at_call 11; (with_reducible refine (nil_Write _ _ _ _).mono ?_); rintro e wz ⟨rfl, hww⟩; subst hww) | (go_at_call 28; (with_reducible refine (nil_Blocks _).mono ?_); rintro e wz ⟨rfl, hww⟩; subst hww) | (go_at_call 15; (with_reducible refine (nil_Writes _).mono ?_); rintro e wz ⟨rfl, hww⟩; subst hww) | (go_at_call 26; (with_reducible refine (nil_Stopped _).mono ?_); rintro e wz ⟨rfl, hww⟩; subst hww) | (go_at_call 21; (with_reducible refine (nil_Copy _).mono ?_); rintro e wz ⟨rfl, hww⟩; subst hww))
          go_ret
          exact ⟨rfl, HB.out⟩
      | true =>
        have hb2 : (0 : Int) < (l1.length : Int) := of_decide_eq_true hb0
        go_wp2
        go_loopg [18] 1 (fun kq v18 w4 => v18 = .int .i64 0 ∧ Aside0 (0 < kq) ∧ Aside0 (Below w.heap.size w w4))
        case atStart => exact ⟨rfl, ⟨by decide⟩, HB⟩
        case round =>
          clear HB
          obtain ⟨rfl, HI2, HB⟩ := hrel
          go_wp2_with (first | (go_at_call 14; (with_reducible refine (nil_Read _).mono ?_); rintro e wz ⟨rfl, hww⟩; subst hww) | (go_at_call 12; (with_reducible refine (nil_Flush _).mono ?_); rintro e wz ⟨rfl, hww⟩; subst hww) | (go_at_call 18; (with_reducible refine (nil_Stop 1 _).mono ?_); rintro e wz ⟨rfl, hww⟩; subst hww) | (go_at_call 13; (with_reducible refine (nil_Crash (.slice none 0 0) 0 0 _).mono ?_); rintro e wz ⟨rfl, hww⟩; subst hww) | (go_at_call 10; (refine (full none 0 0 [] _ (rowC (Kd.R_nil (Kd.int .u8) 5 _ 0 (fun _ => True))) rfl (by decide) (by decide)).mono ?_); rintro e w30 ⟨Af, cf, rfl, hcf, hR, hb⟩; have n0 := Aside0.mk (below_step HB.out hb); clear HB hb hR; have HB := n0; clear n0) | (go_at_call 11; (with_reducible refine (nil_Write _ _ _ _).mono ?_); rintro e wz ⟨rfl, hww⟩; subst hww) | (go_at_call 28; (with_reducible refine (nil_Blocks _).mono ?_); rintro e wz ⟨rfl, hww⟩; subst hww) | (go_at_call 15; (with_reducible refine (nil_Writes _).mono ?_); rintro e wz ⟨rfl, hww⟩; subst hww) | (go_at_call 26; (with_reducible refine (nil_Stopped _).mono ?_); rintro e wz ⟨rfl, hww⟩; subst hww) | (go_at_call 21; (with_reducible refine (nil_Copy _).mono ?_); rintro e wz ⟨rfl, hww⟩; subst hww))
          go_ret
          exact ⟨rfl, HB.out⟩
  · have d1 : decide (50 < n0) = false := decide_eq_false h50
    go_enter Try.func5, Try.ntmps5
    go_wp2_with (first | (go_at_call 7; (refine (begun _).mono ?_); rintro e w1 ⟨rfl, hb⟩; have HB := Aside0.mk hb; clear hb) | (go_at_call 8; (refine (HLA.out _ (Kd.C_below HR.out HB.out)).mono ?_); rintro e w2 ⟨rfl, hd⟩; have n0 := Aside0.mk (below_step HB.out hd.below); clear HB hd; have HB := n0; clear n0) | (go_at_call 9; (refine (new_no n0 _ HNO.out).mono ?_); rintro e wz ⟨rfl, hww⟩; subst hww) | (go_at_call 16; (refine (Ref_new_no n0 _ HNO.out).mono ?_); rintro e wz ⟨rfl, hww⟩; subst hww))
    go_loopg [9] 1 (fun kq v9 w4 => v9 = .int .i64 0 ∧ Aside0 (0 < kq) ∧ Aside0 (Below w.heap.size w w4))
    case atStart => exact ⟨rfl, ⟨by decide⟩, HB⟩
    case round =>
      clear HB
      obtain ⟨rfl, HI, HB⟩ := hrel
      have hbl : ∀ P : Prop, (∀ b : Bool, decide ((0 : Int) < (l1.length : Int)) = b → P) → P := fun P h => h _ rfl
      apply hbl
      intro b hb0
      have hb1 : decide (0 < l1.length) = b := by rw [← hb0]; exact decide_eq_decide.2 (by omega)
      clear hbl
      cases b with
      | false =>
        go_wp2
        go_loopg [18] 1 (fun kq v18 w4 => v18 = .int .i64 0 ∧ Aside0 (0 < kq) ∧ Aside0 (Below w.heap.size w w4))
        case atStart => exact ⟨rfl, ⟨by decide⟩, HB⟩
        case round =>
          clear HB
          obtain ⟨rfl, HI2, HB⟩ := hrel
          go_wp2_with (first | (go_at_call 14; (with_reducible refine (nil_Read _).mono ?_); rintro e wz ⟨rfl, hww⟩; subst hww) | (go_at_call 12; (with_reducible refine (nil_Flush _).mono ?_); rintro e wz ⟨rfl, hww⟩; subst hww) | (go_at_call 18; (with_reducible refine (nil_Stop 1 _).mono ?_); rintro e wz ⟨rfl, hww⟩; subst hww) | (go_at_call 13; (with_reducible refine (nil_Crash (.slice none 0 0) 0 0 _).mono ?_); rintro e wz ⟨rfl, hww⟩; subst hww) | (go_at_call 10; (refine (full none 0 0 [] _ (rowC (Kd.R_nil (Kd.int .u8) 5 _ 0 (fun _ => True))) rfl (by decide) (by decide)).mono ?_); rintro e w30 ⟨Af, cf, rfl, hcf, hR, hb⟩; have n0 := Aside0.mk (below_step HB.out hb); clear HB hb hR; have HB := n0; clear n0) | (go_at_call 11; (with_reducible refine (nil_Write _ _ _ _).mono ?_); rintro e wz ⟨rfl, hww⟩; subst hww) | (go_at_call 28; (with_reducible refine (nil_Blocks _).mono ?_); rintro e wz ⟨rfl, hww⟩; subst hww) | (go_at_call 15; (with_reducible refine (nil_Writes _).mono ?_); rintro e wz ⟨rfl, hww⟩; subst hww) | (go_at_call 26; (with_reducible refine (nil_Stopped _).mono ?_); rintro e wz ⟨rfl, hww⟩; subst hww) | (go_at_call 21; (with_reducible refine (nil_Copy _).mono ?_); rintro e wz ⟨rfl, hww⟩; subst hww))
          go_ret
          exact ⟨rfl, HB.out⟩
      | true =>
        have hb2 : (0 : Int) < (l1.length : Int) := of_decide_eq_true hb0
        go_wp2
        go_loopg [18] 1 (fun kq v18 w4 => v18 = .int .i64 0 ∧ Aside0 (0 < kq) ∧ Aside0 (Below w.heap.size w w4))
        case atStart => exact ⟨rfl, ⟨by decide⟩, HB⟩
        case round =>
          clear HB
          obtain ⟨rfl, HI2, HB⟩ := hrel
          go_wp2_with (first | (go_at_call 14; (with_reducible refine (nil_Read _).mono ?_); rintro e wz ⟨rfl, hww⟩; subst hww) | (go_at_call 12; (with_reducible refine (nil_Flush _).mono ?_); rintro e wz ⟨rfl, hww⟩; subst hww) | (go_at_call 18; (with_reducible refine (nil_Stop 1 _).mono ?_); rintro e wz ⟨rfl, hww⟩; subst hww) | (go_at_call 13; (with_reducible refine (nil_Crash (.slice none 0 0) 0 0 _).mono ?_); rintro e wz ⟨rfl, hww⟩; subst hww) | (go_at_call 10; (refine (full none 0 0 [] _ (rowC (Kd.R_nil (Kd.int .u8) 5 _ 0 (fun _ => True))) rfl (by decide) (by decide)).mono ?_); rintro e w30 ⟨Af, cf, rfl, hcf, hR, hb⟩; have n0 := Aside0.mk (below_step HB.out hb); clear HB hb hR; have HB := n0; clear n0) | (go_at_call 11; (with_reducible refine (nil_Write _ _ _ _).mono ?_); rintro e wz ⟨rfl, hww⟩; subst hww) | (go_at_call 28; (with_reducible refine (nil_Blocks _).mono ?_); rintro e wz ⟨rfl, hww⟩; subst hww) | (go_at_call 15; (with_reducible refine (nil_Writes _).mono ?_); rintro e wz ⟨rfl, hww⟩; subst hww) | (go_at_call 26; (with_reducible refine (nil_Stopped _).mono ?_); rintro e wz ⟨rfl, hww⟩; subst hww) | (go_at_call 21; (with_reducible refine (nil_Copy _).mono ?_); rintro e wz ⟨rfl, hww⟩; subst hww))
          go_ret
          exact ⟨rfl, HB.out⟩
set_option maxHeartbeats 64000000 in
set_option maxRecDepth 100000 in
theorem all_yes (n : Nat) (A1 : Option Addr) (c1 : Nat) (l1 : List S34) (w : World) (hr1 : Kd.C k34 w A1 l1.length l1) (hc1 : l1.length ≤ c1) (hok : ∀ o, o ∈ l1 → okO o) (hn1 : 1 ≤ n) (hn50 : n ≤ 50) (HA : Aside0 (l1.length ≤ 40 ∧ ∀ x, x ∈ l1 → x.f5.length ≤ 200 ∧ x.f6.length ≤ 20)) (HLA : Aside0 (∀ w' : World, Kd.C k34 w' A1 l1.length l1 → Calls Try.prog 8 #[.slice A1 l1.length c1] w' fun e w'' => e = .returned (.bool true) ∧ Drawn0 w' w'')) :
    Calls Try.prog 5 #[.int .i64 (n : Int), .slice A1 l1.length c1] w fun e w' => e = .returned (.bool true) ∧ Below w.heap.size w w' := by
  have HR := Aside0.mk hr1
  have HOKS := Aside0.mk hok
  clear hr1 hok
  have d1 : decide ((50 : Int) < (n : Int)) = false := decide_eq_false (by omega)
  have d1n : decide (50 < n) = false := decide_eq_false (by omega)
  have d3 : ¬ (50 : Int) < (n : Int) := by omega
  go_enter Try.func5, Try.ntmps5
  go_wp2_with (first | (go_at_call 7; (refine (begun _).mono ?_); rintro e w1 ⟨rfl, hb⟩; have HB := Aside0.mk hb; clear hb) | (go_at_call 8; (refine (HLA.out _ (Kd.C_below HR.out HB.out)).mono ?_); rintro e w2 ⟨rfl, hd⟩; have n0 := Aside0.mk (below_step HB.out hd.below); clear HB hd; have HB := n0; clear n0) | (go_at_call 9; (refine (New n _ hn1 (by omega)).mono ?_); rintro e w3 ⟨g0, rfl, hd, hb⟩; have HD := Aside0.mk (hd.mono (fun k hk => show w.heap.size ≤ k from Nat.le_trans HB.out.size hk)); have n0 := Aside0.mk (below_step HB.out hb); clear HB hd hb; have HB := n0; clear n0) | (go_at_call 16; (refine (Ref_New n _ hn1 (by omega)).mono ?_); rintro e w4 ⟨gr, rfl, hd, hb⟩; have HS := Aside0.mk (show La w w4 g0 gr (newD n) (newD n) from ⟨HD.out.below hb, hd.mono (fun k hk => show w.heap.size ≤ k from Nat.le_trans HB.out.size hk), below_step HB.out hb⟩); clear HB HD hd hb))
  have HGD := Aside0.mk (good_new n)
  generalize newD n = D0 at HS HGD
  go_loopg [5, 9] (l1.length + 1) (fun kq v5 v9 w4 => ∃ (i : Nat) (g : Nat) (D : Dat), v9 = .int .i64 (i : Int) ∧ v5 = .pointer (some ⟨g, 0, none⟩) ∧ Aside0 (i ≤ l1.length ∧ l1.length < kq + i) ∧ Aside0 (La w w4 g gr D D) ∧ Aside0 (Good n i D))
  case atStart => exact ⟨0, g0, _, rfl, rfl, ⟨by omega, by omega⟩, HS, HGD⟩
  case round =>
    clear HS HGD
    obtain ⟨i, g, D, rfl, rfl, HI, HS, HGD⟩ := hrel
    by_cases hlt : i < l1.length
    · skip
      have hl40 := HA.out.1
      have hi40 : i < 40 := by omega
      have e1 : decide ((i : Int) < (l1.length : Int)) = true := decide_eq_true (by omega)
      have e2 : decide (i < l1.length) = true := decide_eq_true hlt
      have e3 : (i : Int) < (l1.length : Int) := by omega
      have hw1 : IntKind.i64.wrap ((i : Int) + 1) = ((i + 1 : Nat) : Int) := by rw [IntKind.wrap_i64]; omega
      have HLT := Aside0.mk hlt
      obtain ⟨ad, A5, k5, A6, k6, e0, z0, z1, z2, z3, z4, z5, z6, q5, g5, q6, g6⟩ := at_T34 HR.out (i : Int) (by omega) (by omega)
      cases e0
      replace z0 := (HS.out.below.cell (World.block_lt_of_cell? w _ z0)).trans z0
      replace z1 := (HS.out.below.cell (World.block_lt_of_cell? w _ z1)).trans z1
      replace z2 := (HS.out.below.cell (World.block_lt_of_cell? w _ z2)).trans z2
      replace z3 := (HS.out.below.cell (World.block_lt_of_cell? w _ z3)).trans z3
      replace z4 := (HS.out.below.cell (World.block_lt_of_cell? w _ z4)).trans z4
      replace z5 := (HS.out.below.cell (World.block_lt_of_cell? w _ z5)).trans z5
      replace z6 := (HS.out.below.cell (World.block_lt_of_cell? w _ z6)).trans z6
      rw [Int.toNat_natCast] at z0 z1 z2 z3 z4 z5 z6
      have hmem : rd_T34 l1 (i : Int) ∈ l1 := by unfold rd_T34; rw [Int.toNat_natCast, List.getD_eq_getElem?_getD, List.getElem?_eq_getElem hlt]; exact List.getElem_mem _
      have HB5 := Aside0.mk (HA.out.2 _ hmem)
      have HOK := Aside0.mk (HOKS.out _ hmem)
      generalize rd_T34 l1 (i : Int) = o at *
      obtain ⟨o0, o1, o2, o3, o4, B, K⟩ := o
      dsimp only [okO] at z0 z1 z2 z3 z4 z5 z6 q5 g5 q6 g6 HB5 HOK
      have HG5 := Aside0.mk g5
      have HQ5 := Aside0.mk q5
      have HG6 := Aside0.mk g6
      have HQ6 := Aside0.mk q6
      obtain ⟨m, q, hm, hwm, hq, hm1, hm2, hq0, hq1⟩ := rem10 o0 ()
      clear q5 g5 q6 g6 hmem hlt hm1 hm2 hq0 hq1
      go_upto_region 13 with (fail)
      have n0 := Aside0.mk (show Lb w (wr.alloc (.cells #[.int .i64 o0, .int .i64 o1, .int .i64 o2, .int .i64 o3, .int .i64 o4, .slice A5 B.length k5, .slice A6 K.length k6] 34)) g gr D D wr.heap.size #[.int .i64 o0, .int .i64 o1, .int .i64 o2, .int .i64 o3, .int .i64 o4, .slice A5 B.length k5, .slice A6 K.length k6] from ⟨HS.out.step_below (below_alloc (Below.refl wr.heap.size wr) (.cells #[.int .i64 o0, .int .i64 o1, .int .i64 o2, .int .i64 o3, .int .i64 o4, .slice A5 B.length k5, .slice A6 K.length k6] 34)), heap_alloc_new wr (.cells #[.int .i64 o0, .int .i64 o1, .int .i64 o2, .int .i64 o3, .int .i64 o4, .slice A5 B.length k5, .slice A6 K.length k6] 34)⟩)
      clear HS z0 z1 z2 z3 z4 z5 z6
      have HS := n0
      clear n0
      generalize wr.alloc (.cells #[.int .i64 o0, .int .i64 o1, .int .i64 o2, .int .i64 o3, .int .i64 o4, .slice A5 B.length k5, .slice A6 K.length k6] 34) = w5 at HS ⊢
      generalize wr.heap.size = ge at HS ⊢
      have x0 := blk_cell HS.out.box 0
      go_upto_block 2 with fail
      clear hm hwm hq x0 e1 e2 e3
      go_cut [5] from 58 to 189 (fun v5 wx => ∃ (g2 : Nat) (D2 : Dat), v5 = .pointer (some ⟨g2, 0, none⟩) ∧ Aside0 (Lb w wx g2 gr D2 D2 ge #[.int .i64 o0, .int .i64 o1, .int .i64 o2, .int .i64 o3, .int .i64 o4, .slice A5 B.length k5, .slice A6 K.length k6]) ∧ Aside0 (Good n (i + 1) D2))
      case first =>
        by_cases h5 : q = 5
        · subst h5
          have x1 := blk_cell HS.out.box 1
          go_wp2_with (first | (go_at_call 12; (refine (Flush _ g D _ HS.out.la.dev (fun k hk => HS.out.frd hk) (by have := HGD.out.seen; omega)).mono ?_); rintro e w6 ⟨rfl, hd, hf⟩; have n0 := Aside0.mk (HS.out.step_dev hd hf); clear HS hd hf x1 ; have HS := n0; clear n0; have x1 := blk_cell HS.out.box 1) | (go_at_call 17; (refine (Ref_Flush _ gr D _ HS.out.la.ref (fun k hk => HS.out.frd hk) (by have := HGD.out.seen; omega)).mono ?_); rintro e w7 ⟨rfl, hd, hf⟩; have n0 := Aside0.mk (HS.out.step_ref hd hf); clear HS hd hf x1 ; have HS := n0; clear n0; have x1 := blk_cell HS.out.box 1))
          clear x1
          have HGD2 := Aside0.mk (show Good n (i + 1) (D.flush) from (good_flush HGD.out).le (Nat.le_succ _))
          clear HGD
          generalize D.flush = D2 at HS HGD2
          go_meet
          exact ⟨g, D2, rfl, HS, HGD2⟩
        have b5 : (q == 5) = false := beq_eq_false_iff_ne.mpr h5
        clear h5
        by_cases h6 : q = 6
        · subst h6
          have x1 := blk_cell HS.out.box 1
          have x2 := blk_cell HS.out.box 2
          go_wp2_with (first | (go_at_call 18; (refine (Stop _ g D o2 _ HS.out.la.dev).mono ?_); rintro e w6 ⟨rfl, hd, hf⟩; have n0 := Aside0.mk (HS.out.step_dev hd hf); clear HS hd hf x1 x2; have HS := n0; clear n0; have x1 := blk_cell HS.out.box 1; have x2 := blk_cell HS.out.box 2) | (go_at_call 19; (refine (Ref_Stop _ gr D o2 _ HS.out.la.ref).mono ?_); rintro e w7 ⟨rfl, hd, hf⟩; have n0 := Aside0.mk (HS.out.step_ref hd hf); clear HS hd hf x1 x2; have HS := n0; clear n0; have x1 := blk_cell HS.out.box 1; have x2 := blk_cell HS.out.box 2))
          clear x1 x2
          have HGD2 := Aside0.mk (show Good n (i + 1) (D.stop o2) from (good_stop HGD.out o2 HOK.out.1).le (Nat.le_succ _))
          clear HGD
          generalize D.stop o2 = D2 at HS HGD2
          go_meet
          exact ⟨g, D2, rfl, HS, HGD2⟩
        have b6 : (q == 6) = false := beq_eq_false_iff_ne.mpr h6
        clear h6
        by_cases h7 : q = 7
        · subst h7
          have HWH := Aside0.mk (dev_whole HS.out.la.dev)
          have x1 := blk_cell HS.out.box 1
          have x3 := blk_cell HS.out.box 3
          have x4 := blk_cell HS.out.box 4
          have x6 := blk_cell HS.out.box 6
          go_wp2_with (first | (go_at_call 13; (refine (Crash _ g D A6 k6 K o3 o4 _ HS.out.la.dev (fun k hk => HS.out.frd hk) (by have := HGD.out.seen; omega) (HGD.out.sure.trans HGD.out.seen.symm) (by have := HGD.out.later; omega) HGD.out.idx (fun w' hf => Kd.C_below HG6.out (hf.below HS.out.la.below HS.out.la.below.size (fun k hk => hk))) HQ6.out (by have := HB5.out.2; omega) HOK.out.2 (by have := HGD.out.seen; omega)).mono ?_); rintro e w6 ⟨rfl, hd, hf⟩; have n0 := Aside0.mk (HS.out.step_dev hd hf); clear HS hd hf x1 x3 x4 x6; have HS := n0; clear n0; have x1 := blk_cell HS.out.box 1; have x3 := blk_cell HS.out.box 3; have x4 := blk_cell HS.out.box 4; have x6 := blk_cell HS.out.box 6) | (go_at_call 20; (refine (Ref_Crash _ gr D A6 k6 K o3 o4 _ HS.out.la.ref (fun k hk => HS.out.frd hk) (by have := HGD.out.seen; omega) (HGD.out.sure.trans HGD.out.seen.symm) (by have := HGD.out.later; omega) HGD.out.idx (fun w' hf => Kd.C_below HG6.out (hf.below HS.out.la.below HS.out.la.below.size (fun k hk => hk))) HQ6.out (by have := HB5.out.2; omega) HOK.out.2 (by have := HGD.out.seen; omega) HWH.out.sure HWH.out.later).mono ?_); rintro e w7 ⟨rfl, hd, hf⟩; have n0 := Aside0.mk (HS.out.step_ref hd hf); clear HS hd hf x1 x3 x4 x6; have HS := n0; clear n0; have x1 := blk_cell HS.out.box 1; have x3 := blk_cell HS.out.box 3; have x4 := blk_cell HS.out.box 4; have x6 := blk_cell HS.out.box 6))
          clear x1 x3 x4 x6 HWH
          have HGD2 := Aside0.mk (show Good n (i + 1) (D.crash K o3 o4) from (good_crash HGD.out K o3 o4).le (Nat.le_succ _))
          clear HGD
          generalize D.crash K o3 o4 = D2 at HS HGD2
          go_meet
          exact ⟨g, D2, rfl, HS, HGD2⟩
        have b7 : (q == 7) = false := beq_eq_false_iff_ne.mpr h7
        clear h7
        by_cases h8 : q = 8
        · subst h8
          go_wp2_with (first | (go_at_call 21; (refine (Copy _ g D _ HS.out.la.dev (by have := HGD.out.seen; omega) (by have := HGD.out.sure; omega) (by have := HGD.out.later; omega)).mono ?_); rintro e w6 ⟨g2, rfl, hd, hb⟩; have HL := Aside0.mk (Lc.start HS.out hd hb); clear HS hd hb) | (go_at_call 10; (refine (full (some ⟨w6.heap.size, 0, none⟩) 1 1 [9] _ (rowC (lit_row w6 [9] (by decide))) rfl (by decide) (by decide)).mono ?_); rintro e w8 ⟨Af, cf, rfl, hcf, hR, hb⟩; have HFA := Aside0.mk hR; have n0 := Aside0.mk ((HL.out.step_below (below_alloc (Below.refl w6.heap.size w6) (.cells #[.int .u8 9] 5))).step_below hb); clear HL hb hR; have HL := n0; clear n0) | (go_at_call 11; (refine (Write _ g D 0 Af 128 cf (fullS [9]) _ HL.out.old (fun k hk => HL.out.frd hk) (by have := HGD.out.seen; omega) (by have := HGD.out.later; omega) ⟨by have := HGD.out.l0; omega, HGD.out.l1⟩ ⟨HGD.out.w0, by have := HGD.out.w1; omega⟩ (fun w' hf => rowC (row_fr HFA.out hf (by decide))) hcf).mono ?_); rintro e w9 ⟨rfl, hd, hf⟩; have n0 := Aside0.mk (HL.out.step_old hd hf); clear HL hd hf HFA; have HL := n0; clear n0) | (go_at_call 12; (refine (Flush _ g (D.write 0 (fullS [9])).2 _ HL.out.old (fun k hk => HL.out.frd hk) (by have := (good_write HGD.out 0 (fullS [9])).seen; omega)).mono ?_); rintro e w10 ⟨rfl, hd, hf⟩; have n0 := Aside0.mk (HL.out.step_old hd hf); clear HL hd hf; have HL := n0; clear n0))
          have HS := Aside0.mk HL.out.done
          clear HL
          have HGD2 := Aside0.mk (HGD.out.le (Nat.le_succ _))
          clear HGD
          go_meet
          exact ⟨g2, D, rfl, HS, HGD2⟩
        have b8 : (q == 8) = false := beq_eq_false_iff_ne.mpr h8
        clear h8
        by_cases h9 : q = 9
        · subst h9
          go_wp2_with (fail)
          have HGD2 := Aside0.mk (HGD.out.le (Nat.le_succ _))
          clear HGD
          go_meet
          exact ⟨g, D, rfl, HS, HGD2⟩
        have b9 : (q == 9) = false := beq_eq_false_iff_ne.mpr h9
        clear h9
        have x2 := blk_cell HS.out.box 2
        have x5 := blk_cell HS.out.box 5
        go_upto_region 15 with (go_at_call 10; (refine (full A5 B.length k5 B _ (Kd.C_below HG5.out HS.out.la.below) rfl HQ5.out (by have := HB5.out.1; omega)).mono ?_); rintro e w8 ⟨Af, cf, rfl, hcf, hR, hb⟩; have HFA := Aside0.mk (Kd.R_lower hR (Nat.zero_le _)); have HCF := Aside0.mk hcf; have n0 := Aside0.mk (HS.out.step_below hb); clear HS hb x2 x5; have HS := n0; clear n0; have x2 := blk_cell HS.out.box 2; have x5 := blk_cell HS.out.box 5; clear hR hcf)
        by_cases h3 : o2 = 3
        · subst h3
          have HHO := Aside0.mk (show Hold w w8 A5 B.length B from .inr HG5.out)
          have HCB := HQ5
          clear HFA HCF
          go_upto_region 18 with (go_at_call 22; (refine (handed_ A5 B.length k5 B _ (HHO.out.C HS.out.la.below) HCB.out (by have := HB5.out.1; omega)).mono ?_); rintro e w9 ⟨Ah, ch, rfl, hch, hH, hb⟩; have HCH := Aside0.mk hch; have HH := Aside0.mk hH; have n1 := Aside0.mk (HHO.out.below hb); have n0 := Aside0.mk (HS.out.step_below hb); clear HS hb; have HS := n0; clear n0; clear HHO hH hch; have HHO := n1; clear n1)
          clear x2 x5
          obtain ⟨⟨rb, D2⟩, hr⟩ : ∃ r, D.write o1 B = r := ⟨_, rfl⟩
          have HGD2 := Aside0.mk (show Good n (i + 1) D2 from by have := good_write HGD.out o1 B; rw [hr] at this; exact this)
          have HRR := Aside0.mk hr
          have hbb : (rb != rb) = false := bne_self_eq_false _
          clear hr
          refine start_ (n := 17) (S := fun w' => w'.cell? ⟨ge, 1, none⟩ = some (.int .i64 o1)) (ds := []) #[false, false, false, false, false, false, false, false, false, false, false, false, false, false, false, false, false] (by kernel_rfl) rfl rfl (blk_cell HS.out.box 1) (fun hHeld => ?_)
          refine with_tabW all18.tab all18.bits (fun HT_ HW_ => ?_)
          have n0 := Aside0.mk (HS.out.step_below (below_drew (Below.refl _ _)))
          have n1 := Aside0.mk (HHO.out.below (below_drew (Below.refl _ _)))
          have n2 := Aside0.mk (Kd.H_drew HH.out)
          clear HS HHO HH 
          have HS := n0
          have HHO := n1
          have HH := n2
          clear n0 n1 n2
          generalize w9.drew = w10 at HS HHO HH hHeld ⊢
          refine pure_ (i := 0) (N := (some 86)) (v := ?_) (a' := ?_) #[true, false, false, false, false, false, false, false, false, false, false, false, false, false, false, false, false] rfl rfl (any_of HT_.out (by kernel_rfl)) (fun _ _ _ h => h) (Or.inl ⟨by rfl, ?_⟩) ?_ ?_
          rotate_left
          · intro w'
            go_simp
            with_reducible rfl
          rotate_left
          · simp only [Act.put, List.setIfInBounds_toArray, List.set_cons_zero, List.set_cons_succ, i64_w, i32_w]
            rfl
          refine pure_ (i := 1) (N := (some 87)) (v := ?_) (a' := ?_) #[true, true, false, false, false, false, false, false, false, false, false, false, false, false, false, false, false] rfl rfl (any_of HT_.out (by kernel_rfl)) (fun _ _ _ h => h) (Or.inl ⟨by rfl, ?_⟩) ?_ ?_
          rotate_left
          · intro w'
            go_simp
            with_reducible rfl
          rotate_left
          · simp only [Act.put, List.setIfInBounds_toArray, List.set_cons_zero, List.set_cons_succ, i64_w, i32_w]
            rfl
          refine pure_ (i := 3) (N := (some 89)) (v := ?_) (a' := ?_) #[true, true, false, true, false, false, false, false, false, false, false, false, false, false, false, false, false] rfl rfl (any_of HT_.out (by kernel_rfl)) (fun _ _ _ h => h) (Or.inl ⟨by rfl, ?_⟩) ?_ ?_
          rotate_left
          · intro w'
            go_simp
            with_reducible rfl
          rotate_left
          · simp only [Act.put, List.setIfInBounds_toArray, List.set_cons_zero, List.set_cons_succ, i64_w, i32_w]
            rfl
          refine pure_ (i := 5) (N := (some 91)) (v := ?_) (a' := ?_) #[true, true, false, true, false, true, false, false, false, false, false, false, false, false, false, false, false] rfl rfl (any_of HT_.out (by kernel_rfl)) (fun _ _ _ h => h) (Or.inl ⟨by rfl, ?_⟩) ?_ ?_
          rotate_left
          · intro w'
            go_simp
            with_reducible rfl
          rotate_left
          · simp only [Act.put, List.setIfInBounds_toArray, List.set_cons_zero, List.set_cons_succ, i64_w, i32_w]
            rfl
          refine pure_ (i := 6) (N := (some 92)) (v := ?_) (a' := ?_) #[true, true, false, true, false, true, true, false, false, false, false, false, false, false, false, false, false] rfl rfl (any_of HT_.out (by kernel_rfl)) (fun _ _ _ h => h) (Or.inl ⟨by rfl, ?_⟩) ?_ ?_
          rotate_left
          · intro w'
            go_simp
            with_reducible rfl
          rotate_left
          · simp only [Act.put, List.setIfInBounds_toArray, List.set_cons_zero, List.set_cons_succ, i64_w, i32_w]
            rfl
          refine pure_ (i := 8) (N := (some 94)) (v := ?_) (a' := ?_) #[true, true, false, true, false, true, true, false, true, false, false, false, false, false, false, false, false] rfl rfl (any_of HT_.out (by kernel_rfl)) (fun _ _ _ h => h) (Or.inl ⟨by rfl, ?_⟩) ?_ ?_
          rotate_left
          · intro w'
            go_simp
            with_reducible rfl
          rotate_left
          · simp only [Act.put, List.setIfInBounds_toArray, List.set_cons_zero, List.set_cons_succ, i64_w, i32_w]
            rfl
          refine take_ (i := 2) (N := (some 88)) (v := ?_) (a' := ?_) #[true, true, true, true, false, true, true, false, true, false, false, false, false, false, false, false, false] rfl rfl (take_ofW HT_.out HW_.out (by kernel_rfl)) (fun _ _ _ h => h) (Or.inl ⟨by rfl, ?_⟩) (by exact hHeld) ?_ ?_
          rotate_left
          · intro w' hw'
            go_simp
            with_reducible rfl
          rotate_left
          · simp only [Act.put, List.setIfInBounds_toArray, List.set_cons_zero, List.set_cons_succ, i64_w, i32_w]
            rfl
          refine take_ (i := 7) (N := (some 93)) (v := ?_) (a' := ?_) #[true, true, true, true, false, true, true, true, true, false, false, false, false, false, false, false, false] rfl rfl (take_ofW HT_.out HW_.out (by kernel_rfl)) (fun _ _ _ h => h) (Or.inl ⟨by rfl, ?_⟩) (by exact hHeld) ?_ ?_
          rotate_left
          · intro w' hw'
            go_simp
            with_reducible rfl
          rotate_left
          · simp only [Act.put, List.setIfInBounds_toArray, List.set_cons_zero, List.set_cons_succ, i64_w, i32_w]
            rfl
          refine one_ (i := 4) (N := (some 90)) #[true, true, true, true, true, true, true, true, true, false, false, false, false, false, false, false, false] rfl rfl (one_of HT_.out (by kernel_rfl)) (by decide) (fun Kq hKq => ?_)
          refine call_ (f := 11) (args := #[.pointer (some ⟨g, 0, none⟩), .int .i64 o1, .slice Ah B.length ch]) (by rfl) rfl (by go_simp) ?_
          refine (Write _ g D o1 Ah B.length ch B _ HS.out.la.dev (fun k hk => HS.out.frd hk) (by have := HGD.out.seen; omega) (by have := HGD.out.later; omega) ⟨by have := HGD.out.l0; omega, HGD.out.l1⟩ ⟨HGD.out.w0, by have := HGD.out.w1; omega⟩ (fun w' hf => rowC (H_fr HH.out hf (by decide)).1) HCH.out).mono ?_
          rintro e w11 ⟨rfl, hd, hf⟩
          rw [HRR.out] at hd ⊢
          dsimp only at hd ⊢
          refine ⟨_, rfl, ?_⟩
          have n0 := Aside0.mk (HS.out.step_dev hd hf)
          have n1 := Aside0.mk (HHO.out.fr hf (by decide))
          have n2 := Aside0.mk (H_fr HH.out hf (by decide))
          clear HS HHO HH hd hf
          have HS := n0
          have HHO := n1
          have HH := n2
          clear n0 n1 n2
          refine hKq.out _ _ (blk_cell HS.out.box 1) (fun hHeld => ?_)
          clear hKq Kq
          refine norm_ (a' := ?_) ?_ ?_
          rotate_left
          · show Act.put _ (some 90) _ = _
            simp only [Act.put, List.setIfInBounds_toArray, List.set_cons_zero, List.set_cons_succ, i64_w, i32_w]
            rfl
          refine one_ (i := 9) (N := (some 95)) #[true, true, true, true, true, true, true, true, true, true, false, false, false, false, false, false, false] rfl rfl (one_of HT_.out (by kernel_rfl)) (by decide) (fun Kq hKq => ?_)
          refine call_ (f := 23) (args := #[.pointer (some ⟨gr, 0, none⟩), .int .i64 o1, .slice A5 B.length k5]) (by rfl) rfl (by go_simp) ?_
          refine (Ref_Write _ gr D o1 A5 B.length k5 B _ HS.out.la.ref (fun k hk => HS.out.frd hk) (by have := HGD.out.seen; omega) (by have := HGD.out.later; omega) ⟨HGD.out.l0, HGD.out.l1⟩ ⟨HGD.out.w0, by have := HGD.out.w1; omega⟩ (fun w' hf => (HHO.out.fr hf (by decide)).C (hf.below HS.out.la.below HS.out.la.below.size (fun k hk => hk))) HCB.out).mono ?_
          rintro e w12 ⟨rfl, hd, hf⟩
          rw [HRR.out] at hd ⊢
          dsimp only at hd ⊢
          refine ⟨_, rfl, ?_⟩
          have n0 := Aside0.mk (HS.out.step_ref hd hf)
          have n1 := Aside0.mk (HHO.out.fr hf (by decide))
          have n2 := Aside0.mk (H_fr HH.out hf (by decide))
          clear HS HHO HH hd hf
          have HS := n0
          have HHO := n1
          have HH := n2
          clear n0 n1 n2
          refine hKq.out _ _ (blk_cell HS.out.box 1) (fun hHeld => ?_)
          clear hKq Kq
          refine norm_ (a' := ?_) ?_ ?_
          rotate_left
          · show Act.put _ (some 95) _ = _
            simp only [Act.put, List.setIfInBounds_toArray, List.set_cons_zero, List.set_cons_succ, i64_w, i32_w]
            rfl
          refine pure_ (i := 10) (N := (some 96)) (v := ?_) (a' := ?_) #[true, true, true, true, true, true, true, true, true, true, true, false, false, false, false, false, false] rfl rfl (any_of HT_.out (by kernel_rfl)) (fun _ _ _ h => h) (Or.inl ⟨by rfl, ?_⟩) ?_ ?_
          rotate_left
          · intro w'
            go_simp
            with_reducible rfl
          rotate_left
          · simp only [Act.put, List.setIfInBounds_toArray, List.set_cons_zero, List.set_cons_succ, i64_w, i32_w]
            rfl
          refine pure_ (i := 11) (N := (some 97)) (v := ?_) (a' := ?_) #[true, true, true, true, true, true, true, true, true, true, true, true, false, false, false, false, false] rfl rfl (any_of HT_.out (by kernel_rfl)) (fun _ _ _ h => h) (Or.inl ⟨by rfl, ?_⟩) ?_ ?_
          rotate_left
          · intro w'
            go_simp
            with_reducible rfl
          rotate_left
          · simp only [Act.put, List.setIfInBounds_toArray, List.set_cons_zero, List.set_cons_succ, i64_w, i32_w]
            rfl
          refine pure_ (i := 12) (N := (some 98)) (v := ?_) (a' := ?_) #[true, true, true, true, true, true, true, true, true, true, true, true, true, false, false, false, false] rfl rfl (any_of HT_.out (by kernel_rfl)) (fun _ _ _ h => h) (Or.inl ⟨by rfl, ?_⟩) ?_ ?_
          rotate_left
          · intro w'
            go_simp
            with_reducible rfl
          rotate_left
          · simp only [Act.put, List.setIfInBounds_toArray, List.set_cons_zero, List.set_cons_succ, i64_w, i32_w]
            rfl
          refine pure_ (i := 13) (N := (some 99)) (v := ?_) (a' := ?_) #[true, true, true, true, true, true, true, true, true, true, true, true, true, true, false, false, false] rfl rfl (any_of HT_.out (by kernel_rfl)) (fun _ _ _ h => h) (Or.inl ⟨by rfl, ?_⟩) ?_ ?_
          rotate_left
          · intro w'
            go_simp
            with_reducible rfl
          rotate_left
          · simp only [Act.put, List.setIfInBounds_toArray, List.set_cons_zero, List.set_cons_succ, i64_w, i32_w]
            rfl
          refine one_ (i := 14) (N := (some 100)) #[true, true, true, true, true, true, true, true, true, true, true, true, true, true, true, false, false] rfl rfl (one_of HT_.out (by kernel_rfl)) (by decide) (fun Kq hKq => ?_)
          refine call_ (f := 24) (args := #[.slice Ah B.length ch, .slice A5 B.length k5]) (by rfl) rfl (by go_simp) ?_
          refine (same_ Ah A5 B.length ch k5 B _ _ _ HH.out (HHO.out.C HS.out.la.below) HCH.out HCB.out).mono ?_
          rintro e w13 ⟨rfl, hd⟩
          refine ⟨_, rfl, ?_⟩
          have n0 := Aside0.mk (HS.out.step_below hd.below)
          clear HS HHO HH hd
          have HS := n0
          clear n0
          refine hKq.out _ _ (blk_cell HS.out.box 1) (fun hHeld => ?_)
          clear hKq Kq
          refine norm_ (a' := ?_) ?_ ?_
          rotate_left
          · show Act.put _ (some 100) _ = _
            simp only [Act.put, List.setIfInBounds_toArray, List.set_cons_zero, List.set_cons_succ, i64_w, i32_w]
            rfl
          refine pure_ (i := 15) (N := (some 101)) (v := ?_) (a' := ?_) #[true, true, true, true, true, true, true, true, true, true, true, true, true, true, true, true, false] rfl rfl (any_of HT_.out (by kernel_rfl)) (fun _ _ _ h => h) (Or.inl ⟨by rfl, ?_⟩) ?_ ?_
          rotate_left
          · intro w'
            go_simp
            with_reducible rfl
          rotate_left
          · simp only [Act.put, List.setIfInBounds_toArray, List.set_cons_zero, List.set_cons_succ, i64_w, i32_w]
            rfl
          refine pure_ (i := 16) (N := (some 102)) (v := ?_) (a' := ?_) #[true, true, true, true, true, true, true, true, true, true, true, true, true, true, true, true, true] rfl rfl (any_of HT_.out (by kernel_rfl)) (fun _ _ _ h => h) (Or.inl ⟨by rfl, ?_⟩) ?_ ?_
          rotate_left
          · intro w'
            go_simp
            with_reducible rfl
          rotate_left
          · simp only [Act.put, List.setIfInBounds_toArray, List.set_cons_zero, List.set_cons_succ, i64_w, i32_w]
            rfl
          refine done_ (done_of HT_.out (by kernel_rfl)) ?_
          clear HGD hbb HRR
          go_wp2
          go_meet
          exact ⟨g, D2, rfl, HS, HGD2⟩
        · have b33 : (o2 == 3) = false := beq_eq_false_iff_ne.mpr h3
          clear h3
          have HHO := Aside0.mk (show Hold w w8 Af 128 (fullS B) from .inl ⟨_, _, HFA.out⟩)
          have HCB := HCF
          clear HFA
          go_upto_region 18 with (go_at_call 22; (refine (handed_ Af 128 cf (fullS B) _ (HHO.out.C HS.out.la.below) HCB.out (by decide)).mono ?_); rintro e w9 ⟨Ah, ch, rfl, hch, hH, hb⟩; have HCH := Aside0.mk hch; have HH := Aside0.mk hH; have n1 := Aside0.mk (HHO.out.below hb); have n0 := Aside0.mk (HS.out.step_below hb); clear HS hb; have HS := n0; clear n0; clear HHO hH hch; have HHO := n1; clear n1)
          clear x2 x5
          obtain ⟨⟨rb, D2⟩, hr⟩ : ∃ r, D.write o1 (fullS B) = r := ⟨_, rfl⟩
          have HGD2 := Aside0.mk (show Good n (i + 1) D2 from by have := good_write HGD.out o1 (fullS B); rw [hr] at this; exact this)
          have HRR := Aside0.mk hr
          have hbb : (rb != rb) = false := bne_self_eq_false _
          clear hr
          refine start_ (n := 17) (S := fun w' => w'.cell? ⟨ge, 1, none⟩ = some (.int .i64 o1)) (ds := []) #[false, false, false, false, false, false, false, false, false, false, false, false, false, false, false, false, false] (by kernel_rfl) rfl rfl (blk_cell HS.out.box 1) (fun hHeld => ?_)
          refine with_tabW all18.tab all18.bits (fun HT_ HW_ => ?_)
          have n0 := Aside0.mk (HS.out.step_below (below_drew (Below.refl _ _)))
          have n1 := Aside0.mk (HHO.out.below (below_drew (Below.refl _ _)))
          have n2 := Aside0.mk (Kd.H_drew HH.out)
          clear HS HHO HH 
          have HS := n0
          have HHO := n1
          have HH := n2
          clear n0 n1 n2
          generalize w9.drew = w10 at HS HHO HH hHeld ⊢
          refine pure_ (i := 0) (N := (some 86)) (v := ?_) (a' := ?_) #[true, false, false, false, false, false, false, false, false, false, false, false, false, false, false, false, false] rfl rfl (any_of HT_.out (by kernel_rfl)) (fun _ _ _ h => h) (Or.inl ⟨by rfl, ?_⟩) ?_ ?_
          rotate_left
          · intro w'
            go_simp
            with_reducible rfl
          rotate_left
          · simp only [Act.put, List.setIfInBounds_toArray, List.set_cons_zero, List.set_cons_succ, i64_w, i32_w]
            rfl
          refine pure_ (i := 1) (N := (some 87)) (v := ?_) (a' := ?_) #[true, true, false, false, false, false, false, false, false, false, false, false, false, false, false, false, false] rfl rfl (any_of HT_.out (by kernel_rfl)) (fun _ _ _ h => h) (Or.inl ⟨by rfl, ?_⟩) ?_ ?_
          rotate_left
          · intro w'
            go_simp
            with_reducible rfl
          rotate_left
          · simp only [Act.put, List.setIfInBounds_toArray, List.set_cons_zero, List.set_cons_succ, i64_w, i32_w]
            rfl
          refine pure_ (i := 3) (N := (some 89)) (v := ?_) (a' := ?_) #[true, true, false, true, false, false, false, false, false, false, false, false, false, false, false, false, false] rfl rfl (any_of HT_.out (by kernel_rfl)) (fun _ _ _ h => h) (Or.inl ⟨by rfl, ?_⟩) ?_ ?_
          rotate_left
          · intro w'
            go_simp
            with_reducible rfl
          rotate_left
          · simp only [Act.put, List.setIfInBounds_toArray, List.set_cons_zero, List.set_cons_succ, i64_w, i32_w]
            rfl
          refine pure_ (i := 5) (N := (some 91)) (v := ?_) (a' := ?_) #[true, true, false, true, false, true, false, false, false, false, false, false, false, false, false, false, false] rfl rfl (any_of HT_.out (by kernel_rfl)) (fun _ _ _ h => h) (Or.inl ⟨by rfl, ?_⟩) ?_ ?_
          rotate_left
          · intro w'
            go_simp
            with_reducible rfl
          rotate_left
          · simp only [Act.put, List.setIfInBounds_toArray, List.set_cons_zero, List.set_cons_succ, i64_w, i32_w]
            rfl
          refine pure_ (i := 6) (N := (some 92)) (v := ?_) (a' := ?_) #[true, true, false, true, false, true, true, false, false, false, false, false, false, false, false, false, false] rfl rfl (any_of HT_.out (by kernel_rfl)) (fun _ _ _ h => h) (Or.inl ⟨by rfl, ?_⟩) ?_ ?_
          rotate_left
          · intro w'
            go_simp
            with_reducible rfl
          rotate_left
          · simp only [Act.put, List.setIfInBounds_toArray, List.set_cons_zero, List.set_cons_succ, i64_w, i32_w]
            rfl
          refine pure_ (i := 8) (N := (some 94)) (v := ?_) (a' := ?_) #[true, true, false, true, false, true, true, false, true, false, false, false, false, false, false, false, false] rfl rfl (any_of HT_.out (by kernel_rfl)) (fun _ _ _ h => h) (Or.inl ⟨by rfl, ?_⟩) ?_ ?_
          rotate_left
          · intro w'
            go_simp
            with_reducible rfl
          rotate_left
          · simp only [Act.put, List.setIfInBounds_toArray, List.set_cons_zero, List.set_cons_succ, i64_w, i32_w]
            rfl
          refine take_ (i := 2) (N := (some 88)) (v := ?_) (a' := ?_) #[true, true, true, true, false, true, true, false, true, false, false, false, false, false, false, false, false] rfl rfl (take_ofW HT_.out HW_.out (by kernel_rfl)) (fun _ _ _ h => h) (Or.inl ⟨by rfl, ?_⟩) (by exact hHeld) ?_ ?_
          rotate_left
          · intro w' hw'
            go_simp
            with_reducible rfl
          rotate_left
          · simp only [Act.put, List.setIfInBounds_toArray, List.set_cons_zero, List.set_cons_succ, i64_w, i32_w]
            rfl
          refine take_ (i := 7) (N := (some 93)) (v := ?_) (a' := ?_) #[true, true, true, true, false, true, true, true, true, false, false, false, false, false, false, false, false] rfl rfl (take_ofW HT_.out HW_.out (by kernel_rfl)) (fun _ _ _ h => h) (Or.inl ⟨by rfl, ?_⟩) (by exact hHeld) ?_ ?_
          rotate_left
          · intro w' hw'
            go_simp
            with_reducible rfl
          rotate_left
          · simp only [Act.put, List.setIfInBounds_toArray, List.set_cons_zero, List.set_cons_succ, i64_w, i32_w]
            rfl
          refine one_ (i := 4) (N := (some 90)) #[true, true, true, true, true, true, true, true, true, false, false, false, false, false, false, false, false] rfl rfl (one_of HT_.out (by kernel_rfl)) (by decide) (fun Kq hKq => ?_)
          refine call_ (f := 11) (args := #[.pointer (some ⟨g, 0, none⟩), .int .i64 o1, .slice Ah 128 ch]) (by rfl) rfl (by go_simp) ?_
          refine (Write _ g D o1 Ah 128 ch (fullS B) _ HS.out.la.dev (fun k hk => HS.out.frd hk) (by have := HGD.out.seen; omega) (by have := HGD.out.later; omega) ⟨by have := HGD.out.l0; omega, HGD.out.l1⟩ ⟨HGD.out.w0, by have := HGD.out.w1; omega⟩ (fun w' hf => rowC (H_fr HH.out hf (by decide)).1) HCH.out).mono ?_
          rintro e w11 ⟨rfl, hd, hf⟩
          rw [HRR.out] at hd ⊢
          dsimp only at hd ⊢
          refine ⟨_, rfl, ?_⟩
          have n0 := Aside0.mk (HS.out.step_dev hd hf)
          have n1 := Aside0.mk (HHO.out.fr hf (by decide))
          have n2 := Aside0.mk (H_fr HH.out hf (by decide))
          clear HS HHO HH hd hf
          have HS := n0
          have HHO := n1
          have HH := n2
          clear n0 n1 n2
          refine hKq.out _ _ (blk_cell HS.out.box 1) (fun hHeld => ?_)
          clear hKq Kq
          refine norm_ (a' := ?_) ?_ ?_
          rotate_left
          · show Act.put _ (some 90) _ = _
            simp only [Act.put, List.setIfInBounds_toArray, List.set_cons_zero, List.set_cons_succ, i64_w, i32_w]
            rfl
          refine one_ (i := 9) (N := (some 95)) #[true, true, true, true, true, true, true, true, true, true, false, false, false, false, false, false, false] rfl rfl (one_of HT_.out (by kernel_rfl)) (by decide) (fun Kq hKq => ?_)
          refine call_ (f := 23) (args := #[.pointer (some ⟨gr, 0, none⟩), .int .i64 o1, .slice Af 128 cf]) (by rfl) rfl (by go_simp) ?_
          refine (Ref_Write _ gr D o1 Af 128 cf (fullS B) _ HS.out.la.ref (fun k hk => HS.out.frd hk) (by have := HGD.out.seen; omega) (by have := HGD.out.later; omega) ⟨HGD.out.l0, HGD.out.l1⟩ ⟨HGD.out.w0, by have := HGD.out.w1; omega⟩ (fun w' hf => (HHO.out.fr hf (by decide)).C (hf.below HS.out.la.below HS.out.la.below.size (fun k hk => hk))) HCB.out).mono ?_
          rintro e w12 ⟨rfl, hd, hf⟩
          rw [HRR.out] at hd ⊢
          dsimp only at hd ⊢
          refine ⟨_, rfl, ?_⟩
          have n0 := Aside0.mk (HS.out.step_ref hd hf)
          have n1 := Aside0.mk (HHO.out.fr hf (by decide))
          have n2 := Aside0.mk (H_fr HH.out hf (by decide))
          clear HS HHO HH hd hf
          have HS := n0
          have HHO := n1
          have HH := n2
          clear n0 n1 n2
          refine hKq.out _ _ (blk_cell HS.out.box 1) (fun hHeld => ?_)
          clear hKq Kq
          refine norm_ (a' := ?_) ?_ ?_
          rotate_left
          · show Act.put _ (some 95) _ = _
            simp only [Act.put, List.setIfInBounds_toArray, List.set_cons_zero, List.set_cons_succ, i64_w, i32_w]
            rfl
          refine pure_ (i := 10) (N := (some 96)) (v := ?_) (a' := ?_) #[true, true, true, true, true, true, true, true, true, true, true, false, false, false, false, false, false] rfl rfl (any_of HT_.out (by kernel_rfl)) (fun _ _ _ h => h) (Or.inl ⟨by rfl, ?_⟩) ?_ ?_
          rotate_left
          · intro w'
            go_simp
            with_reducible rfl
          rotate_left
          · simp only [Act.put, List.setIfInBounds_toArray, List.set_cons_zero, List.set_cons_succ, i64_w, i32_w]
            rfl
          refine pure_ (i := 11) (N := (some 97)) (v := ?_) (a' := ?_) #[true, true, true, true, true, true, true, true, true, true, true, true, false, false, false, false, false] rfl rfl (any_of HT_.out (by kernel_rfl)) (fun _ _ _ h => h) (Or.inl ⟨by rfl, ?_⟩) ?_ ?_
          rotate_left
          · intro w'
            go_simp
            with_reducible rfl
          rotate_left
          · simp only [Act.put, List.setIfInBounds_toArray, List.set_cons_zero, List.set_cons_succ, i64_w, i32_w]
            rfl
          refine pure_ (i := 12) (N := (some 98)) (v := ?_) (a' := ?_) #[true, true, true, true, true, true, true, true, true, true, true, true, true, false, false, false, false] rfl rfl (any_of HT_.out (by kernel_rfl)) (fun _ _ _ h => h) (Or.inl ⟨by rfl, ?_⟩) ?_ ?_
          rotate_left
          · intro w'
            go_simp
            with_reducible rfl
          rotate_left
          · simp only [Act.put, List.setIfInBounds_toArray, List.set_cons_zero, List.set_cons_succ, i64_w, i32_w]
            rfl
          refine pure_ (i := 13) (N := (some 99)) (v := ?_) (a' := ?_) #[true, true, true, true, true, true, true, true, true, true, true, true, true, true, false, false, false] rfl rfl (any_of HT_.out (by kernel_rfl)) (fun _ _ _ h => h) (Or.inl ⟨by rfl, ?_⟩) ?_ ?_
          rotate_left
          · intro w'
            go_simp
            with_reducible rfl
          rotate_left
          · simp only [Act.put, List.setIfInBounds_toArray, List.set_cons_zero, List.set_cons_succ, i64_w, i32_w]
            rfl
          refine one_ (i := 14) (N := (some 100)) #[true, true, true, true, true, true, true, true, true, true, true, true, true, true, true, false, false] rfl rfl (one_of HT_.out (by kernel_rfl)) (by decide) (fun Kq hKq => ?_)
          refine call_ (f := 24) (args := #[.slice Ah 128 ch, .slice Af 128 cf]) (by rfl) rfl (by go_simp) ?_
          refine (same_ Ah Af 128 ch cf (fullS B) _ _ _ HH.out (HHO.out.C HS.out.la.below) HCH.out HCB.out).mono ?_
          rintro e w13 ⟨rfl, hd⟩
          refine ⟨_, rfl, ?_⟩
          have n0 := Aside0.mk (HS.out.step_below hd.below)
          clear HS HHO HH hd
          have HS := n0
          clear n0
          refine hKq.out _ _ (blk_cell HS.out.box 1) (fun hHeld => ?_)
          clear hKq Kq
          refine norm_ (a' := ?_) ?_ ?_
          rotate_left
          · show Act.put _ (some 100) _ = _
            simp only [Act.put, List.setIfInBounds_toArray, List.set_cons_zero, List.set_cons_succ, i64_w, i32_w]
            rfl
          refine pure_ (i := 15) (N := (some 101)) (v := ?_) (a' := ?_) #[true, true, true, true, true, true, true, true, true, true, true, true, true, true, true, true, false] rfl rfl (any_of HT_.out (by kernel_rfl)) (fun _ _ _ h => h) (Or.inl ⟨by rfl, ?_⟩) ?_ ?_
          rotate_left
          · intro w'
            go_simp
            with_reducible rfl
          rotate_left
          · simp only [Act.put, List.setIfInBounds_toArray, List.set_cons_zero, List.set_cons_succ, i64_w, i32_w]
            rfl
          refine pure_ (i := 16) (N := (some 102)) (v := ?_) (a' := ?_) #[true, true, true, true, true, true, true, true, true, true, true, true, true, true, true, true, true] rfl rfl (any_of HT_.out (by kernel_rfl)) (fun _ _ _ h => h) (Or.inl ⟨by rfl, ?_⟩) ?_ ?_
          rotate_left
          · intro w'
            go_simp
            with_reducible rfl
          rotate_left
          · simp only [Act.put, List.setIfInBounds_toArray, List.set_cons_zero, List.set_cons_succ, i64_w, i32_w]
            rfl
          refine done_ (done_of HT_.out (by kernel_rfl)) ?_
          clear HGD hbb HRR
          go_wp2
          go_meet
          exact ⟨g, D2, rfl, HS, HGD2⟩
      case rest =>
        clear HS HGD
        obtain ⟨g2, D2, rfl, HS, HGD2⟩ := hcut
        have x1 := blk_cell HS.out.box 1
        go_upto_region 37 with (first | (go_at_call 14; (refine (Read_any _ g2 D2 o1 _ HS.out.la.dev (by have := HGD2.out.seen; omega)).mono ?_); rintro e w20 ⟨Ax, nx, cx, lx, he, hcx, hsx, hC, hb⟩; subst he; have HX := Aside0.mk hC; have n0 := Aside0.mk (HS.out.step_below hb); clear HS hb x1 hC; have HS := n0; clear n0; have x1 := blk_cell HS.out.box 1) | (go_at_call 25; (refine (Ref_Read_any _ gr D2 o1 _ HS.out.la.ref (dev_whole HS.out.la.dev).seen (by have := HGD2.out.seen; omega)).mono ?_); rintro e w21 ⟨Ay, ny, cy, ly, he, hcy, hsy, hC, hb⟩; subst he; have HY := Aside0.mk hC; have HX2 := Aside0.mk (Kd.C_below HX.out hb); clear HX; have n0 := Aside0.mk (HS.out.step_below hb); clear HS hb x1 hC; have HS := n0; clear n0; have x1 := blk_cell HS.out.box 1))
        generalize isAt D2 o1 = pb
        generalize strOfNums (rowAt D2 o1) = sr at hsx hsy
        have hcs1 := fun m : Nat => Kd.C_string (P := Try.prog) (src := 23) (e := 5) (dst := 9) (c := cx) Try.underlying23 Try.underlying5 Try.underlying9 (Kd.C_drewN HX2.out m)
        have hcs2 := fun m : Nat => Kd.C_string (P := Try.prog) (src := 23) (e := 5) (dst := 9) (c := cy) Try.underlying23 Try.underlying5 Try.underlying9 (Kd.C_drewN HY.out m)
        have hcs3 := Kd.C_string (P := Try.prog) (src := 23) (e := 5) (dst := 9) (c := cx) Try.underlying23 Try.underlying5 Try.underlying9 (HX2.out)
        have hcs4 := Kd.C_string (P := Try.prog) (src := 23) (e := 5) (dst := 9) (c := cy) Try.underlying23 Try.underlying5 Try.underlying9 (HY.out)
        simp only [hsx] at hcs1 hcs3
        simp only [hsy] at hcs2 hcs4
        have hwr : ∀ W, La w W g2 gr D2 D2 → W.cell? ⟨gr, 3, none⟩ = some (.int .i64 D2.writes) := fun W h => by
          obtain ⟨vu, vs, vl, hraw⟩ := h.ref
          exact blk_cell hraw.blk 3
        have x3r := hwr _ HS.out.la
        have hd1 : ∀ m, La w (w21.drewN m) g2 gr D2 D2 := fun m => HS.out.la.step_below (pw_below_drewN (Below.refl _ _) m)
        have HD1 := Aside0.mk hd1
        have hne1 : (D2.writes != D2.writes) = false := bne_self_eq_false _
        have hne2 : (pb != pb) = false := bne_self_eq_false _
        have hne3 : ((D2.left == 0) != (D2.left == 0)) = false := bne_self_eq_false _
        have x3m := fun m => hwr _ (hd1 m)
        clear hwr hd1 hsx hsy x1
        go_quiet (first | (go_at_call 15; (refine (Writes _ g2 D2 _ (HD1.out _).dev).mono ?_); rintro e wz ⟨rfl, hww⟩; subst hww; exact ⟨rfl, _, rfl⟩) | (go_at_call 26; (refine (Stopped _ g2 D2 _ (HD1.out _).dev).mono ?_); rintro e wz ⟨rfl, hww⟩; subst hww; exact ⟨rfl, _, rfl⟩) | (go_at_call 27; (refine (Ref_Stopped _ gr D2 _ (HD1.out _).ref).mono ?_); rintro e wz ⟨rfl, hww⟩; subst hww; exact ⟨rfl, _, rfl⟩))
        go_wp2
        go_roundg (gk - 1)
        case measure => have := HI.out; omega
        case rel => exact ⟨i + 1, g2, D2, by first | rfl | go_num, rfl, ⟨by have := HLT.out; omega, by have := HI.out; omega⟩, ⟨HS.out.la.step_below (pw_below_drewN (Below.refl _ _) _)⟩, HGD2⟩
    · skip
      have e1 : decide ((i : Int) < (l1.length : Int)) = false := decide_eq_false (by omega)
      have e2 : decide (i < l1.length) = false := decide_eq_false hlt
      have e3 : ¬ (i : Int) < (l1.length : Int) := by omega
      have HM40 := HA.out.1
      have HIL := Aside0.mk (show i ≤ 40 by have := HI.out.1; omega)
      clear hlt HM40
      go_wp2
      go_loopg [18] (n + 1) (fun kq v18 w4 => ∃ j : Nat, v18 = .int .i64 (j : Int) ∧ Aside0 (j ≤ n ∧ n < kq + j) ∧ Aside0 (La w w4 g gr D D))
      case atStart => exact ⟨0, rfl, ⟨by omega, by omega⟩, HS⟩
      case round =>
        clear HS e1 e2 e3
        obtain ⟨j, rfl, HJ, HS⟩ := hrel
        by_cases hlt : j < n
        · have e1 : decide ((j : Int) < (n : Int)) = true := decide_eq_true (by omega)
          have e2 : decide (j < n) = true := decide_eq_true hlt
          have e3 : (j : Int) < (n : Int) := by omega
          have hw1 : IntKind.i64.wrap ((j : Int) + 1) = ((j + 1 : Nat) : Int) := by rw [IntKind.wrap_i64]; omega
          have HLT := Aside0.mk hlt
          have HIS := Aside0.mk (show isAt D (j : Int) = true from decide_eq_true ⟨by omega, by have := HGD.out.seen; omega⟩)
          clear hlt
          go_upto_region 44 with (first | (go_at_call 14; (refine (Read_any _ g D (j : Int) _ HS.out.dev (by have := HGD.out.seen; omega)).mono ?_); rintro e w20 ⟨Ax, nx, cx, lx, he, hcx, hsx, hC, hb⟩; rw [HIS.out] at he; subst he; have HX := Aside0.mk hC; have n0 := Aside0.mk (HS.out.step_below hb); clear HS hb hC; have HS := n0; clear n0) | (go_at_call 25; (refine (Ref_Read_any _ gr D (j : Int) _ HS.out.ref (dev_whole HS.out.dev).seen (by have := HGD.out.seen; omega)).mono ?_); rintro e w21 ⟨Ay, ny, cy, ly, he, hcy, hsy, hC, hb⟩; rw [HIS.out] at he; subst he; have HY := Aside0.mk hC; have HX2 := Aside0.mk (Kd.C_below HX.out hb); clear HX; have n0 := Aside0.mk (HS.out.step_below hb); clear HS hb hC; have HS := n0; clear n0))
          generalize strOfNums (rowAt D (j : Int)) = sr at hsx hsy
          have hcs3 := Kd.C_string (P := Try.prog) (src := 23) (e := 5) (dst := 9) (c := cx) Try.underlying23 Try.underlying5 Try.underlying9 (HX2.out)
          have hcs4 := Kd.C_string (P := Try.prog) (src := 23) (e := 5) (dst := 9) (c := cy) Try.underlying23 Try.underlying5 Try.underlying9 (HY.out)
          simp only [hsx] at hcs3
          simp only [hsy] at hcs4
          clear hsx hsy
          go_wp2
          go_roundg (gk - 1)
          case measure => have := HJ.out; omega
          case rel => exact ⟨j + 1, by first | rfl | go_num, ⟨by have := HLT.out; omega, by have := HJ.out; omega⟩, HS⟩
        · have e1 : decide ((j : Int) < (n : Int)) = false := decide_eq_false (by omega)
          have e2 : decide (j < n) = false := decide_eq_false hlt
          have e3 : ¬ (j : Int) < (n : Int) := by omega
          clear hlt
          go_wp2_with (first | (go_at_call 14; (with_reducible refine (nil_Read _).mono ?_); rintro e wz ⟨rfl, hww⟩; subst hww) | (go_at_call 12; (with_reducible refine (nil_Flush _).mono ?_); rintro e wz ⟨rfl, hww⟩; subst hww) | (go_at_call 18; (with_reducible refine (nil_Stop 1 _).mono ?_); rintro e wz ⟨rfl, hww⟩; subst hww) | (go_at_call 13; (with_reducible refine (nil_Crash (.slice none 0 0) 0 0 _).mono ?_); rintro e wz ⟨rfl, hww⟩; subst hww) | (go_at_call 10; (refine (full none 0 0 [] _ (rowC (Kd.R_nil (Kd.int .u8) 5 _ 0 (fun _ => True))) rfl (by decide) (by decide)).mono ?_); rintro e w30 ⟨Af, cf, rfl, hcf, hR, hb⟩; have n0 := Aside0.mk (HS.out.step_below hb); clear HS hb hR; have HS := n0; clear n0) | (go_at_call 11; (with_reducible refine (nil_Write _ _ _ _).mono ?_); rintro e wz ⟨rfl, hww⟩; subst hww) | (go_at_call 28; (with_reducible refine (Blocks _ g D _ HS.out.dev).mono ?_); rintro e wz ⟨rfl, hww⟩; subst hww; rw [HGD.out.seen]) | (go_at_call 28; (with_reducible refine (nil_Blocks _).mono ?_); rintro e wz ⟨rfl, hww⟩; subst hww) | (go_at_call 15; (with_reducible refine (nil_Writes _).mono ?_); rintro e wz ⟨rfl, hww⟩; subst hww) | (go_at_call 26; (with_reducible refine (nil_Stopped _).mono ?_); rintro e wz ⟨rfl, hww⟩; subst hww) | (go_at_call 21; (with_reducible refine (nil_Copy _).mono ?_); rintro e wz ⟨rfl, hww⟩; subst hww))
          go_ret
          exact ⟨rfl, HS.out.below⟩
set_option maxHeartbeats 64000000 in
set_option maxRecDepth 100000 in
theorem all_walk (n0 : Int) (A1 : Option Addr) (c1 : Nat) (l1 : List S34) (w : World) (hr1 : Kd.C k34 w A1 l1.length l1) (hc1 : l1.length ≤ c1) (hok : ∀ o, o ∈ l1 → okO o) :
    Calls Try.prog 5 #[.int .i64 n0, .slice A1 l1.length c1] w fun e w' => e = .returned (.bool true) ∧ Below w.heap.size w w' := by
  obtain ⟨ra, hra, hla⟩ := light A1 c1 l1 w hr1 hc1
  have HLA := Aside0.mk hla
  cases ra with
  | false =>
    have HR := Aside0.mk hr1
    clear hla hr1 hok hra
    go_enter Try.func5, Try.ntmps5
    go_wp2_with (first | (go_at_call 7; (refine (begun _).mono ?_); rintro e w1 ⟨rfl, hb⟩; have HB := Aside0.mk hb; clear hb) | (go_at_call 8; (refine (HLA.out _ (Kd.C_below HR.out HB.out)).mono ?_); rintro e w2 ⟨rfl, hd⟩; have n0 := Aside0.mk (below_step HB.out hd.below); clear HB hd; have HB := n0; clear n0))
    go_ret
    exact ⟨rfl, HB.out⟩
  | true =>
    by_cases h50 : 50 < n0 ∧ n0 ≤ 4000
    · have d1 : decide (50 < n0) = true := decide_eq_true h50.1
      have d2 : decide (n0 ≤ 4000) = true := decide_eq_true h50.2
      have HR := Aside0.mk hr1
      clear hla hr1 hok hra h50
      go_enter Try.func5, Try.ntmps5
      go_wp2_with (first | (go_at_call 7; (refine (begun _).mono ?_); rintro e w1 ⟨rfl, hb⟩; have HB := Aside0.mk hb; clear hb) | (go_at_call 8; (refine (HLA.out _ (Kd.C_below HR.out HB.out)).mono ?_); rintro e w2 ⟨rfl, hd⟩; have n0 := Aside0.mk (below_step HB.out hd.below); clear HB hd; have HB := n0; clear n0))
      go_ret
      exact ⟨rfl, HB.out⟩
    · by_cases h1 : 1 ≤ n0 ∧ n0 ≤ 4000
      · obtain ⟨n, rfl⟩ := Int.eq_ofNat_of_zero_le (show 0 ≤ n0 by omega)
        exact all_yes n A1 c1 l1 w hr1 hc1 hok (by omega) (by omega) ⟨hra rfl⟩ HLA
      · exact all_no n0 A1 c1 l1 w hr1 hc1 ⟨h1⟩ HLA
end Go.Proofs.Ytaoegbebeogkbaa.PDev
