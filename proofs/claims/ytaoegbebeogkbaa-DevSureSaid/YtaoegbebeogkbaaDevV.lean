/- DevSure: what was flushed is there behind any crash: the walk. Conditions: none. -/
import Derived.Test.YtaoegbebeogkbaaDevU
namespace Go.Proofs.Ytaoegbebeogkbaa.PDev
open Go.RowKit Go.Proofs.YtaoegbebeogkbaaW.PrintWords Go.Proofs.YtaoegbebeogkbaaW.PrintLast Go.Proofs.YtaoegbebeogkbaaW.PrintMore
open Go.Extern.Stop Go.Stop Go.Extern
set_option linter.unusedVariables false
set_option linter.unusedSimpArgs false
def sure17.T : Bool × List (List Nat × List Nat) := (true, [([], []), ([], []), ([], []), ([1, 2], [1, 2]), ([3], [3]), ([4], [4]), ([5], [5]), ([], []), ([], []), ([7, 8], [7, 8]), ([9], [9]), ([10], [10]), ([11], [11]), ([0, 6, 12, 12], [0, 6, 12]), ([13], [13])])
def sure17.B : List Nat := [0, 0, 0, 6, 14, 30, 62, 0, 0, 384, 896, 1920, 3968, 8191, 16383]
theorem sure17.tab : rtab .any (opsOf Try.f3 17) = sure17.T := by kernel_rfl
theorem sure17.bits : waitsOk sure17.T.2 sure17.B = true := by kernel_rfl
def sure19.T : Bool × List (List Nat × List Nat) := (true, [([], []), ([], []), ([0, 1], [0, 1]), ([2], [2]), ([3], [3]), ([4], [4]), ([], []), ([], []), ([6, 7], [6, 7]), ([8], [8]), ([9], [9]), ([10], [10]), ([11], [11]), ([5, 0, 1, 2, 3, 4, 5, 6, 7, 8, 9, 10, 11, 12], [5]), ([13, 12, 11, 0, 1, 2, 3, 4, 5, 6, 7, 8, 9, 10, 11, 12], [12, 13])])
def sure19.B : List Nat := [0, 0, 3, 7, 15, 31, 0, 0, 192, 448, 960, 1984, 4032, 8191, 16383]
theorem sure19.tab : rtab .any (opsOf Try.f3 19) = sure19.T := by kernel_rfl
theorem sure19.bits : waitsOk sure19.T.2 sure19.B = true := by kernel_rfl
def sure24.T : Bool × List (List Nat × List Nat) := (true, [([], []), ([], []), ([], []), ([1, 2], [1, 2]), ([3], [3]), ([4], [4]), ([5], [5]), ([], []), ([], []), ([7, 8], [7, 8]), ([9], [9]), ([10], [10]), ([11], [11]), ([0, 6, 12, 12], [0, 6, 12]), ([13], [13])])
def sure24.B : List Nat := [0, 0, 0, 6, 14, 30, 62, 0, 0, 384, 896, 1920, 3968, 8191, 16383]
theorem sure24.tab : rtab .any (opsOf Try.f3 24) = sure24.T := by kernel_rfl
theorem sure24.bits : waitsOk sure24.T.2 sure24.B = true := by kernel_rfl
theorem full_nil : fullS [] = z128 := by decide +kernel
set_option maxHeartbeats 16000000 in
set_option maxRecDepth 100000 in
theorem sure_walk (A0 : Option Addr) (c0 : Nat) (l0 : List S34) (A1 : Option Addr) (c1 : Nat) (l1 : List S34) (A2 : Option Addr) (c2 : Nat) (l2 : List Int) (tn at_ : Int) (w : World) (hr0 : Kd.C k34 w A0 l0.length l0) (hc0 : l0.length ≤ c0) (hr1 : Kd.C k34 w A1 l1.length l1) (hc1 : l1.length ≤ c1) (hr2 : Kd.C (Kd.int .u8) w A2 l2.length l2) (hc2 : l2.length ≤ c2) (hkb : ∀ x, x ∈ l2 → 0 ≤ x ∧ x < 256) :
    Calls Try.prog 3 #[.slice A0 l0.length c0, .slice A1 l1.length c1, .slice A2 l2.length c2, .int .i64 tn, .int .i64 at_] w fun e w' => e = .returned (.bool true) ∧ Below w.heap.size w w' := by
  obtain ⟨ra, hra, hla⟩ := light A0 c0 l0 w hr0 hc0
  obtain ⟨rb, hrb, hlb⟩ := light A1 c1 l1 w hr1 hc1
  have HLA := Aside0.mk hla
  have HLB := Aside0.mk hlb
  have HR := Aside0.mk hr0
  have HR1 := Aside0.mk hr1
  have HR2 := Aside0.mk hr2
  have HKB := Aside0.mk hkb
  clear hla hlb hr0 hr1 hr2 hkb
  cases ra with
  | false =>
    go_enter Try.func3, Try.ntmps3
    go_wp2_with (first | (go_at_call 7; (refine (begun _).mono ?_); rintro e w1 ⟨rfl, hb⟩; have HB := Aside0.mk hb; clear hb) | (go_at_call 8; (with_reducible refine (HLA.out _ (Kd.C_below HR.out HB.out)).mono ?_); rintro e w2 ⟨rfl, hd⟩; have n0 := Aside0.mk (below_step HB.out hd.below); clear HB hd; have HB := n0; clear n0) | (go_at_call 8; (with_reducible refine (HLB.out _ (Kd.C_below HR1.out HB.out)).mono ?_); rintro e w2 ⟨rfl, hd⟩; have n0 := Aside0.mk (below_step HB.out hd.below); clear HB hd; have HB := n0; clear n0))
    go_ret
    exact ⟨rfl, HB.out⟩
  | true =>
    cases rb with
    | false =>
      go_enter Try.func3, Try.ntmps3
      go_wp2_with (first | (go_at_call 7; (refine (begun _).mono ?_); rintro e w1 ⟨rfl, hb⟩; have HB := Aside0.mk hb; clear hb) | (go_at_call 8; (with_reducible refine (HLA.out _ (Kd.C_below HR.out HB.out)).mono ?_); rintro e w2 ⟨rfl, hd⟩; have n0 := Aside0.mk (below_step HB.out hd.below); clear HB hd; have HB := n0; clear n0) | (go_at_call 8; (with_reducible refine (HLB.out _ (Kd.C_below HR1.out HB.out)).mono ?_); rintro e w2 ⟨rfl, hd⟩; have n0 := Aside0.mk (below_step HB.out hd.below); clear HB hd; have HB := n0; clear n0))
      go_ret
      exact ⟨rfl, HB.out⟩
    | true =>
      have HA := Aside0.mk (hra rfl)
      have HBB := Aside0.mk (hrb rfl)
      clear hra hrb
      by_cases hk : 20 < l2.length
      · have d1 : decide ((20 : Int) < (l2.length : Int)) = true := decide_eq_true (by omega)
        have d2 : decide (20 < l2.length) = true := decide_eq_true hk
        have d3 : (20 : Int) < (l2.length : Int) := by omega
        go_enter Try.func3, Try.ntmps3
        go_wp2_with (first | (go_at_call 7; (refine (begun _).mono ?_); rintro e w1 ⟨rfl, hb⟩; have HB := Aside0.mk hb; clear hb) | (go_at_call 8; (with_reducible refine (HLA.out _ (Kd.C_below HR.out HB.out)).mono ?_); rintro e w2 ⟨rfl, hd⟩; have n0 := Aside0.mk (below_step HB.out hd.below); clear HB hd; have HB := n0; clear n0) | (go_at_call 8; (with_reducible refine (HLB.out _ (Kd.C_below HR1.out HB.out)).mono ?_); rintro e w2 ⟨rfl, hd⟩; have n0 := Aside0.mk (below_step HB.out hd.below); clear HB hd; have HB := n0; clear n0))
        go_ret
        exact ⟨rfl, HB.out⟩
      have d1 : decide ((20 : Int) < (l2.length : Int)) = false := decide_eq_false (by omega)
      have d2 : decide (20 < l2.length) = false := decide_eq_false hk
      have d3 : ¬ (20 : Int) < (l2.length : Int) := by omega
      have HK := Aside0.mk (show l2.length ≤ 20 by omega)
      clear hk
      go_enter Try.func3, Try.ntmps3
      go_upto_region 11 with (first | (first | (go_at_call 7; (refine (begun _).mono ?_); rintro e w1 ⟨rfl, hb⟩; have HB := Aside0.mk hb; clear hb) | (go_at_call 8; (with_reducible refine (HLA.out _ (Kd.C_below HR.out HB.out)).mono ?_); rintro e w2 ⟨rfl, hd⟩; have n0 := Aside0.mk (below_step HB.out hd.below); clear HB hd; have HB := n0; clear n0) | (go_at_call 8; (with_reducible refine (HLB.out _ (Kd.C_below HR1.out HB.out)).mono ?_); rintro e w2 ⟨rfl, hd⟩; have n0 := Aside0.mk (below_step HB.out hd.below); clear HB hd; have HB := n0; clear n0)) | (go_at_call 9; (refine (New 8 _ (by decide) (by decide)).mono ?_); rintro e w3 ⟨g, rfl, hd, hb⟩; have HD := Aside0.mk (hd.mono (fun k hk => show w.heap.size ≤ k from Nat.le_trans HB.out.size hk)); have n0 := Aside0.mk (below_step HB.out hb); clear HB hd hb; have HB := n0; clear n0))
      have HS := Aside0.mk (show Su w ((w3.alloc (.cells (wstrs (List.replicate 8 [])).toArray 29)).alloc (.cells (bools (List.replicate 8 false)).toArray 30)) g (newD 8) w3.heap.size (w3.heap.size + 1) (List.replicate 8 []) (List.replicate 8 false) from by
        have b1 := below_alloc (Below.refl w3.heap.size w3) (.cells (wstrs (List.replicate 8 [])).toArray 29)
        have h1 := heap_alloc_new w3 (.cells (wstrs (List.replicate 8 [])).toArray 29)
        have h2 := heap_alloc_new (w3.alloc (.cells (wstrs (List.replicate 8 [])).toArray 29)) (.cells (bools (List.replicate 8 false)).toArray 30)
        rw [World.size_alloc] at h2
        have b2 := below_alloc (Below.refl (w3.alloc (.cells (wstrs (List.replicate 8 [])).toArray 29)).heap.size (w3.alloc (.cells (wstrs (List.replicate 8 [])).toArray 29))) (.cells (bools (List.replicate 8 false)).toArray 30)
        have hs := HB.out.size
        exact ⟨(HD.out.below b1).below b2, blk_below h1 b2, h2, hs, Nat.le_succ_of_le hs, below_step (below_step HB.out b1) b2⟩)
      clear HD HB
      have HGI := Aside0.mk (And.intro (good_new 8) (show (newD 8).left = -1 ∧ (newD 8).writes = 0 ∧ (newD 8).seen = List.replicate 8 z128 from ⟨rfl, rfl, rfl⟩))
      generalize newD 8 = D0 at HS HGI
      go_loopg [15] 9 (fun kq v15 w4 => ∃ (i : Nat) (ws : List (List Int)), v15 = .int .i64 (i : Int) ∧ Aside0 (i ≤ 8 ∧ 8 < kq + i ∧ ws.length = 8 ∧ ∀ j, j < i → ws[j]? = some z128) ∧ Aside0 (Su w w4 g D0 w3.heap.size (w3.heap.size + 1) ws (List.replicate 8 false)))
      case atStart => exact ⟨0, _, rfl, ⟨by omega, by omega, by rw [List.length_replicate], fun j hj => by omega⟩, HS⟩
      case round =>
        clear HS
        obtain ⟨i, ws, rfl, HI, HS⟩ := hrel
        by_cases hlt : i < 8
        · have e1 : decide ((i : Int) < 8) = true := decide_eq_true (by omega)
          have e2 : decide (i < 8) = true := decide_eq_true hlt
          have e3 : (i : Int) < 8 := by omega
          have hw1 : IntKind.i64.wrap ((i : Int) + 1) = ((i + 1 : Nat) : Int) := by rw [IntKind.wrap_i64]; omega
          have HLT := Aside0.mk hlt
          clear hlt
          go_wp2_with (go_at_call 10; (refine (full none 0 0 [] _ (rowC (Kd.R_nil (Kd.int .u8) 5 wr 0 (fun _ => True))) rfl (by decide) (by decide)).mono ?_); rintro e w5 ⟨Af, cf, rfl, hcf, hR, hb⟩; rw [full_nil] at hR; have hcs := Kd.C_string (P := Try.prog) (src := 23) (e := 5) (dst := 9) (c := cf) Try.underlying23 Try.underlying5 Try.underlying9 (rowC hR); have n0 := Aside0.mk (HS.out.step_below hb); clear HS hb; have HS := n0; clear n0; have cl := (HS.out.want_at i _ (List.getElem?_eq_getElem (show i < ws.length by have := HI.out.2.2.1; have := HLT.out; omega))).1; have fr := blk_frozen HS.out.want i; clear hR)
          go_roundg (gk - 1)
          case measure => have := HI.out.2.1; omega
          case rel =>
            refine ⟨i + 1, ws.set i z128, by first | rfl | go_num, ⟨by have := HLT.out; omega, by have := HI.out.2.1; omega, by rw [List.length_set]; exact HI.out.2.2.1, fun j hj => ?_⟩, ⟨HS.out.put_want i z128⟩⟩
            rw [List.getElem?_set]
            by_cases c : i = j
            · subst c; rw [if_pos rfl, if_pos (by have := HI.out.2.2.1; have := HLT.out; omega)]
            · rw [if_neg c]; exact HI.out.2.2.2 j (by omega)
        · have e1 : decide ((i : Int) < 8) = false := decide_eq_false (by omega)
          have e2 : decide (i < 8) = false := decide_eq_false hlt
          have e3 : ¬ (i : Int) < 8 := by omega
          obtain rfl : i = 8 := by have := HI.out.1; omega
          have hws : ws = List.replicate 8 z128 := by
            apply List.ext_getElem?
            intro j
            by_cases hj : j < 8
            · rw [HI.out.2.2.2 j hj, List.getElem?_replicate, if_pos hj]
            · rw [List.getElem?_eq_none (by have := HI.out.2.2.1; omega), List.getElem?_replicate, if_neg hj]
          have n0 := Aside0.mk (show Su w wr g D0 w3.heap.size (w3.heap.size + 1) D0.seen (List.replicate 8 false) by rw [HGI.out.2.2.2, ← hws]; exact HS.out)
          clear HS HI hws hlt
          have HS := n0
          clear n0
          clear e1 e2 e3
          generalize hbw : w3.heap.size = bw at HS ⊢
          have n0 := Aside0.mk (show Good 8 0 D0 ∧ D0.left = -1 ∧ D0.writes = ((0 : Nat) : Int) from ⟨HGI.out.1, HGI.out.2.1, HGI.out.2.2.1⟩)
          clear HGI
          have HGI := n0
          clear n0
          go_upto_region 15 with (fail)
          go_loopg [16] (l0.length + 1) (fun kq v16 w4 => ∃ (i : Nat) (D : Dat), v16 = .int .i64 (i : Int) ∧ Aside0 (i ≤ l0.length ∧ l0.length < kq + i) ∧ Aside0 (Su w w4 g D bw (bw + 1) D.seen (List.replicate 8 false)) ∧ Aside0 (Good 8 i D ∧ D.left = -1 ∧ D.writes = (i : Int)))
          case atStart => exact ⟨0, _, rfl, ⟨by omega, by omega⟩, HS, HGI⟩
          case round =>
            clear HS HGI
            obtain ⟨i, D, rfl, HI, HS, HGD⟩ := hrel
            have hl40 := HA.out.1
            by_cases hlt : i < l0.length
            · have e1 : decide ((i : Int) < (l0.length : Int)) = true := decide_eq_true (by omega)
              have e2 : decide (i < l0.length) = true := decide_eq_true hlt
              have e3 : (i : Int) < (l0.length : Int) := by omega
              have hw1 : IntKind.i64.wrap ((i : Int) + 1) = ((i + 1 : Nat) : Int) := by rw [IntKind.wrap_i64]; omega
              have HLT := Aside0.mk hlt
              obtain ⟨ad, A5, k5, A6, k6, e0, z0, z1, z2, z3, z4, z5, z6, q5, g5, q6, g6⟩ := at_T34 HR.out (i : Int) (by omega) (by omega)
              cases e0
              rw [Int.toNat_natCast] at z1 z5
              have hmem : rd_T34 l0 (i : Int) ∈ l0 := by unfold rd_T34; rw [Int.toNat_natCast, List.getD_eq_getElem?_getD, List.getElem?_eq_getElem hlt]; exact List.getElem_mem _
              have HB5 := Aside0.mk (HA.out.2 _ hmem).1
              generalize rd_T34 l0 (i : Int) = o at *
              obtain ⟨o0, o1, o2, o3, o4, B, o6⟩ := o
              dsimp only at z1 z5 q5 g5 HB5
              have HG5 := Aside0.mk g5
              have HQ5 := Aside0.mk q5
              have HL1 := Aside0.mk (World.block_lt_of_cell? w _ z1)
              have HL5 := Aside0.mk (World.block_lt_of_cell? w _ z5)
              have HZ1 := Aside0.mk z1
              have HZ5 := Aside0.mk z5
              obtain ⟨y, hy, hy8⟩ := and7 o1
              have HY8 := Aside0.mk hy8
              clear z0 z1 z2 z3 z4 z5 z6 q5 g5 q6 g6 hmem hy8
              have HUW := Aside0.mk (u_write HGD.out.1 HGD.out.2.1 y (fullS B) HY8.out (fullS_len _))
              clear hlt
              go_upto_region 17 with (fail)
              refine start_ (n := 15) (S := fun w' => w'.cell? ⟨(ad.add (i * 7)).block, (ad.add (i * 7)).off + 1, none⟩ = some (.int .i64 o1) ∧ w'.cell? ⟨(ad.add (i * 7)).block, (ad.add (i * 7)).off + 5, none⟩ = some (.slice A5 B.length k5)) (ds := []) #[false, false, false, false, false, false, false, false, false, false, false, false, false, false, false] (by kernel_rfl) rfl rfl ⟨(HS.out.below.cell HL1.out).trans HZ1.out, (HS.out.below.cell HL5.out).trans HZ5.out⟩ (fun hHeld => ?_)
              refine with_tabW sure17.tab sure17.bits (fun HT_ HW_ => ?_)
              have n0 := Aside0.mk (HS.out.step_below (below_drew (Below.refl _ _)))
              clear HS
              have HS := n0
              clear n0
              generalize wr.drew = w5 at HS hHeld ⊢
              refine pure_ (i := 0) (N := (some 60)) (v := ?_) (a' := ?_) #[true, false, false, false, false, false, false, false, false, false, false, false, false, false, false] rfl rfl (any_of HT_.out (by kernel_rfl)) (fun _ _ _ h => h) (Or.inl ⟨by rfl, ?_⟩) ?_ ?_
              rotate_left
              · intro w'
                go_simp
                with_reducible rfl
              rotate_left
              · simp only [Act.put, List.setIfInBounds_toArray, List.set_cons_zero, List.set_cons_succ, i64_w, i32_w]
                rfl
              refine pure_ (i := 1) (N := (some 61)) (v := ?_) (a' := ?_) #[true, true, false, false, false, false, false, false, false, false, false, false, false, false, false] rfl rfl (any_of HT_.out (by kernel_rfl)) (fun _ _ _ h => h) (Or.inl ⟨by rfl, ?_⟩) ?_ ?_
              rotate_left
              · intro w'
                go_simp
                with_reducible rfl
              rotate_left
              · simp only [Act.put, List.setIfInBounds_toArray, List.set_cons_zero, List.set_cons_succ, i64_w, i32_w]
                rfl
              refine pure_ (i := 2) (N := (some 62)) (v := ?_) (a' := ?_) #[true, true, true, false, false, false, false, false, false, false, false, false, false, false, false] rfl rfl (any_of HT_.out (by kernel_rfl)) (fun _ _ _ h => h) (Or.inl ⟨by rfl, ?_⟩) ?_ ?_
              rotate_left
              · intro w'
                go_simp
                with_reducible rfl
              rotate_left
              · simp only [Act.put, List.setIfInBounds_toArray, List.set_cons_zero, List.set_cons_succ, i64_w, i32_w]
                rfl
              refine pure_ (i := 3) (N := (some 63)) (v := ?_) (a' := ?_) #[true, true, true, true, false, false, false, false, false, false, false, false, false, false, false] rfl rfl (any_of HT_.out (by kernel_rfl)) (fun _ _ _ h => h) (Or.inl ⟨by rfl, ?_⟩) ?_ ?_
              rotate_left
              · intro w'
                go_simp
                with_reducible rfl
              rotate_left
              · simp only [Act.put, List.setIfInBounds_toArray, List.set_cons_zero, List.set_cons_succ, i64_w, i32_w]
                rfl
              refine pure_ (i := 4) (N := (some 64)) (v := ?_) (a' := ?_) #[true, true, true, true, true, false, false, false, false, false, false, false, false, false, false] rfl rfl (any_of HT_.out (by kernel_rfl)) (fun _ _ _ h => h) (Or.inl ⟨by rfl, ?_⟩) ?_ ?_
              rotate_left
              · intro w'
                go_simp
                with_reducible rfl
              rotate_left
              · simp only [Act.put, List.setIfInBounds_toArray, List.set_cons_zero, List.set_cons_succ, i64_w, i32_w]
                rfl
              refine pure_ (i := 7) (N := (some 67)) (v := ?_) (a' := ?_) #[true, true, true, true, true, false, false, true, false, false, false, false, false, false, false] rfl rfl (any_of HT_.out (by kernel_rfl)) (fun _ _ _ h => h) (Or.inl ⟨by rfl, ?_⟩) ?_ ?_
              rotate_left
              · intro w'
                go_simp
                with_reducible rfl
              rotate_left
              · simp only [Act.put, List.setIfInBounds_toArray, List.set_cons_zero, List.set_cons_succ, i64_w, i32_w]
                rfl
              refine pure_ (i := 8) (N := (some 68)) (v := ?_) (a' := ?_) #[true, true, true, true, true, false, false, true, true, false, false, false, false, false, false] rfl rfl (any_of HT_.out (by kernel_rfl)) (fun _ _ _ h => h) (Or.inl ⟨by rfl, ?_⟩) ?_ ?_
              rotate_left
              · intro w'
                go_simp
                with_reducible rfl
              rotate_left
              · simp only [Act.put, List.setIfInBounds_toArray, List.set_cons_zero, List.set_cons_succ, i64_w, i32_w]
                rfl
              refine pure_ (i := 9) (N := (some 69)) (v := ?_) (a' := ?_) #[true, true, true, true, true, false, false, true, true, true, false, false, false, false, false] rfl rfl (any_of HT_.out (by kernel_rfl)) (fun _ _ _ h => h) (Or.inl ⟨by rfl, ?_⟩) ?_ ?_
              rotate_left
              · intro w'
                go_simp
                with_reducible rfl
              rotate_left
              · simp only [Act.put, List.setIfInBounds_toArray, List.set_cons_zero, List.set_cons_succ, i64_w, i32_w]
                rfl
              refine pure_ (i := 10) (N := (some 70)) (v := ?_) (a' := ?_) #[true, true, true, true, true, false, false, true, true, true, true, false, false, false, false] rfl rfl (any_of HT_.out (by kernel_rfl)) (fun _ _ _ h => h) (Or.inl ⟨by rfl, ?_⟩) ?_ ?_
              rotate_left
              · intro w'
                go_simp
                with_reducible rfl
              rotate_left
              · simp only [Act.put, List.setIfInBounds_toArray, List.set_cons_zero, List.set_cons_succ, i64_w, i32_w]
                rfl
              refine take_ (i := 5) (N := (some 65)) (v := ?_) (a' := ?_) #[true, true, true, true, true, true, false, true, true, true, true, false, false, false, false] rfl rfl (take_ofW HT_.out HW_.out (by kernel_rfl)) (fun _ _ _ h => h) (Or.inl ⟨by rfl, ?_⟩) (by exact hHeld) ?_ ?_
              rotate_left
              · intro w' hw'
                go_simp
                with_reducible rfl
              rotate_left
              · simp only [Act.put, List.setIfInBounds_toArray, List.set_cons_zero, List.set_cons_succ, i64_w, i32_w]
                rfl
              refine take_ (i := 11) (N := (some 71)) (v := ?_) (a' := ?_) #[true, true, true, true, true, true, false, true, true, true, true, true, false, false, false] rfl rfl (take_ofW HT_.out HW_.out (by kernel_rfl)) (fun _ _ _ h => h) (Or.inl ⟨by rfl, ?_⟩) (by exact hHeld) ?_ ?_
              rotate_left
              · intro w' hw'
                go_simp
                with_reducible rfl
              rotate_left
              · simp only [Act.put, List.setIfInBounds_toArray, List.set_cons_zero, List.set_cons_succ, i64_w, i32_w]
                rfl
              refine pure_ (i := 6) (N := (some 66)) (v := ?_) (a' := ?_) #[true, true, true, true, true, true, true, true, true, true, true, true, false, false, false] rfl rfl (any_of HT_.out (by kernel_rfl)) (fun _ _ _ h => h) (Or.inl ⟨by rfl, ?_⟩) ?_ ?_
              rotate_left
              · intro w'
                go_simp
                with_reducible rfl
              rotate_left
              · simp only [Act.put, List.setIfInBounds_toArray, List.set_cons_zero, List.set_cons_succ, i64_w, i32_w]
                rfl
              refine one_ (i := 12) (N := (some 72)) #[true, true, true, true, true, true, true, true, true, true, true, true, true, false, false] rfl rfl (one_of HT_.out (by kernel_rfl)) (by decide) (fun Kq hKq => ?_)
              refine call_ (f := 10) (args := #[.slice A5 B.length k5]) (by rfl) rfl (by go_simp) ?_
              refine (full A5 B.length k5 B _ (Kd.C_below HG5.out HS.out.below) rfl HQ5.out (by have := HB5.out; omega)).mono ?_
              rintro e w6 ⟨Af, cf, rfl, hcf, hR, hb⟩
              refine ⟨_, rfl, ?_⟩
              have HFA := Aside0.mk hR
              have HCF := Aside0.mk hcf
              have n0 := Aside0.mk (HS.out.step_below hb)
              clear HS hb hR hcf
              have HS := n0
              clear n0
              refine hKq.out _ _ ⟨(HS.out.below.cell HL1.out).trans HZ1.out, (HS.out.below.cell HL5.out).trans HZ5.out⟩ (fun hHeld => ?_)
              clear hKq Kq
              refine norm_ (a' := ?_) ?_ ?_
              rotate_left
              · show Act.put _ (some 72) _ = _
                simp only [Act.put, List.setIfInBounds_toArray, List.set_cons_zero, List.set_cons_succ, i64_w, i32_w]
                rfl
              refine one_ (i := 13) (N := (some 73)) #[true, true, true, true, true, true, true, true, true, true, true, true, true, true, false] rfl rfl (one_of HT_.out (by kernel_rfl)) (by decide) (fun Kq hKq => ?_)
              refine call_ (f := 11) (args := #[.pointer (some ⟨g, 0, none⟩), .int .i64 (y : Int), .slice Af 128 cf]) (by rfl) rfl (by go_simp) ?_
              refine (Write _ g D (y : Int) Af 128 cf (fullS B) _ HS.out.dev (fun k hk => Nat.le_trans HS.out.below.size hk) (by have := HGD.out.1.seen; omega) (by have := HGD.out.1.later; omega) ⟨by have := HGD.out.1.l0; omega, HGD.out.1.l1⟩ ⟨HGD.out.1.w0, by have := HGD.out.1.w1; omega⟩ (fun w' hf => rowC (row_fr HFA.out hf (by decide))) HCF.out).mono ?_
              rintro e w7 ⟨rfl, hd, hf⟩
              rw [HUW.out.1] at hd ⊢
              refine ⟨_, rfl, ?_⟩
              have n0 := Aside0.mk (HS.out.step_dev hd hf)
              clear HS hd hf HFA
              have HS := n0
              clear n0
              refine hKq.out _ _ ⟨(HS.out.below.cell HL1.out).trans HZ1.out, (HS.out.below.cell HL5.out).trans HZ5.out⟩ (fun hHeld => ?_)
              clear hKq Kq
              refine norm_ (a' := ?_) ?_ ?_
              rotate_left
              · show Act.put _ (some 73) _ = _
                simp only [Act.put, List.setIfInBounds_toArray, List.set_cons_zero, List.set_cons_succ, i64_w, i32_w]
                rfl
              refine pure_ (i := 14) (N := (some 74)) (v := ?_) (a' := ?_) #[true, true, true, true, true, true, true, true, true, true, true, true, true, true, true] rfl rfl (any_of HT_.out (by kernel_rfl)) (fun _ _ _ h => h) (Or.inl ⟨by rfl, ?_⟩) ?_ ?_
              rotate_left
              · intro w'
                go_simp
                with_reducible rfl
              rotate_left
              · simp only [Act.put, List.setIfInBounds_toArray, List.set_cons_zero, List.set_cons_succ, i64_w, i32_w]
                rfl
              refine done_ (done_of HT_.out (by kernel_rfl)) ?_
              go_upto_region 19 with (fail)
              refine start_ (n := 15) (S := fun w' => w'.cell? ⟨(ad.add (i * 7)).block, (ad.add (i * 7)).off + 1, none⟩ = some (.int .i64 o1) ∧ w'.cell? ⟨(ad.add (i * 7)).block, (ad.add (i * 7)).off + 5, none⟩ = some (.slice A5 B.length k5)) (ds := [14]) #[false, false, false, false, false, false, false, false, false, false, false, false, false, false, false] (by kernel_rfl) rfl rfl ⟨(HS.out.below.cell HL1.out).trans HZ1.out, (HS.out.below.cell HL5.out).trans HZ5.out⟩ (fun hHeld => ?_)
              refine with_tabW sure19.tab sure19.bits (fun HT_ HW_ => ?_)
              have n0 := Aside0.mk (HS.out.step_below (below_drew (Below.refl _ _)))
              clear HS
              have HS := n0
              clear n0
              generalize w7.drew = w8 at HS hHeld ⊢
              have hy1 : (y : Int) < 8 := by have := HY8.out; omega
              have hy2 : decide (y < 8) = true := decide_eq_true HY8.out
              refine pure_ (i := 0) (N := (some 75)) (v := ?_) (a' := ?_) #[true, false, false, false, false, false, false, false, false, false, false, false, false, false, false] rfl rfl (any_of HT_.out (by kernel_rfl)) (fun _ _ _ h => h) (Or.inl ⟨by rfl, ?_⟩) ?_ ?_
              rotate_left
              · intro w'
                go_simp
                with_reducible rfl
              rotate_left
              · simp only [Act.put, List.setIfInBounds_toArray, List.set_cons_zero, List.set_cons_succ, i64_w, i32_w]
                rfl
              refine pure_ (i := 1) (N := (some 76)) (v := ?_) (a' := ?_) #[true, true, false, false, false, false, false, false, false, false, false, false, false, false, false] rfl rfl (any_of HT_.out (by kernel_rfl)) (fun _ _ _ h => h) (Or.inl ⟨by rfl, ?_⟩) ?_ ?_
              rotate_left
              · intro w'
                go_simp
                with_reducible rfl
              rotate_left
              · simp only [Act.put, List.setIfInBounds_toArray, List.set_cons_zero, List.set_cons_succ, i64_w, i32_w]
                rfl
              refine pure_ (i := 2) (N := (some 77)) (v := ?_) (a' := ?_) #[true, true, true, false, false, false, false, false, false, false, false, false, false, false, false] rfl rfl (any_of HT_.out (by kernel_rfl)) (fun _ _ _ h => h) (Or.inl ⟨by rfl, ?_⟩) ?_ ?_
              rotate_left
              · intro w'
                go_simp
                with_reducible rfl
              rotate_left
              · simp only [Act.put, List.setIfInBounds_toArray, List.set_cons_zero, List.set_cons_succ, i64_w, i32_w]
                rfl
              refine pure_ (i := 3) (N := (some 78)) (v := ?_) (a' := ?_) #[true, true, true, true, false, false, false, false, false, false, false, false, false, false, false] rfl rfl (any_of HT_.out (by kernel_rfl)) (fun _ _ _ h => h) (Or.inl ⟨by rfl, ?_⟩) ?_ ?_
              rotate_left
              · intro w'
                go_simp
                with_reducible rfl
              rotate_left
              · simp only [Act.put, List.setIfInBounds_toArray, List.set_cons_zero, List.set_cons_succ, i64_w, i32_w]
                rfl
              refine pure_ (i := 6) (N := (some 81)) (v := ?_) (a' := ?_) #[true, true, true, true, false, false, true, false, false, false, false, false, false, false, false] rfl rfl (any_of HT_.out (by kernel_rfl)) (fun _ _ _ h => h) (Or.inl ⟨by rfl, ?_⟩) ?_ ?_
              rotate_left
              · intro w'
                go_simp
                with_reducible rfl
              rotate_left
              · simp only [Act.put, List.setIfInBounds_toArray, List.set_cons_zero, List.set_cons_succ, i64_w, i32_w]
                rfl
              refine pure_ (i := 7) (N := (some 82)) (v := ?_) (a' := ?_) #[true, true, true, true, false, false, true, true, false, false, false, false, false, false, false] rfl rfl (any_of HT_.out (by kernel_rfl)) (fun _ _ _ h => h) (Or.inl ⟨by rfl, ?_⟩) ?_ ?_
              rotate_left
              · intro w'
                go_simp
                with_reducible rfl
              rotate_left
              · simp only [Act.put, List.setIfInBounds_toArray, List.set_cons_zero, List.set_cons_succ, i64_w, i32_w]
                rfl
              refine pure_ (i := 8) (N := (some 83)) (v := ?_) (a' := ?_) #[true, true, true, true, false, false, true, true, true, false, false, false, false, false, false] rfl rfl (any_of HT_.out (by kernel_rfl)) (fun _ _ _ h => h) (Or.inl ⟨by rfl, ?_⟩) ?_ ?_
              rotate_left
              · intro w'
                go_simp
                with_reducible rfl
              rotate_left
              · simp only [Act.put, List.setIfInBounds_toArray, List.set_cons_zero, List.set_cons_succ, i64_w, i32_w]
                rfl
              refine pure_ (i := 9) (N := (some 84)) (v := ?_) (a' := ?_) #[true, true, true, true, false, false, true, true, true, true, false, false, false, false, false] rfl rfl (any_of HT_.out (by kernel_rfl)) (fun _ _ _ h => h) (Or.inl ⟨by rfl, ?_⟩) ?_ ?_
              rotate_left
              · intro w'
                go_simp
                with_reducible rfl
              rotate_left
              · simp only [Act.put, List.setIfInBounds_toArray, List.set_cons_zero, List.set_cons_succ, i64_w, i32_w]
                rfl
              refine take_ (i := 4) (N := (some 79)) (v := ?_) (a' := ?_) #[true, true, true, true, true, false, true, true, true, true, false, false, false, false, false] rfl rfl (take_ofW HT_.out HW_.out (by kernel_rfl)) (fun _ _ _ h => h) (Or.inl ⟨by rfl, ?_⟩) (by exact hHeld) ?_ ?_
              rotate_left
              · intro w' hw'
                go_simp
                with_reducible rfl
              rotate_left
              · simp only [Act.put, List.setIfInBounds_toArray, List.set_cons_zero, List.set_cons_succ, i64_w, i32_w]
                rfl
              refine take_ (i := 10) (N := (some 85)) (v := ?_) (a' := ?_) #[true, true, true, true, true, false, true, true, true, true, true, false, false, false, false] rfl rfl (take_ofW HT_.out HW_.out (by kernel_rfl)) (fun _ _ _ h => h) (Or.inl ⟨by rfl, ?_⟩) (by exact hHeld) ?_ ?_
              rotate_left
              · intro w' hw'
                go_simp
                with_reducible rfl
              rotate_left
              · simp only [Act.put, List.setIfInBounds_toArray, List.set_cons_zero, List.set_cons_succ, i64_w, i32_w]
                rfl
              refine pure_ (i := 5) (N := (some 80)) (v := ?_) (a' := ?_) #[true, true, true, true, true, true, true, true, true, true, true, false, false, false, false] rfl rfl (any_of HT_.out (by kernel_rfl)) (fun _ _ _ h => h) (Or.inl ⟨by rfl, ?_⟩) ?_ ?_
              rotate_left
              · intro w'
                go_simp
                with_reducible rfl
              rotate_left
              · simp only [Act.put, List.setIfInBounds_toArray, List.set_cons_zero, List.set_cons_succ, i64_w, i32_w]
                rfl
              refine one_ (i := 11) (N := (some 86)) #[true, true, true, true, true, true, true, true, true, true, true, true, false, false, false] rfl rfl (one_of HT_.out (by kernel_rfl)) (by decide) (fun Kq hKq => ?_)
              refine call_ (f := 10) (args := #[.slice A5 B.length k5]) (by rfl) rfl (by go_simp) ?_
              refine (full A5 B.length k5 B _ (Kd.C_below HG5.out HS.out.below) rfl HQ5.out (by have := HB5.out; omega)).mono ?_
              rintro e w6 ⟨Af, cf, rfl, hcf, hR, hb⟩
              refine ⟨_, rfl, ?_⟩
              have hcs := Kd.C_string (P := Try.prog) (src := 23) (e := 5) (dst := 9) (c := cf) Try.underlying23 Try.underlying5 Try.underlying9 (rowC hR)
              have n0 := Aside0.mk (HS.out.step_below hb)
              clear HS hb hR hcf
              have HS := n0
              clear n0
              refine hKq.out _ _ ⟨(HS.out.below.cell HL1.out).trans HZ1.out, (HS.out.below.cell HL5.out).trans HZ5.out⟩ (fun hHeld => ?_)
              clear hKq Kq
              refine norm_ (a' := ?_) ?_ ?_
              rotate_left
              · show Act.put _ (some 86) _ = _
                simp only [Act.put, List.setIfInBounds_toArray, List.set_cons_zero, List.set_cons_succ, i64_w, i32_w]
                rfl
              refine one_ (i := 12) (N := (some 87)) #[true, true, true, true, true, true, true, true, true, true, true, true, true, false, false] rfl rfl (one_of HT_.out (by kernel_rfl)) (by decide) (fun Kq hKq => ?_)
              refine event_step (v := .string (strOfNums (fullS B))) (w1 := w6) (by rfl) (by first | (go_simp; done) | (go_simp; rfl)) ?_
              refine hKq.out _ _ ⟨(HS.out.below.cell HL1.out).trans HZ1.out, (HS.out.below.cell HL5.out).trans HZ5.out⟩ (fun hHeld => ?_)
              clear hKq Kq
              refine norm_ (a' := ?_) ?_ ?_
              rotate_left
              · show Act.put _ (some 87) _ = _
                simp only [Act.put, List.setIfInBounds_toArray, List.set_cons_zero, List.set_cons_succ, i64_w, i32_w]
                rfl
              refine pure_ (i := 13) (N := (some 88)) (v := ?_) (a' := ?_) #[true, true, true, true, true, true, true, true, true, true, true, true, true, true, false] rfl rfl (any_of HT_.out (by kernel_rfl)) (fun _ _ _ h => h) (Or.inl ⟨by rfl, ?_⟩) ?_ ?_
              rotate_left
              · intro w'
                go_simp
                with_reducible rfl
              rotate_left
              · simp only [Act.put, List.setIfInBounds_toArray, List.set_cons_zero, List.set_cons_succ, i64_w, i32_w]
                rfl
              have hcl := (HS.out.want_at y _ (List.getElem?_eq_getElem (show y < D.seen.length by have := HGD.out.1.seen; have := HY8.out; omega))).1
              have hfr := blk_frozen HS.out.want y
              refine last_ (i := 14) (N := none) #[true, true, true, true, true, true, true, true, true, true, true, true, true, true, true] rfl rfl (one_of HT_.out (by kernel_rfl)) (by decide) (fun Kq hKq => ?_)
              refine skip_ (w1 := ?_) (by rfl) rfl ?_ ?_
              rotate_left
              · go_simp
                rfl
              refine hKq.out _ _ ?_
              clear hKq Kq
              refine done_ (done_of HT_.out (by kernel_rfl)) ?_
              go_wp2
              go_roundg (gk - 1)
              case measure => have := HI.out; omega
              case rel =>
                have hu := HUW.out
                exact ⟨i + 1, D.wrote y (fullS B), by first | rfl | go_num, ⟨by have := HLT.out; omega, by have := HI.out; omega⟩, ⟨by rw [hu.2.2.2.2.1]; exact HS.out.put_want y (fullS B)⟩, ⟨hu.2.1, hu.2.2.1, by rw [hu.2.2.2.1, HGD.out.2.2]; omega⟩⟩
            · have e1 : decide ((i : Int) < (l0.length : Int)) = false := decide_eq_false (by omega)
              have e2 : decide (i < l0.length) = false := decide_eq_false hlt
              have e3 : ¬ (i : Int) < (l0.length : Int) := by omega
              obtain rfl : i = l0.length := by have := HI.out; omega
              clear hlt HI e1 e2 e3
              go_upto_region 21 with (go_at_call 12; (refine (Flush _ g D _ HS.out.dev (fun k hk => Nat.le_trans HS.out.below.size hk) (by have := HGD.out.1.seen; omega)).mono ?_); rintro e w10 ⟨rfl, hd, hf⟩; have n0 := Aside0.mk (HS.out.step_dev hd hf); clear HS hd hf; have HS := n0; clear n0)
              obtain ⟨SS, hSS⟩ : ∃ SS, D.seen = SS := ⟨_, rfl⟩
              have hgf := good_flush HGD.out.1
              have hfl := u_flush HGD.out.2.1
              have n1 := Aside0.mk (show Good 8 (l0.length + 0) D.flush ∧ D.flush.left = -1 ∧ D.flush.writes = ((l0.length + 0 : Nat) : Int) ∧ D.flush.sure = SS ∧ SS.length = 8 ∧ (List.replicate 8 false).length = 8 ∧ ∀ x, x ∈ D.flush.later → (List.replicate 8 false)[x.1.toNat]? = some true from ⟨hgf, by rw [hfl]; exact HGD.out.2.1, by rw [hfl]; exact HGD.out.2.2, by rw [hfl]; exact hSS, by rw [← hSS]; exact HGD.out.1.seen, by rw [List.length_replicate], fun x hx => by rw [hfl] at hx; cases hx⟩)
              rw [hSS] at HS
              clear hfl hgf HGD hSS
              have HGD := n1
              clear n1
              generalize D.flush = DF at HS HGD
              generalize List.replicate 8 false = tf at HS HGD
              go_wp2
              go_loopg [17] (l1.length + 1) (fun kq v17 w4 => ∃ (i : Nat) (D : Dat) (ts : List Bool), v17 = .int .i64 (i : Int) ∧ Aside0 (i ≤ l1.length ∧ l1.length < kq + i) ∧ Aside0 (Su w w4 g D bw (bw + 1) SS ts) ∧ Aside0 (Good 8 (l0.length + i) D ∧ D.left = -1 ∧ D.writes = ((l0.length + i : Nat) : Int) ∧ D.sure = SS ∧ SS.length = 8 ∧ ts.length = 8 ∧ ∀ x, x ∈ D.later → ts[x.1.toNat]? = some true))
              case atStart => exact ⟨0, _, _, rfl, ⟨by omega, by omega⟩, HS, HGD⟩
              case round =>
                clear HS HGD
                obtain ⟨i, D, ts, rfl, HI, HS, HGD⟩ := hrel
                have hl41 := HBB.out.1
                by_cases hlt : i < l1.length
                · have e1 : decide ((i : Int) < (l1.length : Int)) = true := decide_eq_true (by omega)
                  have e2 : decide (i < l1.length) = true := decide_eq_true hlt
                  have e3 : (i : Int) < (l1.length : Int) := by omega
                  have hw1 : IntKind.i64.wrap ((i : Int) + 1) = ((i + 1 : Nat) : Int) := by rw [IntKind.wrap_i64]; omega
                  have HLT := Aside0.mk hlt
                  obtain ⟨ad, A5, k5, A6, k6, e0, z0, z1, z2, z3, z4, z5, z6, q5, g5, q6, g6⟩ := at_T34 HR1.out (i : Int) (by omega) (by omega)
                  cases e0
                  rw [Int.toNat_natCast] at z1 z5
                  have hmem : rd_T34 l1 (i : Int) ∈ l1 := by unfold rd_T34; rw [Int.toNat_natCast, List.getD_eq_getElem?_getD, List.getElem?_eq_getElem hlt]; exact List.getElem_mem _
                  have HB5 := Aside0.mk (HBB.out.2 _ hmem).1
                  generalize rd_T34 l1 (i : Int) = o at *
                  obtain ⟨o0, o1, o2, o3, o4, B, o6⟩ := o
                  dsimp only at z1 z5 q5 g5 HB5
                  have HG5 := Aside0.mk g5
                  have HQ5 := Aside0.mk q5
                  have HL1 := Aside0.mk (World.block_lt_of_cell? w _ z1)
                  have HL5 := Aside0.mk (World.block_lt_of_cell? w _ z5)
                  have HZ1 := Aside0.mk z1
                  have HZ5 := Aside0.mk z5
                  obtain ⟨y, hy, hy8⟩ := and7 o1
                  have HY8 := Aside0.mk hy8
                  clear z0 z1 z2 z3 z4 z5 z6 q5 g5 q6 g6 hmem hy8
                  have HUW := Aside0.mk (u_write HGD.out.1 HGD.out.2.1 y (fullS B) HY8.out (fullS_len _))
                  clear hlt
                  go_upto_region 24 with (fail)
                  refine start_ (n := 15) (S := fun w' => w'.cell? ⟨(ad.add (i * 7)).block, (ad.add (i * 7)).off + 1, none⟩ = some (.int .i64 o1) ∧ w'.cell? ⟨(ad.add (i * 7)).block, (ad.add (i * 7)).off + 5, none⟩ = some (.slice A5 B.length k5)) (ds := []) #[false, false, false, false, false, false, false, false, false, false, false, false, false, false, false] (by kernel_rfl) rfl rfl ⟨(HS.out.below.cell HL1.out).trans HZ1.out, (HS.out.below.cell HL5.out).trans HZ5.out⟩ (fun hHeld => ?_)
                  refine with_tabW sure24.tab sure24.bits (fun HT_ HW_ => ?_)
                  have n0 := Aside0.mk (HS.out.step_below (below_drew (Below.refl _ _)))
                  clear HS
                  have HS := n0
                  clear n0
                  generalize wr.drew = w5 at HS hHeld ⊢
                  refine pure_ (i := 0) (N := (some 97)) (v := ?_) (a' := ?_) #[true, false, false, false, false, false, false, false, false, false, false, false, false, false, false] rfl rfl (any_of HT_.out (by kernel_rfl)) (fun _ _ _ h => h) (Or.inl ⟨by rfl, ?_⟩) ?_ ?_
                  rotate_left
                  · intro w'
                    go_simp
                    with_reducible rfl
                  rotate_left
                  · simp only [Act.put, List.setIfInBounds_toArray, List.set_cons_zero, List.set_cons_succ, i64_w, i32_w]
                    rfl
                  refine pure_ (i := 1) (N := (some 98)) (v := ?_) (a' := ?_) #[true, true, false, false, false, false, false, false, false, false, false, false, false, false, false] rfl rfl (any_of HT_.out (by kernel_rfl)) (fun _ _ _ h => h) (Or.inl ⟨by rfl, ?_⟩) ?_ ?_
                  rotate_left
                  · intro w'
                    go_simp
                    with_reducible rfl
                  rotate_left
                  · simp only [Act.put, List.setIfInBounds_toArray, List.set_cons_zero, List.set_cons_succ, i64_w, i32_w]
                    rfl
                  refine pure_ (i := 2) (N := (some 99)) (v := ?_) (a' := ?_) #[true, true, true, false, false, false, false, false, false, false, false, false, false, false, false] rfl rfl (any_of HT_.out (by kernel_rfl)) (fun _ _ _ h => h) (Or.inl ⟨by rfl, ?_⟩) ?_ ?_
                  rotate_left
                  · intro w'
                    go_simp
                    with_reducible rfl
                  rotate_left
                  · simp only [Act.put, List.setIfInBounds_toArray, List.set_cons_zero, List.set_cons_succ, i64_w, i32_w]
                    rfl
                  refine pure_ (i := 3) (N := (some 100)) (v := ?_) (a' := ?_) #[true, true, true, true, false, false, false, false, false, false, false, false, false, false, false] rfl rfl (any_of HT_.out (by kernel_rfl)) (fun _ _ _ h => h) (Or.inl ⟨by rfl, ?_⟩) ?_ ?_
                  rotate_left
                  · intro w'
                    go_simp
                    with_reducible rfl
                  rotate_left
                  · simp only [Act.put, List.setIfInBounds_toArray, List.set_cons_zero, List.set_cons_succ, i64_w, i32_w]
                    rfl
                  refine pure_ (i := 4) (N := (some 101)) (v := ?_) (a' := ?_) #[true, true, true, true, true, false, false, false, false, false, false, false, false, false, false] rfl rfl (any_of HT_.out (by kernel_rfl)) (fun _ _ _ h => h) (Or.inl ⟨by rfl, ?_⟩) ?_ ?_
                  rotate_left
                  · intro w'
                    go_simp
                    with_reducible rfl
                  rotate_left
                  · simp only [Act.put, List.setIfInBounds_toArray, List.set_cons_zero, List.set_cons_succ, i64_w, i32_w]
                    rfl
                  refine pure_ (i := 7) (N := (some 104)) (v := ?_) (a' := ?_) #[true, true, true, true, true, false, false, true, false, false, false, false, false, false, false] rfl rfl (any_of HT_.out (by kernel_rfl)) (fun _ _ _ h => h) (Or.inl ⟨by rfl, ?_⟩) ?_ ?_
                  rotate_left
                  · intro w'
                    go_simp
                    with_reducible rfl
                  rotate_left
                  · simp only [Act.put, List.setIfInBounds_toArray, List.set_cons_zero, List.set_cons_succ, i64_w, i32_w]
                    rfl
                  refine pure_ (i := 8) (N := (some 105)) (v := ?_) (a' := ?_) #[true, true, true, true, true, false, false, true, true, false, false, false, false, false, false] rfl rfl (any_of HT_.out (by kernel_rfl)) (fun _ _ _ h => h) (Or.inl ⟨by rfl, ?_⟩) ?_ ?_
                  rotate_left
                  · intro w'
                    go_simp
                    with_reducible rfl
                  rotate_left
                  · simp only [Act.put, List.setIfInBounds_toArray, List.set_cons_zero, List.set_cons_succ, i64_w, i32_w]
                    rfl
                  refine pure_ (i := 9) (N := (some 106)) (v := ?_) (a' := ?_) #[true, true, true, true, true, false, false, true, true, true, false, false, false, false, false] rfl rfl (any_of HT_.out (by kernel_rfl)) (fun _ _ _ h => h) (Or.inl ⟨by rfl, ?_⟩) ?_ ?_
                  rotate_left
                  · intro w'
                    go_simp
                    with_reducible rfl
                  rotate_left
                  · simp only [Act.put, List.setIfInBounds_toArray, List.set_cons_zero, List.set_cons_succ, i64_w, i32_w]
                    rfl
                  refine pure_ (i := 10) (N := (some 107)) (v := ?_) (a' := ?_) #[true, true, true, true, true, false, false, true, true, true, true, false, false, false, false] rfl rfl (any_of HT_.out (by kernel_rfl)) (fun _ _ _ h => h) (Or.inl ⟨by rfl, ?_⟩) ?_ ?_
                  rotate_left
                  · intro w'
                    go_simp
                    with_reducible rfl
                  rotate_left
                  · simp only [Act.put, List.setIfInBounds_toArray, List.set_cons_zero, List.set_cons_succ, i64_w, i32_w]
                    rfl
                  refine take_ (i := 5) (N := (some 102)) (v := ?_) (a' := ?_) #[true, true, true, true, true, true, false, true, true, true, true, false, false, false, false] rfl rfl (take_ofW HT_.out HW_.out (by kernel_rfl)) (fun _ _ _ h => h) (Or.inl ⟨by rfl, ?_⟩) (by exact hHeld) ?_ ?_
                  rotate_left
                  · intro w' hw'
                    go_simp
                    with_reducible rfl
                  rotate_left
                  · simp only [Act.put, List.setIfInBounds_toArray, List.set_cons_zero, List.set_cons_succ, i64_w, i32_w]
                    rfl
                  refine take_ (i := 11) (N := (some 108)) (v := ?_) (a' := ?_) #[true, true, true, true, true, true, false, true, true, true, true, true, false, false, false] rfl rfl (take_ofW HT_.out HW_.out (by kernel_rfl)) (fun _ _ _ h => h) (Or.inl ⟨by rfl, ?_⟩) (by exact hHeld) ?_ ?_
                  rotate_left
                  · intro w' hw'
                    go_simp
                    with_reducible rfl
                  rotate_left
                  · simp only [Act.put, List.setIfInBounds_toArray, List.set_cons_zero, List.set_cons_succ, i64_w, i32_w]
                    rfl
                  refine pure_ (i := 6) (N := (some 103)) (v := ?_) (a' := ?_) #[true, true, true, true, true, true, true, true, true, true, true, true, false, false, false] rfl rfl (any_of HT_.out (by kernel_rfl)) (fun _ _ _ h => h) (Or.inl ⟨by rfl, ?_⟩) ?_ ?_
                  rotate_left
                  · intro w'
                    go_simp
                    with_reducible rfl
                  rotate_left
                  · simp only [Act.put, List.setIfInBounds_toArray, List.set_cons_zero, List.set_cons_succ, i64_w, i32_w]
                    rfl
                  refine one_ (i := 12) (N := (some 109)) #[true, true, true, true, true, true, true, true, true, true, true, true, true, false, false] rfl rfl (one_of HT_.out (by kernel_rfl)) (by decide) (fun Kq hKq => ?_)
                  refine call_ (f := 10) (args := #[.slice A5 B.length k5]) (by rfl) rfl (by go_simp) ?_
                  refine (full A5 B.length k5 B _ (Kd.C_below HG5.out HS.out.below) rfl HQ5.out (by have := HB5.out; omega)).mono ?_
                  rintro e w6 ⟨Af, cf, rfl, hcf, hR, hb⟩
                  refine ⟨_, rfl, ?_⟩
                  have HFA := Aside0.mk hR
                  have HCF := Aside0.mk hcf
                  have n0 := Aside0.mk (HS.out.step_below hb)
                  clear HS hb hR hcf
                  have HS := n0
                  clear n0
                  refine hKq.out _ _ ⟨(HS.out.below.cell HL1.out).trans HZ1.out, (HS.out.below.cell HL5.out).trans HZ5.out⟩ (fun hHeld => ?_)
                  clear hKq Kq
                  refine norm_ (a' := ?_) ?_ ?_
                  rotate_left
                  · show Act.put _ (some 109) _ = _
                    simp only [Act.put, List.setIfInBounds_toArray, List.set_cons_zero, List.set_cons_succ, i64_w, i32_w]
                    rfl
                  refine one_ (i := 13) (N := (some 110)) #[true, true, true, true, true, true, true, true, true, true, true, true, true, true, false] rfl rfl (one_of HT_.out (by kernel_rfl)) (by decide) (fun Kq hKq => ?_)
                  refine call_ (f := 11) (args := #[.pointer (some ⟨g, 0, none⟩), .int .i64 (y : Int), .slice Af 128 cf]) (by rfl) rfl (by go_simp) ?_
                  refine (Write _ g D (y : Int) Af 128 cf (fullS B) _ HS.out.dev (fun k hk => Nat.le_trans HS.out.below.size hk) (by have := HGD.out.1.seen; omega) (by have := HGD.out.1.later; omega) ⟨by have := HGD.out.1.l0; omega, HGD.out.1.l1⟩ ⟨HGD.out.1.w0, by have := HGD.out.1.w1; omega⟩ (fun w' hf => rowC (row_fr HFA.out hf (by decide))) HCF.out).mono ?_
                  rintro e w7 ⟨rfl, hd, hf⟩
                  rw [HUW.out.1] at hd ⊢
                  refine ⟨_, rfl, ?_⟩
                  have n0 := Aside0.mk (HS.out.step_dev hd hf)
                  clear HS hd hf HFA
                  have HS := n0
                  clear n0
                  refine hKq.out _ _ ⟨(HS.out.below.cell HL1.out).trans HZ1.out, (HS.out.below.cell HL5.out).trans HZ5.out⟩ (fun hHeld => ?_)
                  clear hKq Kq
                  refine norm_ (a' := ?_) ?_ ?_
                  rotate_left
                  · show Act.put _ (some 110) _ = _
                    simp only [Act.put, List.setIfInBounds_toArray, List.set_cons_zero, List.set_cons_succ, i64_w, i32_w]
                    rfl
                  refine pure_ (i := 14) (N := (some 111)) (v := ?_) (a' := ?_) #[true, true, true, true, true, true, true, true, true, true, true, true, true, true, true] rfl rfl (any_of HT_.out (by kernel_rfl)) (fun _ _ _ h => h) (Or.inl ⟨by rfl, ?_⟩) ?_ ?_
                  rotate_left
                  · intro w'
                    go_simp
                    with_reducible rfl
                  rotate_left
                  · simp only [Act.put, List.setIfInBounds_toArray, List.set_cons_zero, List.set_cons_succ, i64_w, i32_w]
                    rfl
                  refine done_ (done_of HT_.out (by kernel_rfl)) ?_
                  go_upto_region 26 with (fail)
                  have hz1 := (HS.out.below.cell HL1.out).trans HZ1.out
                  have hy1 : (y : Int) < 8 := by have := HY8.out; omega
                  have hy2 : decide (y < 8) = true := decide_eq_true HY8.out
                  have hcl := (HS.out.turn_at y _ (List.getElem?_eq_getElem (show y < ts.length by have := HGD.out.2.2.2.2.2.1; have := HY8.out; omega))).1
                  have hfr := blk_frozen HS.out.turn y
                  go_wp2
                  go_roundg (gk - 1)
                  case measure => have := HI.out; omega
                  case rel =>
                    have hu := HUW.out
                    have hg := HGD.out
                    refine ⟨i + 1, D.wrote y (fullS B), ts.set y true, by first | rfl | go_num, ⟨by have := HLT.out; omega, by have := HI.out; omega⟩, ⟨HS.out.put_turn y⟩, ⟨hu.2.1, hu.2.2.1, by rw [hu.2.2.2.1, hg.2.2.1]; omega, by rw [hu.2.2.2.2.2.1]; exact hg.2.2.2.1, hg.2.2.2.2.1, by rw [List.length_set]; exact hg.2.2.2.2.2.1, fun x hx => ?_⟩⟩
                    rw [hu.2.2.2.2.2.2] at hx
                    rw [List.getElem?_set]
                    by_cases c : y = x.1.toNat
                    · rw [if_pos c, if_pos (by have := hg.2.2.2.2.2.1; have := HY8.out; omega)]
                    · rw [if_neg c]
                      rcases List.mem_append.1 hx with hx | hx
                      · exact hg.2.2.2.2.2.2 x hx
                      · rw [List.mem_singleton] at hx
                        subst hx
                        exact absurd (by show y = Int.toNat (y : Int); omega) c
                · have e1 : decide ((i : Int) < (l1.length : Int)) = false := decide_eq_false (by omega)
                  have e2 : decide (i < l1.length) = false := decide_eq_false hlt
                  have e3 : ¬ (i : Int) < (l1.length : Int) := by omega
                  obtain rfl : i = l1.length := by have := HI.out; omega
                  clear hlt HI e1 e2 e3
                  go_upto_region 28 with (go_at_call 13; (refine (Crash _ g D A2 c2 l2 tn at_ _ HS.out.dev (fun k hk => Nat.le_trans HS.out.below.size hk) (by have := HGD.out.1.seen; omega) (HGD.out.1.sure.trans HGD.out.1.seen.symm) (by have := HGD.out.1.later; omega) HGD.out.1.idx (fun w' hf => Kd.C_below HR2.out (hf.below HS.out.below HS.out.below.size (fun k hk => hk))) hc2 (by have := HK.out; omega) HKB.out (by have := HGD.out.1.seen; omega)).mono ?_); rintro e w12 ⟨rfl, hd, hf⟩; have n0 := Aside0.mk (HS.out.step_dev hd hf); clear HS hd hf; have HS := n0; clear n0)
                  have hg := HGD.out
                  have hoth : ∀ j : Nat, ts[j]? = some false → (D.crash l2 tn at_).seen[j]? = SS[j]? := fun j hj => by
                    show (crashS l2 tn (clampT at_) 0 D.later D.sure)[j]? = SS[j]?
                    rw [crashS_other _ _ _ j _ _ _ (fun x hx he => by have := hg.2.2.2.2.2.2 x hx; rw [he, hj] at this; cases this), hg.2.2.2.1]
                  have n1 := Aside0.mk (show Good 8 (l0.length + l1.length) (D.crash l2 tn at_) ∧ (D.crash l2 tn at_).writes = ((l0.length + l1.length : Nat) : Int) ∧ SS.length = 8 ∧ ts.length = 8 ∧ ∀ j : Nat, ts[j]? = some false → (D.crash l2 tn at_).seen[j]? = SS[j]? from ⟨good_crash hg.1 _ _ _, hg.2.2.1, hg.2.2.2.2.1, hg.2.2.2.2.2.1, hoth⟩)
                  clear hg hoth HGD
                  have HGD := n1
                  clear n1
                  generalize D.crash l2 tn at_ = D2 at HS HGD
                  go_wp2
                  go_loopg [18] 9 (fun kq v18 w4 => ∃ (j : Nat), v18 = .int .i64 (j : Int) ∧ Aside0 (j ≤ 8 ∧ 8 < kq + j) ∧ Aside0 (Su w w4 g D2 bw (bw + 1) SS ts))
                  case atStart => exact ⟨0, rfl, ⟨by omega, by omega⟩, HS⟩
                  case round =>
                    clear HS
                    obtain ⟨j, rfl, HJ, HS⟩ := hrel
                    by_cases hlt : j < 8
                    · have e1 : decide ((j : Int) < 8) = true := decide_eq_true (by omega)
                      have e2 : decide (j < 8) = true := decide_eq_true hlt
                      have e3 : (j : Int) < 8 := by omega
                      have hw1 : IntKind.i64.wrap ((j : Int) + 1) = ((j + 1 : Nat) : Int) := by rw [IntKind.wrap_i64]; omega
                      have HLT := Aside0.mk hlt
                      obtain ⟨row, hrow⟩ : ∃ row, D2.seen[j]? = some row := ⟨_, List.getElem?_eq_getElem (by have := HGD.out.1.seen; omega)⟩
                      have HRW := Aside0.mk hrow
                      have HRL := Aside0.mk (seen_len HS.out.dev hrow)
                      obtain ⟨tb, htb⟩ : ∃ tb, ts[j]? = some tb := ⟨_, List.getElem?_eq_getElem (by have := HGD.out.2.2.2.1; omega)⟩
                      have HTB := Aside0.mk htb
                      clear hlt hrow htb
                      go_upto_region 32 with (go_at_call 14; (refine (Read_at _ g D2 j row 128 _ HS.out.dev HRW.out HRL.out (by have := HGD.out.1.seen; omega)).mono ?_); rintro e w13 ⟨Ax, cx, rfl, hcx, hR, hb⟩; have HX := Aside0.mk hR; have n0 := Aside0.mk (HS.out.step_below hb); clear HS hb; have HS := n0; clear n0; clear hR)
                      have htc := (HS.out.turn_at j tb HTB.out).1
                      cases tb with
                      | true =>
                        go_quiet (fail)
                        go_wp2
                        go_roundg (gk - 1)
                        case measure => have := HJ.out; omega
                        case rel => exact ⟨j + 1, by first | rfl | go_num, ⟨by have := HLT.out; omega, by have := HJ.out; omega⟩, ⟨HS.out.step_below (pw_below_drewN (Below.refl _ _) _)⟩⟩
                      | false =>
                        have hsr := HGD.out.2.2.2.2 j HTB.out
                        rw [HRW.out] at hsr
                        have hwc := (HS.out.want_at j row hsr.symm).1
                        have hcs := fun m : Nat => Kd.C_string (P := Try.prog) (src := 23) (e := 5) (dst := 9) (c := cx) Try.underlying23 Try.underlying5 Try.underlying9 (Kd.C_drewN (rowC HX.out) m)
                        have hcs0 := Kd.C_string (P := Try.prog) (src := 23) (e := 5) (dst := 9) (c := cx) Try.underlying23 Try.underlying5 Try.underlying9 (rowC HX.out)
                        clear hsr
                        generalize strOfNums row = sr at hwc hcs hcs0
                        go_quiet (fail)
                        go_wp2
                        go_roundg (gk - 1)
                        case measure => have := HJ.out; omega
                        case rel => exact ⟨j + 1, by first | rfl | go_num, ⟨by have := HLT.out; omega, by have := HJ.out; omega⟩, ⟨HS.out.step_below (pw_below_drewN (Below.refl _ _) _)⟩⟩
                    · have e1 : decide ((j : Int) < 8) = false := decide_eq_false (by omega)
                      have e2 : decide (j < 8) = false := decide_eq_false hlt
                      have e3 : ¬ (j : Int) < 8 := by omega
                      have hws : IntKind.i64.wrap ((l0.length : Int) + (l1.length : Int)) = ((l0.length + l1.length : Nat) : Int) := by rw [IntKind.wrap_i64]; omega
                      clear hlt
                      go_wp2_with (go_at_call 15; (refine (Writes _ g D2 _ HS.out.dev).mono ?_); rintro e wz ⟨rfl, hww⟩; subst hww; rw [HGD.out.2.1])
                      go_ret
                      exact ⟨rfl, HS.out.below⟩
end Go.Proofs.Ytaoegbebeogkbaa.PDev
