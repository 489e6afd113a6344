/- DevTorn: a block that is torn has first bytes of the one, the others of the other. Conditions: none. -/
import Derived.Test.YtaoegbebeogkbaaDevB
namespace Go.Proofs.Ytaoegbebeogkbaa.PDev
open Go.RowKit Go.Proofs.YtaoegbebeogkbaaW.PrintWords Go.Proofs.YtaoegbebeogkbaaW.PrintLast Go.Proofs.YtaoegbebeogkbaaW.PrintMore
open Go.Extern.Stop Go.Stop Go.Extern
set_option linter.unusedVariables false
set_option linter.unusedSimpArgs false
theorem rowC {W : World} {B : Nat} {ok : Nat → Prop} {A : Option Addr} {n c : Nat} {l : List Int} (h : Kd.R (Kd.int .u8) 5 W B ok (.slice A n c) l) : Kd.C (Kd.int .u8) W A n l := by
  have h1 := Kd.R_reads' h
  rw [h1.1]
  exact h1.2.2
theorem row_below {W W1 : World} {B : Nat} {ok : Nat → Prop} {v : Value} {l : List Int} (h : Kd.R (Kd.int .u8) 5 W B ok v l) (hb : Below W.heap.size W W1) : Kd.R (Kd.int .u8) 5 W1 B ok v l := Kd.R_below h hb
def tD1 (fa : List Int) : Dat := ((newD 1).write 0 fa).2
def tD2 (fa : List Int) : Dat := (tD1 fa).flush
def tD3 (fa fb : List Int) : Dat := ((tD2 fa).write 0 fb).2
def tD4 (fa fb : List Int) (a : Int) : Dat := (tD3 fa fb).crash [255] 0 a
theorem tgood (fa fb : List Int) (a : Int) : Good 1 1 (tD1 fa) ∧ Good 1 1 (tD2 fa) ∧ Good 1 2 (tD3 fa fb) ∧ Good 1 2 (tD4 fa fb a) := by
  have g1 : Good 1 1 (tD1 fa) := good_write (good_new 1) 0 fa
  have g2 : Good 1 1 (tD2 fa) := good_flush g1
  have g3 : Good 1 2 (tD3 fa fb) := good_write g2 0 fb
  exact ⟨g1, g2, g3, good_crash g3 [255] 0 a⟩
theorem tfacts (fa fb : List Int) (a : Int) (ha : fa.length = 128) (hb : fb.length = 128) : (tD4 fa fb a).seen[0]? = some (fb.take (clampT a) ++ fa.drop (clampT a)) := by
  have e1 : tD1 fa = { seen := [fa], sure := [z128], later := [(0, fa)], writes := 1, left := -1 } := by
    simp [tD1, Dat.write, Dat.wrote, newD, ha]
  have e2 : tD2 fa = { seen := [fa], sure := [fa], later := [], writes := 1, left := -1 } := by
    simp [tD2, e1, Dat.flush]
  have e3 : tD3 fa fb = { seen := [fb], sure := [fa], later := [(0, fb)], writes := 2, left := -1 } := by
    simp [tD3, e2, Dat.write, Dat.wrote, hb]
  simp [tD4, e3, Dat.crash, crashS]
theorem torn_at (fa fb : List Int) (a : Int) (ha : fa.length = 128) (hb : fb.length = 128) (i : Nat) (hi : i < 128) : rd (fb.take (clampT a) ++ fa.drop (clampT a)) (i : Int) = if (i : Int) < a then rd fb (i : Int) else rd fa (i : Int) := by
  have hT : clampT a ≤ 128 ∧ (i < clampT a ↔ (i : Int) < a) := by unfold clampT; split <;> (try split) <;> omega
  obtain ⟨h1, h2⟩ := hT
  generalize clampT a = T at *
  have hl : (fb.take T).length = T := by rw [List.length_take]; omega
  simp only [rd, List.getD_eq_getElem?_getD, Int.toNat_natCast]
  by_cases c : i < T
  · rw [if_pos (h2.1 c), List.getElem?_append_left (by omega), List.getElem?_take_of_lt c]
  · rw [if_neg (fun hh => c (h2.2 hh)), List.getElem?_append_right (by omega), hl, List.getElem?_drop, show T + (i - T) = i by omega]
theorem torn_len (fa fb : List Int) (a : Int) (ha : fa.length = 128) (hb : fb.length = 128) : (fb.take (clampT a) ++ fa.drop (clampT a)).length = 128 := by
  have hT : clampT a ≤ 128 := by unfold clampT; split <;> (try split) <;> omega
  rw [List.length_append, List.length_take, List.length_drop]
  omega
set_option maxHeartbeats 16000000 in
set_option maxRecDepth 100000 in
theorem torn_walk (A0 : Option Addr) (c0 : Nat) (l0 : List Int) (A1 : Option Addr) (c1 : Nat) (l1 : List Int) (a : Int) (w : World) (hr0 : Kd.C (Kd.int .u8) w A0 l0.length l0) (hc0 : l0.length ≤ c0) (hr1 : Kd.C (Kd.int .u8) w A1 l1.length l1) (hc1 : l1.length ≤ c1) :
    Calls Try.prog 4 #[.slice A0 l0.length c0, .slice A1 l1.length c1, .int .i64 a] w fun e w' => e = .returned (.bool true) ∧ Below w.heap.size w w' := by
  have HR := Aside0.mk hr0
  have HR1 := Aside0.mk hr1
  clear hr0 hr1
  by_cases h40 : 200 < l0.length
  · have d1 : decide ((200 : Int) < (l0.length : Int)) = true := decide_eq_true (by omega)
    have d2 : decide (200 < l0.length) = true := decide_eq_true h40
    have d3 : (200 : Int) < (l0.length : Int) := by omega
    go_enter Try.func4, Try.ntmps4
    go_wp2_with (go_at_call 7; (refine (begun _).mono ?_); rintro e w1 ⟨rfl, hb⟩; have HB := Aside0.mk hb; clear hb)
    go_ret
    exact ⟨rfl, HB.out⟩
  have d1 : decide ((200 : Int) < (l0.length : Int)) = false := decide_eq_false (by omega)
  have d2 : decide (200 < l0.length) = false := decide_eq_false h40
  have d3 : ¬ (200 : Int) < (l0.length : Int) := by omega
  by_cases hbk : 200 < l1.length
  · have d4 : decide ((200 : Int) < (l1.length : Int)) = true := decide_eq_true (by omega)
    have d5 : decide (200 < l1.length) = true := decide_eq_true hbk
    have d6 : (200 : Int) < (l1.length : Int) := by omega
    go_enter Try.func4, Try.ntmps4
    go_wp2_with (go_at_call 7; (refine (begun _).mono ?_); rintro e w1 ⟨rfl, hb⟩; have HB := Aside0.mk hb; clear hb)
    go_ret
    exact ⟨rfl, HB.out⟩
  have d4 : decide ((200 : Int) < (l1.length : Int)) = false := decide_eq_false (by omega)
  have d5 : decide (200 < l1.length) = false := decide_eq_false hbk
  have d6 : ¬ (200 : Int) < (l1.length : Int) := by omega
  have HL := Aside0.mk (show l0.length ≤ 200 ∧ l1.length ≤ 200 by omega)
  have HGD := Aside0.mk (tgood (fullS l0) (fullS l1) a)
  have HFC := Aside0.mk (tfacts (fullS l0) (fullS l1) a (fullS_len _) (fullS_len _))
  have HTA := Aside0.mk (torn_at (fullS l0) (fullS l1) a (fullS_len _) (fullS_len _))
  have HTL := Aside0.mk (torn_len (fullS l0) (fullS l1) a (fullS_len _) (fullS_len _))
  clear h40 hbk
  go_enter Try.func4, Try.ntmps4
  go_upto_region 8 with (first | (go_at_call 7; (refine (begun _).mono ?_); rintro e w1 ⟨rfl, hb⟩; have HB := Aside0.mk hb; clear hb) | (go_at_call 9; (refine (New 1 _ (by decide) (by decide)).mono ?_); rintro e w2 ⟨g, rfl, hd, hb⟩; have HD := Aside0.mk (hd.mono (fun k hk => show w.heap.size ≤ k from Nat.le_trans HB.out.size hk)); have n0 := Aside0.mk (below_step HB.out hb); clear HB hd hb; have HB := n0; clear n0))
  go_upto_region 9 with (first | (go_at_call 10; (refine (full A0 l0.length c0 l0 _ (Kd.C_below HR.out HB.out) rfl hc0 (by have := HL.out; omega)).mono ?_); rintro e w3 ⟨Af, cf, rfl, hcf, hR, hb⟩; have HFA := Aside0.mk hR; have n0 := Aside0.mk (below_step HB.out hb); have n1 := Aside0.mk (HD.out.below hb); clear HB HD hR hb; have HB := n0; have HD := n1; clear n0 n1) | (go_at_call 11; (refine (Write _ g (newD 1) 0 Af 128 cf (fullS l0) _ HD.out (fun k hk => Nat.le_trans HB.out.size hk) (by decide) (by decide) (by decide) (by decide) (fun w' hf => rowC (row_fr HFA.out hf (by decide))) hcf).mono ?_); rintro e w4 ⟨rfl, hd, hf⟩; have n0 := Aside0.mk (hf.below HB.out HB.out.size (fun k hk => hk)); clear HB HD HFA hf; have HB := n0; have HD := Aside0.mk (show DevAt w4 (fun k => w.heap.size ≤ k) g (tD1 (fullS l0)) from hd); clear hd n0))
  clear hcf
  go_upto_region 10 with (go_at_call 12; (refine (Flush _ g (tD1 (fullS l0)) _ HD.out (fun k hk => Nat.le_trans HB.out.size hk) (by have := HGD.out.1.seen; omega)).mono ?_); rintro e w5 ⟨rfl, hd, hf⟩; have n0 := Aside0.mk (hf.below HB.out HB.out.size (fun k hk => hk)); clear HB HD hf; have HB := n0; have HD := Aside0.mk (show DevAt w5 (fun k => w.heap.size ≤ k) g (tD2 (fullS l0)) from hd); clear hd n0)
  go_upto_region 11 with (first | (go_at_call 10; (refine (full A1 l1.length c1 l1 _ (Kd.C_below HR1.out HB.out) rfl hc1 (by have := HL.out; omega)).mono ?_); rintro e w6 ⟨Af, cf, rfl, hcf, hR, hb⟩; have HFA := Aside0.mk hR; have n0 := Aside0.mk (below_step HB.out hb); have n1 := Aside0.mk (HD.out.below hb); clear HB HD hR hb; have HB := n0; have HD := n1; clear n0 n1) | (go_at_call 11; (refine (Write _ g (tD2 (fullS l0)) 0 Af 128 cf (fullS l1) _ HD.out (fun k hk => Nat.le_trans HB.out.size hk) (by have := HGD.out.2.1.seen; omega) (by have := HGD.out.2.1.later; omega) ⟨by have := HGD.out.2.1.l0; omega, HGD.out.2.1.l1⟩ ⟨HGD.out.2.1.w0, by have := HGD.out.2.1.w1; omega⟩ (fun w' hf => rowC (row_fr HFA.out hf (by decide))) hcf).mono ?_); rintro e w7 ⟨rfl, hd, hf⟩; have n0 := Aside0.mk (hf.below HB.out HB.out.size (fun k hk => hk)); clear HB HD HFA hf; have HB := n0; have HD := Aside0.mk (show DevAt w7 (fun k => w.heap.size ≤ k) g (tD3 (fullS l0) (fullS l1)) from hd); clear hd n0))
  have HK := Aside0.mk (lit_row w7 [255] (by decide))
  have hal := below_alloc (Below.refl w7.heap.size w7) (.cells (nums .u8 [255]).toArray 5)
  have n0 := Aside0.mk (HD.out.below hal)
  have n1 := Aside0.mk (below_step HB.out hal)
  clear HD HB hal
  have HD := n0
  have HB := n1
  clear n0 n1
  go_upto_region 12 with (go_at_call 13; (refine (Crash _ g (tD3 (fullS l0) (fullS l1)) (some ⟨w7.heap.size, 0, none⟩) 1 [255] 0 a _ HD.out (fun k hk => Nat.le_trans HB.out.size hk) (by have := HGD.out.2.2.1.seen; omega) (HGD.out.2.2.1.sure.trans HGD.out.2.2.1.seen.symm) (by have := HGD.out.2.2.1.later; omega) HGD.out.2.2.1.idx (fun w' hf => (Kd.R_reads' (row_fr HK.out hf (by decide))).2.2) (by decide) (by decide) (fun x hx => by rw [List.mem_singleton] at hx; subst hx; decide) (by have := HGD.out.2.2.1.seen; omega)).mono ?_); rintro e w8 ⟨rfl, hd, hf⟩; have n0 := Aside0.mk (hf.below HB.out HB.out.size (fun k hk => hk)); clear HB HD hf; have HB := n0; have HD := Aside0.mk (show DevAt w8 (fun k => w.heap.size ≤ k) g (tD4 (fullS l0) (fullS l1) a) from hd); clear hd n0)
  clear HK
  go_upto_region 15 with (go_at_call 14; (refine (Read_at _ g _ 0 _ 128 _ HD.out HFC.out HTL.out (by have := HGD.out.2.2.2.seen; omega)).mono ?_); rintro e w9 ⟨Ax, cx, rfl, hcx, hR, hb⟩; have HX := Aside0.mk hR; have n1 := Aside0.mk (below_step HB.out hb); clear HD HB hR hb; have HB := n1; clear n1)
  clear HFC HGD
  generalize w8.heap.size = bx at HX
  generalize (fullS l1).take (clampT a) ++ (fullS l0).drop (clampT a) = row at HX HTA HTL
  go_wp2
  go_loopg [11] 129 (fun kq v11 w9 => ∃ i : Nat, v11 = .int .i64 (i : Int) ∧ Aside0 (i ≤ 128 ∧ 128 < kq + i) ∧ Aside0 (Kd.R (Kd.int .u8) 5 w9 bx (fun _ => True) (.slice Ax 128 cx) row) ∧ Aside0 (Below w.heap.size w w9))
  case atStart => exact ⟨0, rfl, ⟨by omega, by omega⟩, HX, HB⟩
  case round =>
    clear HX HB
    obtain ⟨i, rfl, HI, HX, HB⟩ := hrel
    by_cases hlt : i < 128
    · have e1 : decide ((i : Int) < 128) = true := decide_eq_true (by omega)
      have e2 : decide (i < 128) = true := decide_eq_true hlt
      have e3 : (i : Int) < 128 := by omega
      have hw1 : IntKind.i64.wrap ((i : Int) + 1) = ((i + 1 : Nat) : Int) := by rw [IntKind.wrap_i64]; omega
      have HLT := Aside0.mk hlt
      have hta := HTA.out i hlt
      have hrow : ∃ z, rd row (i : Int) = z := ⟨_, rfl⟩
      clear hlt
      go_upto_region 19 with (go_at_call 10; (refine (full A0 l0.length c0 l0 _ (Kd.C_below HR.out HB.out) rfl hc0 (by have := HL.out; omega)).mono ?_); rintro e w11 ⟨Ag, cg, rfl, hcg, hR, hb⟩; obtain ⟨adf, ef, hxf⟩ := Kd.at_int (rowC hR) (i : Int) (by omega) (by have := HLT.out; omega); cases ef; rw [Int.toNat_natCast] at hxf; have n0 := Aside0.mk (below_step HB.out hb); have n1 := Aside0.mk (row_below HX.out hb); clear HB HX hR hb; have HB := n0; have HX := n1; clear n0 n1)
      by_cases hat : (i : Int) < a
      · have t1 : decide ((i : Int) < a) = true := decide_eq_true hat
        rw [if_pos hat] at hta
        clear hat hxf
        go_upto_region 21 with (go_at_call 10; (refine (full A1 l1.length c1 l1 _ (Kd.C_below HR1.out HB.out) rfl hc1 (by have := HL.out; omega)).mono ?_); rintro e w11 ⟨Ag, cg, rfl, hcg, hR, hb⟩; obtain ⟨adf, ef, hxf⟩ := Kd.at_int (rowC hR) (i : Int) (by omega) (by have := HLT.out; omega); cases ef; rw [Int.toNat_natCast] at hxf; have n0 := Aside0.mk (below_step HB.out hb); have n1 := Aside0.mk (row_below HX.out hb); clear HB HX hR hb; have HB := n0; have HX := n1; clear n0 n1)
        obtain ⟨adx, ex, hxx⟩ := Kd.at_int (rowC HX.out) (i : Int) (by omega) (by have := HLT.out; omega)
        cases ex
        rw [Int.toNat_natCast, hta] at hxx
        clear hta hxf
        generalize rd (fullS l1) (i : Int) = z at *
        go_wp2
        go_roundg (gk - 1)
        case measure => have := HI.out; omega
        case rel => exact ⟨i + 1, by first | rfl | go_num, ⟨by have := HLT.out; omega, by have := HI.out; omega⟩, HX, HB⟩
      · have t1 : decide ((i : Int) < a) = false := decide_eq_false hat
        rw [if_neg hat] at hta
        clear hat hxf
        go_upto_region 21 with (fail)
        obtain ⟨adx, ex, hxx⟩ := Kd.at_int (rowC HX.out) (i : Int) (by omega) (by have := HLT.out; omega)
        cases ex
        rw [Int.toNat_natCast, hta] at hxx
        clear hta
        generalize rd (fullS l0) (i : Int) = z at *
        go_wp2
        go_roundg (gk - 1)
        case measure => have := HI.out; omega
        case rel => exact ⟨i + 1, by first | rfl | go_num, ⟨by have := HLT.out; omega, by have := HI.out; omega⟩, HX, HB⟩
    · have e1 : decide ((i : Int) < 128) = false := decide_eq_false (by omega)
      have e2 : decide (i < 128) = false := decide_eq_false hlt
      have e3 : ¬ (i : Int) < 128 := by omega
      clear hlt
      go_wp2
      go_ret
      exact ⟨rfl, HB.out⟩
def rabbetlaw18_DevTorn.f (l0 l1 : List Int) (a2 : Int) : Option Bool := some true
theorem rabbetlaw18_DevTorn.calls (A0 : Option Addr) (c0 : Nat) (l0 : List Int) (A1 : Option Addr) (c1 : Nat) (l1 : List Int) (a2 : Int) (r : Bool) (w : World) (hr0 : Kd.C (Kd.int .u8) w A0 l0.length l0) (hc0 : l0.length ≤ c0) (hr1 : Kd.C (Kd.int .u8) w A1 l1.length l1) (hc1 : l1.length ≤ c1) (h : rabbetlaw18_DevTorn.f l0 l1 a2 = some r) :
    Calls Try.prog 4 #[.slice A0 l0.length c0, .slice A1 l1.length c1, .int .i64 a2] w fun e w' => e = .returned (.bool r) ∧ Below w.heap.size w w' := by
  obtain rfl := Option.some.inj h
  exact torn_walk A0 c0 l0 A1 c1 l1 a2 w hr0 hc0 hr1 hc1
end Go.Proofs.Ytaoegbebeogkbaa.PDev
