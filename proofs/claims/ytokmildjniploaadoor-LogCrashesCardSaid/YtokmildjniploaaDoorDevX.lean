/- dev: what Crash does. Conditions: none. -/
import Derived.Test.YtokmildjniploaaDoorDevG
import Derived.Test.YtokmildjniploaaDoorMBits
namespace Go.Proofs.YtokmildjniploaaDoor.PLog
open Go.RowKit Go.Proofs.YtokmildjniploaaDoorW.PrintWords Go.Proofs.YtokmildjniploaaDoorW.PrintLast Go.Proofs.YtokmildjniploaaDoorW.PrintMore
attribute [local go_sem] max2_int min2_int max_two min_two   -- for this text's walks alone
set_option linter.unusedVariables false
set_option linter.unusedSimpArgs false
def clampT (a : Int) : Nat := (if a < 0 then 0 else if 128 < a then 128 else a).toNat
def keepBit (keep : List Int) (i : Nat) : Bool := decide (i / 8 < keep.length) && decide ((rd keep ((i / 8 : Nat) : Int)).toNat / 2 ^ (i % 8) % 2 = 1)
def crashS (keep : List Int) (torn : Int) (T : Nat) : Nat → List (Int × List Int) → List (List Int) → List (List Int)
  | _, [], s => s
  | i, x :: r, s => crashS keep torn T (i + 1) r (if (i : Int) = torn then s.set x.1.toNat (x.2.take T ++ (s.getD x.1.toNat []).drop T) else if keepBit keep i = true then s.set x.1.toNat x.2 else s)
theorem crashS_len (keep : List Int) (torn : Int) (T : Nat) (l : List (Int × List Int)) : ∀ (i : Nat) (s : List (List Int)), (crashS keep torn T i l s).length = s.length := by
  induction l with
  | nil => intro i s; rfl
  | cons x r ih =>
    intro i s
    unfold crashS
    rw [ih]
    split
    · rw [List.length_set]
    · split
      · rw [List.length_set]
      · rfl
def Dat.crash (D : Dat) (keep : List Int) (torn a : Int) : Dat := { D with seen := crashS keep torn (clampT a) 0 D.later D.sure, sure := crashS keep torn (clampT a) 0 D.later D.sure, later := [], left := -1 }
theorem at_kW {w : World} {A : Option Addr} {n : Nat} {xs : List (Int × Bk)} (h : Kd.C kW w A n xs) (i : Nat) (hi : i < n) (x : Int × Bk) (hx : xs[i]? = some x) : ∃ ad, A = some ad ∧ w.cell? (ad.add (i * 2)) = some (.int .i64 x.1) ∧ w.cell? ⟨(ad.add (i * 2)).block, (ad.add (i * 2)).off + 1, none⟩ = some (.slice (some ⟨x.2.1, 0, none⟩) 128 x.2.2) := by
  obtain ⟨ad, c, e, _, hK, hc0⟩ := Kd.C_get h ((0, (0, 0)) : Int × Bk) (i : Int) (by omega) (by omega)
  rw [Int.toNat_natCast, List.getD_eq_getElem?_getD, hx] at hK
  rw [Int.toNat_natCast] at hc0
  obtain ⟨_, _, rfl, rfl, rfl⟩ := hK
  have hc : ∀ j u, ([Value.int .i64 x.1, encB x.2] : List Value)[j]? = some u → w.cell? (ad.add (i * 2 + j)) = some u := hc0
  exact ⟨ad, e, hc 0 _ rfl, by rw [← add_field _ _ 1 (by omega)]; exact hc 1 _ rfl⟩
theorem drop_at {α : Type} (l : List α) (k : Nat) (x : α) (h : l[k]? = some x) : l.drop k = x :: l.drop (k + 1) := by
  obtain ⟨hlt, rfl⟩ := List.getElem?_eq_some_iff.1 h
  exact List.drop_eq_getElem_cons hlt
theorem two_C {w : World} {nb : Nat} {A1 A2 : Option Addr} {c1 c2 n1 n2 : Nat} {l1 l2 : List Int} (hb : w.heap[nb]? = some (.cells #[.slice A1 n1 c1, .slice A2 n2 c2] 35 (0, 0))) (e1 : l1.length = n1) (e2 : l2.length = n2) (h1 : n1 ≤ c1) (h2 : n2 ≤ c2) (hC1 : Kd.C (Kd.int .u8) w A1 n1 l1) (hC2 : Kd.C (Kd.int .u8) w A2 n2 l2) : Kd.C (Kd.slice 5 (Kd.int .u8)) w (some ⟨nb, 0, none⟩) 2 [l1, l2] := by
  subst e1 e2
  refine ⟨rfl, by decide, fun _ => ⟨_, rfl, fun j p hj => ?_⟩⟩
  match j, hj with
  | 0, hj =>
    obtain rfl := Option.some.inj hj
    refine ⟨[.slice A1 l1.length c1], rfl, ⟨A1, c1, rfl, h1, hC1⟩, fun i u hu => ?_⟩
    match i, hu with
    | 0, hu =>
      rw [add_plain]
      exact (blk_cell hb 0).trans hu
  | 1, hj =>
    obtain rfl := Option.some.inj hj
    refine ⟨[.slice A2 l2.length c2], rfl, ⟨A2, c2, rfl, h2, hC2⟩, fun i u hu => ?_⟩
    match i, hu with
    | 0, hu =>
      rw [add_plain]
      exact (blk_cell hb 1).trans hu
theorem concat2 (nb : Nat) (l1 l2 : List Int) (w : World) (h : Kd.C (Kd.slice 5 (Kd.int .u8)) w (some ⟨nb, 0, none⟩) 2 [l1, l2]) (hl : (l1 ++ l2).length = 128) :
    Calls Tryd.prog 34 #[.slice (some ⟨nb, 0, none⟩) 2 2] w fun e w' => ∃ cb cap : Nat, e = .returned (.slice (some ⟨cb, 0, none⟩) 128 cap) ∧ Blk w' (cb, cap) (l1 ++ l2) ∧ Below w.heap.size w w' := by
  have hf : [l1, l2].flatten = l1 ++ l2 := by simp
  refine (slices_Concat_byte_byte.calls (some ⟨nb, 0, none⟩) 2 [l1, l2] (l1 ++ l2) w h (Nat.le_refl _) (by unfold slices_Concat_byte_byte.f; rw [hf, if_pos ⟨by show 2 ≤ 1000; decide, by omega⟩])).mono fun e w' hh => ?_
  obtain ⟨v, he, ho, hb⟩ := hh
  obtain ⟨g, cap, rfl, _, _, _⟩ := Kd.R_form ho (by omega)
  rw [hl] at he ho
  exact ⟨g, cap, he, Kd.R_lower ho (Nat.zero_le _), hb⟩
theorem cut_front (b T c : Nat) (hT : T ≤ 128) (hc : 128 ≤ c) : ∀ W : World, (Instr.slice 35 (.slice (some ⟨b, 0, none⟩) 128 c) none (some (.int .i64 (T : Int))) none).run Tryd.prog W = .ok (.slice (some ⟨b, 0, none⟩) T c) W := by
  intro W
  obtain ⟨i0, hi0, hz⟩ := Option.map_eq_some_iff.1 bytes_Clone.info
  have h := cut_to (P := Tryd.prog) 35 5 .i64 Tryd.underlying35 hi0 (some ⟨b, 0, none⟩) 128 c (T : Int) (by omega) (by omega) hc W
  rw [h, Int.toNat_natCast]
theorem cut_back (b T c : Nat) (hT : T ≤ 128) (hc : 128 ≤ c) : ∃ A, (∀ W : World, (Instr.slice 35 (.slice (some ⟨b, 0, none⟩) 128 c) (some (.int .i64 (T : Int))) none none).run Tryd.prog W = .ok (.slice A (128 - T) (c - T)) W) ∧ ∀ (W : World) (l : List Int), Blk W (b, c) l → Kd.C (Kd.int .u8) W A (128 - T) (l.drop T) := by
  obtain ⟨i0, hi0, hz⟩ := Option.map_eq_some_iff.1 bytes_Clone.info
  simp only [Prod.mk.injEq] at hz
  refine ⟨(if c = T then some ⟨b, 0, none⟩ else (some ⟨b, 0, none⟩ : Option Addr).map (·.add (T * 1))), fun W => ?_, fun W l hB => ?_⟩
  · have h := cut_from (P := Tryd.prog) 35 5 .i64 Tryd.underlying35 hi0 1 hz.2.1 (some ⟨b, 0, none⟩) 128 c (T : Int) (by omega) (by omega) W
    rw [h, Int.toNat_natCast]
  · have hl := hB.len
    have h := Kd.C_drop (m := T) (c := c) (Kd.R_reads' hB).2.2 (by omega) (by rw [hl]; exact hc)
    rw [List.length_drop, hl] at h
    exact h
def crash6.T : Bool × List (List Nat × List Nat) := (true, [([], []), ([0], [0]), ([1], [1]), ([2], [2]), ([], []), ([4], [4]), ([], []), ([6], [6]), ([], []), ([7, 8], [7, 8]), ([], []), ([10], [10]), ([11], [11]), ([12], [12]), ([], []), ([14], [14]), ([13, 15], [13, 15]), ([16], [16]), ([], []), ([17, 18], [17, 18]), ([9, 19], [9, 19]), ([20], [20]), ([3, 5, 0, 1, 2, 3, 4, 5, 6, 7, 8, 9, 10, 11, 12, 13, 14, 15, 16, 17, 18, 19, 20, 21], [3, 5]), ([22, 21, 21, 0, 1, 2, 3, 4, 5, 6, 7, 8, 9, 10, 11, 12, 13, 14, 15, 16, 17, 18, 19, 20, 21], [21, 22])])
def crash6.B : List Nat := [0, 1, 3, 7, 0, 16, 0, 64, 0, 448, 0, 1024, 3072, 7168, 0, 16384, 64512, 130048, 0, 523264, 1048512, 2097088, 4194303, 8388607]
theorem crash6.tab : rtab .any (opsOf Tryd.f20 6) = crash6.T := by kernel_rfl
theorem crash6.bits : waitsOk crash6.T.2 crash6.B = true := by kernel_rfl
def crash8.T : Bool × List (List Nat × List Nat) := (true, [([], []), ([0], [0]), ([1], [1]), ([2], [2]), ([], []), ([4], [4]), ([], []), ([6], [6]), ([3, 5, 0, 1, 2, 3, 4, 5, 6, 7], [3, 5]), ([8, 7, 0, 1, 2, 3, 4, 5, 6, 7], [7, 8])])
def crash8.B : List Nat := [0, 1, 3, 7, 0, 16, 0, 64, 255, 511]
theorem crash8.tab : rtab .any (opsOf Tryd.f20 8) = crash8.T := by kernel_rfl
theorem crash8.bits : waitsOk crash8.T.2 crash8.B = true := by kernel_rfl
set_option maxHeartbeats 16000000 in
set_option maxRecDepth 100000 in
theorem Crash (ok : Nat → Prop) (g : Nat) (D : Dat) (Ak : Option Addr) (ck : Nat) (keep : List Int) (torn a : Int) (w : World) (h : DevAt w ok g D) (hfr : ∀ k, w.heap.size ≤ k → ok k) (hsl : D.seen.length ≤ 1000000) (hsu : D.sure.length = D.seen.length) (hll : D.later.length ≤ 1000000) (hwf : ∀ x, x ∈ D.later → 0 ≤ x.1 ∧ x.1 < D.seen.length)
    (hK : ∀ w' (hf : Fr ok devT w w'), Kd.C (Kd.int .u8) w' Ak keep.length keep) (hkc : keep.length ≤ ck) (hkl : keep.length ≤ 1000000) (hkb : ∀ x, x ∈ keep → 0 ≤ x ∧ x < 256) (hpos : 0 < D.seen.length) :
    Calls Tryd.prog 20 #[.pointer (some ⟨g, 0, none⟩), .slice Ak keep.length ck, .int .i64 torn, .int .i64 a] w fun e w' => e = .returned (.tuple #[]) ∧ DevAt w' ok g (D.crash keep torn a) ∧ Fr ok devT w w' := by
  obtain ⟨T, hT⟩ : ∃ T, clampT a = T := ⟨_, rfl⟩
  have hTl : T ≤ 128 := by rw [← hT]; unfold clampT; split <;> (try split) <;> omega
  obtain ⟨a1, ha1⟩ : ∃ a1 : Int, (if a < 0 then 0 else a) = a1 := ⟨_, rfl⟩
  have ha2 : (if 128 < a1 then 128 else a1) = (T : Int) := by
    rw [← hT, ← ha1]
    unfold clampT
    split
    · rw [if_neg (by omega)]; rfl
    · split <;> omega
  obtain ⟨R, hR⟩ : ∃ R, crashS keep torn T 0 D.later D.sure = R := ⟨_, rfl⟩
  have hRl : R.length = D.seen.length := by rw [← hR, crashS_len, hsu]
  have HE := Aside0.mk (show ({ D with seen := R, sure := R, later := [], left := -1 } : Dat) = D.crash keep torn a from by unfold Dat.crash; rw [hT, hR])
  have HR := Aside0.mk hR
  have HRL := Aside0.mk hRl
  have HT := Aside0.mk hTl
  have HWF := Aside0.mk hwf
  have HSU := Aside0.mk hsu
  have HKB := Aside0.mk hkb
  have HK2 : ∀ {w'}, Aside0 (Fr ok devT w w') → Kd.C (Kd.int .u8) w' Ak keep.length keep := fun h => hK _ h.out
  obtain ⟨vs, vu, vl, hs, hu, hl, hraw⟩ := h
  have hhu : hu.length = D.seen.length := by rw [hraw.eu.1, hsu]
  have hhl : hl.length = D.later.length := hraw.el.1
  obtain ⟨ub, cu, rfl, _, _, _⟩ := Kd.R_form hraw.ru (by omega)
  rw [hhu] at hraw
  obtain ⟨Al, cl, rfl⟩ := Kd.R_slice hraw.rl
  rw [hhl] at hraw
  have x2 := blk_cell hraw.blk 2
  have HRW := Aside0.mk hraw
  have HHL := Aside0.mk hhl
  clear hraw hT hTl hR hRl hwf hsu hkb hK hhu hhl
  go_enter Tryd.func20, Tryd.ntmps20
  go_wp2
  clear x2
  go_loopg [8, 9, 20] (D.later.length + 1) (fun kq v8 v9 v20 w2 => ∃ (k : Nat) (S : List (List Int)) (hu2 : List Bk), v20 = .int .i64 (k : Int) ∧ Aside0 (k ≤ D.later.length ∧ D.later.length < kq + k) ∧ Aside0 (DevRaw w2 ok g { D with sure := S } vs (.slice (some ⟨ub, 0, none⟩) D.seen.length cu) (.slice Al D.later.length cl) hs hu2 hl) ∧ Aside0 (Fr ok devT w w2) ∧ Aside0 (crashS keep torn T k (D.later.drop k) S = R) ∧ Aside0 (S.length = D.seen.length))
  case atStart => exact ⟨0, D.sure, hu, rfl, ⟨Nat.zero_le _, by omega⟩, HRW, ⟨Fr.refl _ _ _⟩, ⟨by rw [List.drop_zero]; exact HR.out⟩, HSU⟩
  case round =>
    clear HRW
    obtain ⟨k, S, hu2, rfl, HI, HRW, HF, HC, HSL⟩ := hrel
    have hhu2 : hu2.length = D.seen.length := by rw [HRW.out.eu.1]; exact HSL.out
    by_cases hlt : k < D.later.length
    · have e1 : decide ((k : Int) < (D.later.length : Int)) = true := decide_eq_true (by omega)
      have e2 : decide (k < D.later.length) = true := decide_eq_true hlt
      have e3 : (k : Int) < (D.later.length : Int) := by omega
      have hw1 : IntKind.i64.wrap ((k : Int) + 1) = ((k + 1 : Nat) : Int) := by rw [IntKind.wrap_i64]; omega
      obtain ⟨⟨wi, bk⟩, hx, hwi, hB⟩ := HRW.out.el.at_ k hlt
      have hL : D.later[k]? = some D.later[k] := List.getElem?_eq_getElem hlt
      obtain ⟨ad, eA, t0, t1⟩ := at_kW (Kd.R_reads' HRW.out.rl).2.2 k (by have := HHL.out; omega) _ hx
      cases eA
      have hwfk := HWF.out D.later[k] (List.getElem_mem _)
      rw [show (({ D with sure := S } : Dat).later[k]) = D.later[k] from rfl] at hwi hB
      generalize D.later[k] = y at *
      obtain ⟨y1, y2⟩ := y
      dsimp only at hwi hB hwfk t0 t1
      subst hwi
      obtain ⟨q, rfl⟩ := Int.eq_ofNat_of_zero_le hwfk.1
      have HQ := Aside0.mk (show q < D.seen.length by omega)
      have HDR := Aside0.mk (drop_at _ _ _ hL)
      have HLT := Aside0.mk hlt
      have HBK := Aside0.mk hB
      have HHU := Aside0.mk hhu2
      clear hlt hx hB hL hwfk hhu2
      go_upto_region 5 with (fail)
      have HW := Aside0.mk (heap_alloc_new wr (.cells #[.int .i64 (q : Int), .slice (some ⟨bk.1, 0, none⟩) 128 bk.2] 75))
      have hal := below_alloc (Below.refl wr.heap.size wr) (.cells #[.int .i64 (q : Int), .slice (some ⟨bk.1, 0, none⟩) 128 bk.2] 75)
      have n0 := Aside0.mk (HRW.out.below hal)
      have n1 := Aside0.mk (HF.out.trans (Fr.of_below hal))
      have n2 := Aside0.mk (HBK.out.below hal)
      clear HRW HF HBK hal t0 t1
      have HRW := n0
      have HF := n1
      have HBK := n2
      clear n0 n1 n2
      generalize wr.alloc (.cells #[.int .i64 (q : Int), .slice (some ⟨bk.1, 0, none⟩) 128 bk.2] 75) = w3 at HRW HF HBK HW ⊢
      generalize wr.heap.size = gw at HW ⊢
      by_cases htn : (k : Int) = torn
      · have b1 : ((k : Int) == torn) = true := beq_iff_eq.mpr htn
        have HTN := Aside0.mk htn
        clear htn
        obtain ⟨bku, hqx, hBu⟩ := HRW.out.eu.at_ q (by show q < S.length; have := HSL.out; have := HQ.out; omega)
        have hru := (Kd.R_celln (d := ((0, 0) : Bk)) HRW.out.ru (q : Int) (by omega) (by have := HQ.out; omega)).1
        rw [Int.toNat_natCast, show rdOf ((0, 0) : Bk) hu2 (q : Int) = bku by unfold rdOf; rw [Int.toNat_natCast, List.getD_eq_getElem?_getD, hqx]; rfl] at hru
        have hru2 : w3.cell? ⟨ub, q, none⟩ = some (.slice (some ⟨bku.1, 0, none⟩) 128 bku.2) := hru
        have hsq : S.getD q [] = S[q]'(by have := HSL.out; have := HQ.out; omega) := by rw [List.getD_eq_getElem?_getD, List.getElem?_eq_getElem (by have := HSL.out; have := HQ.out; omega)]; rfl
        have hBu2 : Blk w3 bku (S.getD q []) := by rw [hsq]; exact hBu
        have HBU := Aside0.mk hBu2
        have HRU := Aside0.mk hru2
        clear hqx hBu hru hru2 hsq hBu2
        obtain ⟨u, hu0⟩ : ∃ u, S.getD q [] = u := ⟨_, rfl⟩
        rw [hu0] at HBU
        have HU0 := Aside0.mk hu0
        clear hu0
        have hcf := cut_front bk.1 T bk.2 HT.out HBK.out.cap
        obtain ⟨AB, hcb, hAB⟩ := cut_back bku.1 T bku.2 HT.out HBU.out.cap
        have HAB := Aside0.mk hAB
        have HUC := Aside0.mk HBU.out.cap
        clear hAB
        have hq1 : (q : Int) < (D.seen.length : Int) := by have := HQ.out; omega
        have hq2 : decide (q < D.seen.length) = true := decide_eq_true HQ.out
        have hq3 : (0 : Int) ≤ (q : Int) := by omega
        go_upto_region 6 with (fail)
        refine start_ (n := 24) (S := fun w' => w'.cell? ⟨g, 1, none⟩ = some (.slice (some ⟨ub, 0, none⟩) D.seen.length cu) ∧ w'.cell? ⟨gw, 0, none⟩ = some (.int .i64 (q : Int)) ∧ w'.cell? ⟨gw, 1, none⟩ = some (.slice (some ⟨bk.1, 0, none⟩) 128 bk.2) ∧ w'.cell? ⟨ub, q, none⟩ = some (.slice (some ⟨bku.1, 0, none⟩) 128 bku.2)) (ds := [23]) #[false, false, false, false, false, false, false, false, false, false, false, false, false, false, false, false, false, false, false, false, false, false, false, false] (by kernel_rfl) rfl rfl ⟨blk_cell HRW.out.blk 1, blk_cell HW.out 0, blk_cell HW.out 1, HRU.out⟩ (fun hHeld => ?_)
        refine with_tabW crash6.tab crash6.bits (fun HT_ HW_ => ?_)
        have n0 := Aside0.mk (HRW.out.below (below_drew (Below.refl _ _)))
        have n1 := Aside0.mk HF.out.drew
        have n2 := Aside0.mk (HBK.out.below (below_drew (Below.refl _ _)))
        have n3 := Aside0.mk (HBU.out.below (below_drew (Below.refl _ _)))
        clear HRW HF HBK HBU HW HRU
        have HRW := n0
        have HF := n1
        have HBK := n2
        have HBU := n3
        clear n0 n1 n2 n3
        generalize w3.drew = w4 at HRW HF HBK HBU hHeld ⊢
        refine pure_ (i := 0) (N := (some 29)) (v := ?_) (a' := ?_) #[true, false, false, false, false, false, false, false, false, false, false, false, false, false, false, false, false, false, false, false, false, false, false, false] rfl rfl (any_of HT_.out (by kernel_rfl)) (fun _ _ _ h => h) (Or.inl ⟨by rfl, ?_⟩) ?_ ?_
        rotate_left
        · intro w'
          go_simp
          with_reducible rfl
        rotate_left
        · simp only [Act.put, List.setIfInBounds_toArray, List.set_cons_zero, List.set_cons_succ, i64_w, i32_w]
          rfl
        refine pure_ (i := 1) (N := (some 30)) (v := ?_) (a' := ?_) #[true, true, false, false, false, false, false, false, false, false, false, false, false, false, false, false, false, false, false, false, false, false, false, false] rfl rfl (any_of HT_.out (by kernel_rfl)) (fun _ _ _ h => h) (Or.inl ⟨by rfl, ?_⟩) ?_ ?_
        rotate_left
        · intro w'
          go_simp
          with_reducible rfl
        rotate_left
        · simp only [Act.put, List.setIfInBounds_toArray, List.set_cons_zero, List.set_cons_succ, i64_w, i32_w]
          rfl
        refine pure_ (i := 2) (N := (some 31)) (v := ?_) (a' := ?_) #[true, true, true, false, false, false, false, false, false, false, false, false, false, false, false, false, false, false, false, false, false, false, false, false] rfl rfl (any_of HT_.out (by kernel_rfl)) (fun _ _ _ h => h) (Or.inl ⟨by rfl, ?_⟩) ?_ ?_
        rotate_left
        · intro w'
          go_simp
          with_reducible rfl
        rotate_left
        · simp only [Act.put, List.setIfInBounds_toArray, List.set_cons_zero, List.set_cons_succ, i64_w, i32_w]
          rfl
        refine pure_ (i := 4) (N := (some 33)) (v := ?_) (a' := ?_) #[true, true, true, false, true, false, false, false, false, false, false, false, false, false, false, false, false, false, false, false, false, false, false, false] rfl rfl (any_of HT_.out (by kernel_rfl)) (fun _ _ _ h => h) (Or.inl ⟨by rfl, ?_⟩) ?_ ?_
        rotate_left
        · intro w'
          go_simp
          with_reducible rfl
        rotate_left
        · simp only [Act.put, List.setIfInBounds_toArray, List.set_cons_zero, List.set_cons_succ, i64_w, i32_w]
          rfl
        refine pure_ (i := 6) (N := (some 35)) (v := ?_) (a' := ?_) #[true, true, true, false, true, false, true, false, false, false, false, false, false, false, false, false, false, false, false, false, false, false, false, false] rfl rfl (any_of HT_.out (by kernel_rfl)) (fun _ _ _ h => h) (Or.inl ⟨by rfl, ?_⟩) ?_ ?_
        rotate_left
        · intro w'
          go_simp
          with_reducible rfl
        rotate_left
        · simp only [Act.put, List.setIfInBounds_toArray, List.set_cons_zero, List.set_cons_succ, i64_w, i32_w]
          rfl
        refine pure_ (i := 8) (N := (some 37)) (v := ?_) (a' := ?_) #[true, true, true, false, true, false, true, false, true, false, false, false, false, false, false, false, false, false, false, false, false, false, false, false] rfl rfl (any_of HT_.out (by kernel_rfl)) (fun _ _ _ h => h) (Or.inl ⟨by rfl, ?_⟩) ?_ ?_
        rotate_left
        · intro w'
          go_simp
          with_reducible rfl
        rotate_left
        · simp only [Act.put, List.setIfInBounds_toArray, List.set_cons_zero, List.set_cons_succ, i64_w, i32_w]
          rfl
        refine pure_ (i := 10) (N := (some 39)) (v := ?_) (a' := ?_) #[true, true, true, false, true, false, true, false, true, false, true, false, false, false, false, false, false, false, false, false, false, false, false, false] rfl rfl (any_of HT_.out (by kernel_rfl)) (fun _ _ _ h => h) (Or.inl ⟨by rfl, ?_⟩) ?_ ?_
        rotate_left
        · intro w'
          go_simp
          with_reducible rfl
        rotate_left
        · simp only [Act.put, List.setIfInBounds_toArray, List.set_cons_zero, List.set_cons_succ, i64_w, i32_w]
          rfl
        refine pure_ (i := 11) (N := (some 40)) (v := ?_) (a' := ?_) #[true, true, true, false, true, false, true, false, true, false, true, true, false, false, false, false, false, false, false, false, false, false, false, false] rfl rfl (any_of HT_.out (by kernel_rfl)) (fun _ _ _ h => h) (Or.inl ⟨by rfl, ?_⟩) ?_ ?_
        rotate_left
        · intro w'
          go_simp
          with_reducible rfl
        rotate_left
        · simp only [Act.put, List.setIfInBounds_toArray, List.set_cons_zero, List.set_cons_succ, i64_w, i32_w]
          rfl
        refine pure_ (i := 12) (N := (some 41)) (v := ?_) (a' := ?_) #[true, true, true, false, true, false, true, false, true, false, true, true, true, false, false, false, false, false, false, false, false, false, false, false] rfl rfl (any_of HT_.out (by kernel_rfl)) (fun _ _ _ h => h) (Or.inl ⟨by rfl, ?_⟩) ?_ ?_
        rotate_left
        · intro w'
          go_simp
          with_reducible rfl
        rotate_left
        · simp only [Act.put, List.setIfInBounds_toArray, List.set_cons_zero, List.set_cons_succ, i64_w, i32_w]
          rfl
        refine pure_ (i := 14) (N := (some 43)) (v := ?_) (a' := ?_) #[true, true, true, false, true, false, true, false, true, false, true, true, true, false, true, false, false, false, false, false, false, false, false, false] rfl rfl (any_of HT_.out (by kernel_rfl)) (fun _ _ _ h => h) (Or.inl ⟨by rfl, ?_⟩) ?_ ?_
        rotate_left
        · intro w'
          go_simp
          with_reducible rfl
        rotate_left
        · simp only [Act.put, List.setIfInBounds_toArray, List.set_cons_zero, List.set_cons_succ, i64_w, i32_w]
          rfl
        refine pure_ (i := 18) (N := (some 47)) (v := ?_) (a' := ?_) #[true, true, true, false, true, false, true, false, true, false, true, true, true, false, true, false, false, false, true, false, false, false, false, false] rfl rfl (any_of HT_.out (by kernel_rfl)) (fun _ _ _ h => h) (Or.inl ⟨by rfl, ?_⟩) ?_ ?_
        rotate_left
        · intro w'
          go_simp
          with_reducible rfl
        rotate_left
        · simp only [Act.put, List.setIfInBounds_toArray, List.set_cons_zero, List.set_cons_succ, i64_w, i32_w]
          rfl
        refine take_ (i := 3) (N := (some 32)) (v := ?_) (a' := ?_) #[true, true, true, true, true, false, true, false, true, false, true, true, true, false, true, false, false, false, true, false, false, false, false, false] rfl rfl (take_ofW HT_.out HW_.out (by kernel_rfl)) (fun _ _ _ h => h) (Or.inl ⟨by rfl, ?_⟩) (by exact hHeld) ?_ ?_
        rotate_left
        · intro w' hw'
          go_simp
          with_reducible rfl
        rotate_left
        · simp only [Act.put, List.setIfInBounds_toArray, List.set_cons_zero, List.set_cons_succ, i64_w, i32_w]
          rfl
        refine take_ (i := 5) (N := (some 34)) (v := ?_) (a' := ?_) #[true, true, true, true, true, true, true, false, true, false, true, true, true, false, true, false, false, false, true, false, false, false, false, false] rfl rfl (take_ofW HT_.out HW_.out (by kernel_rfl)) (fun _ _ _ h => h) (Or.inl ⟨by rfl, ?_⟩) (by exact hHeld) ?_ ?_
        rotate_left
        · intro w' hw'
          go_simp
          with_reducible rfl
        rotate_left
        · simp only [Act.put, List.setIfInBounds_toArray, List.set_cons_zero, List.set_cons_succ, i64_w, i32_w]
          rfl
        refine take_ (i := 7) (N := (some 36)) (v := ?_) (a' := ?_) #[true, true, true, true, true, true, true, true, true, false, true, true, true, false, true, false, false, false, true, false, false, false, false, false] rfl rfl (take_ofW HT_.out HW_.out (by kernel_rfl)) (fun _ _ _ h => h) (Or.inl ⟨by rfl, ?_⟩) (by exact hHeld) ?_ ?_
        rotate_left
        · intro w' hw'
          go_simp
          with_reducible rfl
        rotate_left
        · simp only [Act.put, List.setIfInBounds_toArray, List.set_cons_zero, List.set_cons_succ, i64_w, i32_w]
          rfl
        refine take_ (i := 13) (N := (some 42)) (v := ?_) (a' := ?_) #[true, true, true, true, true, true, true, true, true, false, true, true, true, true, true, false, false, false, true, false, false, false, false, false] rfl rfl (take_ofW HT_.out HW_.out (by kernel_rfl)) (fun _ _ _ h => h) (Or.inl ⟨by rfl, ?_⟩) (by exact hHeld) ?_ ?_
        rotate_left
        · intro w' hw'
          go_simp
          with_reducible rfl
        rotate_left
        · simp only [Act.put, List.setIfInBounds_toArray, List.set_cons_zero, List.set_cons_succ, i64_w, i32_w]
          rfl
        refine take_ (i := 15) (N := (some 44)) (v := ?_) (a' := ?_) #[true, true, true, true, true, true, true, true, true, false, true, true, true, true, true, true, false, false, true, false, false, false, false, false] rfl rfl (take_ofW HT_.out HW_.out (by kernel_rfl)) (fun _ _ _ h => h) (Or.inl ⟨by rfl, ?_⟩) (by exact hHeld) ?_ ?_
        rotate_left
        · intro w' hw'
          go_simp
          with_reducible rfl
        rotate_left
        · simp only [Act.put, List.setIfInBounds_toArray, List.set_cons_zero, List.set_cons_succ, i64_w, i32_w]
          rfl
        refine pure_ (i := 9) (N := (some 38)) (v := ?_) (a' := ?_) #[true, true, true, true, true, true, true, true, true, true, true, true, true, true, true, true, false, false, true, false, false, false, false, false] rfl rfl (any_of HT_.out (by kernel_rfl)) (fun _ _ _ h => h) (Or.inl ⟨by rfl, ?_⟩) ?_ ?_
        rotate_left
        · intro w'
          go_simp
          with_reducible rfl
        rotate_left
        · simp only [Act.put, List.setIfInBounds_toArray, List.set_cons_zero, List.set_cons_succ, i64_w, i32_w]
          rfl
        refine pure_ (i := 16) (N := (some 45)) (v := ?_) (a' := ?_) #[true, true, true, true, true, true, true, true, true, true, true, true, true, true, true, true, true, false, true, false, false, false, false, false] rfl rfl (any_of HT_.out (by kernel_rfl)) (fun _ _ _ h => h) (Or.inl ⟨by rfl, ?_⟩) ?_ ?_
        rotate_left
        · intro w'
          go_simp
          with_reducible rfl
        rotate_left
        · simp only [Act.put, List.setIfInBounds_toArray, List.set_cons_zero, List.set_cons_succ, i64_w, i32_w]
          rfl
        refine take_ (i := 17) (N := (some 46)) (v := ?_) (a' := ?_) #[true, true, true, true, true, true, true, true, true, true, true, true, true, true, true, true, true, true, true, false, false, false, false, false] rfl rfl (take_ofW HT_.out HW_.out (by kernel_rfl)) (fun _ _ _ h => h) (Or.inl ⟨by rfl, ?_⟩) (by exact hHeld) ?_ ?_
        rotate_left
        · intro w' hw'
          go_simp
          with_reducible rfl
        rotate_left
        · simp only [Act.put, List.setIfInBounds_toArray, List.set_cons_zero, List.set_cons_succ, i64_w, i32_w]
          rfl
        refine pure_ (i := 19) (N := (some 48)) (v := ?_) (a' := ?_) #[true, true, true, true, true, true, true, true, true, true, true, true, true, true, true, true, true, true, true, true, false, false, false, false] rfl rfl (any_of HT_.out (by kernel_rfl)) (fun _ _ _ h => h) (Or.inl ⟨by rfl, ?_⟩) ?_ ?_
        rotate_left
        · intro w'
          go_simp
          with_reducible rfl
        rotate_left
        · simp only [Act.put, List.setIfInBounds_toArray, List.set_cons_zero, List.set_cons_succ, i64_w, i32_w]
          rfl
        refine one_ (i := 20) (N := (some 49)) #[true, true, true, true, true, true, true, true, true, true, true, true, true, true, true, true, true, true, true, true, true, false, false, false] rfl rfl (one_of HT_.out (by kernel_rfl)) (by decide) (fun Kq hKq => ?_)
        refine event_step (v := .slice (some ⟨w4.heap.size, 0, none⟩) 2 2) (w1 := w4.alloc (.cells #[.slice (some ⟨bk.1, 0, none⟩) T bk.2, .slice AB (128 - T) (bku.2 - T)] 35)) (by rfl) (by first | (go_simp; done) | (go_simp; rfl)) ?_
        have hal := below_alloc (Below.refl w4.heap.size w4) (.cells #[.slice (some ⟨bk.1, 0, none⟩) T bk.2, .slice AB (128 - T) (bku.2 - T)] 35)
        have HAL := Aside0.mk hal
        have HNB := Aside0.mk (heap_alloc_new w4 (.cells #[.slice (some ⟨bk.1, 0, none⟩) T bk.2, .slice AB (128 - T) (bku.2 - T)] 35))
        have n0 := Aside0.mk (HRW.out.below hal)
        have n1 := Aside0.mk (HF.out.trans (Fr.of_below hal))
        have n2 := Aside0.mk (HBK.out.below hal)
        have n3 := Aside0.mk (HBU.out.below hal)
        clear HRW HF HBK HBU hal
        have HRW := n0
        have HF := n1
        have HBK := n2
        have HBU := n3
        clear n0 n1 n2 n3
        refine hKq.out _ _ ⟨(HAL.out.cell (World.block_lt_of_cell? _ _ hHeld.1)).trans hHeld.1, (HAL.out.cell (World.block_lt_of_cell? _ _ hHeld.2.1)).trans hHeld.2.1, (HAL.out.cell (World.block_lt_of_cell? _ _ hHeld.2.2.1)).trans hHeld.2.2.1, (HAL.out.cell (World.block_lt_of_cell? _ _ hHeld.2.2.2)).trans hHeld.2.2.2⟩ (fun hHeld => ?_)
        clear hKq Kq
        refine norm_ (a' := ?_) ?_ ?_
        rotate_left
        · show Act.put _ (some 49) _ = _
          simp only [Act.put, List.setIfInBounds_toArray, List.set_cons_zero, List.set_cons_succ, i64_w, i32_w]
          rfl
        refine one_ (i := 21) (N := (some 50)) #[true, true, true, true, true, true, true, true, true, true, true, true, true, true, true, true, true, true, true, true, true, true, false, false] rfl rfl (one_of HT_.out (by kernel_rfl)) (by decide) (fun Kq hKq => ?_)
        refine call_ (f := 34) (args := #[.slice (some ⟨w4.heap.size, 0, none⟩) 2 2]) (by rfl) rfl (by go_simp) ?_
        have hyl := HBK.out.len
        have hul := HBU.out.len
        have hTT := HT.out
        have hC1 := Kd.C_take (m := T) (Kd.R_reads' HBK.out).2.2 (by omega)
        rw [List.length_take, hyl, Nat.min_eq_left hTT] at hC1
        refine (concat2 w4.heap.size (y2.take T) (u.drop T) _ (two_C HNB.out (by rw [List.length_take, hyl, Nat.min_eq_left hTT]) (by rw [List.length_drop, hul]) (by have := HBK.out.cap; omega) (by have := HUC.out; omega) hC1 (HAB.out _ _ HBU.out)) (by rw [List.length_append, List.length_take, List.length_drop, hyl, hul]; omega)).mono ?_
        rintro e w5 ⟨cb, cap, rfl, hbk, hb⟩
        refine ⟨_, rfl, ?_⟩
        have HB5 := Aside0.mk hb
        have n0 := Aside0.mk (HRW.out.below hb)
        have n1 := Aside0.mk (HF.out.trans (Fr.of_below hb))
        have HNK := Aside0.mk hbk
        clear HRW HF HBK HBU hb hbk hyl hul hTT hC1
        have HRW := n0
        have HF := n1
        clear n0 n1
        refine hKq.out _ _ ⟨(HB5.out.cell (World.block_lt_of_cell? _ _ hHeld.1)).trans hHeld.1, (HB5.out.cell (World.block_lt_of_cell? _ _ hHeld.2.1)).trans hHeld.2.1, (HB5.out.cell (World.block_lt_of_cell? _ _ hHeld.2.2.1)).trans hHeld.2.2.1, (HB5.out.cell (World.block_lt_of_cell? _ _ hHeld.2.2.2)).trans hHeld.2.2.2⟩ (fun hHeld => ?_)
        clear hKq Kq
        refine norm_ (a' := ?_) ?_ ?_
        rotate_left
        · show Act.put _ (some 50) _ = _
          simp only [Act.put, List.setIfInBounds_toArray, List.set_cons_zero, List.set_cons_succ, i64_w, i32_w]
          rfl
        refine pure_ (i := 22) (N := (some 51)) (v := ?_) (a' := ?_) #[true, true, true, true, true, true, true, true, true, true, true, true, true, true, true, true, true, true, true, true, true, true, true, false] rfl rfl (any_of HT_.out (by kernel_rfl)) (fun _ _ _ h => h) (Or.inl ⟨by rfl, ?_⟩) ?_ ?_
        rotate_left
        · intro w'
          go_simp
          with_reducible rfl
        rotate_left
        · simp only [Act.put, List.setIfInBounds_toArray, List.set_cons_zero, List.set_cons_succ, i64_w, i32_w]
          rfl
        obtain ⟨hsr1, hsr2⟩ := Kd.R_celln (d := ((0, 0) : Bk)) HRW.out.ru (q : Int) hq3 hq1
        rw [Int.toNat_natCast] at hsr1 hsr2
        refine last_ (i := 23) (N := none) #[true, true, true, true, true, true, true, true, true, true, true, true, true, true, true, true, true, true, true, true, true, true, true, true] rfl rfl (one_of HT_.out (by kernel_rfl)) (by decide) (fun Kq hKq => ?_)
        refine skip_ (w1 := ?_) (by rfl) rfl ?_ ?_
        rotate_left
        · go_simp
          rfl
        refine hKq.out _ _ ?_
        clear hKq Kq
        refine done_ (done_of HT_.out (by kernel_rfl)) ?_
        have n := HRW.out.set_sure q (cb, cap) (y2.take T ++ u.drop T) HNK.out
        have n0 := Aside0.mk (show DevRaw (w5.setCell ⟨ub, q, none⟩ (.slice (some ⟨cb, 0, none⟩) 128 cap)) ok g { D with sure := S.set q (y2.take T ++ u.drop T) } vs _ _ hs (hu2.set q (cb, cap)) hl from n.1)
        have n1 := Aside0.mk (show Fr ok devT w (w5.setCell ⟨ub, q, none⟩ (.slice (some ⟨cb, 0, none⟩) 128 cap)) from HF.out.trans n.2)
        clear HRW HF n hsr1 hsr2
        have HRW := n0
        have HF := n1
        clear n0 n1
        go_wp2
        go_roundg (gk - 1)
        case measure => have := HI.out; omega
        case rel => exact ⟨k + 1, _, _, by first | rfl | go_num, ⟨by have := HLT.out; omega, by have := HI.out; omega⟩, HRW, HF, ⟨by have h9 := HC.out; rw [HDR.out] at h9; unfold crashS at h9; rw [if_pos HTN.out, Int.toNat_natCast, HU0.out] at h9; exact h9⟩, ⟨by rw [List.length_set]; exact HSL.out⟩⟩
      have b1 : ((k : Int) == torn) = false := beq_eq_false_iff_ne.mpr htn
      have HTN := Aside0.mk htn
      clear htn
      obtain ⟨j8, hj8⟩ : ∃ j8, k / 8 = j8 := ⟨_, rfl⟩
      obtain ⟨m8, hm8⟩ : ∃ m8, k % 8 = m8 := ⟨_, rfl⟩
      have hq8 : (k : Int).tdiv 8 = (j8 : Int) := by rw [← hj8]; rfl
      have hr8 : (k : Int).tmod 8 = (m8 : Int) := by rw [← hm8]; rfl
      have hjw : IntKind.i64.wrap (j8 : Int) = (j8 : Int) := by rw [IntKind.wrap_i64]; omega
      have hmw : IntKind.i64.wrap (m8 : Int) = (m8 : Int) := by rw [IntKind.wrap_i64]; omega
      have hm80 : (0 : Int) ≤ (m8 : Int) := by omega
      have HM8 := Aside0.mk (show m8 < 8 by omega)
      have HKF0 := Aside0.mk (show keepBit keep k = (decide (j8 < keep.length) && decide ((rd keep (j8 : Int)).toNat / 2 ^ m8 % 2 = 1)) from by unfold keepBit; rw [hj8, hm8])
      clear hj8 hm8
      by_cases hjl : j8 < keep.length
      · have c1 : decide ((j8 : Int) < (keep.length : Int)) = true := decide_eq_true (by omega)
        have c2 : decide (j8 < keep.length) = true := decide_eq_true hjl
        have c3 : (j8 : Int) < (keep.length : Int) := by omega
        have c4 : (0 : Int) ≤ (j8 : Int) := by omega
        obtain ⟨adk, ek, hkx⟩ := Kd.at_int (HK2 HF) (j8 : Int) (by omega) (by omega)
        cases ek
        rw [Int.toNat_natCast] at hkx
        have hkr := HKB.out (rd keep (j8 : Int)) (by unfold rd; rw [Int.toNat_natCast, List.getD_eq_getElem?_getD, List.getElem?_eq_getElem hjl]; exact List.getElem_mem _)
        have hkf := HKF0.out
        rw [c2, Bool.true_and] at hkf
        generalize rd keep (j8 : Int) = zz at *
        obtain ⟨z, rfl⟩ := Int.eq_ofNat_of_zero_le hkr.1
        have hbit := MBits.bit8 z m8 (by omega) (by have := HM8.out; omega)
        rw [Int.toNat_natCast] at hkf
        clear HKF0 hkr hjl
        by_cases hz : z / 2 ^ m8 % 2 = 1
        · rw [hz] at hbit
          have hbit1 : bits .and .u8 ((z : Int) / 2 ^ min m8 8) 1 = 1 := hbit
          rw [decide_eq_true hz] at hkf
          have HKF := Aside0.mk hkf
          clear hbit hz hkf
          have hq1 : (q : Int) < (D.seen.length : Int) := by have := HQ.out; omega
          have hq2 : decide (q < D.seen.length) = true := decide_eq_true HQ.out
          have hq3 : (0 : Int) ≤ (q : Int) := by omega
          go_upto_region 8 with (fail)
          refine start_ (n := 10) (S := fun w' => w'.cell? ⟨g, 1, none⟩ = some (.slice (some ⟨ub, 0, none⟩) D.seen.length cu) ∧ w'.cell? ⟨gw, 0, none⟩ = some (.int .i64 (q : Int)) ∧ w'.cell? ⟨gw, 1, none⟩ = some (.slice (some ⟨bk.1, 0, none⟩) 128 bk.2)) (ds := [9]) #[false, false, false, false, false, false, false, false, false, false] (by kernel_rfl) rfl rfl ⟨blk_cell HRW.out.blk 1, blk_cell HW.out 0, blk_cell HW.out 1⟩ (fun hHeld => ?_)
          refine with_tabW crash8.tab crash8.bits (fun HT_ HW_ => ?_)
          have n0 := Aside0.mk (HRW.out.below (below_drew (Below.refl _ _)))
          have n1 := Aside0.mk HF.out.drew
          have n2 := Aside0.mk (HBK.out.below (below_drew (Below.refl _ _)))
          clear HRW HF HBK HW
          have HRW := n0
          have HF := n1
          have HBK := n2
          clear n0 n1 n2
          generalize w3.drew = w4 at HRW HF HBK hHeld ⊢
          refine pure_ (i := 0) (N := (some 70)) (v := ?_) (a' := ?_) #[true, false, false, false, false, false, false, false, false, false] rfl rfl (any_of HT_.out (by kernel_rfl)) (fun _ _ _ h => h) (Or.inl ⟨by rfl, ?_⟩) ?_ ?_
          rotate_left
          · intro w'
            go_simp
            with_reducible rfl
          rotate_left
          · simp only [Act.put, List.setIfInBounds_toArray, List.set_cons_zero, List.set_cons_succ, i64_w, i32_w]
            rfl
          refine pure_ (i := 1) (N := (some 71)) (v := ?_) (a' := ?_) #[true, true, false, false, false, false, false, false, false, false] rfl rfl (any_of HT_.out (by kernel_rfl)) (fun _ _ _ h => h) (Or.inl ⟨by rfl, ?_⟩) ?_ ?_
          rotate_left
          · intro w'
            go_simp
            with_reducible rfl
          rotate_left
          · simp only [Act.put, List.setIfInBounds_toArray, List.set_cons_zero, List.set_cons_succ, i64_w, i32_w]
            rfl
          refine pure_ (i := 2) (N := (some 72)) (v := ?_) (a' := ?_) #[true, true, true, false, false, false, false, false, false, false] rfl rfl (any_of HT_.out (by kernel_rfl)) (fun _ _ _ h => h) (Or.inl ⟨by rfl, ?_⟩) ?_ ?_
          rotate_left
          · intro w'
            go_simp
            with_reducible rfl
          rotate_left
          · simp only [Act.put, List.setIfInBounds_toArray, List.set_cons_zero, List.set_cons_succ, i64_w, i32_w]
            rfl
          refine pure_ (i := 4) (N := (some 74)) (v := ?_) (a' := ?_) #[true, true, true, false, true, false, false, false, false, false] rfl rfl (any_of HT_.out (by kernel_rfl)) (fun _ _ _ h => h) (Or.inl ⟨by rfl, ?_⟩) ?_ ?_
          rotate_left
          · intro w'
            go_simp
            with_reducible rfl
          rotate_left
          · simp only [Act.put, List.setIfInBounds_toArray, List.set_cons_zero, List.set_cons_succ, i64_w, i32_w]
            rfl
          refine pure_ (i := 6) (N := (some 76)) (v := ?_) (a' := ?_) #[true, true, true, false, true, false, true, false, false, false] rfl rfl (any_of HT_.out (by kernel_rfl)) (fun _ _ _ h => h) (Or.inl ⟨by rfl, ?_⟩) ?_ ?_
          rotate_left
          · intro w'
            go_simp
            with_reducible rfl
          rotate_left
          · simp only [Act.put, List.setIfInBounds_toArray, List.set_cons_zero, List.set_cons_succ, i64_w, i32_w]
            rfl
          refine take_ (i := 3) (N := (some 73)) (v := ?_) (a' := ?_) #[true, true, true, true, true, false, true, false, false, false] rfl rfl (take_ofW HT_.out HW_.out (by kernel_rfl)) (fun _ _ _ h => h) (Or.inl ⟨by rfl, ?_⟩) (by exact hHeld) ?_ ?_
          rotate_left
          · intro w' hw'
            go_simp
            with_reducible rfl
          rotate_left
          · simp only [Act.put, List.setIfInBounds_toArray, List.set_cons_zero, List.set_cons_succ, i64_w, i32_w]
            rfl
          refine take_ (i := 5) (N := (some 75)) (v := ?_) (a' := ?_) #[true, true, true, true, true, true, true, false, false, false] rfl rfl (take_ofW HT_.out HW_.out (by kernel_rfl)) (fun _ _ _ h => h) (Or.inl ⟨by rfl, ?_⟩) (by exact hHeld) ?_ ?_
          rotate_left
          · intro w' hw'
            go_simp
            with_reducible rfl
          rotate_left
          · simp only [Act.put, List.setIfInBounds_toArray, List.set_cons_zero, List.set_cons_succ, i64_w, i32_w]
            rfl
          refine take_ (i := 7) (N := (some 77)) (v := ?_) (a' := ?_) #[true, true, true, true, true, true, true, true, false, false] rfl rfl (take_ofW HT_.out HW_.out (by kernel_rfl)) (fun _ _ _ h => h) (Or.inl ⟨by rfl, ?_⟩) (by exact hHeld) ?_ ?_
          rotate_left
          · intro w' hw'
            go_simp
            with_reducible rfl
          rotate_left
          · simp only [Act.put, List.setIfInBounds_toArray, List.set_cons_zero, List.set_cons_succ, i64_w, i32_w]
            rfl
          refine pure_ (i := 8) (N := (some 78)) (v := ?_) (a' := ?_) #[true, true, true, true, true, true, true, true, true, false] rfl rfl (any_of HT_.out (by kernel_rfl)) (fun _ _ _ h => h) (Or.inl ⟨by rfl, ?_⟩) ?_ ?_
          rotate_left
          · intro w'
            go_simp
            with_reducible rfl
          rotate_left
          · simp only [Act.put, List.setIfInBounds_toArray, List.set_cons_zero, List.set_cons_succ, i64_w, i32_w]
            rfl
          obtain ⟨hsr1, hsr2⟩ := Kd.R_celln (d := ((0, 0) : Bk)) HRW.out.ru (q : Int) hq3 hq1
          rw [Int.toNat_natCast] at hsr1 hsr2
          refine last_ (i := 9) (N := none) #[true, true, true, true, true, true, true, true, true, true] rfl rfl (one_of HT_.out (by kernel_rfl)) (by decide) (fun Kq hKq => ?_)
          refine skip_ (w1 := ?_) (by rfl) rfl ?_ ?_
          rotate_left
          · go_simp
            rfl
          refine hKq.out _ _ ?_
          clear hKq Kq
          refine done_ (done_of HT_.out (by kernel_rfl)) ?_
          have n := HRW.out.set_sure q bk y2 HBK.out
          have n0 := Aside0.mk (show DevRaw (w4.setCell ⟨ub, q, none⟩ (.slice (some ⟨bk.1, 0, none⟩) 128 bk.2)) ok g { D with sure := S.set q y2 } vs _ _ hs (hu2.set q bk) hl from n.1)
          have n1 := Aside0.mk (show Fr ok devT w (w4.setCell ⟨ub, q, none⟩ (.slice (some ⟨bk.1, 0, none⟩) 128 bk.2)) from HF.out.trans n.2)
          clear HRW HF n hsr1 hsr2
          have HRW := n0
          have HF := n1
          clear n0 n1
          go_wp2
          go_roundg (gk - 1)
          case measure => have := HI.out; omega
          case rel => exact ⟨k + 1, _, _, by first | rfl | go_num, ⟨by have := HLT.out; omega, by have := HI.out; omega⟩, HRW, HF, ⟨by have h9 := HC.out; rw [HDR.out] at h9; unfold crashS at h9; rw [if_neg HTN.out, if_pos HKF.out, Int.toNat_natCast] at h9; exact h9⟩, ⟨by rw [List.length_set]; exact HSL.out⟩⟩
        · have hz0 : z / 2 ^ m8 % 2 = 0 := by
            generalize z / 2 ^ m8 = y at *
            omega
          rw [hz0] at hbit
          have hbit1 : bits .and .u8 ((z : Int) / 2 ^ min m8 8) 1 = 0 := hbit
          rw [decide_eq_false hz] at hkf
          have HKF := Aside0.mk hkf
          clear hbit hz hz0 hkf
          go_wp2
          go_roundg (gk - 1)
          case measure => have := HI.out; omega
          case rel => exact ⟨k + 1, _, _, by first | rfl | go_num, ⟨by have := HLT.out; omega, by have := HI.out; omega⟩, HRW, HF, ⟨by have h9 := HC.out; rw [HDR.out] at h9; unfold crashS at h9; rw [if_neg HTN.out, if_neg (by rw [HKF.out]; decide)] at h9; exact h9⟩, ⟨HSL.out⟩⟩
      · have c1 : decide ((j8 : Int) < (keep.length : Int)) = false := decide_eq_false (by omega)
        have c2 : decide (j8 < keep.length) = false := decide_eq_false hjl
        have c3 : ¬ (j8 : Int) < (keep.length : Int) := by omega
        have hkf := HKF0.out
        rw [c2, Bool.false_and] at hkf
        have HKF := Aside0.mk hkf
        clear HKF0 hkf hjl
        go_wp2
        go_roundg (gk - 1)
        case measure => have := HI.out; omega
        case rel => exact ⟨k + 1, _, _, by first | rfl | go_num, ⟨by have := HLT.out; omega, by have := HI.out; omega⟩, HRW, HF, ⟨by have h9 := HC.out; rw [HDR.out] at h9; unfold crashS at h9; rw [if_neg HTN.out, if_neg (by rw [HKF.out]; decide)] at h9; exact h9⟩, ⟨HSL.out⟩⟩
    · have e1 : decide ((k : Int) < (D.later.length : Int)) = false := decide_eq_false (by omega)
      have e2 : decide (k < D.later.length) = false := decide_eq_false hlt
      have e3 : ¬ (k : Int) < (D.later.length : Int) := by omega
      obtain rfl : k = D.later.length := by have := HI.out; omega
      have hS : S = R := by have := HC.out; rw [List.drop_length] at this; exact this
      subst hS
      have x1 := blk_cell HRW.out.blk 1
      have hln : hu2.length ≤ 1000000 := by omega
      have HLN := Aside0.mk hhu2
      have HCL := Aside0.mk (fun W (hb : Below wr.heap.size wr W) => CloneB (some ⟨ub, 0, none⟩) cu hu2 W (Kd.C_below (Kd.R_reads' HRW.out.ru).2.2 hb) (by rw [hhu2]; exact (Kd.R_reads' HRW.out.ru).2.1) hln)
      rw [hhu2] at HCL
      clear hhu2 hln
      go_wp2_with (go_at_call 21; (refine (HCL.out _ (Below.refl _ _)).mono ?_); rintro e w1 ⟨v2, rfl, ho, hb⟩; obtain ⟨A2, c2, rfl⟩ := Kd.R_slice ho; have HNE := Aside0.mk (show ∀ k, (Value.slice A2 hu2.length c2).ownBlock = some k → (Value.slice (some ⟨ub, 0, none⟩) D.seen.length cu).ownBlock ≠ some k from fun k hk e => by have h1 := Kd.R_lt HRW.out.ru k e; have h2 := Kd.R_base ho k hk; omega); have n0 := Aside0.mk (HRW.out.below hb); have HO := Aside0.mk (Kd.R_mono (Kd.R_lower (Kd.R_bound ho) (Nat.zero_le _)) (fun k hk => hfr k (Nat.le_trans HF.out.size hk.2.1))); have HB := Aside0.mk hb; clear HRW ho hb x1; have HRW := n0; clear n0; have z0 := blk_cell HRW.out.blk 0; have z2 := blk_cell HRW.out.blk 2; have z4 := blk_cell HRW.out.blk 4; have u0 := blk_frozen HRW.out.blk 0; have u2 := blk_frozen HRW.out.blk 2; have u4 := blk_frozen HRW.out.blk 4)
      go_end0
      have n := HRW.out.crashed HO.out HNE.out HRW.out.eu
      have n1 := n.1
      refine ⟨rfl, ?_, (HF.out.trans (Fr.of_below HB.out)).trans n.2⟩
      rw [← HE.out]
      exact ⟨_, _, _, _, _, _, n1⟩
end Go.Proofs.YtokmildjniploaaDoor.PLog
