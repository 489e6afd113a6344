/- the document's device: what Crash does. Conditions: none. -/
import Derived.Test.YtaoegbebeogkbaaRefW
namespace Go.Proofs.Ytaoegbebeogkbaa.PDev
open Go.RowKit Go.Proofs.YtaoegbebeogkbaaW.PrintWords Go.Proofs.YtaoegbebeogkbaaW.PrintLast Go.Proofs.YtaoegbebeogkbaaW.PrintMore
attribute [local go_sem] max2_int min2_int max_two min_two   -- for this text's walks alone
set_option linter.unusedVariables false
set_option linter.unusedSimpArgs false
theorem at_kP {w : World} {A : Option Addr} {n : Nat} {xs : List (Int × List Int)} (h : Kd.C kP w A n xs) (i : Nat) (hi : i < n) (x : Int × List Int) (hx : xs[i]? = some x) : ∃ ad, A = some ad ∧ w.cell? (ad.add (i * 2)) = some (.int .i64 x.1) ∧ w.cell? ⟨(ad.add (i * 2)).block, (ad.add (i * 2)).off + 1, none⟩ = some (.string (strOfNums x.2)) := by
  obtain ⟨ad, c, e, _, hK, hc0⟩ := Kd.C_get h ((0, []) : Int × List Int) (i : Int) (by omega) (by omega)
  rw [Int.toNat_natCast, List.getD_eq_getElem?_getD, hx] at hK
  rw [Int.toNat_natCast] at hc0
  obtain ⟨_, _, rfl, rfl, rfl⟩ := hK
  have hc : ∀ j u, ([Value.int .i64 x.1, encS x.2] : List Value)[j]? = some u → w.cell? (ad.add (i * 2 + j)) = some u := hc0
  exact ⟨ad, e, hc 0 _ rfl, by rw [← add_field _ _ 1 (by omega)]; exact hc 1 _ rfl⟩
theorem str_ext (a b : ByteArray) (h : a.data.toList = b.data.toList) : a = b := by
  cases a with
  | mk a =>
    cases b with
    | mk b =>
      congr 1
      exact Array.toList_inj.1 h
theorem str_ex (l : List Int) (i j : Nat) : ((strOfNums l).extract i j) = strOfNums ((l.take j).drop i) := by
  apply str_ext
  rw [strOfNums_data, ByteArray.data_extract, Array.toList_extract, strOfNums_data, List.extract_eq_take_drop, List.map_drop, List.map_take]
  rw [List.drop_take]
theorem str_app (a b : List Int) : strOfNums a ++ strOfNums b = strOfNums (a ++ b) := by
  apply str_ext
  rw [strOfNums_data, ByteArray.data_append, Array.toList_append, strOfNums_data, strOfNums_data, List.map_append]
theorem cutS_front (l : List Int) (T : Nat) (hT : T ≤ l.length) : ∀ W : World, (Instr.slice 9 (.string (strOfNums l)) none (some (.int .i64 (T : Int))) none).run Try.prog W = .ok (.string (strOfNums (l.take T))) W := by
  intro W
  rw [run_slice_string_h W 9 _ Try.underlying9 .i64 (T : Int) (by omega) (by rw [strOfNums_size]; omega), Int.toNat_natCast, str_ex, List.drop_zero]
theorem cutS_back (l : List Int) (T : Nat) (hT : T ≤ l.length) : ∀ W : World, (Instr.slice 9 (.string (strOfNums l)) (some (.int .i64 (T : Int))) none none).run Try.prog W = .ok (.string (strOfNums (l.drop T))) W := by
  intro W
  rw [run_slice_string_l W 9 _ Try.underlying9 .i64 (T : Int) (by omega) (by rw [strOfNums_size]; omega), Int.toNat_natCast, str_ex, strOfNums_size, List.take_length]
def Wide (l : List (List Int)) : Prop := ∀ r, r ∈ l → r.length = 128
theorem Wide.set {l : List (List Int)} (h : Wide l) (i : Nat) (r : List Int) (hr : r.length = 128) : Wide (l.set i r) := fun x hx => by
  rcases List.mem_or_eq_of_mem_set hx with hx | hx
  · exact h x hx
  · rw [hx]; exact hr
def rcrash6.T : Bool × List (List Nat × List Nat) := (true, [([], []), ([0], [0]), ([1], [1]), ([2], [2]), ([], []), ([4], [4]), ([], []), ([6], [6]), ([], []), ([7, 8], [7, 8]), ([], []), ([10], [10]), ([11], [11]), ([12], [12]), ([], []), ([14], [14]), ([13, 15], [13, 15]), ([16], [16]), ([], []), ([17, 18], [17, 18]), ([9, 19], [9, 19]), ([3, 5, 0, 1, 2, 3, 4, 5, 6, 7, 8, 9, 10, 11, 12, 13, 14, 15, 16, 17, 18, 19, 20], [3, 5]), ([21, 20, 0, 1, 2, 3, 4, 5, 6, 7, 8, 9, 10, 11, 12, 13, 14, 15, 16, 17, 18, 19, 20], [20, 21])])
def rcrash6.B : List Nat := [0, 1, 3, 7, 0, 16, 0, 64, 0, 448, 0, 1024, 3072, 7168, 0, 16384, 64512, 130048, 0, 523264, 1048512, 2097151, 4194303]
theorem rcrash6.tab : rtab .any (opsOf Try.f20 6) = rcrash6.T := by kernel_rfl
theorem rcrash6.bits : waitsOk rcrash6.T.2 rcrash6.B = true := by kernel_rfl
def rcrash8.T : Bool × List (List Nat × List Nat) := (true, [([], []), ([0], [0]), ([1], [1]), ([2], [2]), ([], []), ([4], [4]), ([], []), ([6], [6]), ([3, 5, 0, 1, 2, 3, 4, 5, 6, 7], [3, 5]), ([8, 7, 0, 1, 2, 3, 4, 5, 6, 7], [7, 8])])
def rcrash8.B : List Nat := [0, 1, 3, 7, 0, 16, 0, 64, 255, 511]
theorem rcrash8.tab : rtab .any (opsOf Try.f20 8) = rcrash8.T := by kernel_rfl
theorem rcrash8.bits : waitsOk rcrash8.T.2 rcrash8.B = true := by kernel_rfl
set_option maxHeartbeats 16000000 in
set_option maxRecDepth 100000 in
theorem Ref_Crash (ok : Nat → Prop) (g : Nat) (D : Dat) (Ak : Option Addr) (ck : Nat) (keep : List Int) (torn a : Int) (w : World) (h : RefAt w ok g D) (hfr : ∀ k, w.heap.size ≤ k → ok k) (hsl : D.seen.length ≤ 1000000) (hsu : D.sure.length = D.seen.length) (hll : D.later.length ≤ 1000000) (hwf : ∀ x, x ∈ D.later → 0 ≤ x.1 ∧ x.1 < D.seen.length)
    (hK : ∀ w' (hf : Fr ok refT w w'), Kd.C (Kd.int .u8) w' Ak keep.length keep) (hkc : keep.length ≤ ck) (hkl : keep.length ≤ 1000000) (hkb : ∀ x, x ∈ keep → 0 ≤ x ∧ x < 256) (hpos : 0 < D.seen.length) (hwd : Wide D.sure) (hwl : ∀ x, x ∈ D.later → x.2.length = 128) :
    Calls Try.prog 20 #[.pointer (some ⟨g, 0, none⟩), .slice Ak keep.length ck, .int .i64 torn, .int .i64 a] w fun e w' => e = .returned (.tuple #[]) ∧ RefAt w' ok g (D.crash keep torn a) ∧ Fr ok refT w w' := by
  obtain ⟨T, hT⟩ : ∃ T, clampT a = T := ⟨_, rfl⟩
  have hTl : T ≤ 128 := by rw [← hT]; unfold clampT; split <;> (try split) <;> omega
  obtain ⟨a1, ha1⟩ : ∃ a1 : Int, (if a < 0 then 0 else a) = a1 := ⟨_, rfl⟩
  have ha2 : (if 128 < a1 then 128 else a1) = (T : Int) := by
    rw [← hT, ← ha1]
    unfold clampT
    split
    · rw [if_neg (by omega)]; rfl
    · split <;> omega
  obtain ⟨R, hR⟩ : ∃ R, crashS keep torn T 0 D.later D.sure = R := ⟨_, rfl⟩
  have hRl : R.length = D.seen.length := by rw [← hR, crashS_len, hsu]
  have HE := Aside0.mk (show ({ D with seen := R, sure := R, later := [], left := -1 } : Dat) = D.crash keep torn a from by unfold Dat.crash; rw [hT, hR])
  have HR := Aside0.mk hR
  have HT := Aside0.mk hTl
  have HWF := Aside0.mk hwf
  have HSU := Aside0.mk hsu
  have HKB := Aside0.mk hkb
  have HWD := Aside0.mk hwd
  have HWL := Aside0.mk hwl
  have HK2 : ∀ {w'}, Aside0 (Fr ok refT w w') → Kd.C (Kd.int .u8) w' Ak keep.length keep := fun h => hK _ h.out
  obtain ⟨vu, vs, vl, hraw⟩ := h
  obtain ⟨ub, cu, rfl, _, _, _⟩ := Kd.R_form hraw.ru (by omega)
  obtain ⟨Al, cl, rfl⟩ := Kd.R_slice hraw.rl
  rw [hsu] at hraw
  have HRW := Aside0.mk hraw
  clear hraw hT hTl hR hRl hwf hsu hkb hK hwd hwl
  go_enter Try.func20, Try.ntmps20
  go_wp2
  go_loopg [8, 9] (D.later.length + 1) (fun kq v8 v9 w2 => ∃ (k : Nat) (S : List (List Int)), v8 = .int .i64 (k : Int) ∧ Aside0 (k ≤ D.later.length ∧ D.later.length < kq + k) ∧ Aside0 (RefRaw w2 ok g { D with sure := S } (.slice (some ⟨ub, 0, none⟩) D.seen.length cu) vs (.slice Al D.later.length cl)) ∧ Aside0 (Fr ok refT w w2) ∧ Aside0 (crashS keep torn T k (D.later.drop k) S = R) ∧ Aside0 (S.length = D.seen.length) ∧ Aside0 (Wide S))
  case atStart => exact ⟨0, D.sure, rfl, ⟨Nat.zero_le _, by omega⟩, HRW, ⟨Fr.refl _ _ _⟩, ⟨by rw [List.drop_zero]; exact HR.out⟩, HSU, HWD⟩
  case round =>
    clear HRW HWD
    obtain ⟨k, S, rfl, HI, HRW, HF, HC, HSL, HSW⟩ := hrel
    have x2 := blk_cell HRW.out.blk 2
    by_cases hlt : k < D.later.length
    · have e1 : decide ((k : Int) < (D.later.length : Int)) = true := decide_eq_true (by omega)
      have e2 : decide (k < D.later.length) = true := decide_eq_true hlt
      have e3 : (k : Int) < (D.later.length : Int) := by omega
      have hw1 : IntKind.i64.wrap ((k : Int) + 1) = ((k + 1 : Nat) : Int) := by rw [IntKind.wrap_i64]; omega
      have hL : D.later[k]? = some D.later[k] := List.getElem?_eq_getElem hlt
      obtain ⟨ad, eA, t0, t1⟩ := at_kP (Kd.R_reads' HRW.out.rl).2.2 k hlt _ hL
      cases eA
      have hwfk := HWF.out D.later[k] (List.getElem_mem _)
      have hwlk := HWL.out D.later[k] (List.getElem_mem _)
      rw [show (({ D with sure := S } : Dat).later[k]) = D.later[k] from rfl] at t0 t1
      generalize D.later[k] = y at *
      obtain ⟨y1, y2⟩ := y
      dsimp only at hwfk hwlk t0 t1
      obtain ⟨q, rfl⟩ := Int.eq_ofNat_of_zero_le hwfk.1
      have HQ := Aside0.mk (show q < D.seen.length by omega)
      have HDR := Aside0.mk (drop_at _ _ _ hL)
      have HLT := Aside0.mk hlt
      have HYL := Aside0.mk hwlk
      clear hlt hL hwfk hwlk
      go_upto_region 5 with (fail)
      have HW := Aside0.mk (heap_alloc_new wr (.cells #[.int .i64 (q : Int), .string (strOfNums y2)] 62))
      have hal := below_alloc (Below.refl wr.heap.size wr) (.cells #[.int .i64 (q : Int), .string (strOfNums y2)] 62)
      have n0 := Aside0.mk (HRW.out.below hal)
      have n1 := Aside0.mk (HF.out.trans (Fr.of_below hal))
      clear HRW HF hal t0 t1 x2
      have HRW := n0
      have HF := n1
      clear n0 n1
      generalize wr.alloc (.cells #[.int .i64 (q : Int), .string (strOfNums y2)] 62) = w3 at HRW HF HW ⊢
      generalize wr.heap.size = gw at HW ⊢
      by_cases htn : (k : Int) = torn
      · have b1 : ((k : Int) == torn) = true := beq_iff_eq.mpr htn
        have HTN := Aside0.mk htn
        clear htn
        have hqS : q < S.length := by have := HSL.out; have := HQ.out; omega
        have hru := (Kd.R_celln (d := ([] : List Int)) HRW.out.ru (q : Int) (by omega) (by have := HQ.out; omega)).1
        obtain ⟨u, hu0⟩ : ∃ u, S.getD q [] = u := ⟨_, rfl⟩
        rw [Int.toNat_natCast, show rdOf ([] : List Int) ({ D with sure := S } : Dat).sure (q : Int) = u by unfold rdOf; rw [Int.toNat_natCast]; exact hu0] at hru
        have hru2 : w3.cell? ⟨ub, q, none⟩ = some (.string (strOfNums u)) := hru
        have hul : u.length = 128 := by rw [← hu0, List.getD_eq_getElem?_getD, List.getElem?_eq_getElem hqS]; exact HSW.out _ (List.getElem_mem _)
        have HRU := Aside0.mk hru2
        have HU0 := Aside0.mk hu0
        have HUL := Aside0.mk hul
        clear hru hru2 hu0 hqS
        have hcf := cutS_front y2 T (by have := HT.out; have := HYL.out; omega)
        have hcb := cutS_back u T (by have := HT.out; omega)
        have hcat : ¬ 9223372036854775807 < (strOfNums (y2.take T)).size + (strOfNums (u.drop T)).size := by rw [strOfNums_size, strOfNums_size, List.length_take, List.length_drop]; omega
        clear hul
        have hq1 : (q : Int) < (D.seen.length : Int) := by have := HQ.out; omega
        have hq2 : decide (q < D.seen.length) = true := decide_eq_true HQ.out
        have hq3 : (0 : Int) ≤ (q : Int) := by omega
        go_upto_region 6 with (fail)
        refine start_ (n := 23) (S := fun w' => w'.cell? ⟨g, 0, none⟩ = some (.slice (some ⟨ub, 0, none⟩) D.seen.length cu) ∧ w'.cell? ⟨gw, 0, none⟩ = some (.int .i64 (q : Int)) ∧ w'.cell? ⟨gw, 1, none⟩ = some (.string (strOfNums y2)) ∧ w'.cell? ⟨ub, q, none⟩ = some (.string (strOfNums u))) (ds := [22]) #[false, false, false, false, false, false, false, false, false, false, false, false, false, false, false, false, false, false, false, false, false, false, false] (by kernel_rfl) rfl rfl ⟨blk_cell HRW.out.blk 0, blk_cell HW.out 0, blk_cell HW.out 1, HRU.out⟩ (fun hHeld => ?_)
        refine with_tabW rcrash6.tab rcrash6.bits (fun HT_ HW_ => ?_)
        have n0 := Aside0.mk (HRW.out.below (below_drew (Below.refl _ _)))
        have n1 := Aside0.mk HF.out.drew
        clear HRW HF HW HRU
        have HRW := n0
        have HF := n1
        clear n0 n1
        generalize w3.drew = w4 at HRW HF hHeld ⊢
        refine pure_ (i := 0) (N := (some 32)) (v := ?_) (a' := ?_) #[true, false, false, false, false, false, false, false, false, false, false, false, false, false, false, false, false, false, false, false, false, false, false] rfl rfl (any_of HT_.out (by kernel_rfl)) (fun _ _ _ h => h) (Or.inl ⟨by rfl, ?_⟩) ?_ ?_
        rotate_left
        · intro w'
          go_simp
          with_reducible rfl
        rotate_left
        · simp only [Act.put, List.setIfInBounds_toArray, List.set_cons_zero, List.set_cons_succ, i64_w, i32_w]
          rfl
        refine pure_ (i := 1) (N := (some 33)) (v := ?_) (a' := ?_) #[true, true, false, false, false, false, false, false, false, false, false, false, false, false, false, false, false, false, false, false, false, false, false] rfl rfl (any_of HT_.out (by kernel_rfl)) (fun _ _ _ h => h) (Or.inl ⟨by rfl, ?_⟩) ?_ ?_
        rotate_left
        · intro w'
          go_simp
          with_reducible rfl
        rotate_left
        · simp only [Act.put, List.setIfInBounds_toArray, List.set_cons_zero, List.set_cons_succ, i64_w, i32_w]
          rfl
        refine pure_ (i := 2) (N := (some 34)) (v := ?_) (a' := ?_) #[true, true, true, false, false, false, false, false, false, false, false, false, false, false, false, false, false, false, false, false, false, false, false] rfl rfl (any_of HT_.out (by kernel_rfl)) (fun _ _ _ h => h) (Or.inl ⟨by rfl, ?_⟩) ?_ ?_
        rotate_left
        · intro w'
          go_simp
          with_reducible rfl
        rotate_left
        · simp only [Act.put, List.setIfInBounds_toArray, List.set_cons_zero, List.set_cons_succ, i64_w, i32_w]
          rfl
        refine pure_ (i := 4) (N := (some 36)) (v := ?_) (a' := ?_) #[true, true, true, false, true, false, false, false, false, false, false, false, false, false, false, false, false, false, false, false, false, false, false] rfl rfl (any_of HT_.out (by kernel_rfl)) (fun _ _ _ h => h) (Or.inl ⟨by rfl, ?_⟩) ?_ ?_
        rotate_left
        · intro w'
          go_simp
          with_reducible rfl
        rotate_left
        · simp only [Act.put, List.setIfInBounds_toArray, List.set_cons_zero, List.set_cons_succ, i64_w, i32_w]
          rfl
        refine pure_ (i := 6) (N := (some 38)) (v := ?_) (a' := ?_) #[true, true, true, false, true, false, true, false, false, false, false, false, false, false, false, false, false, false, false, false, false, false, false] rfl rfl (any_of HT_.out (by kernel_rfl)) (fun _ _ _ h => h) (Or.inl ⟨by rfl, ?_⟩) ?_ ?_
        rotate_left
        · intro w'
          go_simp
          with_reducible rfl
        rotate_left
        · simp only [Act.put, List.setIfInBounds_toArray, List.set_cons_zero, List.set_cons_succ, i64_w, i32_w]
          rfl
        refine pure_ (i := 8) (N := (some 40)) (v := ?_) (a' := ?_) #[true, true, true, false, true, false, true, false, true, false, false, false, false, false, false, false, false, false, false, false, false, false, false] rfl rfl (any_of HT_.out (by kernel_rfl)) (fun _ _ _ h => h) (Or.inl ⟨by rfl, ?_⟩) ?_ ?_
        rotate_left
        · intro w'
          go_simp
          with_reducible rfl
        rotate_left
        · simp only [Act.put, List.setIfInBounds_toArray, List.set_cons_zero, List.set_cons_succ, i64_w, i32_w]
          rfl
        refine pure_ (i := 10) (N := (some 42)) (v := ?_) (a' := ?_) #[true, true, true, false, true, false, true, false, true, false, true, false, false, false, false, false, false, false, false, false, false, false, false] rfl rfl (any_of HT_.out (by kernel_rfl)) (fun _ _ _ h => h) (Or.inl ⟨by rfl, ?_⟩) ?_ ?_
        rotate_left
        · intro w'
          go_simp
          with_reducible rfl
        rotate_left
        · simp only [Act.put, List.setIfInBounds_toArray, List.set_cons_zero, List.set_cons_succ, i64_w, i32_w]
          rfl
        refine pure_ (i := 11) (N := (some 43)) (v := ?_) (a' := ?_) #[true, true, true, false, true, false, true, false, true, false, true, true, false, false, false, false, false, false, false, false, false, false, false] rfl rfl (any_of HT_.out (by kernel_rfl)) (fun _ _ _ h => h) (Or.inl ⟨by rfl, ?_⟩) ?_ ?_
        rotate_left
        · intro w'
          go_simp
          with_reducible rfl
        rotate_left
        · simp only [Act.put, List.setIfInBounds_toArray, List.set_cons_zero, List.set_cons_succ, i64_w, i32_w]
          rfl
        refine pure_ (i := 12) (N := (some 44)) (v := ?_) (a' := ?_) #[true, true, true, false, true, false, true, false, true, false, true, true, true, false, false, false, false, false, false, false, false, false, false] rfl rfl (any_of HT_.out (by kernel_rfl)) (fun _ _ _ h => h) (Or.inl ⟨by rfl, ?_⟩) ?_ ?_
        rotate_left
        · intro w'
          go_simp
          with_reducible rfl
        rotate_left
        · simp only [Act.put, List.setIfInBounds_toArray, List.set_cons_zero, List.set_cons_succ, i64_w, i32_w]
          rfl
        refine pure_ (i := 14) (N := (some 46)) (v := ?_) (a' := ?_) #[true, true, true, false, true, false, true, false, true, false, true, true, true, false, true, false, false, false, false, false, false, false, false] rfl rfl (any_of HT_.out (by kernel_rfl)) (fun _ _ _ h => h) (Or.inl ⟨by rfl, ?_⟩) ?_ ?_
        rotate_left
        · intro w'
          go_simp
          with_reducible rfl
        rotate_left
        · simp only [Act.put, List.setIfInBounds_toArray, List.set_cons_zero, List.set_cons_succ, i64_w, i32_w]
          rfl
        refine pure_ (i := 18) (N := (some 50)) (v := ?_) (a' := ?_) #[true, true, true, false, true, false, true, false, true, false, true, true, true, false, true, false, false, false, true, false, false, false, false] rfl rfl (any_of HT_.out (by kernel_rfl)) (fun _ _ _ h => h) (Or.inl ⟨by rfl, ?_⟩) ?_ ?_
        rotate_left
        · intro w'
          go_simp
          with_reducible rfl
        rotate_left
        · simp only [Act.put, List.setIfInBounds_toArray, List.set_cons_zero, List.set_cons_succ, i64_w, i32_w]
          rfl
        refine take_ (i := 3) (N := (some 35)) (v := ?_) (a' := ?_) #[true, true, true, true, true, false, true, false, true, false, true, true, true, false, true, false, false, false, true, false, false, false, false] rfl rfl (take_ofW HT_.out HW_.out (by kernel_rfl)) (fun _ _ _ h => h) (Or.inl ⟨by rfl, ?_⟩) (by exact hHeld) ?_ ?_
        rotate_left
        · intro w' hw'
          go_simp
          with_reducible rfl
        rotate_left
        · simp only [Act.put, List.setIfInBounds_toArray, List.set_cons_zero, List.set_cons_succ, i64_w, i32_w]
          rfl
        refine take_ (i := 5) (N := (some 37)) (v := ?_) (a' := ?_) #[true, true, true, true, true, true, true, false, true, false, true, true, true, false, true, false, false, false, true, false, false, false, false] rfl rfl (take_ofW HT_.out HW_.out (by kernel_rfl)) (fun _ _ _ h => h) (Or.inl ⟨by rfl, ?_⟩) (by exact hHeld) ?_ ?_
        rotate_left
        · intro w' hw'
          go_simp
          with_reducible rfl
        rotate_left
        · simp only [Act.put, List.setIfInBounds_toArray, List.set_cons_zero, List.set_cons_succ, i64_w, i32_w]
          rfl
        refine take_ (i := 7) (N := (some 39)) (v := ?_) (a' := ?_) #[true, true, true, true, true, true, true, true, true, false, true, true, true, false, true, false, false, false, true, false, false, false, false] rfl rfl (take_ofW HT_.out HW_.out (by kernel_rfl)) (fun _ _ _ h => h) (Or.inl ⟨by rfl, ?_⟩) (by exact hHeld) ?_ ?_
        rotate_left
        · intro w' hw'
          go_simp
          with_reducible rfl
        rotate_left
        · simp only [Act.put, List.setIfInBounds_toArray, List.set_cons_zero, List.set_cons_succ, i64_w, i32_w]
          rfl
        refine take_ (i := 13) (N := (some 45)) (v := ?_) (a' := ?_) #[true, true, true, true, true, true, true, true, true, false, true, true, true, true, true, false, false, false, true, false, false, false, false] rfl rfl (take_ofW HT_.out HW_.out (by kernel_rfl)) (fun _ _ _ h => h) (Or.inl ⟨by rfl, ?_⟩) (by exact hHeld) ?_ ?_
        rotate_left
        · intro w' hw'
          go_simp
          with_reducible rfl
        rotate_left
        · simp only [Act.put, List.setIfInBounds_toArray, List.set_cons_zero, List.set_cons_succ, i64_w, i32_w]
          rfl
        refine take_ (i := 15) (N := (some 47)) (v := ?_) (a' := ?_) #[true, true, true, true, true, true, true, true, true, false, true, true, true, true, true, true, false, false, true, false, false, false, false] rfl rfl (take_ofW HT_.out HW_.out (by kernel_rfl)) (fun _ _ _ h => h) (Or.inl ⟨by rfl, ?_⟩) (by exact hHeld) ?_ ?_
        rotate_left
        · intro w' hw'
          go_simp
          with_reducible rfl
        rotate_left
        · simp only [Act.put, List.setIfInBounds_toArray, List.set_cons_zero, List.set_cons_succ, i64_w, i32_w]
          rfl
        refine pure_ (i := 9) (N := (some 41)) (v := ?_) (a' := ?_) #[true, true, true, true, true, true, true, true, true, true, true, true, true, true, true, true, false, false, true, false, false, false, false] rfl rfl (any_of HT_.out (by kernel_rfl)) (fun _ _ _ h => h) (Or.inl ⟨by rfl, ?_⟩) ?_ ?_
        rotate_left
        · intro w'
          go_simp
          with_reducible rfl
        rotate_left
        · simp only [Act.put, List.setIfInBounds_toArray, List.set_cons_zero, List.set_cons_succ, i64_w, i32_w]
          rfl
        refine pure_ (i := 16) (N := (some 48)) (v := ?_) (a' := ?_) #[true, true, true, true, true, true, true, true, true, true, true, true, true, true, true, true, true, false, true, false, false, false, false] rfl rfl (any_of HT_.out (by kernel_rfl)) (fun _ _ _ h => h) (Or.inl ⟨by rfl, ?_⟩) ?_ ?_
        rotate_left
        · intro w'
          go_simp
          with_reducible rfl
        rotate_left
        · simp only [Act.put, List.setIfInBounds_toArray, List.set_cons_zero, List.set_cons_succ, i64_w, i32_w]
          rfl
        refine take_ (i := 17) (N := (some 49)) (v := ?_) (a' := ?_) #[true, true, true, true, true, true, true, true, true, true, true, true, true, true, true, true, true, true, true, false, false, false, false] rfl rfl (take_ofW HT_.out HW_.out (by kernel_rfl)) (fun _ _ _ h => h) (Or.inl ⟨by rfl, ?_⟩) (by exact hHeld) ?_ ?_
        rotate_left
        · intro w' hw'
          go_simp
          with_reducible rfl
        rotate_left
        · simp only [Act.put, List.setIfInBounds_toArray, List.set_cons_zero, List.set_cons_succ, i64_w, i32_w]
          rfl
        refine pure_ (i := 19) (N := (some 51)) (v := ?_) (a' := ?_) #[true, true, true, true, true, true, true, true, true, true, true, true, true, true, true, true, true, true, true, true, false, false, false] rfl rfl (any_of HT_.out (by kernel_rfl)) (fun _ _ _ h => h) (Or.inl ⟨by rfl, ?_⟩) ?_ ?_
        rotate_left
        · intro w'
          go_simp
          with_reducible rfl
        rotate_left
        · simp only [Act.put, List.setIfInBounds_toArray, List.set_cons_zero, List.set_cons_succ, i64_w, i32_w]
          rfl
        refine pure_ (i := 20) (N := (some 52)) (v := ?_) (a' := ?_) #[true, true, true, true, true, true, true, true, true, true, true, true, true, true, true, true, true, true, true, true, true, false, false] rfl rfl (any_of HT_.out (by kernel_rfl)) (fun _ _ _ h => h) (Or.inl ⟨by rfl, ?_⟩) ?_ ?_
        rotate_left
        · intro w'
          go_simp
          with_reducible rfl
        rotate_left
        · simp only [Act.put, List.setIfInBounds_toArray, List.set_cons_zero, List.set_cons_succ, i64_w, i32_w]
          rfl
        refine pure_ (i := 21) (N := (some 53)) (v := ?_) (a' := ?_) #[true, true, true, true, true, true, true, true, true, true, true, true, true, true, true, true, true, true, true, true, true, true, false] rfl rfl (any_of HT_.out (by kernel_rfl)) (fun _ _ _ h => h) (Or.inl ⟨by rfl, ?_⟩) ?_ ?_
        rotate_left
        · intro w'
          go_simp
          with_reducible rfl
        rotate_left
        · simp only [Act.put, List.setIfInBounds_toArray, List.set_cons_zero, List.set_cons_succ, i64_w, i32_w]
          rfl
        obtain ⟨hsr1, hsr2⟩ := Kd.R_celln (d := ([] : List Int)) HRW.out.ru (q : Int) hq3 hq1
        rw [Int.toNat_natCast] at hsr1 hsr2
        refine last_ (i := 22) (N := none) #[true, true, true, true, true, true, true, true, true, true, true, true, true, true, true, true, true, true, true, true, true, true, true] rfl rfl (one_of HT_.out (by kernel_rfl)) (by decide) (fun Kq hKq => ?_)
        refine skip_ (w1 := ?_) (by rfl) rfl ?_ ?_
        rotate_left
        · go_simp
          rfl
        refine hKq.out _ _ ?_
        clear hKq Kq
        refine done_ (done_of HT_.out (by kernel_rfl)) ?_
        have n := HRW.out.set_sure q (y2.take T ++ u.drop T)
        rw [show encS (y2.take T ++ u.drop T) = .string (strOfNums (y2.take T) ++ strOfNums (u.drop T)) from by rw [str_app]; rfl] at n
        have n0 := Aside0.mk (show RefRaw (w4.setCell ⟨ub, q, none⟩ (.string (strOfNums (y2.take T) ++ strOfNums (u.drop T)))) ok g { D with sure := S.set q (y2.take T ++ u.drop T) } _ vs _ from n.1)
        have n1 := Aside0.mk (show Fr ok refT w (w4.setCell ⟨ub, q, none⟩ (.string (strOfNums (y2.take T) ++ strOfNums (u.drop T)))) from HF.out.trans n.2)
        clear HRW HF n hsr1 hsr2 hcf hcb hcat
        have HRW := n0
        have HF := n1
        clear n0 n1
        go_wp2
        go_roundg (gk - 1)
        case measure => have := HI.out; omega
        case rel => exact ⟨k + 1, _, by first | rfl | go_num, ⟨by have := HLT.out; omega, by have := HI.out; omega⟩, HRW, HF, ⟨by have h9 := HC.out; rw [HDR.out] at h9; unfold crashS at h9; rw [if_pos HTN.out, Int.toNat_natCast, HU0.out] at h9; exact h9⟩, ⟨by rw [List.length_set]; exact HSL.out⟩, ⟨HSW.out.set _ _ (by have := HT.out; have := HYL.out; have := HUL.out; rw [List.length_append, List.length_take, List.length_drop]; omega)⟩⟩
      have b1 : ((k : Int) == torn) = false := beq_eq_false_iff_ne.mpr htn
      have HTN := Aside0.mk htn
      clear htn
      obtain ⟨j8, hj8⟩ : ∃ j8, k / 8 = j8 := ⟨_, rfl⟩
      obtain ⟨m8, hm8⟩ : ∃ m8, k % 8 = m8 := ⟨_, rfl⟩
      have hq8 : (k : Int).tdiv 8 = (j8 : Int) := by rw [← hj8]; rfl
      have hr8 : (k : Int).tmod 8 = (m8 : Int) := by rw [← hm8]; rfl
      have hjw : IntKind.i64.wrap (j8 : Int) = (j8 : Int) := by rw [IntKind.wrap_i64]; omega
      have hmw : IntKind.i64.wrap (m8 : Int) = (m8 : Int) := by rw [IntKind.wrap_i64]; omega
      have hm80 : (0 : Int) ≤ (m8 : Int) := by omega
      have HM8 := Aside0.mk (show m8 < 8 by omega)
      have HKF0 := Aside0.mk (show keepBit keep k = (decide (j8 < keep.length) && decide ((rd keep (j8 : Int)).toNat / 2 ^ m8 % 2 = 1)) from by unfold keepBit; rw [hj8, hm8])
      clear hj8 hm8
      by_cases hjl : j8 < keep.length
      · have c1 : decide ((j8 : Int) < (keep.length : Int)) = true := decide_eq_true (by omega)
        have c2 : decide (j8 < keep.length) = true := decide_eq_true hjl
        have c3 : (j8 : Int) < (keep.length : Int) := by omega
        have c4 : (0 : Int) ≤ (j8 : Int) := by omega
        obtain ⟨adk, ek, hkx⟩ := Kd.at_int (HK2 HF) (j8 : Int) (by omega) (by omega)
        cases ek
        rw [Int.toNat_natCast] at hkx
        have hkr := HKB.out (rd keep (j8 : Int)) (by unfold rd; rw [Int.toNat_natCast, List.getD_eq_getElem?_getD, List.getElem?_eq_getElem hjl]; exact List.getElem_mem _)
        have hkf := HKF0.out
        rw [c2, Bool.true_and] at hkf
        generalize rd keep (j8 : Int) = zz at *
        obtain ⟨z, rfl⟩ := Int.eq_ofNat_of_zero_le hkr.1
        have hbit := MBits.bit8 z m8 (by omega) (by have := HM8.out; omega)
        rw [Int.toNat_natCast] at hkf
        clear HKF0 hkr hjl
        by_cases hz : z / 2 ^ m8 % 2 = 1
        · rw [hz] at hbit
          have hbit1 : bits .and .u8 ((z : Int) / 2 ^ min m8 8) 1 = 1 := hbit
          rw [decide_eq_true hz] at hkf
          have HKF := Aside0.mk hkf
          clear hbit hz hkf
          have hq1 : (q : Int) < (D.seen.length : Int) := by have := HQ.out; omega
          have hq2 : decide (q < D.seen.length) = true := decide_eq_true HQ.out
          have hq3 : (0 : Int) ≤ (q : Int) := by omega
          go_upto_region 8 with (fail)
          refine start_ (n := 10) (S := fun w' => w'.cell? ⟨g, 0, none⟩ = some (.slice (some ⟨ub, 0, none⟩) D.seen.length cu) ∧ w'.cell? ⟨gw, 0, none⟩ = some (.int .i64 (q : Int)) ∧ w'.cell? ⟨gw, 1, none⟩ = some (.string (strOfNums y2))) (ds := [9]) #[false, false, false, false, false, false, false, false, false, false] (by kernel_rfl) rfl rfl ⟨blk_cell HRW.out.blk 0, blk_cell HW.out 0, blk_cell HW.out 1⟩ (fun hHeld => ?_)
          refine with_tabW rcrash8.tab rcrash8.bits (fun HT_ HW_ => ?_)
          have n0 := Aside0.mk (HRW.out.below (below_drew (Below.refl _ _)))
          have n1 := Aside0.mk HF.out.drew
          clear HRW HF HW
          have HRW := n0
          have HF := n1
          clear n0 n1
          generalize w3.drew = w4 at HRW HF hHeld ⊢
          refine pure_ (i := 0) (N := (some 71)) (v := ?_) (a' := ?_) #[true, false, false, false, false, false, false, false, false, false] rfl rfl (any_of HT_.out (by kernel_rfl)) (fun _ _ _ h => h) (Or.inl ⟨by rfl, ?_⟩) ?_ ?_
          rotate_left
          · intro w'
            go_simp
            with_reducible rfl
          rotate_left
          · simp only [Act.put, List.setIfInBounds_toArray, List.set_cons_zero, List.set_cons_succ, i64_w, i32_w]
            rfl
          refine pure_ (i := 1) (N := (some 72)) (v := ?_) (a' := ?_) #[true, true, false, false, false, false, false, false, false, false] rfl rfl (any_of HT_.out (by kernel_rfl)) (fun _ _ _ h => h) (Or.inl ⟨by rfl, ?_⟩) ?_ ?_
          rotate_left
          · intro w'
            go_simp
            with_reducible rfl
          rotate_left
          · simp only [Act.put, List.setIfInBounds_toArray, List.set_cons_zero, List.set_cons_succ, i64_w, i32_w]
            rfl
          refine pure_ (i := 2) (N := (some 73)) (v := ?_) (a' := ?_) #[true, true, true, false, false, false, false, false, false, false] rfl rfl (any_of HT_.out (by kernel_rfl)) (fun _ _ _ h => h) (Or.inl ⟨by rfl, ?_⟩) ?_ ?_
          rotate_left
          · intro w'
            go_simp
            with_reducible rfl
          rotate_left
          · simp only [Act.put, List.setIfInBounds_toArray, List.set_cons_zero, List.set_cons_succ, i64_w, i32_w]
            rfl
          refine pure_ (i := 4) (N := (some 75)) (v := ?_) (a' := ?_) #[true, true, true, false, true, false, false, false, false, false] rfl rfl (any_of HT_.out (by kernel_rfl)) (fun _ _ _ h => h) (Or.inl ⟨by rfl, ?_⟩) ?_ ?_
          rotate_left
          · intro w'
            go_simp
            with_reducible rfl
          rotate_left
          · simp only [Act.put, List.setIfInBounds_toArray, List.set_cons_zero, List.set_cons_succ, i64_w, i32_w]
            rfl
          refine pure_ (i := 6) (N := (some 77)) (v := ?_) (a' := ?_) #[true, true, true, false, true, false, true, false, false, false] rfl rfl (any_of HT_.out (by kernel_rfl)) (fun _ _ _ h => h) (Or.inl ⟨by rfl, ?_⟩) ?_ ?_
          rotate_left
          · intro w'
            go_simp
            with_reducible rfl
          rotate_left
          · simp only [Act.put, List.setIfInBounds_toArray, List.set_cons_zero, List.set_cons_succ, i64_w, i32_w]
            rfl
          refine take_ (i := 3) (N := (some 74)) (v := ?_) (a' := ?_) #[true, true, true, true, true, false, true, false, false, false] rfl rfl (take_ofW HT_.out HW_.out (by kernel_rfl)) (fun _ _ _ h => h) (Or.inl ⟨by rfl, ?_⟩) (by exact hHeld) ?_ ?_
          rotate_left
          · intro w' hw'
            go_simp
            with_reducible rfl
          rotate_left
          · simp only [Act.put, List.setIfInBounds_toArray, List.set_cons_zero, List.set_cons_succ, i64_w, i32_w]
            rfl
          refine take_ (i := 5) (N := (some 76)) (v := ?_) (a' := ?_) #[true, true, true, true, true, true, true, false, false, false] rfl rfl (take_ofW HT_.out HW_.out (by kernel_rfl)) (fun _ _ _ h => h) (Or.inl ⟨by rfl, ?_⟩) (by exact hHeld) ?_ ?_
          rotate_left
          · intro w' hw'
            go_simp
            with_reducible rfl
          rotate_left
          · simp only [Act.put, List.setIfInBounds_toArray, List.set_cons_zero, List.set_cons_succ, i64_w, i32_w]
            rfl
          refine take_ (i := 7) (N := (some 78)) (v := ?_) (a' := ?_) #[true, true, true, true, true, true, true, true, false, false] rfl rfl (take_ofW HT_.out HW_.out (by kernel_rfl)) (fun _ _ _ h => h) (Or.inl ⟨by rfl, ?_⟩) (by exact hHeld) ?_ ?_
          rotate_left
          · intro w' hw'
            go_simp
            with_reducible rfl
          rotate_left
          · simp only [Act.put, List.setIfInBounds_toArray, List.set_cons_zero, List.set_cons_succ, i64_w, i32_w]
            rfl
          refine pure_ (i := 8) (N := (some 79)) (v := ?_) (a' := ?_) #[true, true, true, true, true, true, true, true, true, false] rfl rfl (any_of HT_.out (by kernel_rfl)) (fun _ _ _ h => h) (Or.inl ⟨by rfl, ?_⟩) ?_ ?_
          rotate_left
          · intro w'
            go_simp
            with_reducible rfl
          rotate_left
          · simp only [Act.put, List.setIfInBounds_toArray, List.set_cons_zero, List.set_cons_succ, i64_w, i32_w]
            rfl
          obtain ⟨hsr1, hsr2⟩ := Kd.R_celln (d := ([] : List Int)) HRW.out.ru (q : Int) hq3 hq1
          rw [Int.toNat_natCast] at hsr1 hsr2
          refine last_ (i := 9) (N := none) #[true, true, true, true, true, true, true, true, true, true] rfl rfl (one_of HT_.out (by kernel_rfl)) (by decide) (fun Kq hKq => ?_)
          refine skip_ (w1 := ?_) (by rfl) rfl ?_ ?_
          rotate_left
          · go_simp
            rfl
          refine hKq.out _ _ ?_
          clear hKq Kq
          refine done_ (done_of HT_.out (by kernel_rfl)) ?_
          have n := HRW.out.set_sure q y2
          have n0 := Aside0.mk (show RefRaw (w4.setCell ⟨ub, q, none⟩ (.string (strOfNums y2))) ok g { D with sure := S.set q y2 } _ vs _ from n.1)
          have n1 := Aside0.mk (show Fr ok refT w (w4.setCell ⟨ub, q, none⟩ (.string (strOfNums y2))) from HF.out.trans n.2)
          clear HRW HF n hsr1 hsr2
          have HRW := n0
          have HF := n1
          clear n0 n1
          go_wp2
          go_roundg (gk - 1)
          case measure => have := HI.out; omega
          case rel => exact ⟨k + 1, _, by first | rfl | go_num, ⟨by have := HLT.out; omega, by have := HI.out; omega⟩, HRW, HF, ⟨by have h9 := HC.out; rw [HDR.out] at h9; unfold crashS at h9; rw [if_neg HTN.out, if_pos HKF.out, Int.toNat_natCast] at h9; exact h9⟩, ⟨by rw [List.length_set]; exact HSL.out⟩, ⟨HSW.out.set _ _ HYL.out⟩⟩
        · have hz0 : z / 2 ^ m8 % 2 = 0 := by
            generalize z / 2 ^ m8 = y at *
            omega
          rw [hz0] at hbit
          have hbit1 : bits .and .u8 ((z : Int) / 2 ^ min m8 8) 1 = 0 := hbit
          rw [decide_eq_false hz] at hkf
          have HKF := Aside0.mk hkf
          clear hbit hz hz0 hkf
          go_wp2
          go_roundg (gk - 1)
          case measure => have := HI.out; omega
          case rel => exact ⟨k + 1, _, by first | rfl | go_num, ⟨by have := HLT.out; omega, by have := HI.out; omega⟩, HRW, HF, ⟨by have h9 := HC.out; rw [HDR.out] at h9; unfold crashS at h9; rw [if_neg HTN.out, if_neg (by rw [HKF.out]; decide)] at h9; exact h9⟩, HSL, HSW⟩
      · have c1 : decide ((j8 : Int) < (keep.length : Int)) = false := decide_eq_false (by omega)
        have c2 : decide (j8 < keep.length) = false := decide_eq_false hjl
        have c3 : ¬ (j8 : Int) < (keep.length : Int) := by omega
        have hkf := HKF0.out
        rw [c2, Bool.false_and] at hkf
        have HKF := Aside0.mk hkf
        clear HKF0 hkf hjl
        go_wp2
        go_roundg (gk - 1)
        case measure => have := HI.out; omega
        case rel => exact ⟨k + 1, _, by first | rfl | go_num, ⟨by have := HLT.out; omega, by have := HI.out; omega⟩, HRW, HF, ⟨by have h9 := HC.out; rw [HDR.out] at h9; unfold crashS at h9; rw [if_neg HTN.out, if_neg (by rw [HKF.out]; decide)] at h9; exact h9⟩, HSL, HSW⟩
    · have e1 : decide ((k : Int) < (D.later.length : Int)) = false := decide_eq_false (by omega)
      have e2 : decide (k < D.later.length) = false := decide_eq_false hlt
      have e3 : ¬ (k : Int) < (D.later.length : Int) := by omega
      obtain rfl : k = D.later.length := by have := HI.out; omega
      have hS : S = R := by have := HC.out; rw [List.drop_length] at this; exact this
      subst hS
      have HLN := Aside0.mk (show S.length ≤ 1000000 by have := HSL.out; omega)
      have hraw := HRW.out
      rw [show (.slice (some ⟨ub, 0, none⟩) D.seen.length cu : Value) = .slice (some ⟨ub, 0, none⟩) S.length cu by rw [HSL.out]] at hraw
      have x1 := blk_cell hraw.blk 0
      have HRW1 := Aside0.mk hraw
      have HFW := Aside0.mk (fun k (hk : wr.heap.size ≤ k) => hfr k (Nat.le_trans HF.out.size hk))
      clear hraw HRW hlt
      go_wp2_with (first | ((with_reducible refine gate_dst (N := 83) rfl ?_); refine Kd.R_lit kS _ 9 ?hg (N := 83) ?hd (xs := ([] : List (List Int))) (inner := []) (ok := fun _ => True) (okp := fun _ => True) ?hr ?hp (fun _ hk => hk) trivial (Below.refl wr.heap.size wr) (Nat.le_refl _) (by simp) ?_; (case hd => rfl); (case hg => rfl); (case hr => first | (go_simp; done) | (go_simp; rfl)); (case hp => exact (Reps.none _ _)); intro v1 w1 ho hb hg_ hnew_; clear hg_ hnew_; have HO := Aside0.mk ho; have HB1 := Aside0.mk hb; have y1 := blk_cell (HRW1.out.below hb).blk 0; clear ho hb) | ((with_reducible refine gate_builtin (b := .append) (xs := #[.tmp 83, .tmp 87]) rfl ?_); at_builtin; refine Kd.R_append_rows kS (w0 := wr) wr.heap.size rfl (.tmp 83) (.tmp 87) 47 9 (.string ByteArray.empty) 16 rfl Try.underlying47 infoS rfl (by decide) (by omega) v1 ([] : List (List Int)) S _ _ _ (fun _ => True) (fun _ => some 0 ≠ v1.ownBlock ∧ False) rfl rfl ?aO ?aR (fun _ _ h => h) (fun _ h => h.2.elim) ?aF ?aB ?aS ?aL ?_; (case aR => exact Kd.C_below (Kd.R_reads' HRW1.out.ru).2.2 HB1.out); (case aB => exact HB1.out); (case aF => exact fun _ _ => trivial); (case aO => exact HO.out); (case aS => exact HB1.out.size); (case aL => have := HLN.out; simp only [List.length_nil]; omega); intro v2 w2 ho hb hg hat; rw [List.nil_append] at ho; have HNB := Aside0.mk (fun k (hk : v2.ownBlock = some k) => Kd.R_base ho k hk); obtain ⟨A2, c2, rfl⟩ := Kd.R_slice ho; have HO2 := Aside0.mk (Kd.R_mono (ok' := ok) (Kd.R_lower (Kd.R_bound ho) (Nat.zero_le _)) (fun k hk => HFW.out k hk.2.1)); have HB2 := Aside0.mk hb; have n0 := Aside0.mk (HRW1.out.below hb); clear ho hb hg hat y1 HO HB1; have HRW2 := n0; clear n0; have z0 := blk_cell HRW2.out.blk 0; have z1 := blk_cell HRW2.out.blk 1; have z2 := blk_cell HRW2.out.blk 2; have z4 := blk_cell HRW2.out.blk 4; have u0 := blk_frozen HRW2.out.blk 0; have u1 := blk_frozen HRW2.out.blk 1; have u2 := blk_frozen HRW2.out.blk 2; have u4 := blk_frozen HRW2.out.blk 4))
      go_end0
      have n := HRW2.out.crashed HO2.out (fun k hk e => by have h1 := Kd.R_lt HRW1.out.ru k e; have h2 := HNB.out k hk; omega)
      refine ⟨rfl, ?_, (HF.out.trans (Fr.of_below HB2.out)).trans n.2⟩
      rw [← HE.out]
      exact ⟨_, _, _, n.1⟩
end Go.Proofs.Ytaoegbebeogkbaa.PDev
