/- dev: what Write does. Conditions: none. -/
import Derived.Test.YtokmildjniploaaDoorDevF
namespace Go.Proofs.YtokmildjniploaaDoor.PLog
open Go.RowKit Go.Proofs.YtokmildjniploaaDoorW.PrintWords Go.Proofs.YtokmildjniploaaDoorW.PrintLast Go.Proofs.YtokmildjniploaaDoorW.PrintMore
set_option linter.unusedVariables false
set_option linter.unusedSimpArgs false
theorem infoW : (Tryd.prog.info? 75).map (fun i => (i.zero, i.size, i.bytes)) = some (some (.agg #[.int .i64 0, .slice none 0 0]), 2, 32) := by kernel_rfl
theorem infoB : (Tryd.prog.info? 35).map (fun i => (i.zero, i.size, i.bytes)) = some (some (.slice none 0 0), 1, 24) := by kernel_rfl
/-- What a write does. -/
def Dat.wrote (D : Dat) (i : Nat) (b : List Int) : Dat := { D with seen := D.seen.set i b, later := D.later ++ [((i : Int), b)], writes := D.writes + 1, left := if 0 < D.left then D.left - 1 else D.left }
def Dat.write (D : Dat) (i : Int) (b : List Int) : Bool × Dat := if 0 ≤ i ∧ i < D.seen.length ∧ b.length = 128 then (true, if D.left = 0 then D else D.wrote i.toNat b) else (false, D)
set_option maxHeartbeats 8000000 in
set_option maxRecDepth 100000 in
theorem Write_no (ok : Nat → Prop) (g : Nat) (D : Dat) (i : Int) (A : Option Addr) (n c : Nat) (w : World) (h : DevAt w ok g D) (hi : ¬ (0 ≤ i ∧ i < D.seen.length ∧ n = 128)) (hn : n ≤ 9223372036854775807) :
    Calls Tryd.prog 31 #[.pointer (some ⟨g, 0, none⟩), .int .i64 i, .slice A n c] w fun e w' => e = .returned (.bool false) ∧ w = w' := by
  have HD := Aside0.mk h
  clear h
  have HI := Aside0.mk hi
  clear hi
  by_cases h0 : i < 0
  · have d0 : decide (i < 0) = true := decide_eq_true h0
    go_enter Tryd.func31, Tryd.ntmps31
    go_wp2
    go_ret
    exact ⟨rfl, rfl⟩
  · have d0 : decide (i < 0) = false := decide_eq_false h0
    by_cases h1 : (D.seen.length : Int) ≤ i
    · have d1 : decide ((D.seen.length : Int) ≤ i) = true := decide_eq_true h1
      go_enter Tryd.func31, Tryd.ntmps31
      go_wp2_with (go_at_call 35; (refine (Blocks ok g D _ HD.out).mono ?_); rintro e w1 ⟨rfl, rfl⟩)
      go_ret
      exact ⟨rfl, rfl⟩
    · have d1 : decide ((D.seen.length : Int) ≤ i) = false := decide_eq_false h1
      have h2 : n ≠ 128 := fun e => HI.out ⟨by omega, by omega, e⟩
      have d2 : ((n : Int) == 128) = false := beq_eq_false_iff_ne.mpr (by omega)
      have d3 : ((n : Int) != 128) = true := bne_iff_ne.mpr (by omega)
      have d4 : ((n : Int) = 128) = False := eq_false (by omega)
      clear h0 h1 h2
      go_enter Tryd.func31, Tryd.ntmps31
      go_wp2_with (go_at_call 35; (refine (Blocks ok g D _ HD.out).mono ?_); rintro e w1 ⟨rfl, rfl⟩)
      go_ret
      exact ⟨rfl, rfl⟩
set_option maxHeartbeats 8000000 in
set_option maxRecDepth 100000 in
theorem Write_stopped (ok : Nat → Prop) (g : Nat) (D : Dat) (i : Nat) (A : Option Addr) (c : Nat) (w : World) (h : DevAt w ok g D) (hi : i < D.seen.length) (hl : D.left = 0) :
    Calls Tryd.prog 31 #[.pointer (some ⟨g, 0, none⟩), .int .i64 (i : Int), .slice A 128 c] w fun e w' => e = .returned (.bool true) ∧ w = w' := by
  have HD := Aside0.mk h
  obtain ⟨vs, vu, vl, hs, hu, hl', ⟨h0, hb, h1, h2, h3, h4, h5, h6, h7⟩⟩ := h
  have x4 := blk_cell hb 4
  rw [hl] at x4
  have d0 : decide ((i : Int) < 0) = false := decide_eq_false (by omega)
  have d1 : decide ((D.seen.length : Int) ≤ (i : Int)) = false := decide_eq_false (by omega)
  have d1n : decide (D.seen.length ≤ i) = false := decide_eq_false (by omega)
  clear hb h1 h2 h3 h4 h5 h6 h7 h0 hl hi
  go_enter Tryd.func31, Tryd.ntmps31
  go_wp2_with (go_at_call 35; (refine (Blocks ok g D _ HD.out).mono ?_); rintro e w1 ⟨rfl, rfl⟩)
  go_ret
  exact ⟨rfl, rfl⟩
theorem cloneC (A : Option Addr) (c : Nat) (b : List Int) (w : World) (h : Kd.C (Kd.int .u8) w A 128 b) (hc : 128 ≤ c) (hl : b.length = 128) :
    Calls Tryd.prog 44 #[.slice A 128 c] w fun e w' => ∃ cb cap : Nat, e = .returned (.slice (some ⟨cb, 0, none⟩) 128 cap) ∧ Blk w' (cb, cap) b ∧ Below w.heap.size w w' := by
  have := bytes_Clone.calls A c b b w (by rw [hl]; exact h) (by omega) (by unfold bytes_Clone.f; rw [if_pos (by omega)])
  rw [hl] at this
  refine this.mono fun e w' hh => ?_
  obtain ⟨v, he, ho, hb⟩ := hh
  obtain ⟨g, cap, rfl, _, _, _⟩ := Kd.R_form ho (by omega)
  rw [hl] at he ho
  exact ⟨g, cap, he, Kd.R_lower ho (Nat.zero_le _), hb⟩
theorem blk_ne_typed {W : World} {ok : Nat → Prop} {g sb n cs : Nat} {D : Dat} {vu vl : Value} {hs hu : List Bk} {hl : List (Int × Bk)} (h : DevRaw W ok g D (.slice (some ⟨sb, 0, none⟩) n cs) vu vl hs hu hl) : g ≠ sb := fun e => by
  obtain ⟨cells, hsb⟩ := Kd.R_typed h.rs sb rfl
  have := h.blk
  rw [e, hsb] at this
  injection this with this
  injection this with _ this
  exact absurd this (by decide)
def write8.T : Bool × List (List Nat × List Nat) := (true, [([], []), ([0], [0]), ([1], [1]), ([2], [2]), ([], []), ([], []), ([5], [5]), ([3, 4, 0, 1, 2, 3, 4, 5, 6], [3, 4]), ([7, 6, 6, 0, 1, 2, 3, 4, 5, 6], [6, 7])])
def write8.B : List Nat := [0, 1, 3, 7, 0, 0, 32, 127, 255]
theorem write8.tab : rtab .any (opsOf Tryd.f31 8) = write8.T := by kernel_rfl
theorem write8.bits : waitsOk write8.T.2 write8.B = true := by kernel_rfl
def write9.T : Bool × List (List Nat × List Nat) := (true, [([], []), ([], []), ([1], [1]), ([2], [2]), ([3], [3]), ([], []), ([], []), ([6], [6]), ([7], [7]), ([8], [8]), ([], []), ([9, 10], [9, 10]), ([11], [11]), ([5, 12], [5, 12]), ([13], [13]), ([4, 14], [4, 14]), ([0, 0, 1, 2, 3, 4, 5, 6, 7, 8, 9, 10, 11, 12, 13, 14, 15], [0]), ([16, 0, 1, 2, 3, 4, 5, 6, 7, 8, 9, 10, 11, 12, 13, 14, 15], [16]), ([17, 15, 15, 0, 1, 2, 3, 4, 5, 6, 7, 8, 9, 10, 11, 12, 13, 14, 15], [15, 17])])
def write9.B : List Nat := [0, 0, 2, 6, 14, 0, 0, 64, 192, 448, 0, 1984, 4032, 8160, 16352, 32766, 65535, 131071, 262143]
theorem write9.tab : rtab .any (opsOf Tryd.f31 9) = write9.T := by kernel_rfl
theorem write9.bits : waitsOk write9.T.2 write9.B = true := by kernel_rfl
set_option maxHeartbeats 16000000 in
set_option maxRecDepth 100000 in
theorem Write_yes (ok : Nat → Prop) (g : Nat) (D : Dat) (i : Nat) (A : Option Addr) (c : Nat) (b : List Int) (w : World) (h : DevAt w ok g D) (hfr : ∀ k, w.heap.size ≤ k → ok k) (hi : i < D.seen.length) (hsl : D.seen.length ≤ 1000000) (hll : D.later.length ≤ 1000000) (hl : D.left ≠ 0) (hlb : -9223372036854775808 ≤ D.left ∧ D.left ≤ 9223372036854775807) (hwb : 0 ≤ D.writes ∧ D.writes ≤ 1000000000) (hbC : ∀ w' (hf : Fr ok devT w w'), Kd.C (Kd.int .u8) w' A 128 b) (hbc : 128 ≤ c) (hbl : b.length = 128) :
    Calls Tryd.prog 31 #[.pointer (some ⟨g, 0, none⟩), .int .i64 (i : Int), .slice A 128 c] w fun e w' => e = .returned (.bool true) ∧ DevAt w' ok g (D.wrote i b) ∧ Fr ok devT w w' := by
  have HD := Aside0.mk h
  have HBC2 : ∀ {w'}, Aside0 (Fr ok devT w w') → Kd.C (Kd.int .u8) w' A 128 b := fun h => hbC _ h.out
  have d0 : decide ((i : Int) < 0) = false := decide_eq_false (by omega)
  have d1 : decide ((D.seen.length : Int) ≤ (i : Int)) = false := decide_eq_false (by omega)
  have d1n : decide (D.seen.length ≤ i) = false := decide_eq_false (by omega)
  have dl : (D.left == 0) = false := beq_eq_false_iff_ne.mpr hl
  have dl2 : (D.left = 0) = False := eq_false hl
  have x4 : w.cell? ⟨g, 4, none⟩ = some (.int .i64 D.left) := by
    obtain ⟨vs, vu, vl, hs, hu, hl', ⟨h0, hb, _⟩⟩ := h
    exact blk_cell hb 4
  have f4 : w.frozen? ⟨g, 4, none⟩ = false := by
    obtain ⟨vs, vu, vl, hs, hu, hl', ⟨h0, hb, _⟩⟩ := h
    exact blk_frozen hb 4
  clear h hbC
  have hwl : 0 < D.left → IntKind.i64.wrap (D.left - 1) = D.left - 1 := fun hp => by rw [IntKind.wrap_i64]; omega
  go_enter Tryd.func31, Tryd.ntmps31
  go_upto_region 5 with (go_at_call 35; (refine (Blocks ok g D _ HD.out).mono ?_); rintro e w1 ⟨rfl, rfl⟩)
  by_cases hp : 0 < D.left
  · have dp : decide (0 < D.left) = true := decide_eq_true hp
    have hw := hwl hp
    clear hwl
    go_upto_region 7 with (fail)
    have n := HD.out.set_left (D.left - 1)
    obtain ⟨D1, hD1⟩ : ∃ D1, D1 = ({ D with left := D.left - 1 } : Dat) := ⟨_, rfl⟩
    have n1 := n.1
    rw [← hD1] at n1
    have HD1 := Aside0.mk n1
    have HF := Aside0.mk n.2
    have HE1 := Aside0.mk (show D1.seen = D.seen ∧ D1.writes = D.writes ∧ ({ D1 with seen := D1.seen.set i b, later := D1.later ++ [((i : Int), b)], writes := D.writes + 1 } : Dat) = D.wrote i b ∧ D1.later = D.later from by subst hD1; exact ⟨rfl, rfl, by unfold Dat.wrote; rw [if_pos hp], rfl⟩)
    clear n n1 hD1 x4 f4 hp dp hw
    generalize w.setCell ⟨g, 4, none⟩ (.int .i64 (D.left - 1)) = w1 at HD1 HF ⊢
    have x3 : w1.cell? ⟨g, 3, none⟩ = some (.int .i64 D1.writes) := by
      obtain ⟨vs, vu, vl, hs, hu, hl', hraw⟩ := HD1.out
      exact blk_cell hraw.blk 3
    have f3 : w1.frozen? ⟨g, 3, none⟩ = false := by
      obtain ⟨vs, vu, vl, hs, hu, hl', hraw⟩ := HD1.out
      exact blk_frozen hraw.blk 3
    rw [HE1.out.2.1] at x3
    have hww : IntKind.i64.wrap (D.writes + 1) = D.writes + 1 := by rw [IntKind.wrap_i64]; omega
    go_upto_region 8 with (fail)
    have n := HD1.out.set_writes (D.writes + 1)
    have HD2 := Aside0.mk n.1
    have HF2 := Aside0.mk (HF.out.trans n.2)
    clear n x3 f3 HD1 HF
    generalize w1.setCell ⟨g, 3, none⟩ (.int .i64 (D.writes + 1)) = w2 at HD2 HF2 ⊢
    obtain ⟨vs, vu, vl, hs, hu, hl', hraw⟩ := HD2.out
    have hhs : hs.length = D.seen.length := by rw [hraw.es.1]; exact congrArg List.length HE1.out.1
    obtain ⟨sb, csb, rfl, _, _, _⟩ := Kd.R_form hraw.rs (by omega)
    have hi2 : (i : Int) < (hs.length : Int) := by omega
    have hi3 : decide (i < hs.length) = true := decide_eq_true (by omega)
    have hi4 : (0 : Int) ≤ (i : Int) := by omega
    have HRW := Aside0.mk hraw
    have HHS := Aside0.mk hhs
    clear hraw hhs HD2
    refine start_ (n := 9) (S := fun w' => w'.cell? ⟨g, 0, none⟩ = some (.slice (some ⟨sb, 0, none⟩) hs.length csb)) (ds := []) #[false, false, false, false, false, false, false, false, false] (by kernel_rfl) rfl rfl (blk_cell HRW.out.blk 0) (fun hHeld => ?_)
    refine with_tabW write8.tab write8.bits (fun HT_ HW_ => ?_)
    have n0 := Aside0.mk (HRW.out.below (below_drew (Below.refl _ _)))
    have n1 := Aside0.mk (HF2.out.drew)
    clear HRW HF2
    have HRW := n0
    have HF := n1
    clear n0 n1
    generalize w2.drew = w3 at HRW HF hHeld ⊢
    refine pure_ (i := 0) (N := (some 44)) (v := ?_) (a' := ?_) #[true, false, false, false, false, false, false, false, false] rfl rfl (any_of HT_.out (by kernel_rfl)) (fun _ _ _ h => h) (Or.inl ⟨by rfl, ?_⟩) ?_ ?_
    rotate_left
    · intro w'
      go_simp
      with_reducible rfl
    rotate_left
    · simp only [Act.put, List.setIfInBounds_toArray, List.set_cons_zero, List.set_cons_succ, i64_w, i32_w]
      rfl
    refine pure_ (i := 1) (N := (some 45)) (v := ?_) (a' := ?_) #[true, true, false, false, false, false, false, false, false] rfl rfl (any_of HT_.out (by kernel_rfl)) (fun _ _ _ h => h) (Or.inl ⟨by rfl, ?_⟩) ?_ ?_
    rotate_left
    · intro w'
      go_simp
      with_reducible rfl
    rotate_left
    · simp only [Act.put, List.setIfInBounds_toArray, List.set_cons_zero, List.set_cons_succ, i64_w, i32_w]
      rfl
    refine pure_ (i := 2) (N := (some 46)) (v := ?_) (a' := ?_) #[true, true, true, false, false, false, false, false, false] rfl rfl (any_of HT_.out (by kernel_rfl)) (fun _ _ _ h => h) (Or.inl ⟨by rfl, ?_⟩) ?_ ?_
    rotate_left
    · intro w'
      go_simp
      with_reducible rfl
    rotate_left
    · simp only [Act.put, List.setIfInBounds_toArray, List.set_cons_zero, List.set_cons_succ, i64_w, i32_w]
      rfl
    refine pure_ (i := 4) (N := (some 48)) (v := ?_) (a' := ?_) #[true, true, true, false, true, false, false, false, false] rfl rfl (any_of HT_.out (by kernel_rfl)) (fun _ _ _ h => h) (Or.inl ⟨by rfl, ?_⟩) ?_ ?_
    rotate_left
    · intro w'
      go_simp
      with_reducible rfl
    rotate_left
    · simp only [Act.put, List.setIfInBounds_toArray, List.set_cons_zero, List.set_cons_succ, i64_w, i32_w]
      rfl
    refine pure_ (i := 5) (N := (some 49)) (v := ?_) (a' := ?_) #[true, true, true, false, true, true, false, false, false] rfl rfl (any_of HT_.out (by kernel_rfl)) (fun _ _ _ h => h) (Or.inl ⟨by rfl, ?_⟩) ?_ ?_
    rotate_left
    · intro w'
      go_simp
      with_reducible rfl
    rotate_left
    · simp only [Act.put, List.setIfInBounds_toArray, List.set_cons_zero, List.set_cons_succ, i64_w, i32_w]
      rfl
    refine take_ (i := 3) (N := (some 47)) (v := ?_) (a' := ?_) #[true, true, true, true, true, true, false, false, false] rfl rfl (take_ofW HT_.out HW_.out (by kernel_rfl)) (fun _ _ _ h => h) (Or.inl ⟨by rfl, ?_⟩) (by exact hHeld) ?_ ?_
    rotate_left
    · intro w' hw'
      go_simp
      with_reducible rfl
    rotate_left
    · simp only [Act.put, List.setIfInBounds_toArray, List.set_cons_zero, List.set_cons_succ, i64_w, i32_w]
      rfl
    refine one_ (i := 6) (N := (some 50)) #[true, true, true, true, true, true, true, false, false] rfl rfl (one_of HT_.out (by kernel_rfl)) (by decide) (fun Kq hKq => ?_)
    refine call_ (f := 44) (args := #[.slice A 128 c]) (by rfl) rfl (by go_simp) ?_
    refine (cloneC A c b _ (HBC2 HF) hbc hbl).mono ?_
    rintro e w4 ⟨cb, cap, rfl, hbk, hb⟩
    refine ⟨_, rfl, ?_⟩
    have n0 := Aside0.mk (HRW.out.below hb)
    have n1 := Aside0.mk (HF.out.trans (Fr.of_below hb))
    have HBK := Aside0.mk hbk
    clear HRW HF hb hbk
    have HRW := n0
    have HF := n1
    clear n0 n1
    refine hKq.out _ _ (blk_cell HRW.out.blk 0) (fun hHeld => ?_)
    clear hKq Kq
    refine norm_ (a' := ?_) ?_ ?_
    rotate_left
    · show Act.put _ (some 50) _ = _
      simp only [Act.put, List.setIfInBounds_toArray, List.set_cons_zero, List.set_cons_succ, i64_w, i32_w]
      rfl
    refine pure_ (i := 7) (N := (some 51)) (v := ?_) (a' := ?_) #[true, true, true, true, true, true, true, true, false] rfl rfl (any_of HT_.out (by kernel_rfl)) (fun _ _ _ h => h) (Or.inl ⟨by rfl, ?_⟩) ?_ ?_
    rotate_left
    · intro w'
      go_simp
      with_reducible rfl
    rotate_left
    · simp only [Act.put, List.setIfInBounds_toArray, List.set_cons_zero, List.set_cons_succ, i64_w, i32_w]
      rfl
    have hsr := Kd.R_celln (d := ((0, 0) : Bk)) HRW.out.rs (i : Int) hi4 hi2
    rw [Int.toNat_natCast] at hsr
    obtain ⟨hsr1, hsr2⟩ := hsr
    refine one_ (i := 8) (N := none) #[true, true, true, true, true, true, true, true, true] rfl rfl (one_of HT_.out (by kernel_rfl)) (by decide) (fun Kq hKq => ?_)
    refine skip_ (w1 := ?_) (by rfl) rfl ?_ ?_
    rotate_left
    · go_simp
      rfl
    have hsb := blk_ne_typed HRW.out
    refine hKq.out _ _ ((cell_far (p := ⟨sb, i, none⟩) hsb _).trans hHeld) (fun hHeld => ?_)
    clear hKq Kq
    refine done_ (done_of HT_.out (by kernel_rfl)) ?_
    have n := HRW.out.set_seen i (cb, cap) b HBK.out
    obtain ⟨D3, hD3⟩ : ∃ D3 : Dat, D3 = { D1 with seen := D1.seen.set i b, writes := D.writes + 1 } := ⟨_, rfl⟩
    have HE3 := Aside0.mk (show ({ D3 with later := D3.later ++ [((i : Int), b)] } : Dat) = D.wrote i b ∧ D3.later = D1.later from by rw [hD3]; exact ⟨HE1.out.2.2.1, rfl⟩)
    have n0 := Aside0.mk (show DevRaw (w4.setCell ⟨sb, i, none⟩ (.slice (some ⟨cb, 0, none⟩) 128 cap)) ok g D3 _ vu vl (hs.set i (cb, cap)) hu hl' from by rw [hD3]; exact n.1)
    have n1 := Aside0.mk (show Fr ok devT w (w4.setCell ⟨sb, i, none⟩ (.slice (some ⟨cb, 0, none⟩) 128 cap)) from HF.out.trans n.2)
    have n2 := Aside0.mk (show Blk (w4.setCell ⟨sb, i, none⟩ (.slice (some ⟨cb, 0, none⟩) 128 cap)) (cb, cap) b from HBK.out.fr n.2 (by decide))
    have n3 := (Kd.R_celln (d := ((0, 0) : Bk)) n0.out.rs (i : Int) hi4 hi2).1
    rw [Int.toNat_natCast, show rdOf ((0, 0) : Bk) (hs.set i (cb, cap)) (i : Int) = (cb, cap) by unfold rdOf; rw [Int.toNat_natCast, List.getD_eq_getElem?_getD, List.getElem?_set_self (by have := HHS.out; omega)]; rfl] at n3
    have HCI := Aside0.mk (show (w4.setCell ⟨sb, i, none⟩ (.slice (some ⟨cb, 0, none⟩) 128 cap)).cell? ⟨sb, i, none⟩ = some (.slice (some ⟨cb, 0, none⟩) 128 cap) from n3)
    clear n HRW HF HBK hsr1 hsr2 hsb hD3 n3
    have HRW := n0
    have HF := n1
    have HBK := n2
    clear n0 n1 n2
    generalize w4.setCell ⟨sb, i, none⟩ (.slice (some ⟨cb, 0, none⟩) 128 cap) = w5 at HRW HF HBK HCI hHeld ⊢
    go_upto_region 9 with (fail)
    refine start_ (n := 19) (S := fun w' => w'.cell? ⟨g, 0, none⟩ = some (.slice (some ⟨sb, 0, none⟩) hs.length csb) ∧ w'.cell? ⟨g, 2, none⟩ = some vl ∧ w'.cell? ⟨sb, i, none⟩ = some (.slice (some ⟨cb, 0, none⟩) 128 cap)) (ds := [18]) #[false, false, false, false, false, false, false, false, false, false, false, false, false, false, false, false, false, false, false] (by kernel_rfl) rfl rfl ⟨(blk_cell HRW.out.blk 0), (blk_cell HRW.out.blk 2), HCI.out⟩ (fun hHeld => ?_)
    refine with_tabW write9.tab write9.bits (fun HT_ HW_ => ?_)
    have n0 := Aside0.mk (HRW.out.below (below_drew (Below.refl _ _)))
    have n1 := Aside0.mk (HF.out.drew)
    have n2 := Aside0.mk (HBK.out.below (below_drew (Below.refl _ _)))
    clear HRW HF HBK HCI
    have HRW := n0
    have HF := n1
    have HBK := n2
    clear n0 n1 n2
    generalize w5.drew = w6 at HRW HF HBK hHeld ⊢
    refine pure_ (i := 0) (N := (some 52)) (v := ?_) (a' := ?_) #[true, false, false, false, false, false, false, false, false, false, false, false, false, false, false, false, false, false, false] rfl rfl (any_of HT_.out (by kernel_rfl)) (fun _ _ _ h => h) (Or.inl ⟨by rfl, ?_⟩) ?_ ?_
    rotate_left
    · intro w'
      go_simp
      with_reducible rfl
    rotate_left
    · simp only [Act.put, List.setIfInBounds_toArray, List.set_cons_zero, List.set_cons_succ, i64_w, i32_w]
      rfl
    refine pure_ (i := 1) (N := (some 53)) (v := ?_) (a' := ?_) #[true, true, false, false, false, false, false, false, false, false, false, false, false, false, false, false, false, false, false] rfl rfl (any_of HT_.out (by kernel_rfl)) (fun _ _ _ h => h) (Or.inl ⟨by rfl, ?_⟩) ?_ ?_
    rotate_left
    · intro w'
      go_simp
      with_reducible rfl
    rotate_left
    · simp only [Act.put, List.setIfInBounds_toArray, List.set_cons_zero, List.set_cons_succ, i64_w, i32_w]
      rfl
    refine pure_ (i := 2) (N := (some 54)) (v := ?_) (a' := ?_) #[true, true, true, false, false, false, false, false, false, false, false, false, false, false, false, false, false, false, false] rfl rfl (any_of HT_.out (by kernel_rfl)) (fun _ _ _ h => h) (Or.inl ⟨by rfl, ?_⟩) ?_ ?_
    rotate_left
    · intro w'
      go_simp
      with_reducible rfl
    rotate_left
    · simp only [Act.put, List.setIfInBounds_toArray, List.set_cons_zero, List.set_cons_succ, i64_w, i32_w]
      rfl
    refine pure_ (i := 3) (N := (some 55)) (v := ?_) (a' := ?_) #[true, true, true, true, false, false, false, false, false, false, false, false, false, false, false, false, false, false, false] rfl rfl (any_of HT_.out (by kernel_rfl)) (fun _ _ _ h => h) (Or.inl ⟨by rfl, ?_⟩) ?_ ?_
    rotate_left
    · intro w'
      go_simp
      with_reducible rfl
    rotate_left
    · simp only [Act.put, List.setIfInBounds_toArray, List.set_cons_zero, List.set_cons_succ, i64_w, i32_w]
      rfl
    refine pure_ (i := 5) (N := (some 57)) (v := ?_) (a' := ?_) #[true, true, true, true, false, true, false, false, false, false, false, false, false, false, false, false, false, false, false] rfl rfl (any_of HT_.out (by kernel_rfl)) (fun _ _ _ h => h) (Or.inl ⟨by rfl, ?_⟩) ?_ ?_
    rotate_left
    · intro w'
      go_simp
      with_reducible rfl
    rotate_left
    · simp only [Act.put, List.setIfInBounds_toArray, List.set_cons_zero, List.set_cons_succ, i64_w, i32_w]
      rfl
    refine pure_ (i := 6) (N := (some 58)) (v := ?_) (a' := ?_) #[true, true, true, true, false, true, true, false, false, false, false, false, false, false, false, false, false, false, false] rfl rfl (any_of HT_.out (by kernel_rfl)) (fun _ _ _ h => h) (Or.inl ⟨by rfl, ?_⟩) ?_ ?_
    rotate_left
    · intro w'
      go_simp
      with_reducible rfl
    rotate_left
    · simp only [Act.put, List.setIfInBounds_toArray, List.set_cons_zero, List.set_cons_succ, i64_w, i32_w]
      rfl
    refine pure_ (i := 7) (N := (some 59)) (v := ?_) (a' := ?_) #[true, true, true, true, false, true, true, true, false, false, false, false, false, false, false, false, false, false, false] rfl rfl (any_of HT_.out (by kernel_rfl)) (fun _ _ _ h => h) (Or.inl ⟨by rfl, ?_⟩) ?_ ?_
    rotate_left
    · intro w'
      go_simp
      with_reducible rfl
    rotate_left
    · simp only [Act.put, List.setIfInBounds_toArray, List.set_cons_zero, List.set_cons_succ, i64_w, i32_w]
      rfl
    refine pure_ (i := 8) (N := (some 60)) (v := ?_) (a' := ?_) #[true, true, true, true, false, true, true, true, true, false, false, false, false, false, false, false, false, false, false] rfl rfl (any_of HT_.out (by kernel_rfl)) (fun _ _ _ h => h) (Or.inl ⟨by rfl, ?_⟩) ?_ ?_
    rotate_left
    · intro w'
      go_simp
      with_reducible rfl
    rotate_left
    · simp only [Act.put, List.setIfInBounds_toArray, List.set_cons_zero, List.set_cons_succ, i64_w, i32_w]
      rfl
    refine pure_ (i := 10) (N := (some 62)) (v := ?_) (a' := ?_) #[true, true, true, true, false, true, true, true, true, false, true, false, false, false, false, false, false, false, false] rfl rfl (any_of HT_.out (by kernel_rfl)) (fun _ _ _ h => h) (Or.inl ⟨by rfl, ?_⟩) ?_ ?_
    rotate_left
    · intro w'
      go_simp
      with_reducible rfl
    rotate_left
    · simp only [Act.put, List.setIfInBounds_toArray, List.set_cons_zero, List.set_cons_succ, i64_w, i32_w]
      rfl
    refine take_ (i := 4) (N := (some 56)) (v := ?_) (a' := ?_) #[true, true, true, true, true, true, true, true, true, false, true, false, false, false, false, false, false, false, false] rfl rfl (take_ofW HT_.out HW_.out (by kernel_rfl)) (fun _ _ _ h => h) (Or.inl ⟨by rfl, ?_⟩) (by exact hHeld) ?_ ?_
    rotate_left
    · intro w' hw'
      go_simp
      with_reducible rfl
    rotate_left
    · simp only [Act.put, List.setIfInBounds_toArray, List.set_cons_zero, List.set_cons_succ, i64_w, i32_w]
      rfl
    refine take_ (i := 9) (N := (some 61)) (v := ?_) (a' := ?_) #[true, true, true, true, true, true, true, true, true, true, true, false, false, false, false, false, false, false, false] rfl rfl (take_ofW HT_.out HW_.out (by kernel_rfl)) (fun _ _ _ h => h) (Or.inl ⟨by rfl, ?_⟩) (by exact hHeld) ?_ ?_
    rotate_left
    · intro w' hw'
      go_simp
      with_reducible rfl
    rotate_left
    · simp only [Act.put, List.setIfInBounds_toArray, List.set_cons_zero, List.set_cons_succ, i64_w, i32_w]
      rfl
    refine pure_ (i := 11) (N := (some 63)) (v := ?_) (a' := ?_) #[true, true, true, true, true, true, true, true, true, true, true, true, false, false, false, false, false, false, false] rfl rfl (any_of HT_.out (by kernel_rfl)) (fun _ _ _ h => h) (Or.inl ⟨by rfl, ?_⟩) ?_ ?_
    rotate_left
    · intro w'
      go_simp
      with_reducible rfl
    rotate_left
    · simp only [Act.put, List.setIfInBounds_toArray, List.set_cons_zero, List.set_cons_succ, i64_w, i32_w]
      rfl
    refine take_ (i := 12) (N := (some 64)) (v := ?_) (a' := ?_) #[true, true, true, true, true, true, true, true, true, true, true, true, true, false, false, false, false, false, false] rfl rfl (take_ofW HT_.out HW_.out (by kernel_rfl)) (fun _ _ _ h => h) (Or.inl ⟨by rfl, ?_⟩) (by exact hHeld) ?_ ?_
    rotate_left
    · intro w' hw'
      go_simp
      with_reducible rfl
    rotate_left
    · simp only [Act.put, List.setIfInBounds_toArray, List.set_cons_zero, List.set_cons_succ, i64_w, i32_w]
      rfl
    refine pure_ (i := 13) (N := (some 65)) (v := ?_) (a' := ?_) #[true, true, true, true, true, true, true, true, true, true, true, true, true, true, false, false, false, false, false] rfl rfl (any_of HT_.out (by kernel_rfl)) (fun _ _ _ h => h) (Or.inl ⟨by rfl, ?_⟩) ?_ ?_
    rotate_left
    · intro w'
      go_simp
      with_reducible rfl
    rotate_left
    · simp only [Act.put, List.setIfInBounds_toArray, List.set_cons_zero, List.set_cons_succ, i64_w, i32_w]
      rfl
    have HC6 := Aside0.mk hHeld.2.2
    refine one_ (i := 14) (N := (some 66)) #[true, true, true, true, true, true, true, true, true, true, true, true, true, true, true, false, false, false, false] rfl rfl (one_of HT_.out (by kernel_rfl)) (by decide) (fun Kq hKq => ?_)
    refine event_step (v := .slice (some ⟨w6.heap.size, 0, none⟩) 1 1) (w1 := w6.alloc (.cells #[.int .i64 (i : Int), .slice (some ⟨cb, 0, none⟩) 128 cap] 75)) (by rfl) (by first | (go_simp; done) | (go_simp; rfl)) ?_
    have hal := below_alloc (Below.refl w6.heap.size w6) (.cells #[.int .i64 (i : Int), .slice (some ⟨cb, 0, none⟩) 128 cap] 75)
    have HAL := Aside0.mk hal
    clear hal
    refine hKq.out _ _ ⟨(HAL.out.cell (World.block_lt_of_cell? _ _ hHeld.1)).trans hHeld.1, (HAL.out.cell (World.block_lt_of_cell? _ _ hHeld.2.1)).trans hHeld.2.1, (HAL.out.cell (World.block_lt_of_cell? _ _ hHeld.2.2)).trans hHeld.2.2⟩ (fun hHeld => ?_)
    clear hKq Kq
    refine norm_ (a' := ?_) ?_ ?_
    rotate_left
    · show Act.put _ (some 66) _ = _
      simp only [Act.put, List.setIfInBounds_toArray, List.set_cons_zero, List.set_cons_succ, i64_w, i32_w]
      rfl
    refine one_ (i := 15) (N := (some 67)) #[true, true, true, true, true, true, true, true, true, true, true, true, true, true, true, true, false, false, false] rfl rfl (one_of HT_.out (by kernel_rfl)) (by decide) (fun Kq hKq => ?_)
    refine Kd.R_append_step kW (w0 := w6) 0 (by rfl) (.tmp 56) (.tmp 66) 52 75 (.agg #[.int .i64 0, .slice none 0 0]) 32 rfl Tryd.underlying52 infoW rfl (by decide) (by omega) vl hl' ((i : Int), ((cb, cap) : Bk)) [.int .i64 (i : Int), .slice (some ⟨cb, 0, none⟩) 128 cap] ok (fun _ => False) rfl rfl ?aP (fun _ hk => hk.elim) ?aF ?aO ?aB ?aS ?aL ?_
    (case aP => exact ⟨[.int .i64 (i : Int)], [.slice (some ⟨cb, 0, none⟩) 128 cap], rfl, rfl, rfl⟩)
    (case aF => exact fun k hk => hfr k (Nat.le_trans HF.out.size hk))
    (case aO => exact HRW.out.rl)
    (case aB => exact Below.refl _ _)
    (case aS => exact Nat.zero_le _)
    (case aL => have h1 := HRW.out.el.1; have h2 := HE3.out.2; have h3 := HE1.out.2.2.2; rw [h2, h3] at h1; omega)
    intro v1 w7 ho hb hg hat
    obtain ⟨A1, c1, rfl⟩ := Kd.R_slice ho
    have hgc := Kd.R_ne HRW.out.rl HRW.out.blk (by decide)
    have hsv : some sb ≠ vl.ownBlock := by
      obtain ⟨cells, hc⟩ := Kd.R_typed HRW.out.rs sb rfl
      exact Kd.R_ne HRW.out.rl hc (by decide)
    have hc7 := hg.cell HC6.out hsv
    have HC7 := Aside0.mk hc7
    have hg2 := blk_grown HRW.out.blk hg hgc
    have HO := Aside0.mk ho
    have HG := Aside0.mk hg
    have HG2 := Aside0.mk hg2
    clear ho hb hg hat hgc hg2 hsv hc7
    refine hKq.out _ _ ⟨blk_cell HG2.out 0, blk_cell HG2.out 2, HC7.out⟩ (fun hHeld => ?_)
    clear hKq Kq
    refine norm_ (a' := ?_) ?_ ?_
    rotate_left
    · show Act.put _ (some 67) _ = _
      simp only [Act.put, List.setIfInBounds_toArray, List.set_cons_zero, List.set_cons_succ, i64_w, i32_w]
      rfl
    have y2 := blk_cell HG2.out 2
    have z2 := blk_frozen HG2.out 2
    refine pure_ (i := 16) (N := (some 68)) (v := ?_) (a' := ?_) #[true, true, true, true, true, true, true, true, true, true, true, true, true, true, true, true, true, false, false] rfl rfl (any_of HT_.out (by kernel_rfl)) (fun _ _ _ h => h) (Or.inl ⟨by rfl, ?_⟩) ?_ ?_
    rotate_left
    · intro w'
      go_simp
      with_reducible rfl
    rotate_left
    · simp only [Act.put, List.setIfInBounds_toArray, List.set_cons_zero, List.set_cons_succ, i64_w, i32_w]
      rfl
    refine pure_ (i := 17) (N := (some 69)) (v := ?_) (a' := ?_) #[true, true, true, true, true, true, true, true, true, true, true, true, true, true, true, true, true, true, false] rfl rfl (any_of HT_.out (by kernel_rfl)) (fun _ _ _ h => h) (Or.inl ⟨by rfl, ?_⟩) ?_ ?_
    rotate_left
    · intro w'
      go_simp
      with_reducible rfl
    rotate_left
    · simp only [Act.put, List.setIfInBounds_toArray, List.set_cons_zero, List.set_cons_succ, i64_w, i32_w]
      rfl
    refine last_ (i := 18) (N := none) #[true, true, true, true, true, true, true, true, true, true, true, true, true, true, true, true, true, true, true] rfl rfl (one_of HT_.out (by kernel_rfl)) (by decide) (fun Kq hKq => ?_)
    refine skip_ (w1 := ?_) (by rfl) rfl ?_ ?_
    rotate_left
    · go_simp
      rfl
    refine hKq.out _ _ ?_
    clear hKq Kq
    refine done_ (done_of HT_.out (by kernel_rfl)) ?_
    have hbl7 : ∀ x y, Blk w6 x y → Blk w7 x y := fun x y hp => hp.fr (ok := ok) (Ts := [75]) (Fr.grown HG.out (fun k hk => ⟨HRW.out.rl.1 k hk, fun _ => by
      obtain ⟨cs, hc⟩ := Kd.R_typed HRW.out.rl k hk
      exact ⟨cs, _, _, hc, by simp⟩⟩)) (by decide)
    have n := HRW.out.set_later HG.out HO.out ((HRW.out.el.imp (fun x y hp => ⟨hp.1, hbl7 _ _ hp.2⟩)).snoc (x := ((i : Int), ((cb, cap) : Bk))) (y := ((i : Int), b)) ⟨rfl, hbl7 _ _ HBK.out⟩)
    have n1 := n.1
    have n2 := HF.out.trans n.2
    rw [HE3.out.1] at n1
    rw [show (hl' ++ [((i : Int), ((cb, cap) : Bk))]).length = hl'.length + 1 from by simp] at n1 n2
    have HDF := Aside0.mk n1
    have HFF := Aside0.mk n2
    clear n n1 n2 hbl7
    go_wp2
    go_ret
    exact ⟨rfl, ⟨_, _, _, _, _, _, HDF.out⟩, HFF.out⟩
  · have dp : decide (0 < D.left) = false := decide_eq_false hp
    clear hwl
    go_upto_region 7 with (fail)
    obtain ⟨D1, hD1⟩ : ∃ D1, D1 = D := ⟨_, rfl⟩
    have n1 := HD.out
    rw [← hD1] at n1
    have HD1 := Aside0.mk n1
    have HF := Aside0.mk (Fr.refl ok devT w)
    have HE1 := Aside0.mk (show D1.seen = D.seen ∧ D1.writes = D.writes ∧ ({ D1 with seen := D1.seen.set i b, later := D1.later ++ [((i : Int), b)], writes := D.writes + 1 } : Dat) = D.wrote i b ∧ D1.later = D.later from by subst hD1; exact ⟨rfl, rfl, by unfold Dat.wrote; rw [if_neg hp], rfl⟩)
    clear n1 hD1 x4 f4 hp dp
    have x3 : w.cell? ⟨g, 3, none⟩ = some (.int .i64 D1.writes) := by
      obtain ⟨vs, vu, vl, hs, hu, hl', hraw⟩ := HD1.out
      exact blk_cell hraw.blk 3
    have f3 : w.frozen? ⟨g, 3, none⟩ = false := by
      obtain ⟨vs, vu, vl, hs, hu, hl', hraw⟩ := HD1.out
      exact blk_frozen hraw.blk 3
    rw [HE1.out.2.1] at x3
    have hww : IntKind.i64.wrap (D.writes + 1) = D.writes + 1 := by rw [IntKind.wrap_i64]; omega
    go_upto_region 8 with (fail)
    have n := HD1.out.set_writes (D.writes + 1)
    have HD2 := Aside0.mk n.1
    have HF2 := Aside0.mk (HF.out.trans n.2)
    clear n x3 f3 HD1 HF
    generalize w.setCell ⟨g, 3, none⟩ (.int .i64 (D.writes + 1)) = w2 at HD2 HF2 ⊢
    obtain ⟨vs, vu, vl, hs, hu, hl', hraw⟩ := HD2.out
    have hhs : hs.length = D.seen.length := by rw [hraw.es.1]; exact congrArg List.length HE1.out.1
    obtain ⟨sb, csb, rfl, _, _, _⟩ := Kd.R_form hraw.rs (by omega)
    have hi2 : (i : Int) < (hs.length : Int) := by omega
    have hi3 : decide (i < hs.length) = true := decide_eq_true (by omega)
    have hi4 : (0 : Int) ≤ (i : Int) := by omega
    have HRW := Aside0.mk hraw
    have HHS := Aside0.mk hhs
    clear hraw hhs HD2
    refine start_ (n := 9) (S := fun w' => w'.cell? ⟨g, 0, none⟩ = some (.slice (some ⟨sb, 0, none⟩) hs.length csb)) (ds := []) #[false, false, false, false, false, false, false, false, false] (by kernel_rfl) rfl rfl (blk_cell HRW.out.blk 0) (fun hHeld => ?_)
    refine with_tabW write8.tab write8.bits (fun HT_ HW_ => ?_)
    have n0 := Aside0.mk (HRW.out.below (below_drew (Below.refl _ _)))
    have n1 := Aside0.mk (HF2.out.drew)
    clear HRW HF2
    have HRW := n0
    have HF := n1
    clear n0 n1
    generalize w2.drew = w3 at HRW HF hHeld ⊢
    refine pure_ (i := 0) (N := (some 44)) (v := ?_) (a' := ?_) #[true, false, false, false, false, false, false, false, false] rfl rfl (any_of HT_.out (by kernel_rfl)) (fun _ _ _ h => h) (Or.inl ⟨by rfl, ?_⟩) ?_ ?_
    rotate_left
    · intro w'
      go_simp
      with_reducible rfl
    rotate_left
    · simp only [Act.put, List.setIfInBounds_toArray, List.set_cons_zero, List.set_cons_succ, i64_w, i32_w]
      rfl
    refine pure_ (i := 1) (N := (some 45)) (v := ?_) (a' := ?_) #[true, true, false, false, false, false, false, false, false] rfl rfl (any_of HT_.out (by kernel_rfl)) (fun _ _ _ h => h) (Or.inl ⟨by rfl, ?_⟩) ?_ ?_
    rotate_left
    · intro w'
      go_simp
      with_reducible rfl
    rotate_left
    · simp only [Act.put, List.setIfInBounds_toArray, List.set_cons_zero, List.set_cons_succ, i64_w, i32_w]
      rfl
    refine pure_ (i := 2) (N := (some 46)) (v := ?_) (a' := ?_) #[true, true, true, false, false, false, false, false, false] rfl rfl (any_of HT_.out (by kernel_rfl)) (fun _ _ _ h => h) (Or.inl ⟨by rfl, ?_⟩) ?_ ?_
    rotate_left
    · intro w'
      go_simp
      with_reducible rfl
    rotate_left
    · simp only [Act.put, List.setIfInBounds_toArray, List.set_cons_zero, List.set_cons_succ, i64_w, i32_w]
      rfl
    refine pure_ (i := 4) (N := (some 48)) (v := ?_) (a' := ?_) #[true, true, true, false, true, false, false, false, false] rfl rfl (any_of HT_.out (by kernel_rfl)) (fun _ _ _ h => h) (Or.inl ⟨by rfl, ?_⟩) ?_ ?_
    rotate_left
    · intro w'
      go_simp
      with_reducible rfl
    rotate_left
    · simp only [Act.put, List.setIfInBounds_toArray, List.set_cons_zero, List.set_cons_succ, i64_w, i32_w]
      rfl
    refine pure_ (i := 5) (N := (some 49)) (v := ?_) (a' := ?_) #[true, true, true, false, true, true, false, false, false] rfl rfl (any_of HT_.out (by kernel_rfl)) (fun _ _ _ h => h) (Or.inl ⟨by rfl, ?_⟩) ?_ ?_
    rotate_left
    · intro w'
      go_simp
      with_reducible rfl
    rotate_left
    · simp only [Act.put, List.setIfInBounds_toArray, List.set_cons_zero, List.set_cons_succ, i64_w, i32_w]
      rfl
    refine take_ (i := 3) (N := (some 47)) (v := ?_) (a' := ?_) #[true, true, true, true, true, true, false, false, false] rfl rfl (take_ofW HT_.out HW_.out (by kernel_rfl)) (fun _ _ _ h => h) (Or.inl ⟨by rfl, ?_⟩) (by exact hHeld) ?_ ?_
    rotate_left
    · intro w' hw'
      go_simp
      with_reducible rfl
    rotate_left
    · simp only [Act.put, List.setIfInBounds_toArray, List.set_cons_zero, List.set_cons_succ, i64_w, i32_w]
      rfl
    refine one_ (i := 6) (N := (some 50)) #[true, true, true, true, true, true, true, false, false] rfl rfl (one_of HT_.out (by kernel_rfl)) (by decide) (fun Kq hKq => ?_)
    refine call_ (f := 44) (args := #[.slice A 128 c]) (by rfl) rfl (by go_simp) ?_
    refine (cloneC A c b _ (HBC2 HF) hbc hbl).mono ?_
    rintro e w4 ⟨cb, cap, rfl, hbk, hb⟩
    refine ⟨_, rfl, ?_⟩
    have n0 := Aside0.mk (HRW.out.below hb)
    have n1 := Aside0.mk (HF.out.trans (Fr.of_below hb))
    have HBK := Aside0.mk hbk
    clear HRW HF hb hbk
    have HRW := n0
    have HF := n1
    clear n0 n1
    refine hKq.out _ _ (blk_cell HRW.out.blk 0) (fun hHeld => ?_)
    clear hKq Kq
    refine norm_ (a' := ?_) ?_ ?_
    rotate_left
    · show Act.put _ (some 50) _ = _
      simp only [Act.put, List.setIfInBounds_toArray, List.set_cons_zero, List.set_cons_succ, i64_w, i32_w]
      rfl
    refine pure_ (i := 7) (N := (some 51)) (v := ?_) (a' := ?_) #[true, true, true, true, true, true, true, true, false] rfl rfl (any_of HT_.out (by kernel_rfl)) (fun _ _ _ h => h) (Or.inl ⟨by rfl, ?_⟩) ?_ ?_
    rotate_left
    · intro w'
      go_simp
      with_reducible rfl
    rotate_left
    · simp only [Act.put, List.setIfInBounds_toArray, List.set_cons_zero, List.set_cons_succ, i64_w, i32_w]
      rfl
    have hsr := Kd.R_celln (d := ((0, 0) : Bk)) HRW.out.rs (i : Int) hi4 hi2
    rw [Int.toNat_natCast] at hsr
    obtain ⟨hsr1, hsr2⟩ := hsr
    refine one_ (i := 8) (N := none) #[true, true, true, true, true, true, true, true, true] rfl rfl (one_of HT_.out (by kernel_rfl)) (by decide) (fun Kq hKq => ?_)
    refine skip_ (w1 := ?_) (by rfl) rfl ?_ ?_
    rotate_left
    · go_simp
      rfl
    have hsb := blk_ne_typed HRW.out
    refine hKq.out _ _ ((cell_far (p := ⟨sb, i, none⟩) hsb _).trans hHeld) (fun hHeld => ?_)
    clear hKq Kq
    refine done_ (done_of HT_.out (by kernel_rfl)) ?_
    have n := HRW.out.set_seen i (cb, cap) b HBK.out
    obtain ⟨D3, hD3⟩ : ∃ D3 : Dat, D3 = { D1 with seen := D1.seen.set i b, writes := D.writes + 1 } := ⟨_, rfl⟩
    have HE3 := Aside0.mk (show ({ D3 with later := D3.later ++ [((i : Int), b)] } : Dat) = D.wrote i b ∧ D3.later = D1.later from by rw [hD3]; exact ⟨HE1.out.2.2.1, rfl⟩)
    have n0 := Aside0.mk (show DevRaw (w4.setCell ⟨sb, i, none⟩ (.slice (some ⟨cb, 0, none⟩) 128 cap)) ok g D3 _ vu vl (hs.set i (cb, cap)) hu hl' from by rw [hD3]; exact n.1)
    have n1 := Aside0.mk (show Fr ok devT w (w4.setCell ⟨sb, i, none⟩ (.slice (some ⟨cb, 0, none⟩) 128 cap)) from HF.out.trans n.2)
    have n2 := Aside0.mk (show Blk (w4.setCell ⟨sb, i, none⟩ (.slice (some ⟨cb, 0, none⟩) 128 cap)) (cb, cap) b from HBK.out.fr n.2 (by decide))
    have n3 := (Kd.R_celln (d := ((0, 0) : Bk)) n0.out.rs (i : Int) hi4 hi2).1
    rw [Int.toNat_natCast, show rdOf ((0, 0) : Bk) (hs.set i (cb, cap)) (i : Int) = (cb, cap) by unfold rdOf; rw [Int.toNat_natCast, List.getD_eq_getElem?_getD, List.getElem?_set_self (by have := HHS.out; omega)]; rfl] at n3
    have HCI := Aside0.mk (show (w4.setCell ⟨sb, i, none⟩ (.slice (some ⟨cb, 0, none⟩) 128 cap)).cell? ⟨sb, i, none⟩ = some (.slice (some ⟨cb, 0, none⟩) 128 cap) from n3)
    clear n HRW HF HBK hsr1 hsr2 hsb hD3 n3
    have HRW := n0
    have HF := n1
    have HBK := n2
    clear n0 n1 n2
    generalize w4.setCell ⟨sb, i, none⟩ (.slice (some ⟨cb, 0, none⟩) 128 cap) = w5 at HRW HF HBK HCI hHeld ⊢
    go_upto_region 9 with (fail)
    refine start_ (n := 19) (S := fun w' => w'.cell? ⟨g, 0, none⟩ = some (.slice (some ⟨sb, 0, none⟩) hs.length csb) ∧ w'.cell? ⟨g, 2, none⟩ = some vl ∧ w'.cell? ⟨sb, i, none⟩ = some (.slice (some ⟨cb, 0, none⟩) 128 cap)) (ds := [18]) #[false, false, false, false, false, false, false, false, false, false, false, false, false, false, false, false, false, false, false] (by kernel_rfl) rfl rfl ⟨(blk_cell HRW.out.blk 0), (blk_cell HRW.out.blk 2), HCI.out⟩ (fun hHeld => ?_)
    refine with_tabW write9.tab write9.bits (fun HT_ HW_ => ?_)
    have n0 := Aside0.mk (HRW.out.below (below_drew (Below.refl _ _)))
    have n1 := Aside0.mk (HF.out.drew)
    have n2 := Aside0.mk (HBK.out.below (below_drew (Below.refl _ _)))
    clear HRW HF HBK HCI
    have HRW := n0
    have HF := n1
    have HBK := n2
    clear n0 n1 n2
    generalize w5.drew = w6 at HRW HF HBK hHeld ⊢
    refine pure_ (i := 0) (N := (some 52)) (v := ?_) (a' := ?_) #[true, false, false, false, false, false, false, false, false, false, false, false, false, false, false, false, false, false, false] rfl rfl (any_of HT_.out (by kernel_rfl)) (fun _ _ _ h => h) (Or.inl ⟨by rfl, ?_⟩) ?_ ?_
    rotate_left
    · intro w'
      go_simp
      with_reducible rfl
    rotate_left
    · simp only [Act.put, List.setIfInBounds_toArray, List.set_cons_zero, List.set_cons_succ, i64_w, i32_w]
      rfl
    refine pure_ (i := 1) (N := (some 53)) (v := ?_) (a' := ?_) #[true, true, false, false, false, false, false, false, false, false, false, false, false, false, false, false, false, false, false] rfl rfl (any_of HT_.out (by kernel_rfl)) (fun _ _ _ h => h) (Or.inl ⟨by rfl, ?_⟩) ?_ ?_
    rotate_left
    · intro w'
      go_simp
      with_reducible rfl
    rotate_left
    · simp only [Act.put, List.setIfInBounds_toArray, List.set_cons_zero, List.set_cons_succ, i64_w, i32_w]
      rfl
    refine pure_ (i := 2) (N := (some 54)) (v := ?_) (a' := ?_) #[true, true, true, false, false, false, false, false, false, false, false, false, false, false, false, false, false, false, false] rfl rfl (any_of HT_.out (by kernel_rfl)) (fun _ _ _ h => h) (Or.inl ⟨by rfl, ?_⟩) ?_ ?_
    rotate_left
    · intro w'
      go_simp
      with_reducible rfl
    rotate_left
    · simp only [Act.put, List.setIfInBounds_toArray, List.set_cons_zero, List.set_cons_succ, i64_w, i32_w]
      rfl
    refine pure_ (i := 3) (N := (some 55)) (v := ?_) (a' := ?_) #[true, true, true, true, false, false, false, false, false, false, false, false, false, false, false, false, false, false, false] rfl rfl (any_of HT_.out (by kernel_rfl)) (fun _ _ _ h => h) (Or.inl ⟨by rfl, ?_⟩) ?_ ?_
    rotate_left
    · intro w'
      go_simp
      with_reducible rfl
    rotate_left
    · simp only [Act.put, List.setIfInBounds_toArray, List.set_cons_zero, List.set_cons_succ, i64_w, i32_w]
      rfl
    refine pure_ (i := 5) (N := (some 57)) (v := ?_) (a' := ?_) #[true, true, true, true, false, true, false, false, false, false, false, false, false, false, false, false, false, false, false] rfl rfl (any_of HT_.out (by kernel_rfl)) (fun _ _ _ h => h) (Or.inl ⟨by rfl, ?_⟩) ?_ ?_
    rotate_left
    · intro w'
      go_simp
      with_reducible rfl
    rotate_left
    · simp only [Act.put, List.setIfInBounds_toArray, List.set_cons_zero, List.set_cons_succ, i64_w, i32_w]
      rfl
    refine pure_ (i := 6) (N := (some 58)) (v := ?_) (a' := ?_) #[true, true, true, true, false, true, true, false, false, false, false, false, false, false, false, false, false, false, false] rfl rfl (any_of HT_.out (by kernel_rfl)) (fun _ _ _ h => h) (Or.inl ⟨by rfl, ?_⟩) ?_ ?_
    rotate_left
    · intro w'
      go_simp
      with_reducible rfl
    rotate_left
    · simp only [Act.put, List.setIfInBounds_toArray, List.set_cons_zero, List.set_cons_succ, i64_w, i32_w]
      rfl
    refine pure_ (i := 7) (N := (some 59)) (v := ?_) (a' := ?_) #[true, true, true, true, false, true, true, true, false, false, false, false, false, false, false, false, false, false, false] rfl rfl (any_of HT_.out (by kernel_rfl)) (fun _ _ _ h => h) (Or.inl ⟨by rfl, ?_⟩) ?_ ?_
    rotate_left
    · intro w'
      go_simp
      with_reducible rfl
    rotate_left
    · simp only [Act.put, List.setIfInBounds_toArray, List.set_cons_zero, List.set_cons_succ, i64_w, i32_w]
      rfl
    refine pure_ (i := 8) (N := (some 60)) (v := ?_) (a' := ?_) #[true, true, true, true, false, true, true, true, true, false, false, false, false, false, false, false, false, false, false] rfl rfl (any_of HT_.out (by kernel_rfl)) (fun _ _ _ h => h) (Or.inl ⟨by rfl, ?_⟩) ?_ ?_
    rotate_left
    · intro w'
      go_simp
      with_reducible rfl
    rotate_left
    · simp only [Act.put, List.setIfInBounds_toArray, List.set_cons_zero, List.set_cons_succ, i64_w, i32_w]
      rfl
    refine pure_ (i := 10) (N := (some 62)) (v := ?_) (a' := ?_) #[true, true, true, true, false, true, true, true, true, false, true, false, false, false, false, false, false, false, false] rfl rfl (any_of HT_.out (by kernel_rfl)) (fun _ _ _ h => h) (Or.inl ⟨by rfl, ?_⟩) ?_ ?_
    rotate_left
    · intro w'
      go_simp
      with_reducible rfl
    rotate_left
    · simp only [Act.put, List.setIfInBounds_toArray, List.set_cons_zero, List.set_cons_succ, i64_w, i32_w]
      rfl
    refine take_ (i := 4) (N := (some 56)) (v := ?_) (a' := ?_) #[true, true, true, true, true, true, true, true, true, false, true, false, false, false, false, false, false, false, false] rfl rfl (take_ofW HT_.out HW_.out (by kernel_rfl)) (fun _ _ _ h => h) (Or.inl ⟨by rfl, ?_⟩) (by exact hHeld) ?_ ?_
    rotate_left
    · intro w' hw'
      go_simp
      with_reducible rfl
    rotate_left
    · simp only [Act.put, List.setIfInBounds_toArray, List.set_cons_zero, List.set_cons_succ, i64_w, i32_w]
      rfl
    refine take_ (i := 9) (N := (some 61)) (v := ?_) (a' := ?_) #[true, true, true, true, true, true, true, true, true, true, true, false, false, false, false, false, false, false, false] rfl rfl (take_ofW HT_.out HW_.out (by kernel_rfl)) (fun _ _ _ h => h) (Or.inl ⟨by rfl, ?_⟩) (by exact hHeld) ?_ ?_
    rotate_left
    · intro w' hw'
      go_simp
      with_reducible rfl
    rotate_left
    · simp only [Act.put, List.setIfInBounds_toArray, List.set_cons_zero, List.set_cons_succ, i64_w, i32_w]
      rfl
    refine pure_ (i := 11) (N := (some 63)) (v := ?_) (a' := ?_) #[true, true, true, true, true, true, true, true, true, true, true, true, false, false, false, false, false, false, false] rfl rfl (any_of HT_.out (by kernel_rfl)) (fun _ _ _ h => h) (Or.inl ⟨by rfl, ?_⟩) ?_ ?_
    rotate_left
    · intro w'
      go_simp
      with_reducible rfl
    rotate_left
    · simp only [Act.put, List.setIfInBounds_toArray, List.set_cons_zero, List.set_cons_succ, i64_w, i32_w]
      rfl
    refine take_ (i := 12) (N := (some 64)) (v := ?_) (a' := ?_) #[true, true, true, true, true, true, true, true, true, true, true, true, true, false, false, false, false, false, false] rfl rfl (take_ofW HT_.out HW_.out (by kernel_rfl)) (fun _ _ _ h => h) (Or.inl ⟨by rfl, ?_⟩) (by exact hHeld) ?_ ?_
    rotate_left
    · intro w' hw'
      go_simp
      with_reducible rfl
    rotate_left
    · simp only [Act.put, List.setIfInBounds_toArray, List.set_cons_zero, List.set_cons_succ, i64_w, i32_w]
      rfl
    refine pure_ (i := 13) (N := (some 65)) (v := ?_) (a' := ?_) #[true, true, true, true, true, true, true, true, true, true, true, true, true, true, false, false, false, false, false] rfl rfl (any_of HT_.out (by kernel_rfl)) (fun _ _ _ h => h) (Or.inl ⟨by rfl, ?_⟩) ?_ ?_
    rotate_left
    · intro w'
      go_simp
      with_reducible rfl
    rotate_left
    · simp only [Act.put, List.setIfInBounds_toArray, List.set_cons_zero, List.set_cons_succ, i64_w, i32_w]
      rfl
    have HC6 := Aside0.mk hHeld.2.2
    refine one_ (i := 14) (N := (some 66)) #[true, true, true, true, true, true, true, true, true, true, true, true, true, true, true, false, false, false, false] rfl rfl (one_of HT_.out (by kernel_rfl)) (by decide) (fun Kq hKq => ?_)
    refine event_step (v := .slice (some ⟨w6.heap.size, 0, none⟩) 1 1) (w1 := w6.alloc (.cells #[.int .i64 (i : Int), .slice (some ⟨cb, 0, none⟩) 128 cap] 75)) (by rfl) (by first | (go_simp; done) | (go_simp; rfl)) ?_
    have hal := below_alloc (Below.refl w6.heap.size w6) (.cells #[.int .i64 (i : Int), .slice (some ⟨cb, 0, none⟩) 128 cap] 75)
    have HAL := Aside0.mk hal
    clear hal
    refine hKq.out _ _ ⟨(HAL.out.cell (World.block_lt_of_cell? _ _ hHeld.1)).trans hHeld.1, (HAL.out.cell (World.block_lt_of_cell? _ _ hHeld.2.1)).trans hHeld.2.1, (HAL.out.cell (World.block_lt_of_cell? _ _ hHeld.2.2)).trans hHeld.2.2⟩ (fun hHeld => ?_)
    clear hKq Kq
    refine norm_ (a' := ?_) ?_ ?_
    rotate_left
    · show Act.put _ (some 66) _ = _
      simp only [Act.put, List.setIfInBounds_toArray, List.set_cons_zero, List.set_cons_succ, i64_w, i32_w]
      rfl
    refine one_ (i := 15) (N := (some 67)) #[true, true, true, true, true, true, true, true, true, true, true, true, true, true, true, true, false, false, false] rfl rfl (one_of HT_.out (by kernel_rfl)) (by decide) (fun Kq hKq => ?_)
    refine Kd.R_append_step kW (w0 := w6) 0 (by rfl) (.tmp 56) (.tmp 66) 52 75 (.agg #[.int .i64 0, .slice none 0 0]) 32 rfl Tryd.underlying52 infoW rfl (by decide) (by omega) vl hl' ((i : Int), ((cb, cap) : Bk)) [.int .i64 (i : Int), .slice (some ⟨cb, 0, none⟩) 128 cap] ok (fun _ => False) rfl rfl ?aP (fun _ hk => hk.elim) ?aF ?aO ?aB ?aS ?aL ?_
    (case aP => exact ⟨[.int .i64 (i : Int)], [.slice (some ⟨cb, 0, none⟩) 128 cap], rfl, rfl, rfl⟩)
    (case aF => exact fun k hk => hfr k (Nat.le_trans HF.out.size hk))
    (case aO => exact HRW.out.rl)
    (case aB => exact Below.refl _ _)
    (case aS => exact Nat.zero_le _)
    (case aL => have h1 := HRW.out.el.1; have h2 := HE3.out.2; have h3 := HE1.out.2.2.2; rw [h2, h3] at h1; omega)
    intro v1 w7 ho hb hg hat
    obtain ⟨A1, c1, rfl⟩ := Kd.R_slice ho
    have hgc := Kd.R_ne HRW.out.rl HRW.out.blk (by decide)
    have hsv : some sb ≠ vl.ownBlock := by
      obtain ⟨cells, hc⟩ := Kd.R_typed HRW.out.rs sb rfl
      exact Kd.R_ne HRW.out.rl hc (by decide)
    have hc7 := hg.cell HC6.out hsv
    have HC7 := Aside0.mk hc7
    have hg2 := blk_grown HRW.out.blk hg hgc
    have HO := Aside0.mk ho
    have HG := Aside0.mk hg
    have HG2 := Aside0.mk hg2
    clear ho hb hg hat hgc hg2 hsv hc7
    refine hKq.out _ _ ⟨blk_cell HG2.out 0, blk_cell HG2.out 2, HC7.out⟩ (fun hHeld => ?_)
    clear hKq Kq
    refine norm_ (a' := ?_) ?_ ?_
    rotate_left
    · show Act.put _ (some 67) _ = _
      simp only [Act.put, List.setIfInBounds_toArray, List.set_cons_zero, List.set_cons_succ, i64_w, i32_w]
      rfl
    have y2 := blk_cell HG2.out 2
    have z2 := blk_frozen HG2.out 2
    refine pure_ (i := 16) (N := (some 68)) (v := ?_) (a' := ?_) #[true, true, true, true, true, true, true, true, true, true, true, true, true, true, true, true, true, false, false] rfl rfl (any_of HT_.out (by kernel_rfl)) (fun _ _ _ h => h) (Or.inl ⟨by rfl, ?_⟩) ?_ ?_
    rotate_left
    · intro w'
      go_simp
      with_reducible rfl
    rotate_left
    · simp only [Act.put, List.setIfInBounds_toArray, List.set_cons_zero, List.set_cons_succ, i64_w, i32_w]
      rfl
    refine pure_ (i := 17) (N := (some 69)) (v := ?_) (a' := ?_) #[true, true, true, true, true, true, true, true, true, true, true, true, true, true, true, true, true, true, false] rfl rfl (any_of HT_.out (by kernel_rfl)) (fun _ _ _ h => h) (Or.inl ⟨by rfl, ?_⟩) ?_ ?_
    rotate_left
    · intro w'
      go_simp
      with_reducible rfl
    rotate_left
    · simp only [Act.put, List.setIfInBounds_toArray, List.set_cons_zero, List.set_cons_succ, i64_w, i32_w]
      rfl
    refine last_ (i := 18) (N := none) #[true, true, true, true, true, true, true, true, true, true, true, true, true, true, true, true, true, true, true] rfl rfl (one_of HT_.out (by kernel_rfl)) (by decide) (fun Kq hKq => ?_)
    refine skip_ (w1 := ?_) (by rfl) rfl ?_ ?_
    rotate_left
    · go_simp
      rfl
    refine hKq.out _ _ ?_
    clear hKq Kq
    refine done_ (done_of HT_.out (by kernel_rfl)) ?_
    have hbl7 : ∀ x y, Blk w6 x y → Blk w7 x y := fun x y hp => hp.fr (ok := ok) (Ts := [75]) (Fr.grown HG.out (fun k hk => ⟨HRW.out.rl.1 k hk, fun _ => by
      obtain ⟨cs, hc⟩ := Kd.R_typed HRW.out.rl k hk
      exact ⟨cs, _, _, hc, by simp⟩⟩)) (by decide)
    have n := HRW.out.set_later HG.out HO.out ((HRW.out.el.imp (fun x y hp => ⟨hp.1, hbl7 _ _ hp.2⟩)).snoc (x := ((i : Int), ((cb, cap) : Bk))) (y := ((i : Int), b)) ⟨rfl, hbl7 _ _ HBK.out⟩)
    have n1 := n.1
    have n2 := HF.out.trans n.2
    rw [HE3.out.1] at n1
    rw [show (hl' ++ [((i : Int), ((cb, cap) : Bk))]).length = hl'.length + 1 from by simp] at n1 n2
    have HDF := Aside0.mk n1
    have HFF := Aside0.mk n2
    clear n n1 n2 hbl7
    go_wp2
    go_ret
    exact ⟨rfl, ⟨_, _, _, _, _, _, HDF.out⟩, HFF.out⟩
theorem Write (ok : Nat → Prop) (g : Nat) (D : Dat) (i : Int) (A : Option Addr) (n c : Nat) (b : List Int) (w : World) (h : DevAt w ok g D) (hfr : ∀ k, w.heap.size ≤ k → ok k) (hsl : D.seen.length ≤ 1000000) (hll : D.later.length ≤ 1000000) (hlb : -9223372036854775808 ≤ D.left ∧ D.left ≤ 9223372036854775807) (hwb : 0 ≤ D.writes ∧ D.writes ≤ 1000000000) (hbC : ∀ w' (hf : Fr ok devT w w'), Kd.C (Kd.int .u8) w' A n b) (hbc : n ≤ c) :
    Calls Tryd.prog 31 #[.pointer (some ⟨g, 0, none⟩), .int .i64 i, .slice A n c] w fun e w' => e = .returned (.bool (D.write i b).1) ∧ DevAt w' ok g (D.write i b).2 ∧ Fr ok devT w w' := by
  have hC := hbC w (Fr.refl _ _ _)
  have hbl : b.length = n := hC.1
  by_cases hi : 0 ≤ i ∧ i < D.seen.length ∧ n = 128
  · obtain ⟨h0, h1, rfl⟩ := hi
    obtain ⟨k, rfl⟩ := Int.eq_ofNat_of_zero_le h0
    by_cases hl : D.left = 0
    · have e : D.write (k : Int) b = (true, D) := by unfold Dat.write; rw [if_pos ⟨h0, h1, hbl⟩, if_pos hl]
      rw [e]
      exact (Write_stopped ok g D k A c w h (by omega) hl).mono fun e w' ⟨he, hw⟩ => ⟨he, hw ▸ h, hw ▸ Fr.refl _ _ _⟩
    · have e : D.write (k : Int) b = (true, D.wrote k b) := by unfold Dat.write; rw [if_pos ⟨h0, h1, hbl⟩, if_neg hl, Int.toNat_natCast]
      rw [e]
      exact Write_yes ok g D k A c b w h hfr (by omega) hsl hll hl hlb hwb hbC hbc hbl
  · have e : D.write i b = (false, D) := by unfold Dat.write; rw [if_neg (by rw [hbl]; exact hi)]
    rw [e]
    exact (Write_no ok g D i A n c w h hi (Kd.C_max hC)).mono fun e w' ⟨he, hw⟩ => ⟨he, hw ▸ h, hw ▸ Fr.refl _ _ _⟩
end Go.Proofs.YtokmildjniploaaDoor.PLog
