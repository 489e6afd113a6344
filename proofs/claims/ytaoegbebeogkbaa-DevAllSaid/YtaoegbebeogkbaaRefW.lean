/- the document's device: what Write, Flush, NewDev and Crash do. Conditions: none. -/
import Derived.Test.YtaoegbebeogkbaaRefC
namespace Go.Proofs.Ytaoegbebeogkbaa.PDev
open Go.RowKit Go.Proofs.YtaoegbebeogkbaaW.PrintWords Go.Proofs.YtaoegbebeogkbaaW.PrintLast Go.Proofs.YtaoegbebeogkbaaW.PrintMore
attribute [local go_sem] max2_int min2_int max_two min_two   -- for this text's walks alone
set_option linter.unusedVariables false
set_option linter.unusedSimpArgs false
theorem infoS : (Try.prog.info? 9).map (fun i => (i.zero, i.size, i.bytes)) = some (some (.string ByteArray.empty), 1, 16) := by kernel_rfl
theorem infoP : (Try.prog.info? 62).map (fun i => (i.zero, i.size, i.bytes)) = some (some (.agg #[.int .i64 0, .string ByteArray.empty]), 2, 24) := by kernel_rfl
set_option maxHeartbeats 8000000 in
set_option maxRecDepth 100000 in
theorem Ref_Flush (ok : Nat → Prop) (g : Nat) (D : Dat) (w : World) (h : RefAt w ok g D) (hfr : ∀ k, w.heap.size ≤ k → ok k) (hsl : D.seen.length ≤ 1000000) :
    Calls Try.prog 17 #[.pointer (some ⟨g, 0, none⟩)] w fun e w' => e = .returned (.tuple #[]) ∧ RefAt w' ok g D.flush ∧ Fr ok refT w w' := by
  have HD := Aside0.mk h
  obtain ⟨vu, vs, vl, hraw⟩ := h
  have x4 := blk_cell hraw.blk 4
  have x1 := blk_cell hraw.blk 1
  obtain ⟨A, c, rfl⟩ := Kd.R_slice hraw.rs
  have HRW := Aside0.mk hraw
  clear hraw
  by_cases hl0 : D.left = 0
  · rw [hl0] at x4
    have e : D.flush = D := by unfold Dat.flush; rw [if_pos hl0]
    rw [e]
    clear e hl0
    go_enter Try.func17, Try.ntmps17
    go_wp2
    go_end0
    exact ⟨rfl, HD.out, Fr.refl _ _ _⟩
  · have b1 : (D.left == 0) = false := beq_eq_false_iff_ne.mpr hl0
    have b2 : (D.left != 0) = true := bne_iff_ne.mpr hl0
    have e : D.flush = { D with sure := D.seen, later := [] } := by unfold Dat.flush; rw [if_neg hl0]
    rw [e]
    clear e hl0
    go_enter Try.func17, Try.ntmps17
    go_wp2_with (first | ((with_reducible refine gate_dst (N := 9) rfl ?_); refine Kd.R_lit kS _ 9 ?hg (N := 9) ?hd (xs := ([] : List (List Int))) (inner := []) (ok := fun _ => True) (okp := fun _ => True) ?hr ?hp (fun _ hk => hk) trivial (Below.refl w.heap.size w) (Nat.le_refl _) (by simp) ?_; (case hd => rfl); (case hg => rfl); (case hr => first | (go_simp; done) | (go_simp; rfl)); (case hp => exact (Reps.none _ _)); intro v1 w1 ho hb hg_ hnew_; clear hg_ hnew_; have HO := Aside0.mk ho; have HB1 := Aside0.mk hb; have y1 := blk_cell (HRW.out.below hb).blk 1; clear ho hb) | ((with_reducible refine gate_builtin (b := .append) (xs := #[.tmp 9, .tmp 13]) rfl ?_); at_builtin; refine Kd.R_append_rows kS (w0 := w) w.heap.size rfl (.tmp 9) (.tmp 13) 47 9 (.string ByteArray.empty) 16 rfl Try.underlying47 infoS rfl (by decide) (by omega) v1 ([] : List (List Int)) D.seen _ _ _ (fun _ => True) (fun _ => some 0 ≠ v1.ownBlock ∧ False) rfl rfl ?aO ?aR (fun _ _ h => h) (fun _ h => h.2.elim) ?aF ?aB ?aS ?aL ?_; (case aR => exact Kd.C_below (Kd.R_reads' HRW.out.rs).2.2 HB1.out); (case aB => exact HB1.out); (case aF => exact fun _ _ => trivial); (case aO => exact HO.out); (case aS => exact HB1.out.size); (case aL => have := hsl; simp only [List.length_nil]; omega); intro v2 w2 ho hb hg hat; rw [List.nil_append] at ho; have HNB := Aside0.mk (fun k (hk : v2.ownBlock = some k) => Kd.R_base ho k hk); obtain ⟨A2, c2, rfl⟩ := Kd.R_slice ho; have HO2 := Aside0.mk (Kd.R_mono (ok' := ok) (Kd.R_lower (Kd.R_bound ho) (Nat.zero_le _)) (fun k hk => hfr k hk.2.1)); have HB2 := Aside0.mk hb; have n0 := Aside0.mk (HRW.out.below hb); clear ho hb hg hat y1 HO HB1; have HRW2 := n0; clear n0; have z0 := blk_cell HRW2.out.blk 0; have z1 := blk_cell HRW2.out.blk 1; have z2 := blk_cell HRW2.out.blk 2; have z4 := blk_cell HRW2.out.blk 4; have u0 := blk_frozen HRW2.out.blk 0; have u1 := blk_frozen HRW2.out.blk 1; have u2 := blk_frozen HRW2.out.blk 2; have u4 := blk_frozen HRW2.out.blk 4))
    go_end0
    have n := HRW2.out.flushed HO2.out (fun k hk e => by have h1 := Kd.R_lt HRW.out.rs k hk; have h2 := HNB.out k e; omega)
    exact ⟨rfl, ⟨_, _, _, n.1⟩, (Fr.of_below HB2.out).trans n.2⟩
set_option maxHeartbeats 8000000 in
set_option maxRecDepth 100000 in
theorem Ref_Write_no (ok : Nat → Prop) (g : Nat) (D : Dat) (i : Int) (A : Option Addr) (n c : Nat) (w : World) (h : RefAt w ok g D) (hi : ¬ (0 ≤ i ∧ i < D.seen.length ∧ n = 128)) (hn : n ≤ 9223372036854775807) :
    Calls Try.prog 23 #[.pointer (some ⟨g, 0, none⟩), .int .i64 i, .slice A n c] w fun e w' => e = .returned (.bool false) ∧ w = w' := by
  obtain ⟨vu, vs, vl, ⟨h0, hb, h1, h2, h3, h4⟩⟩ := h
  obtain ⟨As, cs, rfl⟩ := Kd.R_slice h2
  have x0 := blk_cell hb 1
  have HI := Aside0.mk hi
  clear hi hb h1 h2 h3 h4 h0
  by_cases h0 : i < 0
  · have d0 : decide (i < 0) = true := decide_eq_true h0
    go_enter Try.func23, Try.ntmps23
    go_wp2
    go_ret
    exact ⟨rfl, rfl⟩
  · have d0 : decide (i < 0) = false := decide_eq_false h0
    by_cases h1 : (D.seen.length : Int) ≤ i
    · have d1 : decide ((D.seen.length : Int) ≤ i) = true := decide_eq_true h1
      go_enter Try.func23, Try.ntmps23
      go_wp2
      go_ret
      exact ⟨rfl, rfl⟩
    · have d1 : decide ((D.seen.length : Int) ≤ i) = false := decide_eq_false h1
      have h2 : n ≠ 128 := fun e => HI.out ⟨by omega, by omega, e⟩
      have d2 : ((n : Int) == 128) = false := beq_eq_false_iff_ne.mpr (by omega)
      have d3 : ((n : Int) != 128) = true := bne_iff_ne.mpr (by omega)
      have d4 : ((n : Int) = 128) = False := eq_false (by omega)
      clear h0 h1 h2
      go_enter Try.func23, Try.ntmps23
      go_wp2
      go_ret
      exact ⟨rfl, rfl⟩
set_option maxHeartbeats 8000000 in
set_option maxRecDepth 100000 in
theorem Ref_Write_stopped (ok : Nat → Prop) (g : Nat) (D : Dat) (i : Nat) (A : Option Addr) (c : Nat) (w : World) (h : RefAt w ok g D) (hi : i < D.seen.length) (hl : D.left = 0) :
    Calls Try.prog 23 #[.pointer (some ⟨g, 0, none⟩), .int .i64 (i : Int), .slice A 128 c] w fun e w' => e = .returned (.bool true) ∧ w = w' := by
  obtain ⟨vu, vs, vl, ⟨h0, hb, h1, h2, h3, h4⟩⟩ := h
  obtain ⟨As, cs, rfl⟩ := Kd.R_slice h2
  have x1 := blk_cell hb 1
  have x4 := blk_cell hb 4
  rw [hl] at x4
  have d0 : decide ((i : Int) < 0) = false := decide_eq_false (by omega)
  have d1 : decide ((D.seen.length : Int) ≤ (i : Int)) = false := decide_eq_false (by omega)
  have d1n : decide (D.seen.length ≤ i) = false := decide_eq_false (by omega)
  clear hb h1 h2 h3 h4 h0 hl hi
  go_enter Try.func23, Try.ntmps23
  go_wp2
  go_ret
  exact ⟨rfl, rfl⟩
def rwrite6.T : Bool × List (List Nat × List Nat) := (true, [([], []), ([0], [0]), ([1], [1]), ([2], [2]), ([], []), ([], []), ([5], [5]), ([3, 4, 0, 1, 2, 3, 4, 5, 6], [3, 4]), ([7, 6, 0, 1, 2, 3, 4, 5, 6], [6, 7])])
def rwrite6.B : List Nat := [0, 1, 3, 7, 0, 0, 32, 127, 255]
theorem rwrite6.tab : rtab .any (opsOf Try.f23 6) = rwrite6.T := by kernel_rfl
theorem rwrite6.bits : waitsOk rwrite6.T.2 rwrite6.B = true := by kernel_rfl
def rwrite7.T : Bool × List (List Nat × List Nat) := (true, [([], []), ([], []), ([1], [1]), ([2], [2]), ([3], [3]), ([], []), ([], []), ([6], [6]), ([5, 7], [5, 7]), ([8], [8]), ([4, 9], [4, 9]), ([0, 0, 1, 2, 3, 4, 5, 6, 7, 8, 9, 10], [0]), ([11, 0, 1, 2, 3, 4, 5, 6, 7, 8, 9, 10], [11]), ([12, 10, 10, 0, 1, 2, 3, 4, 5, 6, 7, 8, 9, 10], [10, 12])])
def rwrite7.B : List Nat := [0, 0, 2, 6, 14, 0, 0, 64, 224, 480, 1022, 2047, 4095, 8191]
theorem rwrite7.tab : rtab .any (opsOf Try.f23 7) = rwrite7.T := by kernel_rfl
theorem rwrite7.bits : waitsOk rwrite7.T.2 rwrite7.B = true := by kernel_rfl
set_option maxHeartbeats 16000000 in
set_option maxRecDepth 100000 in
theorem Ref_Write_yes (ok : Nat → Prop) (g : Nat) (D : Dat) (i : Nat) (A : Option Addr) (c : Nat) (b : List Int) (w : World) (h : RefAt w ok g D) (hfr : ∀ k, w.heap.size ≤ k → ok k) (hi : i < D.seen.length) (hsl : D.seen.length ≤ 1000000) (hll : D.later.length ≤ 1000000) (hl : D.left ≠ 0) (hlb : -1 ≤ D.left ∧ D.left ≤ 9223372036854775807) (hwb : 0 ≤ D.writes ∧ D.writes ≤ 1000000000) (hbC : ∀ w' (hf : Fr ok refT w w'), Kd.C (Kd.int .u8) w' A 128 b) (hbc : 128 ≤ c) (hbl : b.length = 128) :
    Calls Try.prog 23 #[.pointer (some ⟨g, 0, none⟩), .int .i64 (i : Int), .slice A 128 c] w fun e w' => e = .returned (.bool true) ∧ RefAt w' ok g (D.wrote i b) ∧ Fr ok refT w w' := by
  have HBC2 : ∀ {w'}, Aside0 (Fr ok refT w w') → Kd.C (Kd.int .u8) w' A 128 b := fun h => hbC _ h.out
  have d0 : decide ((i : Int) < 0) = false := decide_eq_false (by omega)
  have d1 : decide ((D.seen.length : Int) ≤ (i : Int)) = false := decide_eq_false (by omega)
  have d1n : decide (D.seen.length ≤ i) = false := decide_eq_false (by omega)
  have dl : (D.left == 0) = false := beq_eq_false_iff_ne.mpr hl
  have dl2 : (D.left = 0) = False := eq_false hl
  obtain ⟨L, hL⟩ : ∃ L, (if 0 < D.left then D.left - 1 else D.left) = L := ⟨_, rfl⟩
  have hw : IntKind.i64.wrap (D.left - 1) = D.left - 1 := by rw [IntKind.wrap_i64]; omega
  have hmx : (if D.left - 1 < -1 then (-1 : Int) else D.left - 1) = L := by rw [← hL]; split <;> split <;> omega
  have HE := Aside0.mk (show ({ D with left := L, seen := D.seen.set i b, later := D.later ++ [((i : Int), b)], writes := D.writes + 1 } : Dat) = D.wrote i b from by rw [← hL]; rfl)
  clear hL
  obtain ⟨vu, vs, vl, hraw⟩ := h
  obtain ⟨sb, csb, rfl, _, _, _⟩ := Kd.R_form hraw.rs (by omega)
  have hi2 : (i : Int) < (D.seen.length : Int) := by omega
  have hi3 : decide (i < D.seen.length) = true := decide_eq_true (by omega)
  have hi4 : (0 : Int) ≤ (i : Int) := by omega
  have x1 := blk_cell hraw.blk 1
  have x4 := blk_cell hraw.blk 4
  have f4 := blk_frozen hraw.blk 4
  have hww : IntKind.i64.wrap (D.writes + 1) = D.writes + 1 := by rw [IntKind.wrap_i64]; omega
  have HRW := Aside0.mk hraw
  have HF := Aside0.mk (Fr.refl ok refT w)
  clear hraw hbC
  go_enter Try.func23, Try.ntmps23
  go_upto_region 6 with (fail)
  have n := HRW.out.set_num L 4 { D with left := L } rfl rfl rfl rfl
  obtain ⟨D1, hD1⟩ : ∃ D1 : Dat, D1 = { D with left := L } := ⟨_, rfl⟩
  have n0 := n.1
  rw [← hD1] at n0
  have HE1 := Aside0.mk (show D1.seen = D.seen ∧ D1.later = D.later ∧ D1.writes = D.writes ∧ ({ D1 with seen := D.seen.set i b, later := D.later ++ [((i : Int), b)], writes := D.writes + 1 } : Dat) = D.wrote i b from by subst hD1; exact ⟨rfl, rfl, rfl, HE.out⟩)
  have n1 := Aside0.mk (HF.out.trans n.2)
  clear HRW HF n x1 x4 f4 dl dl2 hmx hw HE hD1
  have HRW := Aside0.mk n0
  have HF := n1
  clear n0 n1
  generalize w.setCell ⟨g, 4, none⟩ (.int .i64 L) = w2 at HRW HF ⊢
  have HSN := Aside0.mk (show D1.seen.length = D.seen.length from congrArg List.length HE1.out.1)
  refine start_ (n := 9) (S := fun w' => w'.cell? ⟨g, 1, none⟩ = some (.slice (some ⟨sb, 0, none⟩) D.seen.length csb)) (ds := [8]) #[false, false, false, false, false, false, false, false, false] (by kernel_rfl) rfl rfl (blk_cell HRW.out.blk 1) (fun hHeld => ?_)
  refine with_tabW rwrite6.tab rwrite6.bits (fun HT_ HW_ => ?_)
  have n0 := Aside0.mk (HRW.out.below (below_drew (Below.refl _ _)))
  have n1 := Aside0.mk (HF.out.drew)
  clear HRW HF
  have HRW := n0
  have HF := n1
  clear n0 n1
  generalize w2.drew = w3 at HRW HF hHeld ⊢
  refine pure_ (i := 0) (N := (some 37)) (v := ?_) (a' := ?_) #[true, false, false, false, false, false, false, false, false] rfl rfl (any_of HT_.out (by kernel_rfl)) (fun _ _ _ h => h) (Or.inl ⟨by rfl, ?_⟩) ?_ ?_
  rotate_left
  · intro w'
    go_simp
    with_reducible rfl
  rotate_left
  · simp only [Act.put, List.setIfInBounds_toArray, List.set_cons_zero, List.set_cons_succ, i64_w, i32_w]
    rfl
  refine pure_ (i := 1) (N := (some 38)) (v := ?_) (a' := ?_) #[true, true, false, false, false, false, false, false, false] rfl rfl (any_of HT_.out (by kernel_rfl)) (fun _ _ _ h => h) (Or.inl ⟨by rfl, ?_⟩) ?_ ?_
  rotate_left
  · intro w'
    go_simp
    with_reducible rfl
  rotate_left
  · simp only [Act.put, List.setIfInBounds_toArray, List.set_cons_zero, List.set_cons_succ, i64_w, i32_w]
    rfl
  refine pure_ (i := 2) (N := (some 39)) (v := ?_) (a' := ?_) #[true, true, true, false, false, false, false, false, false] rfl rfl (any_of HT_.out (by kernel_rfl)) (fun _ _ _ h => h) (Or.inl ⟨by rfl, ?_⟩) ?_ ?_
  rotate_left
  · intro w'
    go_simp
    with_reducible rfl
  rotate_left
  · simp only [Act.put, List.setIfInBounds_toArray, List.set_cons_zero, List.set_cons_succ, i64_w, i32_w]
    rfl
  refine pure_ (i := 4) (N := (some 41)) (v := ?_) (a' := ?_) #[true, true, true, false, true, false, false, false, false] rfl rfl (any_of HT_.out (by kernel_rfl)) (fun _ _ _ h => h) (Or.inl ⟨by rfl, ?_⟩) ?_ ?_
  rotate_left
  · intro w'
    go_simp
    with_reducible rfl
  rotate_left
  · simp only [Act.put, List.setIfInBounds_toArray, List.set_cons_zero, List.set_cons_succ, i64_w, i32_w]
    rfl
  refine pure_ (i := 5) (N := (some 42)) (v := ?_) (a' := ?_) #[true, true, true, false, true, true, false, false, false] rfl rfl (any_of HT_.out (by kernel_rfl)) (fun _ _ _ h => h) (Or.inl ⟨by rfl, ?_⟩) ?_ ?_
  rotate_left
  · intro w'
    go_simp
    with_reducible rfl
  rotate_left
  · simp only [Act.put, List.setIfInBounds_toArray, List.set_cons_zero, List.set_cons_succ, i64_w, i32_w]
    rfl
  refine take_ (i := 3) (N := (some 40)) (v := ?_) (a' := ?_) #[true, true, true, true, true, true, false, false, false] rfl rfl (take_ofW HT_.out HW_.out (by kernel_rfl)) (fun _ _ _ h => h) (Or.inl ⟨by rfl, ?_⟩) (by exact hHeld) ?_ ?_
  rotate_left
  · intro w' hw'
    go_simp
    with_reducible rfl
  rotate_left
  · simp only [Act.put, List.setIfInBounds_toArray, List.set_cons_zero, List.set_cons_succ, i64_w, i32_w]
    rfl
  have hcs := Kd.C_string (P := Try.prog) (src := 23) (e := 5) (dst := 9) (c := c) Try.underlying23 Try.underlying5 Try.underlying9 (HBC2 HF)
  refine one_ (i := 6) (N := (some 43)) #[true, true, true, true, true, true, true, false, false] rfl rfl (one_of HT_.out (by kernel_rfl)) (by decide) (fun Kq hKq => ?_)
  refine event_step (v := .string (strOfNums b)) (w1 := w3) (by rfl) (by first | (go_simp; done) | (go_simp; rfl)) ?_
  refine hKq.out _ _ hHeld (fun hHeld => ?_)
  clear hKq Kq
  refine norm_ (a' := ?_) ?_ ?_
  rotate_left
  · show Act.put _ (some 43) _ = _
    simp only [Act.put, List.setIfInBounds_toArray, List.set_cons_zero, List.set_cons_succ, i64_w, i32_w]
    rfl
  refine pure_ (i := 7) (N := (some 44)) (v := ?_) (a' := ?_) #[true, true, true, true, true, true, true, true, false] rfl rfl (any_of HT_.out (by kernel_rfl)) (fun _ _ _ h => h) (Or.inl ⟨by rfl, ?_⟩) ?_ ?_
  rotate_left
  · intro w'
    go_simp
    with_reducible rfl
  rotate_left
  · simp only [Act.put, List.setIfInBounds_toArray, List.set_cons_zero, List.set_cons_succ, i64_w, i32_w]
    rfl
  obtain ⟨hsr1, hsr2⟩ := Kd.R_celln (d := ([] : List Int)) HRW.out.rs (i : Int) hi4 hi2
  rw [Int.toNat_natCast] at hsr1 hsr2
  refine last_ (i := 8) (N := none) #[true, true, true, true, true, true, true, true, true] rfl rfl (one_of HT_.out (by kernel_rfl)) (by decide) (fun Kq hKq => ?_)
  refine skip_ (w1 := ?_) (by rfl) rfl ?_ ?_
  rotate_left
  · go_simp
    rfl
  refine hKq.out _ _ ?_
  clear hKq Kq
  refine done_ (done_of HT_.out (by kernel_rfl)) ?_
  have n := HRW.out.set_seen i b
  have n0 := Aside0.mk (show RefRaw (w3.setCell ⟨sb, i, none⟩ (.string (strOfNums b))) ok g { D1 with seen := D.seen.set i b } vu _ vl from by rw [← HE1.out.1]; exact n.1)
  have n1 := Aside0.mk (show Fr ok refT w (w3.setCell ⟨sb, i, none⟩ (.string (strOfNums b))) from HF.out.trans n.2)
  obtain ⟨D2, hD2⟩ : ∃ D2 : Dat, D2 = { D1 with seen := D.seen.set i b } := ⟨_, rfl⟩
  rw [← hD2] at n0
  have HE2 := Aside0.mk (show D2.later = D.later ∧ D2.writes = D.writes ∧ ({ D2 with later := D.later ++ [((i : Int), b)], writes := D.writes + 1 } : Dat) = D.wrote i b from by subst hD2; exact HE1.out.2)
  clear HRW HF n hsr1 hsr2 hcs hD2 HE1
  have HRW := n0
  have HF := n1
  clear n0 n1
  generalize w3.setCell ⟨sb, i, none⟩ (.string (strOfNums b)) = w5 at HRW HF ⊢
  go_upto_region 7 with (fail)
  refine start_ (n := 14) (S := fun w' => w'.cell? ⟨g, 2, none⟩ = some vl) (ds := [13]) #[false, false, false, false, false, false, false, false, false, false, false, false, false, false] (by kernel_rfl) rfl rfl (blk_cell HRW.out.blk 2) (fun hHeld => ?_)
  refine with_tabW rwrite7.tab rwrite7.bits (fun HT_ HW_ => ?_)
  have n0 := Aside0.mk (HRW.out.below (below_drew (Below.refl _ _)))
  have n1 := Aside0.mk (HF.out.drew)
  clear HRW HF
  have HRW := n0
  have HF := n1
  clear n0 n1
  generalize w5.drew = w6 at HRW HF hHeld ⊢
  refine pure_ (i := 0) (N := (some 45)) (v := ?_) (a' := ?_) #[true, false, false, false, false, false, false, false, false, false, false, false, false, false] rfl rfl (any_of HT_.out (by kernel_rfl)) (fun _ _ _ h => h) (Or.inl ⟨by rfl, ?_⟩) ?_ ?_
  rotate_left
  · intro w'
    go_simp
    with_reducible rfl
  rotate_left
  · simp only [Act.put, List.setIfInBounds_toArray, List.set_cons_zero, List.set_cons_succ, i64_w, i32_w]
    rfl
  refine pure_ (i := 1) (N := (some 46)) (v := ?_) (a' := ?_) #[true, true, false, false, false, false, false, false, false, false, false, false, false, false] rfl rfl (any_of HT_.out (by kernel_rfl)) (fun _ _ _ h => h) (Or.inl ⟨by rfl, ?_⟩) ?_ ?_
  rotate_left
  · intro w'
    go_simp
    with_reducible rfl
  rotate_left
  · simp only [Act.put, List.setIfInBounds_toArray, List.set_cons_zero, List.set_cons_succ, i64_w, i32_w]
    rfl
  refine pure_ (i := 2) (N := (some 47)) (v := ?_) (a' := ?_) #[true, true, true, false, false, false, false, false, false, false, false, false, false, false] rfl rfl (any_of HT_.out (by kernel_rfl)) (fun _ _ _ h => h) (Or.inl ⟨by rfl, ?_⟩) ?_ ?_
  rotate_left
  · intro w'
    go_simp
    with_reducible rfl
  rotate_left
  · simp only [Act.put, List.setIfInBounds_toArray, List.set_cons_zero, List.set_cons_succ, i64_w, i32_w]
    rfl
  refine pure_ (i := 3) (N := (some 48)) (v := ?_) (a' := ?_) #[true, true, true, true, false, false, false, false, false, false, false, false, false, false] rfl rfl (any_of HT_.out (by kernel_rfl)) (fun _ _ _ h => h) (Or.inl ⟨by rfl, ?_⟩) ?_ ?_
  rotate_left
  · intro w'
    go_simp
    with_reducible rfl
  rotate_left
  · simp only [Act.put, List.setIfInBounds_toArray, List.set_cons_zero, List.set_cons_succ, i64_w, i32_w]
    rfl
  refine pure_ (i := 5) (N := (some 50)) (v := ?_) (a' := ?_) #[true, true, true, true, false, true, false, false, false, false, false, false, false, false] rfl rfl (any_of HT_.out (by kernel_rfl)) (fun _ _ _ h => h) (Or.inl ⟨by rfl, ?_⟩) ?_ ?_
  rotate_left
  · intro w'
    go_simp
    with_reducible rfl
  rotate_left
  · simp only [Act.put, List.setIfInBounds_toArray, List.set_cons_zero, List.set_cons_succ, i64_w, i32_w]
    rfl
  refine pure_ (i := 6) (N := (some 51)) (v := ?_) (a' := ?_) #[true, true, true, true, false, true, true, false, false, false, false, false, false, false] rfl rfl (any_of HT_.out (by kernel_rfl)) (fun _ _ _ h => h) (Or.inl ⟨by rfl, ?_⟩) ?_ ?_
  rotate_left
  · intro w'
    go_simp
    with_reducible rfl
  rotate_left
  · simp only [Act.put, List.setIfInBounds_toArray, List.set_cons_zero, List.set_cons_succ, i64_w, i32_w]
    rfl
  refine take_ (i := 4) (N := (some 49)) (v := ?_) (a' := ?_) #[true, true, true, true, true, true, true, false, false, false, false, false, false, false] rfl rfl (take_ofW HT_.out HW_.out (by kernel_rfl)) (fun _ _ _ h => h) (Or.inl ⟨by rfl, ?_⟩) (by exact hHeld) ?_ ?_
  rotate_left
  · intro w' hw'
    go_simp
    with_reducible rfl
  rotate_left
  · simp only [Act.put, List.setIfInBounds_toArray, List.set_cons_zero, List.set_cons_succ, i64_w, i32_w]
    rfl
  have hcs := Kd.C_string (P := Try.prog) (src := 23) (e := 5) (dst := 9) (c := c) Try.underlying23 Try.underlying5 Try.underlying9 (HBC2 HF)
  refine one_ (i := 7) (N := (some 52)) #[true, true, true, true, true, true, true, true, false, false, false, false, false, false] rfl rfl (one_of HT_.out (by kernel_rfl)) (by decide) (fun Kq hKq => ?_)
  refine event_step (v := .string (strOfNums b)) (w1 := w6) (by rfl) (by first | (go_simp; done) | (go_simp; rfl)) ?_
  refine hKq.out _ _ hHeld (fun hHeld => ?_)
  clear hKq Kq
  refine norm_ (a' := ?_) ?_ ?_
  rotate_left
  · show Act.put _ (some 52) _ = _
    simp only [Act.put, List.setIfInBounds_toArray, List.set_cons_zero, List.set_cons_succ, i64_w, i32_w]
    rfl
  refine pure_ (i := 8) (N := (some 53)) (v := ?_) (a' := ?_) #[true, true, true, true, true, true, true, true, true, false, false, false, false, false] rfl rfl (any_of HT_.out (by kernel_rfl)) (fun _ _ _ h => h) (Or.inl ⟨by rfl, ?_⟩) ?_ ?_
  rotate_left
  · intro w'
    go_simp
    with_reducible rfl
  rotate_left
  · simp only [Act.put, List.setIfInBounds_toArray, List.set_cons_zero, List.set_cons_succ, i64_w, i32_w]
    rfl
  refine one_ (i := 9) (N := (some 54)) #[true, true, true, true, true, true, true, true, true, true, false, false, false, false] rfl rfl (one_of HT_.out (by kernel_rfl)) (by decide) (fun Kq hKq => ?_)
  refine event_step (v := .slice (some ⟨w6.heap.size, 0, none⟩) 1 1) (w1 := w6.alloc (.cells #[.int .i64 (i : Int), .string (strOfNums b)] 62)) (by rfl) (by first | (go_simp; done) | (go_simp; rfl)) ?_
  have hal := below_alloc (Below.refl w6.heap.size w6) (.cells #[.int .i64 (i : Int), .string (strOfNums b)] 62)
  have HAL := Aside0.mk hal
  clear hal hcs
  refine hKq.out _ _ ((HAL.out.cell (World.block_lt_of_cell? _ _ hHeld)).trans hHeld) (fun hHeld => ?_)
  clear hKq Kq
  refine norm_ (a' := ?_) ?_ ?_
  rotate_left
  · show Act.put _ (some 54) _ = _
    simp only [Act.put, List.setIfInBounds_toArray, List.set_cons_zero, List.set_cons_succ, i64_w, i32_w]
    rfl
  refine one_ (i := 10) (N := (some 55)) #[true, true, true, true, true, true, true, true, true, true, true, false, false, false] rfl rfl (one_of HT_.out (by kernel_rfl)) (by decide) (fun Kq hKq => ?_)
  refine Kd.R_append_step kP (w0 := w6) 0 (by rfl) (.tmp 49) (.tmp 54) 48 62 (.agg #[.int .i64 0, .string ByteArray.empty]) 24 rfl Try.underlying48 infoP rfl (by decide) (by omega) vl D2.later ((i : Int), b) [.int .i64 (i : Int), .string (strOfNums b)] ok (fun _ => False) rfl rfl ?aP (fun _ hk => hk.elim) ?aF ?aO ?aB ?aS ?aL ?_
  (case aP => exact ⟨[.int .i64 (i : Int)], [.string (strOfNums b)], rfl, rfl, rfl⟩)
  (case aF => exact fun k hk => hfr k (Nat.le_trans HF.out.size hk))
  (case aO => exact HRW.out.rl)
  (case aB => exact Below.refl _ _)
  (case aS => exact Nat.zero_le _)
  (case aL => have h2 := HE2.out.1; rw [h2]; omega)
  intro v1 w7 ho hb hg hat
  obtain ⟨A1, c1, rfl⟩ := Kd.R_slice ho
  have hg2 := blk_grown HRW.out.blk hg (Kd.R_ne HRW.out.rl HRW.out.blk (by decide))
  have HO := Aside0.mk ho
  have HG := Aside0.mk hg
  have HG2 := Aside0.mk hg2
  clear ho hb hg hat hg2
  refine hKq.out _ _ (blk_cell HG2.out 2) (fun hHeld => ?_)
  clear hKq Kq
  refine norm_ (a' := ?_) ?_ ?_
  rotate_left
  · show Act.put _ (some 55) _ = _
    simp only [Act.put, List.setIfInBounds_toArray, List.set_cons_zero, List.set_cons_succ, i64_w, i32_w]
    rfl
  have y2 := blk_cell HG2.out 2
  have z2 := blk_frozen HG2.out 2
  refine pure_ (i := 11) (N := (some 56)) (v := ?_) (a' := ?_) #[true, true, true, true, true, true, true, true, true, true, true, true, false, false] rfl rfl (any_of HT_.out (by kernel_rfl)) (fun _ _ _ h => h) (Or.inl ⟨by rfl, ?_⟩) ?_ ?_
  rotate_left
  · intro w'
    go_simp
    with_reducible rfl
  rotate_left
  · simp only [Act.put, List.setIfInBounds_toArray, List.set_cons_zero, List.set_cons_succ, i64_w, i32_w]
    rfl
  refine pure_ (i := 12) (N := (some 57)) (v := ?_) (a' := ?_) #[true, true, true, true, true, true, true, true, true, true, true, true, true, false] rfl rfl (any_of HT_.out (by kernel_rfl)) (fun _ _ _ h => h) (Or.inl ⟨by rfl, ?_⟩) ?_ ?_
  rotate_left
  · intro w'
    go_simp
    with_reducible rfl
  rotate_left
  · simp only [Act.put, List.setIfInBounds_toArray, List.set_cons_zero, List.set_cons_succ, i64_w, i32_w]
    rfl
  refine last_ (i := 13) (N := none) #[true, true, true, true, true, true, true, true, true, true, true, true, true, true] rfl rfl (one_of HT_.out (by kernel_rfl)) (by decide) (fun Kq hKq => ?_)
  refine skip_ (w1 := ?_) (by rfl) rfl ?_ ?_
  rotate_left
  · go_simp
    rfl
  refine hKq.out _ _ ?_
  clear hKq Kq
  refine done_ (done_of HT_.out (by kernel_rfl)) ?_
  have n := HRW.out.set_later HG.out HO.out
  have n0 := n.1
  have n1 := HF.out.trans n.2
  rw [show (D2.later ++ [((i : Int), b)]).length = D2.later.length + 1 from by simp] at n0 n1
  have n0 := Aside0.mk n0
  have n1 := Aside0.mk n1
  obtain ⟨D3, hD3⟩ : ∃ D3 : Dat, D3 = { D2 with later := D2.later ++ [((i : Int), b)] } := ⟨_, rfl⟩
  rw [← hD3] at n0
  have HE3 := Aside0.mk (show D3.writes = D.writes ∧ ({ D3 with writes := D.writes + 1 } : Dat) = D.wrote i b from by subst hD3; rw [HE2.out.1]; exact HE2.out.2)
  clear HRW HF n HG HG2 HO y2 z2 HAL hD3
  have HRW := n0
  have HF := n1
  clear n0 n1
  generalize w7.setCell ⟨g, 2, none⟩ (.slice A1 (D2.later.length + 1) c1) = w8 at HRW HF ⊢
  have x3 := blk_cell HRW.out.blk 3
  have f3 := blk_frozen HRW.out.blk 3
  rw [HE3.out.1] at x3
  go_wp2
  go_ret
  have n := HRW.out.set_num (D.writes + 1) 3 { D3 with writes := D.writes + 1 } rfl rfl rfl rfl
  have n1 := n.1
  rw [HE3.out.2] at n1
  exact ⟨rfl, ⟨_, _, _, n1⟩, HF.out.trans n.2⟩
theorem Ref_Write (ok : Nat → Prop) (g : Nat) (D : Dat) (i : Int) (A : Option Addr) (n c : Nat) (b : List Int) (w : World) (h : RefAt w ok g D) (hfr : ∀ k, w.heap.size ≤ k → ok k) (hsl : D.seen.length ≤ 1000000) (hll : D.later.length ≤ 1000000) (hlb : -1 ≤ D.left ∧ D.left ≤ 9223372036854775807) (hwb : 0 ≤ D.writes ∧ D.writes ≤ 1000000000) (hbC : ∀ w' (hf : Fr ok refT w w'), Kd.C (Kd.int .u8) w' A n b) (hbc : n ≤ c) :
    Calls Try.prog 23 #[.pointer (some ⟨g, 0, none⟩), .int .i64 i, .slice A n c] w fun e w' => e = .returned (.bool (D.write i b).1) ∧ RefAt w' ok g (D.write i b).2 ∧ Fr ok refT w w' := by
  have hC := hbC w (Fr.refl _ _ _)
  have hbl : b.length = n := hC.1
  by_cases hi : 0 ≤ i ∧ i < D.seen.length ∧ n = 128
  · obtain ⟨h0, h1, rfl⟩ := hi
    obtain ⟨k, rfl⟩ := Int.eq_ofNat_of_zero_le h0
    by_cases hl : D.left = 0
    · have e : D.write (k : Int) b = (true, D) := by unfold Dat.write; rw [if_pos ⟨h0, h1, hbl⟩, if_pos hl]
      rw [e]
      exact (Ref_Write_stopped ok g D k A c w h (by omega) hl).mono fun e w' ⟨he, hw⟩ => ⟨he, hw ▸ h, hw ▸ Fr.refl _ _ _⟩
    · have e : D.write (k : Int) b = (true, D.wrote k b) := by unfold Dat.write; rw [if_pos ⟨h0, h1, hbl⟩, if_neg hl, Int.toNat_natCast]
      rw [e]
      exact Ref_Write_yes ok g D k A c b w h hfr (by omega) hsl hll hl hlb hwb hbC hbc hbl
  · have e : D.write i b = (false, D) := by unfold Dat.write; rw [if_neg (by rw [hbl]; exact hi)]
    rw [e]
    exact (Ref_Write_no ok g D i A n c w h hi (Kd.C_max hC)).mono fun e w' ⟨he, hw⟩ => ⟨he, hw ▸ h, hw ▸ Fr.refl _ _ _⟩
theorem Ref_new_no (n : Int) (w : World) (h : ¬ (1 ≤ n ∧ n ≤ 4000)) :
    Calls Try.prog 16 #[.int .i64 n] w fun e w' => e = .returned (.tuple #[.pointer none, .bool false]) ∧ w = w' := by
  have HX := Aside0.mk h
  clear h
  by_cases h1 : n < 1
  · have d1 : decide (n < 1) = true := decide_eq_true h1
    go_enter Try.func16, Try.ntmps16
    go_wp2
    go_ret2
    exact ⟨rfl, rfl⟩
  · have d1 : decide (n < 1) = false := decide_eq_false h1
    have h2 : 4000 < n := by have := HX.out; omega
    have d2 : decide (4000 < n) = true := decide_eq_true h2
    go_enter Try.func16, Try.ntmps16
    go_wp2
    go_ret2
    exact ⟨rfl, rfl⟩
def rnew7.T : Bool × List (List Nat × List Nat) := (true, [([], []), ([], []), ([1], [1]), ([2], [2]), ([3], [3]), ([], []), ([5], [5]), ([6], [6]), ([4, 7], [4, 7]), ([0, 0, 1, 2, 3, 4, 5, 6, 7, 8], [0]), ([9, 0, 1, 2, 3, 4, 5, 6, 7, 8], [9]), ([10, 8, 8, 0, 1, 2, 3, 4, 5, 6, 7, 8], [8, 10])])
def rnew7.B : List Nat := [0, 0, 2, 6, 14, 0, 32, 96, 254, 511, 1023, 2047]
theorem rnew7.tab : rtab .any (opsOf Try.f16 7) = rnew7.T := by kernel_rfl
theorem rnew7.bits : waitsOk rnew7.T.2 rnew7.B = true := by kernel_rfl
set_option maxHeartbeats 16000000 in
set_option maxRecDepth 100000 in
theorem Ref_New (n : Nat) (w : World) (hn1 : 1 ≤ n) (hn2 : n ≤ 4000) :
    Calls Try.prog 16 #[.int .i64 (n : Int)] w fun e w' => ∃ g, e = .returned (.tuple #[.pointer (some ⟨g, 0, none⟩), .bool true]) ∧ RefAt w' (fun k => w.heap.size ≤ k) g (newD n) ∧ Below w.heap.size w w' := by
  have d1 : decide ((n : Int) < 1) = false := decide_eq_false (by omega)
  have d1n : decide (n < 1) = false := decide_eq_false (by omega)
  have d2 : decide ((4000 : Int) < (n : Int)) = false := decide_eq_false (by omega)
  have d2n : decide (4000 < n) = false := decide_eq_false (by omega)
  have hmk := mk128
  obtain ⟨ok, hok⟩ : ∃ ok : Nat → Prop, ok = fun k => w.heap.size ≤ k := ⟨_, rfl⟩
  have hfr : ∀ k, w.heap.size ≤ k → ok k := by subst hok; exact fun k hk => hk
  have hof : ∀ k, ok k → w.heap.size ≤ k := by subst hok; exact fun k hk => hk
  rw [← hok]
  clear hok
  go_enter Try.func16, Try.ntmps16
  go_wp2
  go_loopg [5] (n + 1) (fun kq v5 w2 => ∃ (i : Nat) (vu : Value), v5 = .int .i64 (i : Int) ∧ Aside0 (i ≤ n ∧ n < kq + i) ∧ Aside0 (RefRaw w2 ok w.heap.size { seen := [], sure := List.replicate i z128, later := [], writes := 0, left := -1 } vu (.slice none 0 0) (.slice none 0 0)) ∧ Aside0 (Below w.heap.size w w2))
  case atStart => exact ⟨0, _, rfl, ⟨by omega, by omega⟩, ⟨⟨hfr _ (Nat.le_refl _), heap_alloc_new _ _, Kd.R_nil _ _ _ _ _, Kd.R_nil _ _ _ _ _, Kd.R_nil _ _ _ _ _, fun k hk => by simp [Value.ownBlock] at hk⟩⟩, ⟨below_alloc (Below.refl _ _) _⟩⟩
  case round =>
    obtain ⟨i, vu, rfl, HI, HRW, HB⟩ := hrel
    by_cases hlt : i < n
    · have e1 : decide ((i : Int) < (n : Int)) = true := decide_eq_true (by omega)
      have e2 : decide (i < n) = true := decide_eq_true hlt
      have e3 : (i : Int) < (n : Int) := by omega
      have hw1 : IntKind.i64.wrap ((i : Int) + 1) = ((i + 1 : Nat) : Int) := by rw [IntKind.wrap_i64]; omega
      have HLT := Aside0.mk hlt
      clear hlt
      go_upto_region 7 with (fail)
      refine start_ (n := 12) (S := fun w' => w'.cell? ⟨w.heap.size, 0, none⟩ = some vu) (ds := [11]) #[false, false, false, false, false, false, false, false, false, false, false, false] (by kernel_rfl) rfl rfl (blk_cell HRW.out.blk 0) (fun hHeld => ?_)
      refine with_tabW rnew7.tab rnew7.bits (fun HT_ HW_ => ?_)
      have n0 := Aside0.mk (HRW.out.below (below_drew (Below.refl _ _)))
      have n1 := Aside0.mk (below_drew1 HB.out)
      clear HRW HB
      have HRW := n0
      have HB := n1
      clear n0 n1
      generalize wr.drew = w3 at HRW HB hHeld ⊢
      refine pure_ (i := 0) (N := (some 19)) (v := ?_) (a' := ?_) #[true, false, false, false, false, false, false, false, false, false, false, false] rfl rfl (any_of HT_.out (by kernel_rfl)) (fun _ _ _ h => h) (Or.inl ⟨by rfl, ?_⟩) ?_ ?_
      rotate_left
      · intro w'
        go_simp
        with_reducible rfl
      rotate_left
      · simp only [Act.put, List.setIfInBounds_toArray, List.set_cons_zero, List.set_cons_succ, i64_w, i32_w]
        rfl
      refine pure_ (i := 1) (N := (some 20)) (v := ?_) (a' := ?_) #[true, true, false, false, false, false, false, false, false, false, false, false] rfl rfl (any_of HT_.out (by kernel_rfl)) (fun _ _ _ h => h) (Or.inl ⟨by rfl, ?_⟩) ?_ ?_
      rotate_left
      · intro w'
        go_simp
        with_reducible rfl
      rotate_left
      · simp only [Act.put, List.setIfInBounds_toArray, List.set_cons_zero, List.set_cons_succ, i64_w, i32_w]
        rfl
      refine pure_ (i := 2) (N := (some 21)) (v := ?_) (a' := ?_) #[true, true, true, false, false, false, false, false, false, false, false, false] rfl rfl (any_of HT_.out (by kernel_rfl)) (fun _ _ _ h => h) (Or.inl ⟨by rfl, ?_⟩) ?_ ?_
      rotate_left
      · intro w'
        go_simp
        with_reducible rfl
      rotate_left
      · simp only [Act.put, List.setIfInBounds_toArray, List.set_cons_zero, List.set_cons_succ, i64_w, i32_w]
        rfl
      refine pure_ (i := 3) (N := (some 22)) (v := ?_) (a' := ?_) #[true, true, true, true, false, false, false, false, false, false, false, false] rfl rfl (any_of HT_.out (by kernel_rfl)) (fun _ _ _ h => h) (Or.inl ⟨by rfl, ?_⟩) ?_ ?_
      rotate_left
      · intro w'
        go_simp
        with_reducible rfl
      rotate_left
      · simp only [Act.put, List.setIfInBounds_toArray, List.set_cons_zero, List.set_cons_succ, i64_w, i32_w]
        rfl
      refine take_ (i := 4) (N := (some 23)) (v := ?_) (a' := ?_) #[true, true, true, true, true, false, false, false, false, false, false, false] rfl rfl (take_ofW HT_.out HW_.out (by kernel_rfl)) (fun _ _ _ h => h) (Or.inl ⟨by rfl, ?_⟩) (by exact hHeld) ?_ ?_
      rotate_left
      · intro w' hw'
        go_simp
        with_reducible rfl
      rotate_left
      · simp only [Act.put, List.setIfInBounds_toArray, List.set_cons_zero, List.set_cons_succ, i64_w, i32_w]
        rfl
      refine one_ (i := 5) (N := (some 24)) #[true, true, true, true, true, true, false, false, false, false, false, false] rfl rfl (one_of HT_.out (by kernel_rfl)) (by decide) (fun Kq hKq => ?_)
      refine event_step (v := .slice (some ⟨w3.heap.size, 0, none⟩) 128 128) (w1 := w3.alloc (.cells (nums .u8 z128).toArray 5)) (by rfl) (by first | (go_simp; done) | (go_simp; rfl)) ?_
      have hal := below_alloc (Below.refl w3.heap.size w3) (.cells (nums .u8 z128).toArray 5)
      have hcs := Kd.C_string (P := Try.prog) (src := 23) (e := 5) (dst := 9) (c := 128) Try.underlying23 Try.underlying5 Try.underlying9 (show Kd.C (Kd.int .u8) (w3.alloc (.cells (nums .u8 z128).toArray 5)) (some ⟨w3.heap.size, 0, none⟩) 128 z128 from rowC (blk_zero w3))
      have n0 := Aside0.mk (HRW.out.below hal)
      have n1 := Aside0.mk (below_step HB.out hal)
      clear HRW HB hal
      have HRW := n0
      have HB := n1
      clear n0 n1
      generalize w3.alloc (.cells (nums .u8 z128).toArray 5) = w4 at HRW HB hcs ⊢
      generalize w3.heap.size = zb at hcs ⊢
      refine hKq.out _ _ (blk_cell HRW.out.blk 0) (fun hHeld => ?_)
      clear hKq Kq
      refine norm_ (a' := ?_) ?_ ?_
      rotate_left
      · show Act.put _ (some 24) _ = _
        simp only [Act.put, List.setIfInBounds_toArray, List.set_cons_zero, List.set_cons_succ, i64_w, i32_w]
        rfl
      refine one_ (i := 6) (N := (some 25)) #[true, true, true, true, true, true, true, false, false, false, false, false] rfl rfl (one_of HT_.out (by kernel_rfl)) (by decide) (fun Kq hKq => ?_)
      refine event_step (v := .string (strOfNums z128)) (w1 := w4) (by rfl) (by first | (go_simp; done) | (go_simp; rfl)) ?_
      refine hKq.out _ _ hHeld (fun hHeld => ?_)
      clear hKq Kq
      refine norm_ (a' := ?_) ?_ ?_
      rotate_left
      · show Act.put _ (some 25) _ = _
        simp only [Act.put, List.setIfInBounds_toArray, List.set_cons_zero, List.set_cons_succ, i64_w, i32_w]
        rfl
      refine one_ (i := 7) (N := (some 26)) #[true, true, true, true, true, true, true, true, false, false, false, false] rfl rfl (one_of HT_.out (by kernel_rfl)) (by decide) (fun Kq hKq => ?_)
      refine event_step (v := .slice (some ⟨w4.heap.size, 0, none⟩) 1 1) (w1 := w4.alloc (.cells #[.string (strOfNums z128)] 9)) (by rfl) (by first | (go_simp; done) | (go_simp; rfl)) ?_
      have hal2 := below_alloc (Below.refl w4.heap.size w4) (.cells #[.string (strOfNums z128)] 9)
      have HAL2 := Aside0.mk hal2
      clear hal2 hcs
      refine hKq.out _ _ ((HAL2.out.cell (World.block_lt_of_cell? _ _ hHeld)).trans hHeld) (fun hHeld => ?_)
      clear hKq Kq
      refine norm_ (a' := ?_) ?_ ?_
      rotate_left
      · show Act.put _ (some 26) _ = _
        simp only [Act.put, List.setIfInBounds_toArray, List.set_cons_zero, List.set_cons_succ, i64_w, i32_w]
        rfl
      refine one_ (i := 8) (N := (some 27)) #[true, true, true, true, true, true, true, true, true, false, false, false] rfl rfl (one_of HT_.out (by kernel_rfl)) (by decide) (fun Kq hKq => ?_)
      refine Kd.R_append_step kS (w0 := w4) 0 (by rfl) (.tmp 23) (.tmp 26) 47 9 (.string ByteArray.empty) 16 rfl Try.underlying47 infoS rfl (by decide) (by omega) vu (List.replicate i z128) z128 [.string (strOfNums z128)] ok (fun _ => False) rfl rfl ?aP (fun _ hk => hk.elim) ?aF ?aO ?aB ?aS ?aL ?_
      (case aP => exact rfl)
      (case aF => exact fun k hk => hfr k (Nat.le_trans HB.out.size hk))
      (case aO => exact HRW.out.ru)
      (case aB => exact Below.refl _ _)
      (case aS => exact Nat.zero_le _)
      (case aL => have := HLT.out; rw [List.length_replicate]; omega)
      intro v1 w5 ho hb hg hat
      obtain ⟨A1, c1, rfl⟩ := Kd.R_slice ho
      have hg2 := blk_grown HRW.out.blk hg (Kd.R_ne HRW.out.ru HRW.out.blk (by decide))
      have HO := Aside0.mk ho
      have HG := Aside0.mk hg
      have HG2 := Aside0.mk hg2
      clear ho hb hg hat hg2
      refine hKq.out _ _ (blk_cell HG2.out 0) (fun hHeld => ?_)
      clear hKq Kq
      refine norm_ (a' := ?_) ?_ ?_
      rotate_left
      · show Act.put _ (some 27) _ = _
        simp only [Act.put, List.setIfInBounds_toArray, List.set_cons_zero, List.set_cons_succ, i64_w, i32_w]
        rfl
      have y0 := blk_cell HG2.out 0
      have z0 := blk_frozen HG2.out 0
      refine pure_ (i := 9) (N := (some 28)) (v := ?_) (a' := ?_) #[true, true, true, true, true, true, true, true, true, true, false, false] rfl rfl (any_of HT_.out (by kernel_rfl)) (fun _ _ _ h => h) (Or.inl ⟨by rfl, ?_⟩) ?_ ?_
      rotate_left
      · intro w'
        go_simp
        with_reducible rfl
      rotate_left
      · simp only [Act.put, List.setIfInBounds_toArray, List.set_cons_zero, List.set_cons_succ, i64_w, i32_w]
        rfl
      refine pure_ (i := 10) (N := (some 29)) (v := ?_) (a' := ?_) #[true, true, true, true, true, true, true, true, true, true, true, false] rfl rfl (any_of HT_.out (by kernel_rfl)) (fun _ _ _ h => h) (Or.inl ⟨by rfl, ?_⟩) ?_ ?_
      rotate_left
      · intro w'
        go_simp
        with_reducible rfl
      rotate_left
      · simp only [Act.put, List.setIfInBounds_toArray, List.set_cons_zero, List.set_cons_succ, i64_w, i32_w]
        rfl
      refine last_ (i := 11) (N := none) #[true, true, true, true, true, true, true, true, true, true, true, true] rfl rfl (one_of HT_.out (by kernel_rfl)) (by decide) (fun Kq hKq => ?_)
      refine skip_ (w1 := ?_) (by rfl) rfl ?_ ?_
      rotate_left
      · go_simp
        rfl
      refine hKq.out _ _ ?_
      clear hKq Kq
      refine done_ (done_of HT_.out (by kernel_rfl)) ?_
      have n := HRW.out.set_row rfl HG.out HO.out
      have n1 := n.1
      have n2 := n.2.below HB.out HB.out.size hof
      rw [show (List.replicate i z128 ++ [z128]).length = i + 1 from by simp] at n1 n2
      rw [show List.replicate i z128 ++ [z128] = List.replicate (i + 1) z128 from List.replicate_succ'.symm] at n1
      clear HRW HB n
      have HRW := Aside0.mk n1
      have HB := Aside0.mk n2
      clear n1 n2
      go_wp2
      go_roundg (gk - 1)
      case measure => have := HI.out; omega
      case rel => exact ⟨i + 1, _, by first | rfl | go_num, ⟨by have := HLT.out; omega, by have := HI.out; omega⟩, HRW, HB⟩
    · have e1 : decide ((i : Int) < (n : Int)) = false := decide_eq_false (by omega)
      have e2 : decide (i < n) = false := decide_eq_false hlt
      have e3 : ¬ (i : Int) < (n : Int) := by omega
      obtain rfl : i = n := by have := HI.out; omega
      clear hlt
      obtain ⟨us, hus⟩ : ∃ us, List.replicate i z128 = us := ⟨_, rfl⟩
      have HLN := Aside0.mk (show us.length ≤ 1000000 by rw [← hus, List.length_replicate]; omega)
      have HND := Aside0.mk (show ({ seen := us, sure := us, later := [], writes := 0, left := -1 } : Dat) = newD i by rw [← hus]; rfl)
      rw [hus] at HRW
      clear hus
      obtain ⟨A, c, rfl⟩ := Kd.R_slice HRW.out.ru
      have x0 := blk_cell HRW.out.blk 0
      have hfw : ∀ k, wr.heap.size ≤ k → ok k := fun k hk => hfr k (Nat.le_trans HB.out.size hk)
      have HFW := Aside0.mk hfw
      clear hfw
      go_wp2_with (first | ((with_reducible refine gate_dst (N := 31) rfl ?_); refine Kd.R_lit kS _ 9 ?hg (N := 31) ?hd (xs := ([] : List (List Int))) (inner := []) (ok := fun _ => True) (okp := fun _ => True) ?hr ?hp (fun _ hk => hk) trivial (Below.refl wr.heap.size wr) (Nat.le_refl _) (by simp) ?_; (case hd => rfl); (case hg => rfl); (case hr => first | (go_simp; done) | (go_simp; rfl)); (case hp => exact (Reps.none _ _)); intro v1 w1 ho hb hg_ hnew_; clear hg_ hnew_; have HO := Aside0.mk ho; have HB1 := Aside0.mk hb; have y1 := blk_cell (HRW.out.below hb).blk 0; clear ho hb) | ((with_reducible refine gate_builtin (b := .append) (xs := #[.tmp 31, .tmp 35]) rfl ?_); at_builtin; refine Kd.R_append_rows kS (w0 := wr) wr.heap.size rfl (.tmp 31) (.tmp 35) 47 9 (.string ByteArray.empty) 16 rfl Try.underlying47 infoS rfl (by decide) (by omega) v1 ([] : List (List Int)) us _ _ _ (fun _ => True) (fun _ => some 0 ≠ v1.ownBlock ∧ False) rfl rfl ?aO ?aR (fun _ _ h => h) (fun _ h => h.2.elim) ?aF ?aB ?aS ?aL ?_; (case aR => exact Kd.C_below (Kd.R_reads' HRW.out.ru).2.2 HB1.out); (case aB => exact HB1.out); (case aF => exact fun _ _ => trivial); (case aO => exact HO.out); (case aS => exact HB1.out.size); (case aL => have := HLN.out; simp only [List.length_nil]; omega); intro v2 w2 ho hb hg hat; rw [List.nil_append] at ho; have HNB := Aside0.mk (fun k (hk : v2.ownBlock = some k) => Kd.R_base ho k hk); obtain ⟨A2, c2, rfl⟩ := Kd.R_slice ho; have HO2 := Aside0.mk (Kd.R_mono (ok' := ok) (Kd.R_lower (Kd.R_bound ho) (Nat.zero_le _)) (fun k hk => HFW.out k hk.2.1)); have HB2 := Aside0.mk hb; have n0 := Aside0.mk (HRW.out.below hb); clear ho hb hg hat y1 HO HB1; have HRW2 := n0; clear n0; have z0 := blk_cell HRW2.out.blk 0; have z1 := blk_cell HRW2.out.blk 1; have z2 := blk_cell HRW2.out.blk 2; have z4 := blk_cell HRW2.out.blk 4; have u0 := blk_frozen HRW2.out.blk 0; have u1 := blk_frozen HRW2.out.blk 1; have u2 := blk_frozen HRW2.out.blk 2; have u4 := blk_frozen HRW2.out.blk 4))
      go_ret2
      have n := HRW2.out.made HO2.out (fun k hk e => by have h1 := Kd.R_lt HRW.out.ru k e; have h2 := HNB.out k hk; omega)
      exact ⟨_, rfl, HND.out ▸ ⟨_, _, _, n.1⟩, (n.2.below (below_step HB.out HB2.out) (below_step HB.out HB2.out).size hof)⟩
end Go.Proofs.Ytaoegbebeogkbaa.PDev
