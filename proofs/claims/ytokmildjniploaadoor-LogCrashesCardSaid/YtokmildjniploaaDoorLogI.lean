/- log: tags' contracts in plain words; may, slot, load. Conditions: none. -/
import Derived.Test.YtokmildjniploaaDoorLogC
namespace Go.Proofs.YtokmildjniploaaDoor.PLog
open Go.RowKit Go.Proofs.YtokmildjniploaaDoorW.PrintWords Go.Proofs.YtokmildjniploaaDoorW.PrintLast Go.Proofs.YtokmildjniploaaDoorW.PrintMore Go.Proofs.YtokmildjniploaaDoor.BGLog
open Go.Extern.Stop Go.Stop Go.Extern
set_option linter.unusedVariables false
set_option linter.unusedSimpArgs false
theorem tagPut (g s : Nat) (A : Option Addr) (n c : Nat) (l : List Int) (w : World) (hC : Kd.C (Kd.int .u8) w A n l) (hc : n ≤ c) (hn : n ≤ 110) :
    Calls Tryd.prog 33 #[.int .u32 (g : Int), .int .u32 (s : Int), .slice A n c] w fun e w' => ∃ Ab cb, e = .returned (.tuple #[.slice Ab 128 cb, .bool true]) ∧ 128 ≤ cb ∧ Kd.R (Kd.int .u8) 5 w' w.heap.size (fun k => w.heap.size ≤ k) (.slice Ab 128 cb) (putT g s l) ∧ Below w.heap.size w w' := by
  have hl : l.length = n := hC.1
  subst hl
  refine (tag_Put.calls (g : Int) (s : Int) (fun k => k < w.heap.size) A c l (putT g s l) true w (Kd.V_mk hc (Kd.C_F (Kd.heap_int _) hC)) (put_eq g s l hn)).mono ?_
  rintro e w' ⟨v, rfl, hR, hb⟩
  obtain ⟨Ab, cb, rfl⟩ := Kd.R_slice hR
  have h2 := (Kd.R_reads' hR).2.1
  have hlen := putT_len g s l hn
  rw [hlen] at h2 hR ⊢
  exact ⟨Ab, cb, rfl, h2, hR, hb⟩
theorem tagTake (GA : Nat → Addr) (g s : Nat) (A : Option Addr) (n c : Nat) (b : List Int) (w : World) (hC : Kd.C (Kd.int .u8) w A n b) (hc : n ≤ c) (hwf : wfb b) (hG : Glob GA w) :
    Calls Tryd.prog 38 #[.int .u32 (g : Int), .int .u32 (s : Int), .slice A n c] w fun e w' => ∃ v, e = .returned (.tuple #[v, .bool (takeT g s b).2]) ∧ Kd.R (Kd.int .u8) 5 w' w.heap.size (fun _ => True) v (takeT g s b).1 ∧ Below w.heap.size w w' := by
  have hl : b.length = n := hC.1
  subst hl
  obtain ⟨k, hk⟩ := take_ev g s b hwf
  exact tag_Take.calls GA k (g : Int) (s : Int) A c b (takeT g s b).1 (takeT g s b).2 w hC hc hG (hk k (Nat.le_refl _))
theorem SizeN (a : Nat) (ha : a ≤ 100000) (w : World) : Calls Tryd.prog 9 #[.int .i64 (a : Int)] w fun e w' => e = .returned (.int .i64 ((2 + 2 * a : Nat) : Int)) ∧ Drawn0 w w' :=
  log_Size.calls (a : Int) ((2 + 2 * a : Nat) : Int) w (by unfold log_Size.f; congr 1; unfold wrap64; omega)
theorem may_nil (a : Int) (w : World) : Calls Tryd.prog 22 #[.pointer none, .int .i64 a] w fun e w' => e = .returned (.bool false) ∧ w = w' := by
  go_enter Tryd.func22, Tryd.ntmps22
  go_wp2
  go_ret
  exact ⟨rfl, rfl⟩
def mayB (D : Dat) (a : Int) : Bool := decide (1 ≤ a ∧ a ≤ 1000 ∧ 2 + 2 * a ≤ (D.seen.length : Int))
set_option maxHeartbeats 4000000 in
set_option maxRecDepth 100000 in
theorem may_ (ok : Nat → Prop) (gd : Nat) (D : Dat) (a : Int) (w : World) (h : DevAt w ok gd D) :
    Calls Tryd.prog 22 #[.pointer (some ⟨gd, 0, none⟩), .int .i64 a] w fun e w' => e = .returned (.bool (mayB D a)) ∧ Below w.heap.size w w' := by
  have HD := Aside0.mk h
  clear h
  by_cases h1 : 1 ≤ a
  · have d1 : decide (1 ≤ a) = true := decide_eq_true h1
    by_cases h2 : a ≤ 1000
    · have d2 : decide (a ≤ 1000) = true := decide_eq_true h2
      obtain ⟨n, rfl⟩ := Int.eq_ofNat_of_zero_le (show 0 ≤ a by omega)
      have hn : n ≤ 1000 := by omega
      have hm : mayB D (n : Int) = decide (((2 + 2 * n : Nat) : Int) ≤ (D.seen.length : Int)) := by
        unfold mayB
        rw [decide_eq_decide]
        omega
      rw [hm]
      have d2n : decide (n ≤ 1000) = true := decide_eq_true hn
      have d1n : decide (1 ≤ n) = true := decide_eq_true (by omega)
      clear hm h1 h2
      by_cases h3 : ((2 + 2 * n : Nat) : Int) ≤ (D.seen.length : Int)
      · have d3 : decide (((2 + 2 * n : Nat) : Int) ≤ (D.seen.length : Int)) = true := decide_eq_true h3
        rw [d3]
        clear h3
        go_enter Tryd.func22, Tryd.ntmps22
        go_wp2_with (first | (go_at_call 35; (refine (Blocks ok gd D _ HD.out).mono ?_); rintro e w1 ⟨rfl, rfl⟩) | (go_at_call 9; (refine (SizeN n (by omega) _).mono ?_); rintro e w2 ⟨rfl, hd⟩; have HB := Aside0.mk hd.below; clear hd; generalize ((2 + 2 * n : Nat) : Int) = z at *))
        go_ret
        exact ⟨rfl, HB.out⟩
      · have d3 : decide (((2 + 2 * n : Nat) : Int) ≤ (D.seen.length : Int)) = false := decide_eq_false h3
        rw [d3]
        clear h3
        go_enter Tryd.func22, Tryd.ntmps22
        go_wp2_with (first | (go_at_call 35; (refine (Blocks ok gd D _ HD.out).mono ?_); rintro e w1 ⟨rfl, rfl⟩) | (go_at_call 9; (refine (SizeN n (by omega) _).mono ?_); rintro e w2 ⟨rfl, hd⟩; have HB := Aside0.mk hd.below; clear hd; generalize ((2 + 2 * n : Nat) : Int) = z at *))
        go_ret
        exact ⟨rfl, HB.out⟩
    · have d2 : decide (a ≤ 1000) = false := decide_eq_false h2
      have hm : mayB D a = false := decide_eq_false (fun h => h2 h.2.1)
      rw [hm]
      clear hm h1 h2
      go_enter Tryd.func22, Tryd.ntmps22
      go_wp2
      go_ret
      exact ⟨rfl, Below.refl _ _⟩
  · have d1 : decide (1 ≤ a) = false := decide_eq_false h1
    have hm : mayB D a = false := decide_eq_false (fun h => h1 h.1)
    rw [hm]
    clear hm h1
    go_enter Tryd.func22, Tryd.ntmps22
    go_wp2
    go_ret
    exact ⟨rfl, Below.refl _ _⟩
/-- All rows are bytes. -/
def Byt (l : List (List Int)) : Prop := ∀ r, r ∈ l → wfb r
theorem wfb_nil : wfb [] := fun x hx => by cases hx
theorem rowAt_wf {D : Dat} (h : Byt D.seen) (i : Int) : wfb (rowAt D i) := by
  unfold rowAt
  split
  · rename_i hi
    rw [List.getD_eq_getElem?_getD, List.getElem?_eq_getElem (by omega)]
    exact h _ (List.getElem_mem _)
  · exact wfb_nil
set_option maxHeartbeats 4000000 in
set_option maxRecDepth 100000 in
/-- Reads that hand on bytes. -/
theorem Read_row (ok : Nat → Prop) (g : Nat) (D : Dat) (i : Int) (w : World) (h : DevAt w ok g D) (hm : D.seen.length ≤ 1000000) :
    Calls Tryd.prog 36 #[.pointer (some ⟨g, 0, none⟩), .int .i64 i] w fun e w' => ∃ A n c, e = .returned (.tuple #[.slice A n c, .bool (isAt D i)]) ∧ n ≤ c ∧ Kd.C (Kd.int .u8) w' A n (rowAt D i) ∧ Below w.heap.size w w' := by
  by_cases hi : 0 ≤ i ∧ i < D.seen.length
  · obtain ⟨k, rfl⟩ := Int.eq_ofNat_of_zero_le hi.1
    have hk : k < D.seen.length := by omega
    refine (Read_at ok g D k _ _ w h (at_row hk) rfl hm).mono ?_
    rintro e w' ⟨A, c, rfl, hc, hR, hb⟩
    refine ⟨A, _, c, ?_, hc, rowC hR, hb⟩
    rw [show isAt D (k : Int) = true from decide_eq_true hi]
  · refine (Read_no ok g D i w h hi).mono ?_
    rintro e w' ⟨rfl, rfl⟩
    refine ⟨none, 0, 0, ?_, Nat.le_refl _, ?_, Below.refl _ _⟩
    · rw [show isAt D i = false from decide_eq_false hi]
    · unfold rowAt; rw [if_neg hi]; exact Kd.C_nil _ _
def mark : Nat := 4294967295
/-- What a slot tells. -/
def slotB (row : List Int) (i : Nat) : Bool := (takeT (numS row) mark row).2 && decide (1 ≤ numS row) && decide (numS row < mark) && decide (numS row % 2 = i)
theorem foldl_lt (l : List Int) : ∀ x : Nat, x < 4294967296 → l.foldl (fun n c => (n * 256 + c.toNat) % 4294967296) x < 4294967296 := by
  induction l with
  | nil => intro x h; exact h
  | cons c l ih => intro x h; exact ih _ (Nat.mod_lt _ (by decide))
theorem numS_lt (l : List Int) : numS l < 4294967296 := foldl_lt _ 0 (by decide)
set_option maxHeartbeats 4000000 in
set_option maxRecDepth 100000 in
theorem slot (GA : Nat → Addr) (ok : Nat → Prop) (gd : Nat) (D : Dat) (i : Nat) (w : World) (h : DevAt w ok gd D) (hi : i < 2) (hm : D.seen.length ≤ 1000000) (hB : Byt D.seen) (hG : Glob GA w) :
    Calls Tryd.prog 23 #[.pointer (some ⟨gd, 0, none⟩), .int .i64 (i : Int)] w fun e w' => e = .returned (.tuple #[.int .u32 ((numS (rowAt D i) : Nat) : Int), .bool (slotB (rowAt D i) i)]) ∧ Below w.heap.size w w' := by
  have HD := Aside0.mk h
  have HG := Aside0.mk hG
  have hwf := rowAt_wf hB (i : Int)
  have hlt := numS_lt (rowAt D i)
  have HWF := Aside0.mk hwf
  clear h hG hB hwf
  have hsl : ∀ b, slotB (rowAt D i) i = b → slotB (rowAt D i) i = b := fun b h => h
  obtain ⟨row, hrow⟩ : ∃ row, rowAt D (i : Int) = row := ⟨_, rfl⟩
  rw [hrow] at HWF hlt
  have HRW := Aside0.mk hrow
  rw [show (fun e w' => e = Ending.returned (.tuple #[.int .u32 ((numS (rowAt D i) : Nat) : Int), .bool (slotB (rowAt D i) i)]) ∧ Below w.heap.size w w') = (fun e w' => e = Ending.returned (.tuple #[.int .u32 ((numS row : Nat) : Int), .bool (slotB row i)]) ∧ Below w.heap.size w w') from by rw [hrow]]
  clear hrow hsl
  obtain ⟨g, hg⟩ : ∃ g, numS row = g := ⟨_, rfl⟩
  obtain ⟨tb, htb⟩ : ∃ tb, (takeT g mark row).2 = tb := ⟨_, rfl⟩
  have hsb : slotB row i = (tb && decide (1 ≤ g) && decide (g < mark) && decide (g % 2 = i)) := by unfold slotB; rw [hg, htb]
  rw [hsb, hg]
  rw [hg] at hlt
  have HNG := Aside0.mk hg
  have HTB := Aside0.mk htb
  clear hg htb hsb
  have hr : (g : Int).tmod 2 = ((g % 2 : Nat) : Int) := rfl
  have w1' : ((g % 2 : Nat) : Int) % 4294967296 = ((g % 2 : Nat) : Int) := by omega
  have w1 : IntKind.u32.wrap ((g % 2 : Nat) : Int) = ((g % 2 : Nat) : Int) := by rw [u32_wrap]; omega
  have w2 : IntKind.i64.wrap ((g % 2 : Nat) : Int) = ((g % 2 : Nat) : Int) := by rw [IntKind.wrap_i64]; omega
  have HM := Aside0.mk hm
  clear hlt hm hi
  obtain ⟨g2, hg2⟩ : ∃ g2, g % 2 = g2 := ⟨_, rfl⟩
  rw [hg2] at hr w1' w1 w2 ⊢
  clear hg2
  have READ : ∀ P : Prop, P → P := fun _ h => h
  have d1e : decide ((1 : Int) ≤ (g : Int)) = decide (1 ≤ g) := decide_eq_decide.2 (by omega)
  have d2e : decide ((g : Int) < 4294967295) = decide (g < mark) := decide_eq_decide.2 (by unfold mark; omega)
  have d3e : ((g2 : Int) == (i : Int)) = decide (g2 = i) := by rw [Bool.eq_iff_iff, beq_iff_eq, decide_eq_true_iff]; omega
  have d3f : decide ((g2 : Int) = (i : Int)) = decide (g2 = i) := decide_eq_decide.2 (by omega)
  have d2n : decide (g < 4294967295) = decide (g < mark) := rfl
  clear READ
  generalize decide (1 ≤ g) = b1 at *
  generalize decide (g < mark) = b2 at *
  generalize decide (g2 = i) = b3 at *
  cases tb <;> cases b1 <;> cases b2 <;> cases b3 <;>
    (go_enter Tryd.func23, Tryd.ntmps23
     go_wp2_with (first | (go_at_call 36; (refine (Read_row ok gd D (i : Int) _ HD.out HM.out).mono ?_); rintro e w1 ⟨A, n, c, rfl, hc, hC, hb⟩; rw [HRW.out] at hC; have HC := Aside0.mk hC; have HCC := Aside0.mk hc; have HB := Aside0.mk hb; clear hC hc hb) | (go_at_call 37; (refine (num A n c row _ HC.out HCC.out HWF.out).mono ?_); rintro e w2 ⟨rfl, hww⟩; subst hww; rw [HNG.out]) | (go_at_call 38; (refine (tagTake GA g mark A n c row _ HC.out HCC.out HWF.out (Glob.below HG.out HB.out)).mono ?_); rintro e w3 ⟨v, rfl, hR, hb⟩; rw [HTB.out]; have n0 := Aside0.mk (below_step HB.out hb); clear HB hb hR; have HB := n0; clear n0))
     go_ret2
     exact ⟨rfl, HB.out⟩)
def load1.T : Bool × List (List Nat × List Nat) := (true, [([], []), ([0], [0]), ([1], [1]), ([2], [2]), ([], []), ([], []), ([5], [5]), ([6], [6]), ([7], [7]), ([], []), ([4, 8, 9], [4, 8, 9]), ([3, 10, 10], [3, 10]), ([11], [11]), ([12], [12]), ([12], [12]), ([13, 11, 0, 1, 2, 3, 4, 5, 6, 7, 8, 9, 10, 11, 12, 13], [13]), ([14, 15, 0, 1, 2, 3, 4, 5, 6, 7, 8, 9, 10, 11, 12, 13, 14, 15], [14])])
def load1.B : List Nat := [0, 1, 3, 7, 0, 0, 32, 96, 224, 0, 1008, 2047, 4095, 8191, 8191, 16383, 65535]
theorem load1.tab : rtab .any (opsOf Tryd.f39 1) = load1.T := by kernel_rfl
theorem load1.bits : waitsOk load1.T.2 load1.B = true := by kernel_rfl
set_option maxHeartbeats 8000000 in
set_option maxRecDepth 100000 in
/-- What a block of the area bears. -/
theorem load_ (GA : Nat → Addr) (ok : Nat → Prop) (gd gl : Nat) (D : Dat) (area gen used i : Nat) (w : World) (h : LogAt w ok gd gl D area gen used) (ha : area ≤ 1000) (hi : i ≤ 1000000) (hg : gen < 4294967296) (hm : D.seen.length ≤ 1000000) (hB : Byt D.seen) (hG : Glob GA w) :
    Calls Tryd.prog 39 #[.pointer (some ⟨gl, 0, none⟩), .int .i64 (i : Int)] w fun e w' => ∃ v, e = .returned (.tuple #[v, .bool (takeT gen i (rowAt D (atN area gen i : Nat))).2]) ∧ Kd.R (Kd.int .u8) 5 w' w.heap.size (fun _ => True) v (takeT gen i (rowAt D (atN area gen i : Nat))).1 ∧ Below w.heap.size w w' := by
  have HL := Aside0.mk h
  have HG := Aside0.mk hG
  have HWF := Aside0.mk (rowAt_wf hB ((atN area gen i : Nat) : Int))
  obtain ⟨row, hrow⟩ : ∃ row, rowAt D ((atN area gen i : Nat) : Int) = row := ⟨_, rfl⟩
  rw [hrow]
  rw [hrow] at HWF
  have HROW := Aside0.mk hrow
  clear hrow
  have HB := Aside0.mk (Below.refl w.heap.size w)
  have hwi : IntKind.u32.wrap (i : Int) = (i : Int) := by rw [u32_wrap]; omega
  have hwi2 : (i : Int) % 4294967296 = (i : Int) := by omega
  clear h hG hB
  go_enter Tryd.func39, Tryd.ntmps39
  go_upto_region 1 with (fail)
  refine start_ (n := 17) (S := fun w' => w'.cell? ⟨gl, 0, none⟩ = some (.pointer (some ⟨gd, 0, none⟩)) ∧ w'.cell? ⟨gl, 2, none⟩ = some (.int .u32 (gen : Int))) (ds := []) #[false, false, false, false, false, false, false, false, false, false, false, false, false, false, false, false, false] (by kernel_rfl) rfl rfl ⟨blk_cell HL.out.box 0, blk_cell HL.out.box 2⟩ (fun hHeld => ?_)
  refine with_tabW load1.tab load1.bits (fun HT_ HW_ => ?_)
  have n0 := Aside0.mk (HL.out.below (below_drew (Below.refl _ _)))
  have n1 := Aside0.mk (below_drew1 HB.out)
  clear HL HB
  have HL := n0
  have HB := n1
  clear n0 n1
  generalize w.drew = w1 at HL HB hHeld ⊢
  refine pure_ (i := 0) (N := (some 9)) (v := ?_) (a' := ?_) #[true, false, false, false, false, false, false, false, false, false, false, false, false, false, false, false, false] rfl rfl (any_of HT_.out (by kernel_rfl)) (fun _ _ _ h => h) (Or.inl ⟨by rfl, ?_⟩) ?_ ?_
  rotate_left
  · intro w'
    go_simp
    with_reducible rfl
  rotate_left
  · simp only [Act.put, List.setIfInBounds_toArray, List.set_cons_zero, List.set_cons_succ, i64_w, i32_w]
    rfl
  refine pure_ (i := 1) (N := (some 10)) (v := ?_) (a' := ?_) #[true, true, false, false, false, false, false, false, false, false, false, false, false, false, false, false, false] rfl rfl (any_of HT_.out (by kernel_rfl)) (fun _ _ _ h => h) (Or.inl ⟨by rfl, ?_⟩) ?_ ?_
  rotate_left
  · intro w'
    go_simp
    with_reducible rfl
  rotate_left
  · simp only [Act.put, List.setIfInBounds_toArray, List.set_cons_zero, List.set_cons_succ, i64_w, i32_w]
    rfl
  refine pure_ (i := 2) (N := (some 11)) (v := ?_) (a' := ?_) #[true, true, true, false, false, false, false, false, false, false, false, false, false, false, false, false, false] rfl rfl (any_of HT_.out (by kernel_rfl)) (fun _ _ _ h => h) (Or.inl ⟨by rfl, ?_⟩) ?_ ?_
  rotate_left
  · intro w'
    go_simp
    with_reducible rfl
  rotate_left
  · simp only [Act.put, List.setIfInBounds_toArray, List.set_cons_zero, List.set_cons_succ, i64_w, i32_w]
    rfl
  refine pure_ (i := 4) (N := (some 13)) (v := ?_) (a' := ?_) #[true, true, true, false, true, false, false, false, false, false, false, false, false, false, false, false, false] rfl rfl (any_of HT_.out (by kernel_rfl)) (fun _ _ _ h => h) (Or.inl ⟨by rfl, ?_⟩) ?_ ?_
  rotate_left
  · intro w'
    go_simp
    with_reducible rfl
  rotate_left
  · simp only [Act.put, List.setIfInBounds_toArray, List.set_cons_zero, List.set_cons_succ, i64_w, i32_w]
    rfl
  refine pure_ (i := 5) (N := (some 14)) (v := ?_) (a' := ?_) #[true, true, true, false, true, true, false, false, false, false, false, false, false, false, false, false, false] rfl rfl (any_of HT_.out (by kernel_rfl)) (fun _ _ _ h => h) (Or.inl ⟨by rfl, ?_⟩) ?_ ?_
  rotate_left
  · intro w'
    go_simp
    with_reducible rfl
  rotate_left
  · simp only [Act.put, List.setIfInBounds_toArray, List.set_cons_zero, List.set_cons_succ, i64_w, i32_w]
    rfl
  refine pure_ (i := 6) (N := (some 15)) (v := ?_) (a' := ?_) #[true, true, true, false, true, true, true, false, false, false, false, false, false, false, false, false, false] rfl rfl (any_of HT_.out (by kernel_rfl)) (fun _ _ _ h => h) (Or.inl ⟨by rfl, ?_⟩) ?_ ?_
  rotate_left
  · intro w'
    go_simp
    with_reducible rfl
  rotate_left
  · simp only [Act.put, List.setIfInBounds_toArray, List.set_cons_zero, List.set_cons_succ, i64_w, i32_w]
    rfl
  refine pure_ (i := 7) (N := (some 16)) (v := ?_) (a' := ?_) #[true, true, true, false, true, true, true, true, false, false, false, false, false, false, false, false, false] rfl rfl (any_of HT_.out (by kernel_rfl)) (fun _ _ _ h => h) (Or.inl ⟨by rfl, ?_⟩) ?_ ?_
  rotate_left
  · intro w'
    go_simp
    with_reducible rfl
  rotate_left
  · simp only [Act.put, List.setIfInBounds_toArray, List.set_cons_zero, List.set_cons_succ, i64_w, i32_w]
    rfl
  refine pure_ (i := 9) (N := (some 18)) (v := ?_) (a' := ?_) #[true, true, true, false, true, true, true, true, false, true, false, false, false, false, false, false, false] rfl rfl (any_of HT_.out (by kernel_rfl)) (fun _ _ _ h => h) (Or.inl ⟨by rfl, ?_⟩) ?_ ?_
  rotate_left
  · intro w'
    go_simp
    with_reducible rfl
  rotate_left
  · simp only [Act.put, List.setIfInBounds_toArray, List.set_cons_zero, List.set_cons_succ, i64_w, i32_w]
    rfl
  refine take_ (i := 3) (N := (some 12)) (v := ?_) (a' := ?_) #[true, true, true, true, true, true, true, true, false, true, false, false, false, false, false, false, false] rfl rfl (take_ofW HT_.out HW_.out (by kernel_rfl)) (fun _ _ _ h => h) (Or.inl ⟨by rfl, ?_⟩) (by exact hHeld) ?_ ?_
  rotate_left
  · intro w' hw'
    go_simp
    with_reducible rfl
  rotate_left
  · simp only [Act.put, List.setIfInBounds_toArray, List.set_cons_zero, List.set_cons_succ, i64_w, i32_w]
    rfl
  refine take_ (i := 8) (N := (some 17)) (v := ?_) (a' := ?_) #[true, true, true, true, true, true, true, true, true, true, false, false, false, false, false, false, false] rfl rfl (take_ofW HT_.out HW_.out (by kernel_rfl)) (fun _ _ _ h => h) (Or.inl ⟨by rfl, ?_⟩) (by exact hHeld) ?_ ?_
  rotate_left
  · intro w' hw'
    go_simp
    with_reducible rfl
  rotate_left
  · simp only [Act.put, List.setIfInBounds_toArray, List.set_cons_zero, List.set_cons_succ, i64_w, i32_w]
    rfl
  refine one_ (i := 10) (N := (some 19)) #[true, true, true, true, true, true, true, true, true, true, true, false, false, false, false, false, false] rfl rfl (one_of HT_.out (by kernel_rfl)) (by decide) (fun Kq hKq => ?_)
  refine call_ (f := 32) (args := #[.pointer (some ⟨gl, 0, none⟩), .int .u32 (gen : Int), .int .i64 (i : Int)]) (by rfl) rfl (by go_simp) ?_
  refine (At w1 gl gd area gen used gen i HL.out.box ha hi hg).mono ?_
  rintro e w2 ⟨rfl, hww⟩
  subst hww
  refine ⟨_, rfl, ?_⟩
  refine hKq.out _ _ hHeld (fun hHeld => ?_)
  clear hKq Kq
  refine norm_ (a' := ?_) ?_ ?_
  rotate_left
  · show Act.put _ (some 19) _ = _
    simp only [Act.put, List.setIfInBounds_toArray, List.set_cons_zero, List.set_cons_succ, i64_w, i32_w]
    rfl
  refine one_ (i := 11) (N := (some 20)) #[true, true, true, true, true, true, true, true, true, true, true, true, false, false, false, false, false] rfl rfl (one_of HT_.out (by kernel_rfl)) (by decide) (fun Kq hKq => ?_)
  refine call_ (f := 36) (args := #[.pointer (some ⟨gd, 0, none⟩), .int .i64 ((atN area gen i : Nat) : Int)]) (by rfl) rfl (by go_simp) ?_
  refine (Read_row ok gd D ((atN area gen i : Nat) : Int) w1 HL.out.dev hm).mono ?_
  rintro e w3 ⟨A, n, c, rfl, hc, hC, hb⟩
  rw [HROW.out] at hC
  refine ⟨_, rfl, ?_⟩
  have n0 := Aside0.mk (HL.out.below hb)
  have n1 := Aside0.mk (below_step HB.out hb)
  have HC := Aside0.mk hC
  have HCC := Aside0.mk hc
  clear HL HB hb hC hc
  have HL := n0
  have HB := n1
  clear n0 n1
  refine hKq.out _ _ ⟨blk_cell HL.out.box 0, blk_cell HL.out.box 2⟩ (fun hHeld => ?_)
  clear hKq Kq
  refine norm_ (a' := ?_) ?_ ?_
  rotate_left
  · show Act.put _ (some 20) _ = _
    simp only [Act.put, List.setIfInBounds_toArray, List.set_cons_zero, List.set_cons_succ, i64_w, i32_w]
    rfl
  refine pure_ (i := 12) (N := (some 8)) (v := ?_) (a' := ?_) #[true, true, true, true, true, true, true, true, true, true, true, true, true, false, false, false, false] rfl rfl (any_of HT_.out (by kernel_rfl)) (fun _ _ _ h => h) (Or.inl ⟨by rfl, ?_⟩) ?_ ?_
  rotate_left
  · intro w'
    go_simp
    with_reducible rfl
  rotate_left
  · simp only [Act.put, List.setIfInBounds_toArray, List.set_cons_zero, List.set_cons_succ, i64_w, i32_w]
    rfl
  refine pure_ (i := 13) (N := (some 21)) (v := ?_) (a' := ?_) #[true, true, true, true, true, true, true, true, true, true, true, true, true, true, false, false, false] rfl rfl (any_of HT_.out (by kernel_rfl)) (fun _ _ _ h => h) (Or.inl ⟨by rfl, ?_⟩) ?_ ?_
  rotate_left
  · intro w'
    go_simp
    with_reducible rfl
  rotate_left
  · simp only [Act.put, List.setIfInBounds_toArray, List.set_cons_zero, List.set_cons_succ, i64_w, i32_w]
    rfl
  refine pure_ (i := 14) (N := (some 22)) (v := ?_) (a' := ?_) #[true, true, true, true, true, true, true, true, true, true, true, true, true, true, true, false, false] rfl rfl (any_of HT_.out (by kernel_rfl)) (fun _ _ _ h => h) (Or.inl ⟨by rfl, ?_⟩) ?_ ?_
  rotate_left
  · intro w'
    go_simp
    with_reducible rfl
  rotate_left
  · simp only [Act.put, List.setIfInBounds_toArray, List.set_cons_zero, List.set_cons_succ, i64_w, i32_w]
    rfl
  refine pure_ (i := 15) (N := (some 6)) (v := ?_) (a' := ?_) #[true, true, true, true, true, true, true, true, true, true, true, true, true, true, true, true, false] rfl rfl (any_of HT_.out (by kernel_rfl)) (fun _ _ _ h => h) (Or.inl ⟨by rfl, ?_⟩) ?_ ?_
  rotate_left
  · intro w'
    go_simp
    with_reducible rfl
  rotate_left
  · simp only [Act.put, List.setIfInBounds_toArray, List.set_cons_zero, List.set_cons_succ, i64_w, i32_w]
    rfl
  refine pure_ (i := 16) (N := (some 7)) (v := ?_) (a' := ?_) #[true, true, true, true, true, true, true, true, true, true, true, true, true, true, true, true, true] rfl rfl (any_of HT_.out (by kernel_rfl)) (fun _ _ _ h => h) (Or.inl ⟨by rfl, ?_⟩) ?_ ?_
  rotate_left
  · intro w'
    go_simp
    with_reducible rfl
  rotate_left
  · simp only [Act.put, List.setIfInBounds_toArray, List.set_cons_zero, List.set_cons_succ, i64_w, i32_w]
    rfl
  refine done_ (done_of HT_.out (by kernel_rfl)) ?_
  have x2 := blk_cell HL.out.box 2
  go_wp2_with (go_at_call 38; (refine (tagTake GA gen i A n c row _ HC.out HCC.out HWF.out (Glob.below HG.out HB.out)).mono ?_); rintro e w4 ⟨v, rfl, hR, hb⟩; have HR := Aside0.mk (Kd.R_lower hR HB.out.size); have n0 := Aside0.mk (below_step HB.out hb); clear HB hb hR; have HB := n0; clear n0)
  go_ret2
  exact ⟨v, rfl, HR.out, HB.out⟩
end Go.Proofs.YtokmildjniploaaDoor.PLog
