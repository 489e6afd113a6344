/- log: what Append, Anew and Make do. Conditions: none. -/
import Derived.Test.YtokmildjniploaaDoorLogP
namespace Go.Proofs.YtokmildjniploaaDoor.PLog
open Go.RowKit Go.Proofs.YtokmildjniploaaDoorW.PrintWords Go.Proofs.YtokmildjniploaaDoorW.PrintLast Go.Proofs.YtokmildjniploaaDoorW.PrintMore Go.Proofs.YtokmildjniploaaDoor.BGLog
open Go.Extern.Stop Go.Stop Go.Extern
set_option linter.unusedVariables false
set_option linter.unusedSimpArgs false
/-- How many blocks a record has. -/
theorem size_ (A : Option Addr) (n c : Nat) (rec : List Int) (w : World) (hC : Kd.C (Kd.int .u8) w A n rec) (hc : n ≤ c) (hn : n ≤ 1000000) :
    Calls Tryd.prog 26 #[.slice A n c] w fun e w' => e = .returned (.int .i64 ((chN (4 + n) : Nat) : Int)) ∧ Drawn0 w w' := by
  have hl : rec.length = n := hC.1
  subst hl
  refine log_size.calls A c rec ((chN (4 + rec.length) : Nat) : Int) w hC hc ?_
  unfold log_size.f
  congr 1
  have h1 : wrap64 (4 + (rec.length : Int)) = ((4 + rec.length : Nat) : Int) := by unfold wrap64; omega
  rw [h1]
  have h2 : wrap64 ((wrap64 (((4 + rec.length : Nat) : Int) + 110)) - 1) = ((4 + rec.length + 109 : Nat) : Int) := by unfold wrap64; omega
  rw [h2]
  have h3 : Int.tdiv ((4 + rec.length + 109 : Nat) : Int) 110 = (((4 + rec.length + 109) / 110 : Nat) : Int) := rfl
  rw [h3]
  unfold chN wrap64
  omega
theorem at_rows {w : World} {A : Option Addr} {n : Nat} {xs : List (List Int)} (h : Kd.C (Kd.slice 5 (Kd.int .u8)) w A n xs) (i : Nat) (hi : i < n) (x : List Int) (hx : xs[i]? = some x) : ∃ ad A1 c1, A = some ad ∧ w.cell? (ad.add i) = some (.slice A1 x.length c1) ∧ x.length ≤ c1 ∧ Kd.C (Kd.int .u8) w A1 x.length x := by
  obtain ⟨ad, c, e, _, hK, hc0⟩ := Kd.C_get h ([] : List Int) (i : Int) (by omega) (by omega)
  rw [Int.toNat_natCast, List.getD_eq_getElem?_getD, hx] at hK
  rw [Int.toNat_natCast] at hc0
  obtain ⟨A1, c1, rfl, hl, hC⟩ := hK
  have h2 : w.cell? (ad.add (i * 1 + 0)) = some (.slice A1 x.length c1) := hc0 0 _ rfl
  rw [Nat.mul_one, Nat.add_zero] at h2
  exact ⟨ad, A1, c1, e, h2, hl, hC⟩
theorem clo_ (A : Option Addr) (n c : Nat) (w : World) (hn : n ≤ 65536) : Calls Tryd.prog 30 #[.slice A n c] w fun e w' => e = .returned (.bool false) ∧ w = w' := by
  have d1 : decide ((65536 : Int) < (n : Int)) = false := decide_eq_false (by omega)
  have d2 : decide (65536 < n) = false := decide_eq_false (by omega)
  clear hn
  go_enter Tryd.func30, Tryd.ntmps30
  go_wp2
  go_ret
  exact ⟨rfl, rfl⟩
set_option maxHeartbeats 4000000 in
set_option maxRecDepth 100000 in
theorem idx_ (A : Option Addr) (n c : Nat) (recs : List (List Int)) (w : World) (hC : Kd.C (Kd.slice 5 (Kd.int .u8)) w A n recs) (hc : n ≤ c) (hr : ∀ r, r ∈ recs → r.length ≤ 65536) :
    Calls Tryd.prog 43 #[.slice A n c, .func (.func 30) #[] #[]] w fun e w' => e = .returned (.int .i64 (-1)) ∧ w = w' := by
  have hl : recs.length = n := hC.1
  subst hl
  have hmx := Kd.C_max hC
  have HC := Aside0.mk hC
  have HR := Aside0.mk hr
  clear hC hr
  go_enter Tryd.func43, Tryd.ntmps43
  go_wp2
  go_loopg [8] (recs.length + 1) (fun kq v8 w2 => ∃ i : Nat, v8 = .int .i64 (i : Int) ∧ Aside0 (i ≤ recs.length ∧ recs.length < kq + i) ∧ w2 = w)
  case atStart => exact ⟨0, rfl, ⟨by omega, by omega⟩, rfl⟩
  case round =>
    obtain ⟨i, rfl, HI, rfl⟩ := hrel
    by_cases hlt : i < recs.length
    · have e1 : decide ((i : Int) < (recs.length : Int)) = true := decide_eq_true (by omega)
      have e2 : decide (i < recs.length) = true := decide_eq_true hlt
      have e3 : (i : Int) < (recs.length : Int) := by omega
      have hw1 : IntKind.i64.wrap ((i : Int) + 1) = ((i + 1 : Nat) : Int) := by rw [IntKind.wrap_i64]; omega
      obtain ⟨ad, A1, c1, eA, hx, hl1, hC1⟩ := at_rows HC.out i hlt _ (List.getElem?_eq_getElem hlt)
      cases eA
      have hb := HR.out _ (List.getElem_mem hlt)
      generalize recs[i] = r at *
      have HLT := Aside0.mk hlt
      have HBB := Aside0.mk hb
      clear hlt hC1 hb
      go_wp2_with (go_at_call 30; (refine (clo_ A1 r.length c1 _ HBB.out).mono ?_); rintro e wz ⟨rfl, hww⟩; subst hww)
      go_roundg (gk - 1)
      case measure => have := HI.out; omega
      case rel => exact ⟨i + 1, by first | rfl | go_num, ⟨by have := HLT.out; omega, by have := HI.out; omega⟩, rfl⟩
    · have e1 : decide ((i : Int) < (recs.length : Int)) = false := decide_eq_false (by omega)
      have e2 : decide (i < recs.length) = false := decide_eq_false hlt
      have e3 : ¬ (i : Int) < (recs.length : Int) := by omega
      clear hlt
      go_wp2
      go_ret
      exact ⟨rfl, rfl⟩
theorem contains_ (A : Option Addr) (n c : Nat) (recs : List (List Int)) (w : World) (hC : Kd.C (Kd.slice 5 (Kd.int .u8)) w A n recs) (hc : n ≤ c) (hr : ∀ r, r ∈ recs → r.length ≤ 65536) :
    Calls Tryd.prog 29 #[.slice A n c, .func (.func 30) #[] #[]] w fun e w' => e = .returned (.bool false) ∧ w = w' := by
  have HC := Aside0.mk hC
  have HR := Aside0.mk hr
  clear hC hr
  go_enter Tryd.func29, Tryd.ntmps29
  go_wp2_with (go_at_call 43; (refine (idx_ A n c recs _ HC.out hc HR.out).mono ?_); rintro e wz ⟨rfl, hww⟩; subst hww)
  go_ret
  exact ⟨rfl, rfl⟩
/-! ### Append -/
theorem Append_nil (A : Option Addr) (n c : Nat) (w : World) : Calls Tryd.prog 13 #[.pointer none, .slice A n c] w fun e w' => e = .returned (.int .i64 1) ∧ w = w' := by
  go_enter Tryd.func13, Tryd.ntmps13
  go_wp2
  go_ret
  exact ⟨rfl, rfl⟩
theorem Append_long (gl : Nat) (A : Option Addr) (n c : Nat) (w : World) (hn : 65536 < n) : Calls Tryd.prog 13 #[.pointer (some ⟨gl, 0, none⟩), .slice A n c] w fun e w' => e = .returned (.int .i64 1) ∧ w = w' := by
  have d1 : decide ((65536 : Int) < (n : Int)) = true := decide_eq_true (by omega)
  have d2 : decide (65536 < n) = true := decide_eq_true hn
  have d3 : (65536 : Int) < (n : Int) := by omega
  go_enter Tryd.func13, Tryd.ntmps13
  go_wp2
  go_ret
  exact ⟨rfl, rfl⟩
set_option maxHeartbeats 4000000 in
set_option maxRecDepth 100000 in
theorem Append_full (ok : Nat → Prop) (gd gl : Nat) (D : Dat) (area gen used : Nat) (A : Option Addr) (n c : Nat) (rec : List Int) (w : World) (h : LogAt w ok gd gl D area gen used) (ha : area ≤ 1000) (hu : used ≤ area) (hC : Kd.C (Kd.int .u8) w A n rec) (hc : n ≤ c) (hn : n ≤ 65536) (hf : area - used < chN (4 + n)) :
    Calls Tryd.prog 13 #[.pointer (some ⟨gl, 0, none⟩), .slice A n c] w fun e w' => e = .returned (.int .i64 6) ∧ Below w.heap.size w w' := by
  have d1 : decide ((65536 : Int) < (n : Int)) = false := decide_eq_false (by omega)
  have d2 : decide (65536 < n) = false := decide_eq_false (by omega)
  obtain ⟨cn, hcn⟩ : ∃ cn, chN (4 + n) = cn := ⟨_, rfl⟩
  obtain ⟨rm, hrm⟩ : ∃ rm, area - used = rm := ⟨_, rfl⟩
  rw [hcn, hrm] at hf
  have d3 : decide ((rm : Int) < (cn : Int)) = true := decide_eq_true (by omega)
  have d4 : decide (rm < cn) = true := decide_eq_true hf
  have d5 : (rm : Int) < (cn : Int) := by omega
  have HSZ := Aside0.mk (size_ A n c rec w hC hc (by omega))
  have HRM := Aside0.mk (fun W hb => Room W gl gd area gen used (show Lbx W gl gd area gen used from blk_below (w := w) h.box hb) ha hu)
  rw [hcn] at HSZ
  rw [hrm] at HRM
  clear h hC hf hcn hrm
  go_enter Tryd.func13, Tryd.ntmps13
  go_wp2_with (first | (go_at_call 26; (refine HSZ.out.mono ?_); rintro e w1 ⟨rfl, hd⟩; have HB := Aside0.mk hd.below; clear hd) | (go_at_call 12; (refine (HRM.out _ HB.out).mono ?_); rintro e w2 ⟨rfl, hd⟩; have n0 := Aside0.mk (below_step HB.out hd.below); clear HB hd; have HB := n0; clear n0))
  go_ret
  exact ⟨rfl, HB.out⟩
set_option maxHeartbeats 4000000 in
set_option maxRecDepth 100000 in
theorem Append_ok (nb m : Nat) (ok : Nat → Prop) (gd gl : Nat) (D : Dat) (area gen used : Nat) (A : Option Addr) (n c : Nat) (rec : List Int) (w : World) (h : LogAt w ok gd gl D area gen used) (hfr : ∀ k, w.heap.size ≤ k → ok k) (ha : area ≤ 1000) (hu : used ≤ area) (hg : gen < 4294967296) (hnb : nb ≤ 1000000) (hmb : m ≤ 900000) (hGD : Good nb m D) (hC : Kd.C (Kd.int .u8) w A n rec) (hc : n ≤ c) (hn : n ≤ 65536) (hf : chN (4 + n) ≤ area - used) :
    Calls Tryd.prog 13 #[.pointer (some ⟨gl, 0, none⟩), .slice A n c] w fun e w' => e = .returned (.int .i64 0) ∧ LogAt w' ok gd gl (putD area gen used D rec).flush area gen (used + chN (4 + n)) ∧ Fr ok logT w w' := by
  have d1 : decide ((65536 : Int) < (n : Int)) = false := decide_eq_false (by omega)
  have d2 : decide (65536 < n) = false := decide_eq_false (by omega)
  have hgp := putGo_good area gen (textR rec) (List.range (chN (textR rec).length)) used D hGD
  have HSZ := Aside0.mk (size_ A n c rec w hC hc (by omega))
  have HRM := Aside0.mk (fun W hb => Room W gl gd area gen used (show Lbx W gl gd area gen used from blk_below (w := w) h.box hb) ha hu)
  have HPT := Aside0.mk (fun W (hb : Below w.heap.size w W) => put_ nb m ok gd gl D area gen used A n c rec W (h.below hb) (fun k hk => hfr k (Nat.le_trans hb.size hk)) ha hg (by omega) hnb hmb hGD (Kd.C_below hC hb) hc hn)
  have HSN := Aside0.mk (show (putD area gen used D rec).seen.length ≤ 1000000 by have := hgp.seen; unfold putD; omega)
  have HFR := Aside0.mk hfr
  obtain ⟨cn, hcn⟩ : ∃ cn, chN (4 + n) = cn := ⟨_, rfl⟩
  obtain ⟨rm, hrm⟩ : ∃ rm, area - used = rm := ⟨_, rfl⟩
  rw [hcn] at HSZ HPT hf ⊢
  rw [hrm] at HRM hf
  have d3 : decide ((rm : Int) < (cn : Int)) = false := decide_eq_false (by omega)
  have d4 : decide (rm < cn) = false := decide_eq_false (by omega)
  have d5 : ¬ (rm : Int) < (cn : Int) := by omega
  clear h hC hf hcn hrm hgp hGD hfr
  go_enter Tryd.func13, Tryd.ntmps13
  go_wp2_with (first | (go_at_call 26; (refine HSZ.out.mono ?_); rintro e w1 ⟨rfl, hd⟩; have HB := Aside0.mk hd.below; clear hd) | (go_at_call 12; (refine (HRM.out _ HB.out).mono ?_); rintro e w2 ⟨rfl, hd⟩; have n0 := Aside0.mk (below_step HB.out hd.below); clear HB hd; have HB := n0; clear n0) | (go_at_call 27; (refine (HPT.out _ HB.out).mono ?_); rintro e w3 ⟨rfl, hl, hf⟩; have HL := Aside0.mk hl; have HF := Aside0.mk ((Fr.of_below HB.out).trans hf); clear hl hf HB HPT; have x0 := blk_cell HL.out.box 0) | (go_at_call 28; (refine (Flush ok gd (putD area gen used D rec) _ HL.out.dev (fun k hk => HFR.out k (Nat.le_trans HF.out.size hk)) HSN.out).mono ?_); rintro e w4 ⟨rfl, hd, hf⟩; have n0 := Aside0.mk (HL.out.step_dev hd hf); have n1 := Aside0.mk (HF.out.trans (frL hf)); clear HL HF hd hf x0; have HL := n0; have HF := n1; clear n0 n1))
  go_ret
  exact ⟨rfl, HL.out, HF.out⟩
/-! ### Anew -/
theorem flush_seen (D : Dat) : D.flush.seen = D.seen := by unfold Dat.flush; split <;> rfl
def sumS (recs : List (List Int)) : Nat := (recs.map fun r => chN (4 + r.length)).sum
def blanks (area gen : Nat) (D : Dat) : Nat → Dat
  | 0 => D
  | i + 1 => ((blanks area gen D i).write ((atN area gen i : Nat) : Int) z128).2
def putAll (area gen : Nat) : Nat → Dat → List (List Int) → Dat
  | _, D, [] => D
  | u, D, r :: rs => putAll area gen (u + chN (4 + r.length)) (putD area gen u D r) rs
def anewD (area gen : Nat) (D : Dat) (recs : List (List Int)) : Dat := ((putAll area gen 0 (blanks area gen D area).flush recs).flush.write ((gen % 2 : Nat) : Int) (putT gen mark [])).2.flush
theorem sumS_snoc (a : List (List Int)) (r : List Int) : sumS (a ++ [r]) = sumS a + chN (4 + r.length) := by unfold sumS; rw [List.map_append, List.sum_append]; simp
theorem sumS_take (recs : List (List Int)) (i : Nat) : sumS (recs.take i) ≤ sumS recs := by
  have h := List.take_append_drop i recs
  have h2 : sumS recs = sumS (recs.take i) + sumS (recs.drop i) := by
    unfold sumS
    rw [← List.sum_append, ← List.map_append, h]
  omega
theorem putAll_snoc (area gen : Nat) (a : List (List Int)) (r : List Int) : ∀ (u : Nat) (D : Dat), putAll area gen u D (a ++ [r]) = putD area gen (u + sumS a) (putAll area gen u D a) r := by
  induction a with
  | nil => intro u D; rfl
  | cons x a ih =>
    intro u D
    show putAll area gen (u + chN (4 + x.length)) (putD area gen u D x) (a ++ [r]) = _
    rw [ih]
    have e : sumS (x :: a) = chN (4 + x.length) + sumS a := by unfold sumS; simp
    rw [e, Nat.add_assoc]
    rfl
theorem good_blanks {nb m : Nat} {D : Dat} (h : Good nb m D) (area gen : Nat) : ∀ i, Good nb (m + i) (blanks area gen D i)
  | 0 => h
  | i + 1 => good_write (good_blanks h area gen i) _ _
theorem good_putD {nb m : Nat} {D : Dat} (h : Good nb m D) (area gen u : Nat) (r : List Int) : Good nb (m + chN (4 + r.length)) (putD area gen u D r) := by
  have := putGo_good area gen (textR r) (List.range (chN (textR r).length)) u D h
  rw [List.length_range, textR_len] at this
  unfold putD
  rw [textR_len]
  exact this
theorem good_putAll {nb m : Nat} (area gen : Nat) (recs : List (List Int)) : ∀ (u : Nat) (D : Dat), Good nb m D → Good nb (m + sumS recs) (putAll area gen u D recs) := by
  induction recs generalizing m with
  | nil => intro u D h; exact h
  | cons x a ih =>
    intro u D h
    have e : sumS (x :: a) = chN (4 + x.length) + sumS a := by unfold sumS; simp
    rw [e, ← Nat.add_assoc]
    exact ih _ _ (good_putD h area gen u x)
theorem good_anew {nb m : Nat} {D : Dat} (h : Good nb m D) (area gen : Nat) (recs : List (List Int)) : Good nb (m + area + sumS recs + 1) (anewD area gen D recs) :=
  good_flush (good_write (good_flush (good_putAll area gen recs 0 _ (good_flush (good_blanks h area gen area)))) _ _)
theorem Anew_nil (w : World) : Calls Tryd.prog 15 #[.pointer none, .slice none 0 0] w fun e w' => e = .returned (.int .i64 1) ∧ w = w' := by
  go_enter Tryd.func15, Tryd.ntmps15
  go_wp2
  go_loopg [5, 15] 1 (fun kq v5 v15 w2 => v15 = .int .i64 0 ∧ v5 = .int .i64 0 ∧ Aside0 (0 < kq) ∧ w2 = w)
  case atStart => exact ⟨rfl, rfl, ⟨by decide⟩, rfl⟩
  case round =>
    obtain ⟨rfl, rfl, HI, rfl⟩ := hrel
    go_wp2
    go_ret
    exact ⟨rfl, rfl⟩
def anew16.T : Bool × List (List Nat × List Nat) := (true, [([], []), ([0], [0]), ([1], [1]), ([2], [2]), ([], []), ([], []), ([5], [5]), ([6], [6]), ([7], [7]), ([], []), ([4, 8, 9], [4, 8, 9]), ([], []), ([3, 10, 11, 10], [3, 10, 11])])
def anew16.B : List Nat := [0, 1, 3, 7, 0, 0, 32, 96, 224, 0, 1008, 0, 4095]
theorem anew16.tab : rtab .any (opsOf Tryd.f15 16) = anew16.T := by kernel_rfl
theorem anew16.bits : waitsOk anew16.T.2 anew16.B = true := by kernel_rfl
def anew26.T : Bool × List (List Nat × List Nat) := (true, [([], []), ([0], [0]), ([1], [1]), ([2], [2]), ([], []), ([4], [4]), ([5], [5]), ([6], [6]), ([7], [7]), ([8], [8]), ([], []), ([3, 9, 10], [3, 9, 10])])
def anew26.B : List Nat := [0, 1, 3, 7, 0, 16, 48, 112, 240, 496, 0, 2047]
theorem anew26.tab : rtab .any (opsOf Tryd.f15 26) = anew26.T := by kernel_rfl
theorem anew26.bits : waitsOk anew26.T.2 anew26.B = true := by kernel_rfl
set_option maxHeartbeats 32000000 in
set_option maxRecDepth 100000 in
/-- Anew, the first rounds behind: n is what all records want. -/
theorem Anew_gen (nb m : Nat) (ok : Nat → Prop) (gd gl : Nat) (D : Dat) (area gen used : Nat) (A : Option Addr) (c : Nat) (recs : List (List Int)) (w : World) (h : LogAt w ok gd gl D area gen used) (hfr : ∀ k, w.heap.size ≤ k → ok k) (ha : area ≤ 1000) (hg : gen + 1 < 4294967295) (hnb : nb ≤ 1000000) (hmb : m ≤ 800000) (hGD : Good nb m D)
    (hR : ∀ w' (hf : Fr ok logT w w'), Kd.C (Kd.slice 5 (Kd.int .u8)) w' A recs.length recs) (hc : recs.length ≤ c) (hr : ∀ r, r ∈ recs → r.length ≤ 65536) (hrl : recs.length ≤ 100000) :
    Calls Tryd.prog 15 #[.pointer (some ⟨gl, 0, none⟩), .slice A recs.length c] w fun e w' => ((area < sumS recs ∧ e = .returned (.int .i64 6) ∧ LogAt w' ok gd gl D area gen used) ∨ (sumS recs ≤ area ∧ e = .returned (.int .i64 0) ∧ LogAt w' ok gd gl (anewD area (gen + 1) D recs) area (gen + 1) (sumS recs))) ∧ Fr ok logT w w' := by
  have HR := Aside0.mk hR
  have HL := Aside0.mk h
  have HF := Aside0.mk (Fr.refl ok logT w)
  have HFRO := Aside0.mk hfr
  have HGI := Aside0.mk hGD
  have HRR := Aside0.mk hr
  have HRL := Aside0.mk hrl
  clear h hR hfr hGD hr hrl
  obtain ⟨gen2, hgen2⟩ : ∃ gen2, gen + 1 = gen2 := ⟨_, rfl⟩
  rw [hgen2]
  rw [hgen2] at hg
  have hwg : IntKind.u32.wrap ((gen : Int) + 1) = (gen2 : Int) := by rw [u32_wrap]; omega
  have hwg2 : ((gen : Int) + 1) % 4294967296 = (gen2 : Int) := by omega
  have HG2 := Aside0.mk hg
  clear hg hgen2
  obtain ⟨ss, hss⟩ : ∃ ss, sumS recs = ss := ⟨_, rfl⟩
  have HSS := Aside0.mk hss
  rw [hss]
  have hsl : ss ≤ 100000 * 700 := by
    have : ∀ l : List (List Int), (∀ r, r ∈ l → r.length ≤ 65536) → sumS l ≤ l.length * 700 := by
      intro l
      induction l with
      | nil => intro _; exact Nat.zero_le _
      | cons x l ih =>
        intro hx
        have e : sumS (x :: l) = chN (4 + x.length) + sumS l := by unfold sumS; simp
        have h1 := hx x List.mem_cons_self
        have h2 := ih (fun r hr => hx r (List.mem_cons_of_mem _ hr))
        rw [e, List.length_cons, Nat.add_mul]
        unfold chN
        omega
    have h3 := this recs HRR.out
    have h4 := HRL.out
    rw [hss] at h3
    omega
  clear hss
  go_enter Tryd.func15, Tryd.ntmps15
  go_wp2
  go_loopg [5, 15] (recs.length + 1) (fun kq v5 v15 w2 => ∃ i : Nat, v15 = .int .i64 (i : Int) ∧ v5 = .int .i64 ((sumS (recs.take i) : Nat) : Int) ∧ Aside0 (i ≤ recs.length ∧ recs.length < kq + i) ∧ Aside0 (LogAt w2 ok gd gl D area gen used) ∧ Aside0 (Fr ok logT w w2))
  case atStart => exact ⟨0, rfl, rfl, ⟨by omega, by omega⟩, HL, HF⟩
  case round =>
    clear HL HF
    obtain ⟨i, rfl, rfl, HI, HL, HF⟩ := hrel
    by_cases hlt : i < recs.length
    · have e1 : decide ((i : Int) < (recs.length : Int)) = true := decide_eq_true (by omega)
      have e2 : decide (i < recs.length) = true := decide_eq_true hlt
      have e3 : (i : Int) < (recs.length : Int) := by omega
      have hlr := HRL.out
      have hw1 : IntKind.i64.wrap ((i : Int) + 1) = ((i + 1 : Nat) : Int) := by rw [IntKind.wrap_i64]; omega
      obtain ⟨ad, A1, c1, eA, hx, hl1, hC1⟩ := at_rows (HR.out _ HF.out) i hlt _ (List.getElem?_eq_getElem hlt)
      cases eA
      have hb := HRR.out _ (List.getElem_mem hlt)
      have hsn : sumS (recs.take (i + 1)) = sumS (recs.take i) + chN (4 + recs[i].length) := by rw [List.take_succ_eq_append_getElem hlt, sumS_snoc]
      have hst := sumS_take recs (i + 1)
      rw [HSS.out, hsn] at hst
      generalize recs[i] = r at *
      obtain ⟨q, hq⟩ : ∃ q, sumS (recs.take i) = q := ⟨_, rfl⟩
      rw [hq] at hsn hst ⊢
      have hw2 : IntKind.i64.wrap ((q : Int) + ((chN (4 + r.length) : Nat) : Int)) = ((sumS (recs.take (i + 1)) : Nat) : Int) := by rw [IntKind.wrap_i64, hsn]; omega
      have HLT := Aside0.mk hlt
      have HSZ := Aside0.mk (size_ A1 r.length c1 r wr hC1 hl1 (by omega))
      clear hlt hC1 hb hlr hst hsn hq
      go_wp2_with (go_at_call 26; (refine HSZ.out.mono ?_); rintro e w2 ⟨rfl, hd⟩; have n0 := Aside0.mk (HL.out.below hd.below); have n1 := Aside0.mk (HF.out.trans (Fr.of_below hd.below)); clear HL HF hd; have HL := n0; have HF := n1; clear n0 n1)
      go_roundg (gk - 1)
      case measure => have := HI.out; omega
      case rel => exact ⟨i + 1, by first | rfl | go_num, by first | rfl | go_num, ⟨by have := HLT.out; omega, by have := HI.out; omega⟩, HL, HF⟩
    · have e1 : decide ((i : Int) < (recs.length : Int)) = false := decide_eq_false (by omega)
      have e2 : decide (i < recs.length) = false := decide_eq_false hlt
      have e3 : ¬ (i : Int) < (recs.length : Int) := by omega
      obtain rfl : i = recs.length := by have := HI.out; omega
      rw [List.take_length, HSS.out]
      clear hlt HI
      have x1 := blk_cell HL.out.box 1
      have HCT := Aside0.mk (contains_ A recs.length c recs wr (HR.out _ HF.out) hc HRR.out)
      by_cases hfull : area < ss
      · have d1 : decide ((area : Int) < (ss : Int)) = true := decide_eq_true (by omega)
        have d2 : decide (area < ss) = true := decide_eq_true hfull
        have d3 : (area : Int) < (ss : Int) := by omega
        have HFU := Aside0.mk hfull
        clear hfull
        go_wp2_with (go_at_call 29; (refine HCT.out.mono ?_); rintro e wz ⟨rfl, hww⟩; subst hww)
        go_ret
        exact ⟨.inl ⟨HFU.out, rfl, HL.out⟩, HF.out⟩
      have d1 : decide ((area : Int) < (ss : Int)) = false := decide_eq_false (by omega)
      have d2 : decide (area < ss) = false := decide_eq_false hfull
      have d3 : ¬ (area : Int) < (ss : Int) := by omega
      have HFU := Aside0.mk (show ss ≤ area by omega)
      clear hfull
      have x2 := blk_cell HL.out.box 2
      have f2 := blk_frozen HL.out.box 2
      have f3 := blk_frozen HL.out.box 3
      go_upto_region 12 with (go_at_call 29; (refine HCT.out.mono ?_); rintro e wz ⟨rfl, hww⟩; subst hww)
      have n0 := Aside0.mk (HL.out.set_gen gen2).1
      have n1 := Aside0.mk (HF.out.trans (HL.out.set_gen gen2).2)
      clear HL HF x1 x2 f2 f3 d1 d2 d3 hwg hwg2 HCT
      have HL := n0
      have HF := n1
      clear n0 n1
      generalize wr.setCell ⟨gl, 2, none⟩ (.int .u32 (gen2 : Int)) = w1 at HL HF ⊢
      have f3 := blk_frozen HL.out.box 3
      have x3 := blk_cell HL.out.box 3
      go_upto_region 13 with (fail)
      have n0 := Aside0.mk (HL.out.set_used 0).1
      have n1 := Aside0.mk (HF.out.trans (HL.out.set_used 0).2)
      clear HL HF f3 x3
      have HL := n0
      have HF := n1
      clear n0 n1
      rw [show ((0 : Nat) : Int) = 0 from rfl] at HL HF
      generalize w1.setCell ⟨gl, 3, none⟩ (.int .i64 0) = w2 at HL HF ⊢
      have x1 := blk_cell HL.out.box 1
      go_upto_region 14 with (fail)
      clear x1
      go_loopg [52] (area + 1) (fun kq v52 w3 => ∃ i : Nat, v52 = .int .i64 (i : Int) ∧ Aside0 (i ≤ area ∧ area < kq + i) ∧ Aside0 (LogAt w3 ok gd gl (blanks area gen2 D i) area gen2 0) ∧ Aside0 (Fr ok logT w w3) ∧ Aside0 (Good nb (m + i) (blanks area gen2 D i)))
      case atStart => exact ⟨0, rfl, ⟨by omega, by omega⟩, HL, HF, HGI⟩
      case round =>
        clear HL HF
        obtain ⟨i, rfl, HI, HL, HF, HGD⟩ := hrel
        by_cases hlt : i < area
        · have e1 : decide ((i : Int) < (area : Int)) = true := decide_eq_true (by omega)
          have e2 : decide (i < area) = true := decide_eq_true hlt
          have e3 : (i : Int) < (area : Int) := by omega
          have hw1 : IntKind.i64.wrap ((i : Int) + 1) = ((i + 1 : Nat) : Int) := by rw [IntKind.wrap_i64]; omega
          have HLT := Aside0.mk hlt
          have hia : i ≤ 1000 := by omega
          have hmk := mk128
          have HGD2 := Aside0.mk (show Good nb (m + (i + 1)) (blanks area gen2 D (i + 1)) from good_write HGD.out _ _)
          obtain ⟨DD, hDD⟩ : ∃ DD, blanks area gen2 D i = DD := ⟨_, rfl⟩
          have HDN := Aside0.mk (show blanks area gen2 D (i + 1) = (DD.write ((atN area gen2 i : Nat) : Int) z128).2 by rw [← hDD]; rfl)
          rw [hDD] at HL HGD
          clear hDD hlt
          go_upto_region 16 with (fail)
          refine start_ (n := 13) (S := fun w' => w'.cell? ⟨gl, 0, none⟩ = some (.pointer (some ⟨gd, 0, none⟩)) ∧ w'.cell? ⟨gl, 2, none⟩ = some (.int .u32 (gen2 : Int))) (ds := []) #[false, false, false, false, false, false, false, false, false, false, false, false, false] (by kernel_rfl) rfl rfl ⟨blk_cell HL.out.box 0, blk_cell HL.out.box 2⟩ (fun hHeld => ?_)
          refine with_tabW anew16.tab anew16.bits (fun HT_ HW_ => ?_)
          have n0 := Aside0.mk (HL.out.below (below_drew (Below.refl _ _)))
          have n1 := Aside0.mk HF.out.drew
          clear HL HF
          have HL := n0
          have HF := n1
          clear n0 n1
          generalize wr.drew = w3 at HL HF hHeld ⊢
          rw [HDN.out] at HGD2
          refine pure_ (i := 0) (N := (some 55)) (v := ?_) (a' := ?_) #[true, false, false, false, false, false, false, false, false, false, false, false, false] rfl rfl (any_of HT_.out (by kernel_rfl)) (fun _ _ _ h => h) (Or.inl ⟨by rfl, ?_⟩) ?_ ?_
          rotate_left
          · intro w'
            go_simp
            with_reducible rfl
          rotate_left
          · simp only [Act.put, List.setIfInBounds_toArray, List.set_cons_zero, List.set_cons_succ, i64_w, i32_w]
            rfl
          refine pure_ (i := 1) (N := (some 56)) (v := ?_) (a' := ?_) #[true, true, false, false, false, false, false, false, false, false, false, false, false] rfl rfl (any_of HT_.out (by kernel_rfl)) (fun _ _ _ h => h) (Or.inl ⟨by rfl, ?_⟩) ?_ ?_
          rotate_left
          · intro w'
            go_simp
            with_reducible rfl
          rotate_left
          · simp only [Act.put, List.setIfInBounds_toArray, List.set_cons_zero, List.set_cons_succ, i64_w, i32_w]
            rfl
          refine pure_ (i := 2) (N := (some 57)) (v := ?_) (a' := ?_) #[true, true, true, false, false, false, false, false, false, false, false, false, false] rfl rfl (any_of HT_.out (by kernel_rfl)) (fun _ _ _ h => h) (Or.inl ⟨by rfl, ?_⟩) ?_ ?_
          rotate_left
          · intro w'
            go_simp
            with_reducible rfl
          rotate_left
          · simp only [Act.put, List.setIfInBounds_toArray, List.set_cons_zero, List.set_cons_succ, i64_w, i32_w]
            rfl
          refine pure_ (i := 4) (N := (some 59)) (v := ?_) (a' := ?_) #[true, true, true, false, true, false, false, false, false, false, false, false, false] rfl rfl (any_of HT_.out (by kernel_rfl)) (fun _ _ _ h => h) (Or.inl ⟨by rfl, ?_⟩) ?_ ?_
          rotate_left
          · intro w'
            go_simp
            with_reducible rfl
          rotate_left
          · simp only [Act.put, List.setIfInBounds_toArray, List.set_cons_zero, List.set_cons_succ, i64_w, i32_w]
            rfl
          refine pure_ (i := 5) (N := (some 60)) (v := ?_) (a' := ?_) #[true, true, true, false, true, true, false, false, false, false, false, false, false] rfl rfl (any_of HT_.out (by kernel_rfl)) (fun _ _ _ h => h) (Or.inl ⟨by rfl, ?_⟩) ?_ ?_
          rotate_left
          · intro w'
            go_simp
            with_reducible rfl
          rotate_left
          · simp only [Act.put, List.setIfInBounds_toArray, List.set_cons_zero, List.set_cons_succ, i64_w, i32_w]
            rfl
          refine pure_ (i := 6) (N := (some 61)) (v := ?_) (a' := ?_) #[true, true, true, false, true, true, true, false, false, false, false, false, false] rfl rfl (any_of HT_.out (by kernel_rfl)) (fun _ _ _ h => h) (Or.inl ⟨by rfl, ?_⟩) ?_ ?_
          rotate_left
          · intro w'
            go_simp
            with_reducible rfl
          rotate_left
          · simp only [Act.put, List.setIfInBounds_toArray, List.set_cons_zero, List.set_cons_succ, i64_w, i32_w]
            rfl
          refine pure_ (i := 7) (N := (some 62)) (v := ?_) (a' := ?_) #[true, true, true, false, true, true, true, true, false, false, false, false, false] rfl rfl (any_of HT_.out (by kernel_rfl)) (fun _ _ _ h => h) (Or.inl ⟨by rfl, ?_⟩) ?_ ?_
          rotate_left
          · intro w'
            go_simp
            with_reducible rfl
          rotate_left
          · simp only [Act.put, List.setIfInBounds_toArray, List.set_cons_zero, List.set_cons_succ, i64_w, i32_w]
            rfl
          refine pure_ (i := 9) (N := (some 64)) (v := ?_) (a' := ?_) #[true, true, true, false, true, true, true, true, false, true, false, false, false] rfl rfl (any_of HT_.out (by kernel_rfl)) (fun _ _ _ h => h) (Or.inl ⟨by rfl, ?_⟩) ?_ ?_
          rotate_left
          · intro w'
            go_simp
            with_reducible rfl
          rotate_left
          · simp only [Act.put, List.setIfInBounds_toArray, List.set_cons_zero, List.set_cons_succ, i64_w, i32_w]
            rfl
          refine take_ (i := 3) (N := (some 58)) (v := ?_) (a' := ?_) #[true, true, true, true, true, true, true, true, false, true, false, false, false] rfl rfl (take_ofW HT_.out HW_.out (by kernel_rfl)) (fun _ _ _ h => h) (Or.inl ⟨by rfl, ?_⟩) (by exact hHeld) ?_ ?_
          rotate_left
          · intro w' hw'
            go_simp
            with_reducible rfl
          rotate_left
          · simp only [Act.put, List.setIfInBounds_toArray, List.set_cons_zero, List.set_cons_succ, i64_w, i32_w]
            rfl
          refine take_ (i := 8) (N := (some 63)) (v := ?_) (a' := ?_) #[true, true, true, true, true, true, true, true, true, true, false, false, false] rfl rfl (take_ofW HT_.out HW_.out (by kernel_rfl)) (fun _ _ _ h => h) (Or.inl ⟨by rfl, ?_⟩) (by exact hHeld) ?_ ?_
          rotate_left
          · intro w' hw'
            go_simp
            with_reducible rfl
          rotate_left
          · simp only [Act.put, List.setIfInBounds_toArray, List.set_cons_zero, List.set_cons_succ, i64_w, i32_w]
            rfl
          refine two_ (i := 10) (j := 11) (Ni := (some 65)) (Nj := (some 66)) #[true, true, true, true, true, true, true, true, true, true, true, false, false] #[true, true, true, true, true, true, true, true, true, true, false, true, false] rfl rfl rfl rfl (two_of HT_.out (by kernel_rfl)) (by decide) (by decide) (fun Kq hKq => ?_) (fun Kq hKq => ?_)
          · skip
            refine call_ (f := 32) (args := #[.pointer (some ⟨gl, 0, none⟩), .int .u32 (gen2 : Int), .int .i64 (i : Int)]) (by rfl) rfl (by go_simp) ?_
            refine (At w3 gl gd area gen2 0 gen2 i HL.out.box ha (by have := HLT.out; omega) (by have := HG2.out; omega)).mono ?_
            rintro e w4 ⟨rfl, hww⟩
            subst hww
            refine ⟨_, rfl, ?_⟩
            refine hKq.out _ _ ⟨blk_cell HL.out.box 0, blk_cell HL.out.box 2⟩ (fun hHeld => ?_)
            clear hKq Kq
            refine norm_ (a' := ?_) ?_ ?_
            rotate_left
            · show Act.put _ (some 65) _ = _
              simp only [Act.put, List.setIfInBounds_toArray, List.set_cons_zero, List.set_cons_succ, i64_w, i32_w]
              rfl
            refine one_ (i := 11) (N := (some 66)) #[true, true, true, true, true, true, true, true, true, true, true, true, false] rfl rfl (one_of HT_.out (by kernel_rfl)) (by decide) (fun Kq hKq => ?_)
            refine event_step (v := .slice (some ⟨w3.heap.size, 0, none⟩) 128 128) (w1 := w3.alloc (.cells (nums .u8 z128).toArray 5)) (by rfl) (by first | (go_simp; done) | (go_simp; rfl)) ?_
            have hal := below_alloc (Below.refl w3.heap.size w3) (.cells (nums .u8 z128).toArray 5)
            have HZ := Aside0.mk (blk_zero w3)
            have n0 := Aside0.mk (HL.out.below hal)
            have n1 := Aside0.mk (HF.out.trans (Fr.of_below hal))
            clear HL HF hal
            have HL := n0
            have HF := n1
            clear n0 n1
            generalize w3.alloc (.cells (nums .u8 z128).toArray 5) = w5 at HL HF HZ ⊢
            generalize w3.heap.size = zb at HZ ⊢
            refine hKq.out _ _ ⟨blk_cell HL.out.box 0, blk_cell HL.out.box 2⟩ (fun hHeld => ?_)
            clear hKq Kq
            refine norm_ (a' := ?_) ?_ ?_
            rotate_left
            · show Act.put _ (some 66) _ = _
              simp only [Act.put, List.setIfInBounds_toArray, List.set_cons_zero, List.set_cons_succ, i64_w, i32_w]
              rfl
            refine one_ (i := 12) (N := (some 67)) #[true, true, true, true, true, true, true, true, true, true, true, true, true] rfl rfl (one_of HT_.out (by kernel_rfl)) (by decide) (fun Kq hKq => ?_)
            refine call_ (f := 31) (args := #[.pointer (some ⟨gd, 0, none⟩), .int .i64 ((atN area gen2 i : Nat) : Int), .slice (some ⟨zb, 0, none⟩) 128 128]) (by rfl) rfl (by go_simp) ?_
            refine (Write ok gd DD ((atN area gen2 i : Nat) : Int) (some ⟨zb, 0, none⟩) 128 128 z128 _ HL.out.dev (fun k hk => HFRO.out k (Nat.le_trans HF.out.size hk)) (by have := HGD.out.seen; omega) (by have := HGD.out.later; omega) ⟨by have := HGD.out.l0; omega, HGD.out.l1⟩ ⟨HGD.out.w0, by have := HGD.out.w1; omega⟩ (fun w' hf => rowC (HZ.out.fr hf (by decide))) (Nat.le_refl _)).mono ?_
            rintro e w6 ⟨rfl, hd, hf⟩
            refine ⟨_, rfl, ?_⟩
            have n0 := Aside0.mk (HL.out.step_dev hd hf)
            have n1 := Aside0.mk (HF.out.trans (frL hf))
            clear HL HF hd hf HZ
            have HL := n0
            have HF := n1
            clear n0 n1
            refine hKq.out _ _ ⟨blk_cell HL.out.box 0, blk_cell HL.out.box 2⟩ (fun hHeld => ?_)
            clear hKq Kq
            refine norm_ (a' := ?_) ?_ ?_
            rotate_left
            · show Act.put _ (some 67) _ = _
              simp only [Act.put, List.setIfInBounds_toArray, List.set_cons_zero, List.set_cons_succ, i64_w, i32_w]
              rfl
            refine done_ (done_of HT_.out (by kernel_rfl)) ?_
            go_wp2
            go_roundg (gk - 1)
            case measure => have := HI.out; omega
            case rel => exact ⟨i + 1, by first | rfl | go_num, ⟨by have := HLT.out; omega, by have := HI.out; omega⟩, ⟨by rw [HDN.out]; exact HL.out⟩, HF, ⟨by rw [HDN.out]; exact HGD2.out⟩⟩
          · skip
            refine event_step (v := .slice (some ⟨w3.heap.size, 0, none⟩) 128 128) (w1 := w3.alloc (.cells (nums .u8 z128).toArray 5)) (by rfl) (by first | (go_simp; done) | (go_simp; rfl)) ?_
            have hal := below_alloc (Below.refl w3.heap.size w3) (.cells (nums .u8 z128).toArray 5)
            have HZ := Aside0.mk (blk_zero w3)
            have n0 := Aside0.mk (HL.out.below hal)
            have n1 := Aside0.mk (HF.out.trans (Fr.of_below hal))
            clear HL HF hal
            have HL := n0
            have HF := n1
            clear n0 n1
            generalize w3.alloc (.cells (nums .u8 z128).toArray 5) = w5 at HL HF HZ ⊢
            generalize w3.heap.size = zb at HZ ⊢
            refine hKq.out _ _ ⟨blk_cell HL.out.box 0, blk_cell HL.out.box 2⟩ (fun hHeld => ?_)
            clear hKq Kq
            refine norm_ (a' := ?_) ?_ ?_
            rotate_left
            · show Act.put _ (some 66) _ = _
              simp only [Act.put, List.setIfInBounds_toArray, List.set_cons_zero, List.set_cons_succ, i64_w, i32_w]
              rfl
            refine one_ (i := 10) (N := (some 65)) #[true, true, true, true, true, true, true, true, true, true, true, true, false] rfl rfl (one_of HT_.out (by kernel_rfl)) (by decide) (fun Kq hKq => ?_)
            refine call_ (f := 32) (args := #[.pointer (some ⟨gl, 0, none⟩), .int .u32 (gen2 : Int), .int .i64 (i : Int)]) (by rfl) rfl (by go_simp) ?_
            refine (At w5 gl gd area gen2 0 gen2 i HL.out.box ha (by have := HLT.out; omega) (by have := HG2.out; omega)).mono ?_
            rintro e w4 ⟨rfl, hww⟩
            subst hww
            refine ⟨_, rfl, ?_⟩
            refine hKq.out _ _ ⟨blk_cell HL.out.box 0, blk_cell HL.out.box 2⟩ (fun hHeld => ?_)
            clear hKq Kq
            refine norm_ (a' := ?_) ?_ ?_
            rotate_left
            · show Act.put _ (some 65) _ = _
              simp only [Act.put, List.setIfInBounds_toArray, List.set_cons_zero, List.set_cons_succ, i64_w, i32_w]
              rfl
            refine one_ (i := 12) (N := (some 67)) #[true, true, true, true, true, true, true, true, true, true, true, true, true] rfl rfl (one_of HT_.out (by kernel_rfl)) (by decide) (fun Kq hKq => ?_)
            refine call_ (f := 31) (args := #[.pointer (some ⟨gd, 0, none⟩), .int .i64 ((atN area gen2 i : Nat) : Int), .slice (some ⟨zb, 0, none⟩) 128 128]) (by rfl) rfl (by go_simp) ?_
            refine (Write ok gd DD ((atN area gen2 i : Nat) : Int) (some ⟨zb, 0, none⟩) 128 128 z128 _ HL.out.dev (fun k hk => HFRO.out k (Nat.le_trans HF.out.size hk)) (by have := HGD.out.seen; omega) (by have := HGD.out.later; omega) ⟨by have := HGD.out.l0; omega, HGD.out.l1⟩ ⟨HGD.out.w0, by have := HGD.out.w1; omega⟩ (fun w' hf => rowC (HZ.out.fr hf (by decide))) (Nat.le_refl _)).mono ?_
            rintro e w6 ⟨rfl, hd, hf⟩
            refine ⟨_, rfl, ?_⟩
            have n0 := Aside0.mk (HL.out.step_dev hd hf)
            have n1 := Aside0.mk (HF.out.trans (frL hf))
            clear HL HF hd hf HZ
            have HL := n0
            have HF := n1
            clear n0 n1
            refine hKq.out _ _ ⟨blk_cell HL.out.box 0, blk_cell HL.out.box 2⟩ (fun hHeld => ?_)
            clear hKq Kq
            refine norm_ (a' := ?_) ?_ ?_
            rotate_left
            · show Act.put _ (some 67) _ = _
              simp only [Act.put, List.setIfInBounds_toArray, List.set_cons_zero, List.set_cons_succ, i64_w, i32_w]
              rfl
            refine done_ (done_of HT_.out (by kernel_rfl)) ?_
            go_wp2
            go_roundg (gk - 1)
            case measure => have := HI.out; omega
            case rel => exact ⟨i + 1, by first | rfl | go_num, ⟨by have := HLT.out; omega, by have := HI.out; omega⟩, ⟨by rw [HDN.out]; exact HL.out⟩, HF, ⟨by rw [HDN.out]; exact HGD2.out⟩⟩
        · have e1 : decide ((i : Int) < (area : Int)) = false := decide_eq_false (by omega)
          have e2 : decide (i < area) = false := decide_eq_false hlt
          have e3 : ¬ (i : Int) < (area : Int) := by omega
          obtain rfl : area = i := by have := HI.out; omega
          clear hlt HI
          have x0 := blk_cell HL.out.box 0
          go_upto_region 20 with (go_at_call 28; (refine (Flush ok gd (blanks area gen2 D area) _ HL.out.dev (fun k hk => HFRO.out k (Nat.le_trans HF.out.size hk)) (by have := HGD.out.seen; omega)).mono ?_); rintro e w4 ⟨rfl, hd, hf⟩; have n0 := Aside0.mk (HL.out.step_dev hd hf); have n1 := Aside0.mk (HF.out.trans (frL hf)); clear HL HF hd hf x0; have HL := n0; have HF := n1; clear n0 n1)
          have n0 := Aside0.mk (good_flush HGD.out)
          clear HGD
          have HGD := n0
          clear n0
          obtain ⟨D1, hD1⟩ : ∃ D1, (blanks area gen2 D area).flush = D1 := ⟨_, rfl⟩
          have HAN := Aside0.mk (show anewD area gen2 D recs = ((putAll area gen2 0 D1 recs).flush.write ((gen2 % 2 : Nat) : Int) (putT gen2 mark [])).2.flush by unfold anewD; rw [hD1])
          rw [hD1] at HL HGD
          clear hD1
          go_loopg [76] (recs.length + 1) (fun kq v76 w3 => ∃ j : Nat, v76 = .int .i64 (j : Int) ∧ Aside0 (j ≤ recs.length ∧ recs.length < kq + j) ∧ Aside0 (LogAt w3 ok gd gl (putAll area gen2 0 D1 (recs.take j)) area gen2 (sumS (recs.take j))) ∧ Aside0 (Fr ok logT w w3))
          case atStart => exact ⟨0, rfl, ⟨by omega, by omega⟩, HL, HF⟩
          case round =>
            clear HL HF
            obtain ⟨j, rfl, HJ, HL, HF⟩ := hrel
            by_cases hlt : j < recs.length
            · have e1 : decide ((j : Int) < (recs.length : Int)) = true := decide_eq_true (by omega)
              have e2 : decide (j < recs.length) = true := decide_eq_true hlt
              have e3 : (j : Int) < (recs.length : Int) := by omega
              have hlr := HRL.out
              have hw1 : IntKind.i64.wrap ((j : Int) + 1) = ((j + 1 : Nat) : Int) := by rw [IntKind.wrap_i64]; omega
              obtain ⟨ad, A1, c1, eA, hx, hl1, hC1⟩ := at_rows (HR.out _ HF.out) j hlt _ (List.getElem?_eq_getElem hlt)
              cases eA
              have hb := HRR.out _ (List.getElem_mem hlt)
              have HSN := Aside0.mk (show sumS (recs.take (j + 1)) = sumS (recs.take j) + chN (4 + recs[j].length) ∧ putAll area gen2 0 D1 (recs.take (j + 1)) = putD area gen2 (sumS (recs.take j)) (putAll area gen2 0 D1 (recs.take j)) recs[j] by
                rw [List.take_succ_eq_append_getElem hlt, sumS_snoc, putAll_snoc, Nat.zero_add]
                exact ⟨rfl, rfl⟩)
              have hst := sumS_take recs (j + 1)
              have hst2 := sumS_take recs j
              rw [HSS.out] at hst hst2
              have hgp := good_putAll area gen2 (recs.take j) 0 D1 HGD.out
              have hfu := HFU.out
              generalize recs[j] = r at *
              have HLT := Aside0.mk hlt
              have HPT := Aside0.mk (put_ nb (m + area + sumS (recs.take j)) ok gd gl _ area gen2 (sumS (recs.take j)) A1 r.length c1 r wr HL.out (fun k hk => HFRO.out k (Nat.le_trans HF.out.size hk)) ha (by have := HG2.out; omega) (by omega) hnb (by omega) hgp hC1 hl1 hb)
              clear hlt hC1 hb hlr hst hst2 hgp hfu
              go_wp2_with (go_at_call 27; (refine HPT.out.mono ?_); rintro e w5 ⟨rfl, hl, hf⟩; have n0 := Aside0.mk hl; have n1 := Aside0.mk (HF.out.trans hf); clear HL HF hl hf HPT; have HL := n0; have HF := n1; clear n0 n1)
              go_roundg (gk - 1)
              case measure => have := HJ.out; omega
              case rel => exact ⟨j + 1, by first | rfl | go_num, ⟨by have := HLT.out; omega, by have := HJ.out; omega⟩, ⟨by rw [HSN.out.1, HSN.out.2]; exact HL.out⟩, HF⟩
            · have e1 : decide ((j : Int) < (recs.length : Int)) = false := decide_eq_false (by omega)
              have e2 : decide (j < recs.length) = false := decide_eq_false hlt
              have e3 : ¬ (j : Int) < (recs.length : Int) := by omega
              obtain rfl : j = recs.length := by have := HJ.out; omega
              rw [List.take_length, HSS.out] at HL
              have hgp := good_putAll area gen2 recs 0 D1 HGD.out
              rw [HSS.out] at hgp
              have HGP := Aside0.mk (good_flush hgp)
              have hfu := HFU.out
              have HGB := Aside0.mk (show m + area + ss ≤ 802000 by omega)
              clear hlt HJ hgp hfu
              generalize putAll area gen2 0 D1 recs = D2 at *
              have HSL := Aside0.mk (show D2.seen.length ≤ 1000000 by have := HGP.out.seen; rw [flush_seen] at this; omega)
              have x0 := blk_cell HL.out.box 0
              have x2 := blk_cell HL.out.box 2
              go_upto_region 26 with (first | (go_at_call 28; (refine (Flush ok gd D2 _ HL.out.dev (fun k hk => HFRO.out k (Nat.le_trans HF.out.size hk)) HSL.out).mono ?_); rintro e w4 ⟨rfl, hd, hf⟩; have n0 := Aside0.mk (HL.out.step_dev hd hf); have n1 := Aside0.mk (HF.out.trans (frL hf)); clear HL HF hd hf x0 x2; have HL := n0; have HF := n1; clear n0 n1; have x0 := blk_cell HL.out.box 0; have x2 := blk_cell HL.out.box 2) | (go_at_call 33; (refine (tagPut gen2 mark none 0 0 [] _ (Kd.C_nil _ _) (Nat.le_refl _) (by decide)).mono ?_); rintro e w5 ⟨Ab, cb, rfl, hcb, hR, hb⟩; have HRB := Aside0.mk hR; have HCB := Aside0.mk hcb; have n0 := Aside0.mk (HL.out.below hb); have n1 := Aside0.mk (HF.out.trans (Fr.of_below hb)); clear HL HF hb hR hcb x0 x2; have HL := n0; have HF := n1; clear n0 n1))
              obtain ⟨D3, hD3⟩ : ∃ D3, D2.flush = D3 := ⟨_, rfl⟩
              rw [hD3] at HL HGP HAN
              clear hD3
              obtain ⟨g2, hg2⟩ : ∃ g2, gen2 % 2 = g2 := ⟨_, rfl⟩
              have hr : (gen2 : Int).tmod 2 = (g2 : Int) := by rw [← hg2]; rfl
              have wv1 : IntKind.u32.wrap (g2 : Int) = (g2 : Int) := by rw [u32_wrap]; omega
              have wv1' : (g2 : Int) % 4294967296 = (g2 : Int) := by omega
              have wv2 : IntKind.i64.wrap (g2 : Int) = (g2 : Int) := by rw [IntKind.wrap_i64]; omega
              rw [hg2] at HAN
              clear hg2
              refine start_ (n := 12) (S := fun w' => w'.cell? ⟨gl, 0, none⟩ = some (.pointer (some ⟨gd, 0, none⟩)) ∧ w'.cell? ⟨gl, 2, none⟩ = some (.int .u32 (gen2 : Int))) (ds := []) #[false, false, false, false, false, false, false, false, false, false, false, false] (by kernel_rfl) rfl rfl ⟨blk_cell HL.out.box 0, blk_cell HL.out.box 2⟩ (fun hHeld => ?_)
              refine with_tabW anew26.tab anew26.bits (fun HT_ HW_ => ?_)
              have n0 := Aside0.mk (HL.out.below (below_drew (Below.refl _ _)))
              have n1 := Aside0.mk HF.out.drew
              have n2 := Aside0.mk (Kd.R_drew HRB.out)
              clear HL HF HRB
              have HL := n0
              have HF := n1
              have HRB := n2
              clear n0 n1 n2
              generalize w5.drew = w6 at HL HF HRB hHeld ⊢
              refine pure_ (i := 0) (N := (some 97)) (v := ?_) (a' := ?_) #[true, false, false, false, false, false, false, false, false, false, false, false] rfl rfl (any_of HT_.out (by kernel_rfl)) (fun _ _ _ h => h) (Or.inl ⟨by rfl, ?_⟩) ?_ ?_
              rotate_left
              · intro w'
                go_simp
                with_reducible rfl
              rotate_left
              · simp only [Act.put, List.setIfInBounds_toArray, List.set_cons_zero, List.set_cons_succ, i64_w, i32_w]
                rfl
              refine pure_ (i := 1) (N := (some 98)) (v := ?_) (a' := ?_) #[true, true, false, false, false, false, false, false, false, false, false, false] rfl rfl (any_of HT_.out (by kernel_rfl)) (fun _ _ _ h => h) (Or.inl ⟨by rfl, ?_⟩) ?_ ?_
              rotate_left
              · intro w'
                go_simp
                with_reducible rfl
              rotate_left
              · simp only [Act.put, List.setIfInBounds_toArray, List.set_cons_zero, List.set_cons_succ, i64_w, i32_w]
                rfl
              refine pure_ (i := 2) (N := (some 99)) (v := ?_) (a' := ?_) #[true, true, true, false, false, false, false, false, false, false, false, false] rfl rfl (any_of HT_.out (by kernel_rfl)) (fun _ _ _ h => h) (Or.inl ⟨by rfl, ?_⟩) ?_ ?_
              rotate_left
              · intro w'
                go_simp
                with_reducible rfl
              rotate_left
              · simp only [Act.put, List.setIfInBounds_toArray, List.set_cons_zero, List.set_cons_succ, i64_w, i32_w]
                rfl
              refine pure_ (i := 4) (N := (some 101)) (v := ?_) (a' := ?_) #[true, true, true, false, true, false, false, false, false, false, false, false] rfl rfl (any_of HT_.out (by kernel_rfl)) (fun _ _ _ h => h) (Or.inl ⟨by rfl, ?_⟩) ?_ ?_
              rotate_left
              · intro w'
                go_simp
                with_reducible rfl
              rotate_left
              · simp only [Act.put, List.setIfInBounds_toArray, List.set_cons_zero, List.set_cons_succ, i64_w, i32_w]
                rfl
              refine pure_ (i := 5) (N := (some 102)) (v := ?_) (a' := ?_) #[true, true, true, false, true, true, false, false, false, false, false, false] rfl rfl (any_of HT_.out (by kernel_rfl)) (fun _ _ _ h => h) (Or.inl ⟨by rfl, ?_⟩) ?_ ?_
              rotate_left
              · intro w'
                go_simp
                with_reducible rfl
              rotate_left
              · simp only [Act.put, List.setIfInBounds_toArray, List.set_cons_zero, List.set_cons_succ, i64_w, i32_w]
                rfl
              refine pure_ (i := 6) (N := (some 103)) (v := ?_) (a' := ?_) #[true, true, true, false, true, true, true, false, false, false, false, false] rfl rfl (any_of HT_.out (by kernel_rfl)) (fun _ _ _ h => h) (Or.inl ⟨by rfl, ?_⟩) ?_ ?_
              rotate_left
              · intro w'
                go_simp
                with_reducible rfl
              rotate_left
              · simp only [Act.put, List.setIfInBounds_toArray, List.set_cons_zero, List.set_cons_succ, i64_w, i32_w]
                rfl
              refine pure_ (i := 10) (N := (some 107)) (v := ?_) (a' := ?_) #[true, true, true, false, true, true, true, false, false, false, true, false] rfl rfl (any_of HT_.out (by kernel_rfl)) (fun _ _ _ h => h) (Or.inl ⟨by rfl, ?_⟩) ?_ ?_
              rotate_left
              · intro w'
                go_simp
                with_reducible rfl
              rotate_left
              · simp only [Act.put, List.setIfInBounds_toArray, List.set_cons_zero, List.set_cons_succ, i64_w, i32_w]
                rfl
              refine take_ (i := 3) (N := (some 100)) (v := ?_) (a' := ?_) #[true, true, true, true, true, true, true, false, false, false, true, false] rfl rfl (take_ofW HT_.out HW_.out (by kernel_rfl)) (fun _ _ _ h => h) (Or.inl ⟨by rfl, ?_⟩) (by exact hHeld) ?_ ?_
              rotate_left
              · intro w' hw'
                go_simp
                with_reducible rfl
              rotate_left
              · simp only [Act.put, List.setIfInBounds_toArray, List.set_cons_zero, List.set_cons_succ, i64_w, i32_w]
                rfl
              refine take_ (i := 7) (N := (some 104)) (v := ?_) (a' := ?_) #[true, true, true, true, true, true, true, true, false, false, true, false] rfl rfl (take_ofW HT_.out HW_.out (by kernel_rfl)) (fun _ _ _ h => h) (Or.inl ⟨by rfl, ?_⟩) (by exact hHeld) ?_ ?_
              rotate_left
              · intro w' hw'
                go_simp
                with_reducible rfl
              rotate_left
              · simp only [Act.put, List.setIfInBounds_toArray, List.set_cons_zero, List.set_cons_succ, i64_w, i32_w]
                rfl
              refine pure_ (i := 8) (N := (some 105)) (v := ?_) (a' := ?_) #[true, true, true, true, true, true, true, true, true, false, true, false] rfl rfl (any_of HT_.out (by kernel_rfl)) (fun _ _ _ h => h) (Or.inl ⟨by rfl, ?_⟩) ?_ ?_
              rotate_left
              · intro w'
                go_simp
                with_reducible rfl
              rotate_left
              · simp only [Act.put, List.setIfInBounds_toArray, List.set_cons_zero, List.set_cons_succ, i64_w, i32_w]
                rfl
              refine pure_ (i := 9) (N := (some 106)) (v := ?_) (a' := ?_) #[true, true, true, true, true, true, true, true, true, true, true, false] rfl rfl (any_of HT_.out (by kernel_rfl)) (fun _ _ _ h => h) (Or.inl ⟨by rfl, ?_⟩) ?_ ?_
              rotate_left
              · intro w'
                go_simp
                with_reducible rfl
              rotate_left
              · simp only [Act.put, List.setIfInBounds_toArray, List.set_cons_zero, List.set_cons_succ, i64_w, i32_w]
                rfl
              refine one_ (i := 11) (N := (some 108)) #[true, true, true, true, true, true, true, true, true, true, true, true] rfl rfl (one_of HT_.out (by kernel_rfl)) (by decide) (fun Kq hKq => ?_)
              refine call_ (f := 31) (args := #[.pointer (some ⟨gd, 0, none⟩), .int .i64 (g2 : Int), .slice Ab 128 cb]) (by rfl) rfl (by go_simp) ?_
              refine (Write ok gd D3 (g2 : Int) Ab 128 cb (putT gen2 mark []) _ HL.out.dev (fun k hk => HFRO.out k (Nat.le_trans HF.out.size hk)) (by have := HGP.out.seen; omega) (by have := HGP.out.later; have := HGB.out; omega) ⟨by have := HGP.out.l0; omega, HGP.out.l1⟩ ⟨HGP.out.w0, by have := HGP.out.w1; have := HGB.out; omega⟩ (fun w' hf => rowC (row_fr HRB.out hf (by decide))) HCB.out).mono ?_
              rintro e w7 ⟨rfl, hd, hf⟩
              refine ⟨_, rfl, ?_⟩
              have n0 := Aside0.mk (HL.out.step_dev hd hf)
              have n1 := Aside0.mk (HF.out.trans (frL hf))
              clear HL HF hd hf HRB
              have HL := n0
              have HF := n1
              clear n0 n1
              refine hKq.out _ _ ⟨blk_cell HL.out.box 0, blk_cell HL.out.box 2⟩ (fun hHeld => ?_)
              clear hKq Kq
              refine norm_ (a' := ?_) ?_ ?_
              rotate_left
              · show Act.put _ (some 108) _ = _
                simp only [Act.put, List.setIfInBounds_toArray, List.set_cons_zero, List.set_cons_succ, i64_w, i32_w]
                rfl
              refine done_ (done_of HT_.out (by kernel_rfl)) ?_
              have HGW := Aside0.mk (good_write HGP.out (g2 : Int) (putT gen2 mark []))
              generalize (D3.write (g2 : Int) (putT gen2 mark [])).2 = D4 at *
              have x0 := blk_cell HL.out.box 0
              go_wp2_with (go_at_call 28; (refine (Flush ok gd D4 _ HL.out.dev (fun k hk => HFRO.out k (Nat.le_trans HF.out.size hk)) (by have := HGW.out.seen; omega)).mono ?_); rintro e w8 ⟨rfl, hd, hf⟩; have n0 := Aside0.mk (HL.out.step_dev hd hf); have n1 := Aside0.mk (HF.out.trans (frL hf)); clear HL HF hd hf x0; have HL := n0; have HF := n1; clear n0 n1)
              go_ret
              exact ⟨.inr ⟨HFU.out, rfl, by rw [HAN.out]; exact HL.out⟩, HF.out⟩
end Go.Proofs.YtokmildjniploaaDoor.PLog
