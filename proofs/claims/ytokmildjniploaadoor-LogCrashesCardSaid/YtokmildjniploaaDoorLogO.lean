/- log: what record reads. Conditions: none. -/
import Derived.Test.YtokmildjniploaaDoorLogQ
namespace Go.Proofs.YtokmildjniploaaDoor.PLog
open Go.RowKit Go.Proofs.YtokmildjniploaaDoorW.PrintWords Go.Proofs.YtokmildjniploaaDoorW.PrintLast Go.Proofs.YtokmildjniploaaDoorW.PrintMore Go.Proofs.YtokmildjniploaaDoor.BGLog
open Go.Extern.Stop Go.Stop Go.Extern
attribute [local go_sem] max2_int min2_int max_two min_two   -- for this text's walks alone
set_option linter.unusedVariables false
set_option linter.unusedSimpArgs false
/-- Blocks of bytes lie as they lay. -/
def KeepU (W W' : World) : Prop := ∀ (k : Nat) (cs : Array Value), W.heap[k]? = some (Obj.cells cs 5 (0, 0)) → W'.heap[k]? = W.heap[k]?
theorem KeepU.refl (W : World) : KeepU W W := fun _ _ _ => rfl
theorem KeepU.trans {A B C : World} (h : KeepU A B) (k : KeepU B C) : KeepU A C := fun i cs hc => (k i cs ((h i cs hc).trans hc)).trans (h i cs hc)
theorem keepU_below {A B : World} (h : Below A.heap.size A B) : KeepU A B := fun i cs hc => h.block i (heap_lt' hc)
theorem keepU_fr {A B : World} {ok : Nat → Prop} (h : Fr ok logT A B) : KeepU A B := fun i cs hc => h.typed i cs _ _ hc (by decide)
/-- A row of bytes that is only read. -/
def RowK (W : World) (A : Option Addr) (n : Nat) (r : List Int) : Prop := ∀ W', KeepU W W' → Kd.C (Kd.int .u8) W' A n r
theorem RowK.move {W W1 : World} {A : Option Addr} {n : Nat} {r : List Int} (h : RowK W A n r) (k : KeepU W W1) : RowK W1 A n r := fun W' k2 => h W' (k.trans k2)
theorem RowK.C {W : World} {A : Option Addr} {n : Nat} {r : List Int} (h : RowK W A n r) : Kd.C (Kd.int .u8) W A n r := h W (KeepU.refl W)
theorem R_keepU {W W1 : World} {B : Nat} {ok : Nat → Prop} {v : Value} {l : List Int} (h : Kd.R (Kd.int .u8) 5 W B ok v l) (k : KeepU W W1) : Kd.R (Kd.int .u8) 5 W1 B ok v l :=
  Kd.R_mono (Kd.R_move (Kd.R_bound h) (fun i hi => by
    obtain ⟨q, hq, cs, hc⟩ := hi.2.2.2
    have e : (Kd.int .u8).E = [] := rfl
    rw [e, List.mem_singleton] at hq
    subst hq
    exact k i cs hc)) (fun _ hi => hi.1)
theorem R_rowK {W : World} {B : Nat} {ok : Nat → Prop} {A : Option Addr} {n c : Nat} {l : List Int} (h : Kd.R (Kd.int .u8) 5 W B ok (.slice A n c) l) : RowK W A n l := fun W' k => rowC (R_keepU h k)
/-! ### The plain record -/
def recGo (D : Dat) (area gen used : Nat) : Nat → Nat → List Int → Nat → Option (List Int)
  | 0, _, _, _ => none
  | f + 1, k, text, long =>
    if long ≤ text.length then some (text.drop 4)
    else if area ≤ used + k then none
    else if (takeT gen ((used + k : Nat) : Int) (rowAt D (atN area gen (used + k) : Nat))).2 = false then none
    else if (text ++ (takeT gen ((used + k : Nat) : Int) (rowAt D (atN area gen (used + k) : Nat))).1).length < 4 then none
    else if 65536 < numS (text ++ (takeT gen ((used + k : Nat) : Int) (rowAt D (atN area gen (used + k) : Nat))).1) then none
    else if (text ++ (takeT gen ((used + k : Nat) : Int) (rowAt D (atN area gen (used + k) : Nat))).1).length ≠ min ((k + 1) * 110) (4 + numS (text ++ (takeT gen ((used + k : Nat) : Int) (rowAt D (atN area gen (used + k) : Nat))).1)) then none
    else recGo D area gen used f (k + 1) (text ++ (takeT gen ((used + k : Nat) : Int) (rowAt D (atN area gen (used + k) : Nat))).1) (4 + numS (text ++ (takeT gen ((used + k : Nat) : Int) (rowAt D (atN area gen (used + k) : Nat))).1))
def recordS (D : Dat) (area gen used : Nat) : Option (List Int) := recGo D area gen used (area + 2) 0 [] 4
theorem recGo_some (D : Dat) (area gen used : Nat) (hu : used ≤ area) (rec : List Int) : ∀ (f k : Nat) (text : List Int) (long : Nat), 4 ≤ long → long ≤ 65540 → text.length ≤ k * 110 → text.length ≤ long → used + k ≤ area → recGo D area gen used f k text long = some rec → used + chN (4 + rec.length) ≤ area ∧ rec.length ≤ 65536 := by
  intro f
  induction f with
  | zero => intro k text long _ _ _ _ _ h; cases h
  | succ f ih =>
    intro k text long h1 h2 h3 h3b h4 h
    unfold recGo at h
    split at h
    · rename_i hc
      obtain rfl := Option.some.inj h
      rw [List.length_drop]
      unfold chN
      omega
    · split at h
      · cases h
      · split at h
        · cases h
        · split at h
          · cases h
          · split at h
            · cases h
            · split at h
              · cases h
              · rename_i _ ha _ _ hn hm
                generalize (text ++ (takeT gen ((used + k : Nat) : Int) (rowAt D (atN area gen (used + k) : Nat))).1) = t2 at *
                have hm2 : t2.length = min ((k + 1) * 110) (4 + numS t2) := Classical.not_not.1 hm
                exact ih (k + 1) t2 (4 + numS t2) (by omega) (by omega) (by omega) (by omega) (by omega) h
theorem recordS_some {D : Dat} {area gen used : Nat} (hu : used ≤ area) {rec : List Int} (h : recordS D area gen used = some rec) : used + chN (4 + rec.length) ≤ area ∧ rec.length ≤ 65536 :=
  recGo_some D area gen used hu rec (area + 2) 0 [] 4 (by decide) (by decide) (by simp) (by simp) hu h
theorem takeT_len (g s : Int) (b : List Int) (hb : wfb b) : (takeT g s b).1.length ≤ 110 := by
  unfold BGLog.takeT
  split
  · rename_i h
    have := ld_len b hb h.1 h.2.1
    have := h.2.1
    show (ld b).length ≤ 110
    omega
  · exact Nat.zero_le _
theorem takeT_wf (g s : Int) (b : List Int) (hb : wfb b) : wfb (takeT g s b).1 := by
  unfold BGLog.takeT
  split
  · exact ld_wf b hb
  · exact wfb_nil
theorem errT2 (GA : Nat → Addr) : errW GA (some 2) = .iface 80 (.agg #[.string (⟨#[97, 32, 98, 108, 111, 99, 107]⟩ : ByteArray), .iface 108 (.pointer (some (GA 0)))]) := rfl
theorem errT3 (GA : Nat → Addr) : errW GA (some 3) = .iface 80 (.agg #[.string (⟨#[116, 104, 101, 32, 108, 101, 110, 103, 116, 104]⟩ : ByteArray), .iface 108 (.pointer (some (GA 0)))]) := rfl
theorem errT2' (GA : Nat → Addr) : (Value.iface 80 (.agg #[.string (⟨#[97, 32, 98, 108, 111, 99, 107]⟩ : ByteArray), .iface 108 (.pointer (some (GA 0)))])) = errW GA (some 2) := rfl
/-- What record hands back. -/
def RecPost (GA : Nat → Addr) (ok : Nat → Prop) (gd gl : Nat) (D : Dat) (area gen used : Nat) (w : World) (e : Ending) (w' : World) : Prop :=
  (recordS D area gen used = none ∧ (∃ c : Int, (c = 2 ∨ c = 3) ∧ e = .returned (.tuple #[.slice none 0 0, errW GA (some c)])) ∧ LogAt w' ok gd gl D area gen used ∧ Below w.heap.size w w') ∨
  (∃ rec A c, recordS D area gen used = some rec ∧ e = .returned (.tuple #[.slice A rec.length c, .nilIface]) ∧ rec.length ≤ c ∧ RowK w' A rec.length rec ∧ LogAt w' ok gd gl D area gen (used + chN (4 + rec.length)) ∧ ∃ w1, Below w.heap.size w w1 ∧ w' = w1.setCell ⟨gl, 3, none⟩ (.int .i64 ((used + chN (4 + rec.length) : Nat) : Int)))
def rec15.T : Bool × List (List Nat × List Nat) := (true, [([], []), ([0], [0]), ([1], [1]), ([2], [2]), ([], []), ([4], [4]), ([5], [5]), ([3, 6], [3, 6]), ([0, 0, 1, 2, 3, 4, 5, 6, 7], [0]), ([8, 0, 1, 2, 3, 4, 5, 6, 7], [8]), ([9, 7, 6, 0, 1, 2, 3, 4, 5, 6, 7], [7, 9])])
def rec15.B : List Nat := [0, 1, 3, 7, 0, 16, 48, 127, 255, 511, 1023]
theorem rec15.tab : rtab .any (opsOf Tryd.f24 15) = rec15.T := by kernel_rfl
theorem rec15.bits : waitsOk rec15.T.2 rec15.B = true := by kernel_rfl
set_option maxHeartbeats 32000000 in
set_option maxRecDepth 100000 in
theorem record_ (GA : Nat → Addr) (ok : Nat → Prop) (gd gl : Nat) (D : Dat) (area gen used : Nat) (w : World) (h : LogAt w ok gd gl D area gen used) (ha : area ≤ 1000) (hu : used ≤ area) (hg : gen < 4294967296) (hm : D.seen.length ≤ 1000000) (hB : Byt D.seen) (hG : Glob GA w) :
    Calls Tryd.prog 24 #[.pointer (some ⟨gl, 0, none⟩)] w fun e w' => RecPost GA ok gd gl D area gen used w e w' := by
  have HL0 := Aside0.mk h
  have HG := Aside0.mk hG
  have HBY := Aside0.mk hB
  have HM := Aside0.mk hm
  clear h hG hB hm
  obtain ⟨RES, hRES⟩ : ∃ RES, recordS D area gen used = RES := ⟨_, rfl⟩
  have HRES := Aside0.mk hRES
  have HB := Aside0.mk (Below.refl w.heap.size w)
  have HR0 := Aside0.mk (show recGo D area gen used (area + 2) 0 [] 4 = RES from hRES)
  clear hRES
  go_enter Tryd.func24, Tryd.ntmps24
  go_wp2
  go_loopg [4, 5, 6] (area + 3) (fun kq v4 v5 v6 w2 => ∃ (k long : Nat) (text : List Int), v6 = .int .i64 (k : Int) ∧ v5 = .int .i64 (long : Int) ∧ Aside0 (k + kq = area + 3 ∧ used + k ≤ area + 1 ∧ 4 ≤ long ∧ long ≤ 65540 ∧ text.length ≤ 65650 ∧ wfb text) ∧ Aside0 (Kd.R (Kd.int .u8) 5 w2 w.heap.size (fun _ => True) v4 text) ∧ Aside0 (Below w.heap.size w w2) ∧ Aside0 (recGo D area gen used (area + 2 - k) k text long = RES))
  case atStart => exact ⟨0, 4, [], rfl, rfl, ⟨by omega, by omega, by omega, by omega, by simp, wfb_nil⟩, ⟨Kd.R_nil _ _ _ _ _⟩, HB, HR0⟩
  case round =>
    clear HB HR0
    obtain ⟨k, long, text, rfl, rfl, HI, HT, HB, HR⟩ := hrel
    have HL := Aside0.mk (HL0.out.below HB.out)
    obtain ⟨At, ct, rfl⟩ := Kd.R_slice HT.out
    have hk1 : k ≤ 1001 := by have := HI.out.2.1; omega
    have hlg : long ≤ 65540 := HI.out.2.2.2.1
    have htl : text.length ≤ 65650 := HI.out.2.2.2.2.1
    by_cases hlt : long ≤ text.length
    · have e1 : decide ((text.length : Int) < (long : Int)) = false := decide_eq_false (by omega)
      have e2 : decide (text.length < long) = false := decide_eq_false (by omega)
      have e3 : ¬ (text.length : Int) < (long : Int) := by omega
      have hl4 : 4 ≤ text.length := by have := HI.out.2.2.1; omega
      have hfu : ∃ f, area + 2 - k = f + 1 := ⟨area + 1 - k, by have := HI.out; omega⟩
      obtain ⟨f, hf⟩ := hfu
      have hres : RES = some (text.drop 4) := by
        have := HR.out
        rw [hf] at this
        unfold recGo at this
        rw [if_pos hlt] at this
        exact this.symm
      have hrl : (text.drop 4).length = text.length - 4 := List.length_drop
      have hsum := recordS_some hu (HRES.out.trans hres)
      obtain ⟨i0, hi0, hz⟩ := Option.map_eq_some_iff.1 bytes_Clone.info
      simp only [Prod.mk.injEq] at hz
      obtain ⟨rec, hrec⟩ : ∃ rec, text.drop 4 = rec := ⟨_, rfl⟩
      rw [hrec] at hres hrl hsum
      have htc := (Kd.R_reads' HT.out).2.1
      obtain ⟨AC, hAC⟩ : ∃ AC, (if ct = 4 then At else At.map (·.add (4 * 1))) = AC := ⟨_, rfl⟩
      have hcut : ∀ W : World, (Instr.slice 35 (.slice At text.length ct) (some (.int .i64 4)) none none).run Tryd.prog W = .ok (.slice AC rec.length (ct - 4)) W := by
        intro W
        have h := cut_from (P := Tryd.prog) 35 5 .i64 Tryd.underlying35 hi0 1 hz.2.1 At text.length ct (4 : Int) (by omega) (by omega) W
        rw [show ((4 : Int)).toNat = 4 from rfl] at h
        rw [h, hAC, hrl]
      have hRC : ∀ W', KeepU wr W' → Kd.C (Kd.int .u8) W' AC rec.length rec := fun W' hk => by
        have h1 := Kd.C_drop (m := 4) (c := ct) (Kd.R_reads' (R_keepU HT.out hk)).2.2 hl4 htc
        rw [hrec, show (Kd.int .u8).sz = 1 from rfl, hAC] at h1
        exact h1
      have HRC := Aside0.mk hRC
      have HSM := Aside0.mk hsum
      have HRS := Aside0.mk (HRES.out.trans hres)
      have HCC := Aside0.mk (show rec.length ≤ ct - 4 by omega)
      obtain ⟨cn, hcn⟩ : ∃ cn, chN (4 + rec.length) = cn := ⟨_, rfl⟩
      have HCN := Aside0.mk hcn
      have hwu : IntKind.i64.wrap ((used : Int) + (cn : Int)) = ((used + cn : Nat) : Int) := by rw [IntKind.wrap_i64, ← hcn]; have := hsum.1; omega
      have hd4 : decide ((text.length : Int) < 4) = false := decide_eq_false (by omega)
      clear hlt hf hres hrl hsum hi0 hz hrec htc hAC hRC hcn hl4
      go_upto_region 15 with (fail)
      refine start_ (n := 11) (S := fun w' => w'.cell? ⟨gl, 3, none⟩ = some (.int .i64 (used : Int))) (ds := [10]) #[false, false, false, false, false, false, false, false, false, false, false] (by kernel_rfl) rfl rfl (blk_cell HL.out.box 3) (fun hHeld => ?_)
      refine with_tabW rec15.tab rec15.bits (fun HT_ HW_ => ?_)
      have n0 := Aside0.mk (HL.out.below (below_drew (Below.refl _ _)))
      have n1 := Aside0.mk (below_drew1 HB.out)
      have n2 := Aside0.mk (show ∀ W', KeepU wr.drew W' → Kd.C (Kd.int .u8) W' AC rec.length rec from fun W' hk => HRC.out W' ((keepU_below (below_drew (Below.refl _ _))).trans hk))
      clear HL HB HRC
      have HL := n0
      have HB := n1
      have HRC := n2
      clear n0 n1 n2
      generalize wr.drew = w3 at HL HB HRC hHeld ⊢
      refine pure_ (i := 0) (N := (some 73)) (v := ?_) (a' := ?_) #[true, false, false, false, false, false, false, false, false, false, false] rfl rfl (any_of HT_.out (by kernel_rfl)) (fun _ _ _ h => h) (Or.inl ⟨by rfl, ?_⟩) ?_ ?_
      rotate_left
      · intro w'
        go_simp
        with_reducible rfl
      rotate_left
      · simp only [Act.put, List.setIfInBounds_toArray, List.set_cons_zero, List.set_cons_succ, i64_w, i32_w]
        rfl
      refine pure_ (i := 1) (N := (some 74)) (v := ?_) (a' := ?_) #[true, true, false, false, false, false, false, false, false, false, false] rfl rfl (any_of HT_.out (by kernel_rfl)) (fun _ _ _ h => h) (Or.inl ⟨by rfl, ?_⟩) ?_ ?_
      rotate_left
      · intro w'
        go_simp
        with_reducible rfl
      rotate_left
      · simp only [Act.put, List.setIfInBounds_toArray, List.set_cons_zero, List.set_cons_succ, i64_w, i32_w]
        rfl
      refine pure_ (i := 2) (N := (some 75)) (v := ?_) (a' := ?_) #[true, true, true, false, false, false, false, false, false, false, false] rfl rfl (any_of HT_.out (by kernel_rfl)) (fun _ _ _ h => h) (Or.inl ⟨by rfl, ?_⟩) ?_ ?_
      rotate_left
      · intro w'
        go_simp
        with_reducible rfl
      rotate_left
      · simp only [Act.put, List.setIfInBounds_toArray, List.set_cons_zero, List.set_cons_succ, i64_w, i32_w]
        rfl
      refine pure_ (i := 4) (N := (some 77)) (v := ?_) (a' := ?_) #[true, true, true, false, true, false, false, false, false, false, false] rfl rfl (any_of HT_.out (by kernel_rfl)) (fun _ _ _ h => h) (Or.inl ⟨by rfl, ?_⟩) ?_ ?_
      rotate_left
      · intro w'
        go_simp
        with_reducible rfl
      rotate_left
      · simp only [Act.put, List.setIfInBounds_toArray, List.set_cons_zero, List.set_cons_succ, i64_w, i32_w]
        rfl
      refine take_ (i := 3) (N := (some 76)) (v := ?_) (a' := ?_) #[true, true, true, true, true, false, false, false, false, false, false] rfl rfl (take_ofW HT_.out HW_.out (by kernel_rfl)) (fun _ _ _ h => h) (Or.inl ⟨by rfl, ?_⟩) (by exact hHeld) ?_ ?_
      rotate_left
      · intro w' hw'
        go_simp
        with_reducible rfl
      rotate_left
      · simp only [Act.put, List.setIfInBounds_toArray, List.set_cons_zero, List.set_cons_succ, i64_w, i32_w]
        rfl
      refine pure_ (i := 5) (N := (some 78)) (v := ?_) (a' := ?_) #[true, true, true, true, true, true, false, false, false, false, false] rfl rfl (any_of HT_.out (by kernel_rfl)) (fun _ _ _ h => h) (Or.inl ⟨by rfl, ?_⟩) ?_ ?_
      rotate_left
      · intro w'
        go_simp
        with_reducible rfl
      rotate_left
      · simp only [Act.put, List.setIfInBounds_toArray, List.set_cons_zero, List.set_cons_succ, i64_w, i32_w]
        rfl
      refine one_ (i := 6) (N := (some 79)) #[true, true, true, true, true, true, true, false, false, false, false] rfl rfl (one_of HT_.out (by kernel_rfl)) (by decide) (fun Kq hKq => ?_)
      refine call_ (f := 26) (args := #[.slice AC rec.length (ct - 4)]) (by rfl) rfl (by go_simp) ?_
      refine (size_ AC rec.length (ct - 4) rec w3 (HRC.out _ (KeepU.refl _)) HCC.out (by have := HSM.out.2; omega)).mono ?_
      rintro e w4 ⟨rfl, hd⟩
      rw [HCN.out]
      refine ⟨_, rfl, ?_⟩
      have n0 := Aside0.mk (HL.out.below hd.below)
      have n1 := Aside0.mk (below_step HB.out hd.below)
      have n2 := Aside0.mk (show ∀ W', KeepU w4 W' → Kd.C (Kd.int .u8) W' AC rec.length rec from fun W' hk => HRC.out W' ((keepU_below hd.below).trans hk))
      clear HL HB HRC hd
      have HL := n0
      have HB := n1
      have HRC := n2
      clear n0 n1 n2
      refine hKq.out _ _ (blk_cell HL.out.box 3) (fun hHeld => ?_)
      clear hKq Kq
      refine norm_ (a' := ?_) ?_ ?_
      rotate_left
      · show Act.put _ (some 79) _ = _
        simp only [Act.put, List.setIfInBounds_toArray, List.set_cons_zero, List.set_cons_succ, i64_w, i32_w]
        rfl
      refine pure_ (i := 7) (N := (some 80)) (v := ?_) (a' := ?_) #[true, true, true, true, true, true, true, true, false, false, false] rfl rfl (any_of HT_.out (by kernel_rfl)) (fun _ _ _ h => h) (Or.inl ⟨by rfl, ?_⟩) ?_ ?_
      rotate_left
      · intro w'
        go_simp
        with_reducible rfl
      rotate_left
      · simp only [Act.put, List.setIfInBounds_toArray, List.set_cons_zero, List.set_cons_succ, i64_w, i32_w]
        rfl
      refine pure_ (i := 8) (N := (some 81)) (v := ?_) (a' := ?_) #[true, true, true, true, true, true, true, true, true, false, false] rfl rfl (any_of HT_.out (by kernel_rfl)) (fun _ _ _ h => h) (Or.inl ⟨by rfl, ?_⟩) ?_ ?_
      rotate_left
      · intro w'
        go_simp
        with_reducible rfl
      rotate_left
      · simp only [Act.put, List.setIfInBounds_toArray, List.set_cons_zero, List.set_cons_succ, i64_w, i32_w]
        rfl
      refine pure_ (i := 9) (N := (some 82)) (v := ?_) (a' := ?_) #[true, true, true, true, true, true, true, true, true, true, false] rfl rfl (any_of HT_.out (by kernel_rfl)) (fun _ _ _ h => h) (Or.inl ⟨by rfl, ?_⟩) ?_ ?_
      rotate_left
      · intro w'
        go_simp
        with_reducible rfl
      rotate_left
      · simp only [Act.put, List.setIfInBounds_toArray, List.set_cons_zero, List.set_cons_succ, i64_w, i32_w]
        rfl
      have y3 := blk_cell HL.out.box 3
      have z3 := blk_frozen HL.out.box 3
      refine last_ (i := 10) (N := none) #[true, true, true, true, true, true, true, true, true, true, true] rfl rfl (one_of HT_.out (by kernel_rfl)) (by decide) (fun Kq hKq => ?_)
      refine skip_ (w1 := ?_) (by rfl) rfl ?_ ?_
      rotate_left
      · go_simp
        rfl
      refine hKq.out _ _ ?_
      clear hKq Kq
      refine done_ (done_of HT_.out (by kernel_rfl)) ?_
      have n := HL.out.set_used (used + cn)
      go_wp2
      go_ret2
      refine .inr ⟨rec, AC, ct - 4, HRS.out, rfl, HCC.out, fun W' hk => HRC.out W' (KeepU.trans (keepU_fr n.2) hk), ?_, ?_⟩
      · rw [HCN.out]; exact n.1
      · rw [HCN.out]; exact ⟨w4, HB.out, rfl⟩
    · have e1 : decide ((text.length : Int) < (long : Int)) = true := decide_eq_true (by omega)
      have e2 : decide (text.length < long) = true := decide_eq_true (by omega)
      have e3 : (text.length : Int) < (long : Int) := by omega
      have hkq : k ≤ area + 1 := by have := HI.out.2.1; omega
      obtain ⟨f, hf⟩ : ∃ f, area + 2 - k = f + 1 := ⟨area + 1 - k, by omega⟩
      have hres := HR.out
      rw [hf] at hres
      unfold recGo at hres
      rw [if_neg hlt] at hres
      obtain ⟨uk, huk⟩ : ∃ uk, used + k = uk := ⟨_, rfl⟩
      have HWT := Aside0.mk (rowAt_wf HBY.out ((atN area gen uk : Nat) : Int))
      have HLD := Aside0.mk (load_ GA ok gd gl D area gen used uk wr HL.out ha (by omega) hg HM.out HBY.out (Glob.below HG.out HB.out))
      rw [huk] at hres
      generalize rowAt D ((atN area gen uk : Nat) : Int) = row at hres HWT HLD
      obtain ⟨ld2, hld⟩ : ∃ ld2, takeT gen (uk : Int) row = ld2 := ⟨_, rfl⟩
      have hll := takeT_len gen uk row HWT.out
      have hlw := takeT_wf gen uk row HWT.out
      rw [hld] at hres HLD hll hlw
      clear hld
      obtain ⟨bl, bo⟩ := ld2
      dsimp only at hres HLD hll hlw
      have hw1 : IntKind.i64.wrap ((used : Int) + (k : Int)) = (uk : Int) := by rw [IntKind.wrap_i64]; omega
      have hw2 : IntKind.i64.wrap ((k : Int) + 1) = ((k + 1 : Nat) : Int) := by rw [IntKind.wrap_i64]; omega
      have HBW := Aside0.mk (And.intro hll hlw)
      have HF := Aside0.mk hf
      have HUK := Aside0.mk huk
      clear hlt hkq hf hll hlw huk
      have x3 := blk_cell HL.out.box 3
      have LOAD := HLD
      clear HLD
      by_cases hau : area ≤ uk
      · have hrn : RES = none := by rw [if_pos hau] at hres; exact hres.symm
        have HRN := Aside0.mk (HRES.out.trans hrn)
        have d1 : decide ((area : Int) ≤ (uk : Int)) = true := decide_eq_true (by omega)
        have d2 : decide (area ≤ uk) = true := decide_eq_true hau
        clear hres hrn hau
        go_upto_region 7 with (go_at_call 39; (refine LOAD.out.mono ?_); rintro e w3 ⟨v, rfl, hR, hb⟩; obtain ⟨Ab, cb, rfl⟩ := Kd.R_slice hR; have HRB := Aside0.mk (Kd.R_lower hR HB.out.size); have n0 := Aside0.mk (HL.out.below hb); have n1 := Aside0.mk (below_step HB.out hb); have n2 := Aside0.mk (Kd.R_below HT.out hb); clear HL HB HT LOAD hR hb x3; have HL := n0; have HB := n1; have HT := n2; clear n0 n1 n2)
        have y3 := blk_cell HL.out.box 3
        have y1 := blk_cell HL.out.box 1
        go_quiet (fail)
        have n1 := Aside0.mk (pw_below_drewN HB.out nq)
        have n2 := Aside0.mk (Kd.R_drewN HT.out nq)
        have n3 := Aside0.mk (Kd.R_drewN HRB.out nq)
        clear HL HB HT HRB y3 y1
        have HB := n1
        have HT := n2
        have HRB := n3
        clear n1 n2 n3
        generalize w3.drewN nq = w4 at HB HT HRB ⊢
        go_upto_region 8 with (fail)
        have hc0 := (Glob.below HG.out HB.out).c0
        go_quiet (fail)
        go_wp2
        go_ret2
        exact .inl ⟨HRN.out, ⟨2, .inl rfl, rfl⟩, HL0.out.below (pw_below_drewN HB.out _), pw_below_drewN HB.out _⟩
      rw [if_neg hau] at hres
      have d1 : decide ((area : Int) ≤ (uk : Int)) = false := decide_eq_false (by omega)
      have d2 : decide (area ≤ uk) = false := decide_eq_false hau
      have HAU := Aside0.mk hau
      clear hau
      cases bo with
      | false =>
        have hrn : RES = none := by rw [if_pos rfl] at hres; exact hres.symm
        have HRN := Aside0.mk (HRES.out.trans hrn)
        clear hres hrn
        go_upto_region 7 with (go_at_call 39; (refine LOAD.out.mono ?_); rintro e w3 ⟨v, rfl, hR, hb⟩; obtain ⟨Ab, cb, rfl⟩ := Kd.R_slice hR; have HRB := Aside0.mk (Kd.R_lower hR HB.out.size); have n0 := Aside0.mk (HL.out.below hb); have n1 := Aside0.mk (below_step HB.out hb); have n2 := Aside0.mk (Kd.R_below HT.out hb); clear HL HB HT LOAD hR hb x3; have HL := n0; have HB := n1; have HT := n2; clear n0 n1 n2)
        have y3 := blk_cell HL.out.box 3
        have y1 := blk_cell HL.out.box 1
        go_quiet (fail)
        have n1 := Aside0.mk (pw_below_drewN HB.out nq)
        have n2 := Aside0.mk (Kd.R_drewN HT.out nq)
        have n3 := Aside0.mk (Kd.R_drewN HRB.out nq)
        clear HL HB HT HRB y3 y1
        have HB := n1
        have HT := n2
        have HRB := n3
        clear n1 n2 n3
        generalize w3.drewN nq = w4 at HB HT HRB ⊢
        go_upto_region 8 with (fail)
        have hc0 := (Glob.below HG.out HB.out).c0
        go_quiet (fail)
        go_wp2
        go_ret2
        exact .inl ⟨HRN.out, ⟨2, .inl rfl, rfl⟩, HL0.out.below (pw_below_drewN HB.out _), pw_below_drewN HB.out _⟩
      | true =>
        rw [if_neg (by decide)] at hres
        obtain ⟨t2, ht2⟩ : ∃ t2, text ++ bl = t2 := ⟨_, rfl⟩
        rw [ht2] at hres
        have HT2 := Aside0.mk ht2
        have ht2l : t2.length ≤ 65760 := by rw [← ht2, List.length_append]; have := HBW.out.1; omega
        have ht2w : wfb t2 := by rw [← ht2]; exact wfb_app HI.out.2.2.2.2.2 HBW.out.2
        have HTW := Aside0.mk ht2w
        have hnl := numS_lt t2
        obtain ⟨nm, hnm⟩ : ∃ nm, numS t2 = nm := ⟨_, rfl⟩
        rw [hnm] at hres hnl
        have HNM := Aside0.mk hnm
        obtain ⟨tl, htl2⟩ : ∃ tl, t2.length = tl := ⟨_, rfl⟩
        rw [htl2] at hres ht2l
        have HTL := Aside0.mk htl2
        obtain ⟨k1, hk1e⟩ : ∃ k1, k + 1 = k1 := ⟨_, rfl⟩
        rw [hk1e] at hres hw2
        obtain ⟨mm, hmm⟩ : ∃ mm, k1 * 110 = mm := ⟨_, rfl⟩
        rw [hmm] at hres
        obtain ⟨mn, hmn⟩ : ∃ mn, min mm (4 + nm) = mn := ⟨_, rfl⟩
        rw [hmn] at hres
        have hwm : IntKind.i64.wrap ((k1 : Int) * 110) = (mm : Int) := by rw [IntKind.wrap_i64]; omega
        have hwn : IntKind.i64.wrap (nm : Int) = (nm : Int) := by rw [IntKind.wrap_i64]; omega
        have hwn4 : IntKind.i64.wrap (4 + (nm : Int)) = ((4 + nm : Nat) : Int) := by rw [IntKind.wrap_i64]; omega
        have hwn5 : IntKind.i64.wrap (((4 + nm : Nat) : Int) - 4) = (nm : Int) := by rw [IntKind.wrap_i64]; omega
        obtain ⟨lg, hlge⟩ : ∃ lg, 4 + nm = lg := ⟨_, rfl⟩
        rw [hlge] at hwn4 hwn5 hres hmn
        have hmi : (if (lg : Int) < (mm : Int) then (lg : Int) else (mm : Int)) = (mn : Int) := by split <;> omega
        have hmi2 : (if lg < mm then (lg : Int) else (mm : Int)) = (mn : Int) := by split <;> omega
        have HK1 := Aside0.mk (show k + 1 = k1 ∧ 4 + nm = lg ∧ mn ≤ lg ∧ mm ≤ 120000 from ⟨hk1e, hlge, by omega, by omega⟩)
        clear ht2 ht2w hnm htl2 hmm hmn hk1e hlge htl hlg hk1 hnl
        go_upto_region 7 with (go_at_call 39; (refine LOAD.out.mono ?_); rintro e w3 ⟨v, rfl, hR, hb⟩; obtain ⟨Ab, cb, rfl⟩ := Kd.R_slice hR; have HRB := Aside0.mk (Kd.R_lower hR HB.out.size); have n0 := Aside0.mk (HL.out.below hb); have n1 := Aside0.mk (below_step HB.out hb); have n2 := Aside0.mk (Kd.R_below HT.out hb); clear HL HB HT LOAD hR hb x3; have HL := n0; have HB := n1; have HT := n2; clear n0 n1 n2)
        have y3 := blk_cell HL.out.box 3
        have y1 := blk_cell HL.out.box 1
        go_quiet (fail)
        have n1 := Aside0.mk (pw_below_drewN HB.out nq)
        have n2 := Aside0.mk (Kd.R_drewN HT.out nq)
        have n3 := Aside0.mk (Kd.R_drewN HRB.out nq)
        clear HL HB HT HRB y3 y1
        have HB := n1
        have HT := n2
        have HRB := n3
        clear n1 n2 n3
        generalize w3.drewN nq = w4 at HB HT HRB ⊢
        go_upto_region 10 with ((with_reducible refine gate_builtin (b := .append) (xs := #[.tmp 44, .tmp 45]) rfl ?_); at_builtin; refine Kd.R_append_rows (Kd.int .u8) (w0 := w) w.heap.size rfl (.tmp 44) (.tmp 45) 35 5 (.int .u8 0) 1 rfl Tryd.underlying35 bytes_Clone.info rfl (by decide) (by omega) (.slice At text.length ct) text bl _ _ _ (fun _ => True) (fun _ => some 0 ≠ (Value.slice At text.length ct).ownBlock ∧ False) rfl rfl ?aO ?aR (fun _ _ h => h) (fun _ h => h.2.elim) ?aF ?aB ?aS ?aL ?_; (case aR => exact rowC HRB.out); (case aB => exact HB.out); (case aF => exact fun _ _ => trivial); (case aO => exact HT.out); (case aS => exact HB.out.size); (case aL => have h1 := HI.out.2.2.2.2.1; have h2 := HBW.out.1; omega); intro v2 w5 ho hb hg_ hat; rw [HT2.out] at ho; obtain ⟨A2, c2, rfl⟩ := Kd.R_slice ho; rw [HTL.out] at ho ⊢; have n0 := Aside0.mk ho; have n1 := Aside0.mk hb; clear HT HB HRB ho hb hg_ hat; have HT := n0; have HB := n1; clear n0 n1)
        by_cases h4 : tl < 4
        · have hrn : RES = none := by rw [if_pos h4] at hres; exact hres.symm
          have HRN := Aside0.mk (HRES.out.trans hrn)
          have e4 : decide ((tl : Int) < 4) = true := decide_eq_true (by omega)
          have e5 : decide (tl < 4) = true := decide_eq_true h4
          have e6 : (tl : Int) < 4 := by omega
          clear hres hrn h4
          go_upto_region 11 with (fail)
          have hc0 := (Glob.below HG.out HB.out).c0
          go_quiet (fail)
          go_wp2
          go_ret2
          exact .inl ⟨HRN.out, ⟨3, .inr rfl, rfl⟩, HL0.out.below (pw_below_drewN HB.out _), pw_below_drewN HB.out _⟩
        rw [if_neg h4] at hres
        have e4 : decide ((tl : Int) < 4) = false := decide_eq_false (by omega)
        have e5 : decide (tl < 4) = false := decide_eq_false h4
        have e6 : ¬ (tl : Int) < 4 := by omega
        have HC5 := Aside0.mk (rowC HT.out)
        have HC6 := Aside0.mk (by have := (Kd.R_reads' HT.out).2.1; exact this : tl ≤ c2)
        have H44 := Aside0.mk h4
        clear h4
        by_cases h6 : 65536 < nm
        · have hrn : RES = none := by rw [if_pos h6] at hres; exact hres.symm
          have HRN := Aside0.mk (HRES.out.trans hrn)
          have f4 : decide ((65536 : Int) < (nm : Int)) = true := decide_eq_true (by omega)
          have f5 : decide (65536 < nm) = true := decide_eq_true h6
          have f6 : (65536 : Int) < (nm : Int) := by omega
          clear hres hrn h6
          go_upto_region 14 with (go_at_call 37; (refine (num A2 tl c2 t2 _ HC5.out HC6.out HTW.out).mono ?_); rintro e w6 ⟨rfl, hww⟩; subst hww; rw [HNM.out])
          have hc0 := (Glob.below HG.out HB.out).c0
          go_quiet (fail)
          go_wp2
          go_ret2
          exact .inl ⟨HRN.out, ⟨3, .inr rfl, rfl⟩, HL0.out.below (pw_below_drewN HB.out _), pw_below_drewN HB.out _⟩
        rw [if_neg h6] at hres
        have f4 : decide ((65536 : Int) < (nm : Int)) = false := decide_eq_false (by omega)
        have f5 : decide (65536 < nm) = false := decide_eq_false h6
        have f6 : ¬ (65536 : Int) < (nm : Int) := by omega
        have H66 := Aside0.mk h6
        clear h6
        by_cases h7 : tl = mn
        · have g1 : ((tl : Int) == (mn : Int)) = true := beq_iff_eq.mpr (by omega)
          have g2 : ((tl : Int) != (mn : Int)) = false := bne_eq_false_iff_eq.mpr (by omega)
          have g3 : (tl : Int) = (mn : Int) := by omega
          rw [if_neg (fun h => h h7)] at hres
          have HRS := Aside0.mk hres
          have H77 := Aside0.mk h7
          clear hres h7
          go_wp2_with (go_at_call 37; (refine (num A2 tl c2 t2 _ HC5.out HC6.out HTW.out).mono ?_); rintro e w6 ⟨rfl, hww⟩; subst hww; rw [HNM.out])
          go_roundg (gk - 1)
          case measure => have := HI.out; omega
          case rel => exact ⟨k1, lg, t2, by first | rfl | go_num, by first | rfl | go_num, ⟨by have := HI.out; have := HK1.out; omega, by have := HAU.out; have := HUK.out; have := HK1.out; omega, by have := HK1.out; omega, by have := HK1.out; have := H66.out; omega, by have := HTL.out; have := HK1.out; have := H66.out; have := H77.out; omega, HTW.out⟩, HT, HB, ⟨by rw [show area + 2 - k1 = f by have := HF.out; have := HK1.out; omega]; exact HRS.out⟩⟩
        · have hrn : RES = none := by rw [if_pos h7] at hres; exact hres.symm
          have HRN := Aside0.mk (HRES.out.trans hrn)
          have g1 : ((tl : Int) == (mn : Int)) = false := beq_eq_false_iff_ne.mpr (by omega)
          have g2 : ((tl : Int) != (mn : Int)) = true := bne_iff_ne.mpr (by omega)
          have g3 : ¬ (tl : Int) = (mn : Int) := by omega
          clear hres hrn h7
          go_upto_region 14 with (go_at_call 37; (refine (num A2 tl c2 t2 _ HC5.out HC6.out HTW.out).mono ?_); rintro e w6 ⟨rfl, hww⟩; subst hww; rw [HNM.out])
          have hc0 := (Glob.below HG.out HB.out).c0
          go_quiet (fail)
          go_wp2
          go_ret2
          exact .inl ⟨HRN.out, ⟨3, .inr rfl, rfl⟩, HL0.out.below (pw_below_drewN HB.out _), pw_below_drewN HB.out _⟩
end Go.Proofs.YtokmildjniploaaDoor.PLog
