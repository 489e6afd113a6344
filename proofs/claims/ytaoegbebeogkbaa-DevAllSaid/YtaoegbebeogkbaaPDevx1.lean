-- Written by xprint.py (a program of this project) out of the translation. Not trusted: Lean checks it.
import Derived.Test.YtaoegbebeogkbaaPDevx0
namespace Go.Proofs.Ytaoegbebeogkbaa.PDev
open Go.RowKit Go.Proofs.YtaoegbebeogkbaaW.PrintWords Go.Proofs.YtaoegbebeogkbaaW.PrintLast Go.Proofs.YtaoegbebeogkbaaW.PrintMore
attribute [local go_sem] max2_int min2_int max_two min_two max_three min_three max_four min_four   -- for this text's walks alone
set_option linter.unusedVariables false
set_option linter.unusedSimpArgs false

-- NOT PRINTED: function 29 (slices_Clone_byte_byte)

-- NOT PRINTED: function 9 (dev_New)

-- NOT PRINTED: function 28 (dev_Dev_Blocks)

/-! ### bytes_Clone: function 30 -/
theorem bytes_Clone.eqi (P : Program) (w : World) (d : Nat) (t e : TypeId) (a : Option Addr) (l c : Nat) (h : P.underlying t = some (.slice e)) : (Op.equalIn (d + 1) t (.slice a l c) (.slice none 0 0)).run P w = .ok a.isNone w := by
  cases a <;> simp [Op.equalIn, run_underlying h]
theorem bytes_Clone.eqn (P : Program) (w : World) (t e : TypeId) (a : Option Addr) (l c : Nat) (h : P.underlying t = some (.slice e)) : (binOp .eql t (.slice a l c) (.slice none 0 0)).run P w = .ok (.bool a.isNone) w := by
  have h2 : (Op.equal t (.slice a l c) (.slice none 0 0)).run P w = .ok a.isNone w := bytes_Clone.eqi P w 9999 t e a l c h
  simp [binOp, h2]
theorem bytes_Clone.info : (Try.prog.info? 5).map (fun i => (i.zero, i.size, i.bytes)) = some (some (.int .u8 0), 1, 1) := by kernel_rfl
def bytes_Clone.f (l0 : List Int) : Option (List Int) := if l0.length ≤ 1000000 then some l0 else none
set_option maxHeartbeats 4000000 in
set_option maxRecDepth 100000 in
theorem bytes_Clone.calls (A0 : Option Addr) (c0 : Nat) (l0 : List Int) (r : List Int) (w : World) (hr0 : Kd.C (Kd.int .u8) w A0 l0.length l0) (hc0 : l0.length ≤ c0) (h : bytes_Clone.f l0 = some r) :
    Calls Try.prog 30 #[.slice A0 l0.length c0] w fun e w' => ∃ v0_ : Value, e = .returned v0_ ∧ Kd.R (Kd.int .u8) 5 w' w.heap.size (fun _ => True) v0_ r ∧ Below w.heap.size w w' := by
  have hn : l0.length ≤ 1000000 := by
    unfold bytes_Clone.f at h
    by_cases c : l0.length ≤ 1000000
    · exact c
    · rw [if_neg c] at h; cases h
  have hr : r = l0 := by unfold bytes_Clone.f at h; rw [if_pos hn] at h; exact (Option.some.inj h).symm
  clear h
  have HR := Aside0.mk hr
  clear hr
  rcases A0 with _ | ad
  · have h0 : l0 = [] := by
      rcases Nat.eq_zero_or_pos l0.length with h0 | h0
      · exact List.eq_nil_of_length_eq_zero h0
      · obtain ⟨ad, h, _⟩ := hr0.2.2 h0
        cases h
    subst h0
    clear hr0 hn
    have heq := fun w => bytes_Clone.eqn Try.prog w 23 5 none 0 c0 Try.underlying23
    go_enter Try.func30, Try.ntmps30
    go_wp2
    go_ret
    exact ⟨_, rfl, by rw [HR.out]; exact Kd.R_nil _ _ _ _ _, Below.refl _ _⟩
  · have HR0 := Aside0.mk hr0
    clear hr0
    have HB := Aside0.mk (Below.refl w.heap.size w)
    have HN := Aside0.mk hn
    clear hn
    have heq := fun w => bytes_Clone.eqn Try.prog w 23 5 (some ad) l0.length c0 Try.underlying23
    go_enter Try.func30, Try.ntmps30
    go_wp2_with (first
      | ((with_reducible refine gate_dst (N := 5) rfl ?_); refine Kd.R_lit (Kd.int .u8) _ 5 ?hg (N := 5) ?hd (xs := ([] : List Int)) (inner := []) (ok := fun _ => True) (okp := fun _ => True) ?hr ?hp (fun _ hk => hk) trivial (Below.refl _ _) (Nat.le_refl _) (by simp) ?_; (case hd => rfl); (case hg => rfl); (case hr => first | (go_simp; done) | (go_simp; rfl)); (case hp => exact (Reps.none _ _)); intro v1 w1 ho hb hg_ hnew_; clear hg_ hnew_; have HO := Aside0.mk ho; have HB1 := Aside0.mk hb; clear ho hb)
      | ((with_reducible refine gate_builtin (b := .append) (xs := #[.tmp 5, .tmp 6]) rfl ?_); at_builtin; refine Kd.R_append_rows (Kd.int .u8) (w0 := w) w.heap.size rfl (.tmp 5) (.tmp 6) 23 5 (.int .u8 0) 1 rfl Try.underlying23 bytes_Clone.info rfl (by decide) (by omega) v1 ([] : List Int) l0 _ _ _ (fun _ => True) (fun _ => some 0 ≠ v1.ownBlock ∧ False) rfl rfl ?aO ?aR (fun _ _ h => h) (fun _ h => h.2.elim) ?aF ?aB ?aS ?aL ?_; (case aR => exact Kd.C_below HR0.out HB1.out); (case aB => exact HB1.out); (case aF => exact fun _ _ => trivial); (case aO => exact HO.out); (case aS => exact HB1.out.size); (case aL => have := HN.out; simp only [List.length_nil]; omega); intro v2 w2 ho hb hg hat; have HO2 := Aside0.mk ho; have HB2 := Aside0.mk hb; clear ho hb hg hat))
    go_ret
    exact ⟨_, rfl, by rw [HR.out]; exact HO2.out, HB2.out⟩

-- NOT PRINTED: function 11 (dev_Dev_Write)

-- NOT PRINTED: function 12 (dev_Dev_Flush)

-- NOT PRINTED: function 33 (slices_Grow_byte_byte)

/-! ### slices_Concat_byte_byte: function 31 -/
def slices_Concat_byte_byte.f (l0 : List (List Int)) : Option (List Int) := if l0.length ≤ 1000 ∧ l0.flatten.length ≤ 1000000 then some l0.flatten else none
theorem slices_Concat_byte_byte.info : (Try.prog.info? 5).map (fun i => (i.zero, i.size, i.bytes)) = some (some (.int .u8 0), 1, 1) := by kernel_rfl
theorem slices_Concat_byte_byte.elem {w : World} {A0 : Option Addr} {l0 : List (List Int)} (h : Kd.C (Kd.slice 5 (Kd.int .u8)) w A0 l0.length l0) (i : Nat) (hi : i < l0.length) :
    ∃ ad A c, A0 = some ad ∧ w.cell? (ad.add i) = some (.slice A (l0.getD i []).length c) ∧ (l0.getD i []).length ≤ c ∧ Kd.C (Kd.int .u8) w A (l0.getD i []).length (l0.getD i []) := by
  obtain ⟨ad, cs, hA, hl, ⟨A, c, hcs, hc, hC⟩, hcell⟩ := Kd.C_get h [] (i : Int) (by omega) (by omega)
  rw [Int.toNat_natCast] at hcs hc hC hcell
  refine ⟨ad, A, c, hA, ?_, hc, hC⟩
  have := hcell 0 _ (by rw [hcs]; rfl)
  rw [show i * (Kd.slice 5 (Kd.int .u8)).sz + 0 = i by show i * 1 + 0 = i; omega] at this
  exact this
theorem slices_Concat_byte_byte.tot (l0 : List (List Int)) (i : Nat) (hi : i < l0.length) : (l0.take (i + 1)).flatten = (l0.take i).flatten ++ l0.getD i [] := by
  rw [List.take_add_one, List.flatten_append, List.getD_eq_getElem?_getD, List.getElem?_eq_getElem hi]
  simp
theorem slices_Concat_byte_byte.tot_le (l0 : List (List Int)) (i : Nat) : (l0.take i).flatten.length ≤ l0.flatten.length := by
  have h : l0.flatten = (l0.take i).flatten ++ (l0.drop i).flatten := by rw [← List.flatten_append, List.take_append_drop]
  rw [h, List.length_append]
  omega
set_option maxHeartbeats 4000000 in
set_option maxRecDepth 100000 in
theorem slices_Concat_byte_byte.grow (n : Nat) (hn : n ≤ 1000000) (w : World) : Calls Try.prog 33 #[.slice none 0 0, .int .i64 (n : Int)] w fun e w' => ∃ v : Value, e = .returned v ∧ Kd.R (Kd.int .u8) 5 w' w.heap.size (fun _ => True) v ([] : List Int) ∧ Below w.heap.size w w' := by
  have h0 : decide ((n : Int) < 0) = false := decide_eq_false (by omega)
  have hw : IntKind.i64.wrap (n : Int) = (n : Int) := by rw [IntKind.wrap_i64]; omega
  by_cases hz : n = 0
  · subst hz
    clear h0 hw hn
    go_enter Try.func33, Try.ntmps33
    go_wp2
    go_ret
    exact ⟨_, rfl, Kd.R_nil _ _ _ _ _, Below.refl _ _⟩
  · have hp : decide ((n : Int) > 0) = true := decide_eq_true (by omega)
    have hp2 : decide ((0 : Int) < (n : Int)) = true := decide_eq_true (by omega)
    have hp3 : (0 < n) = True := eq_true (by omega)
    have HZ := Aside0.mk hz
    have HN := Aside0.mk hn
    clear hz hn
    obtain ⟨i0, hi0, hzz⟩ := Option.map_eq_some_iff.1 slices_Concat_byte_byte.info
    have HZZ := Aside0.mk hzz
    clear hzz
    have hnil := cut_to (P := Try.prog) 23 5 .i64 Try.underlying23 hi0 none 0 0 0 (by omega) (by omega) (by omega)
    simp only [Int.toNat_zero] at hnil
    go_enter Try.func33, Try.ntmps33
    go_wp2_with ((with_reducible refine gate_builtin (b := .append) (xs := #[.tmp 20, .tmp 21]) rfl ?_); at_builtin; refine Kd.R_append_zeros (Kd.int .u8) (w0 := w) w.heap.size rfl (.tmp 20) (.tmp 21) 23 3 5 (.int .u8 0) 1 rfl Try.underlying23 Try.underlying3 slices_Concat_byte_byte.info rfl (by decide) (by omega) (.slice none 0 0) ([] : List Int) 0 (n : Int) (fun _ => True) rfl rfl rfl ?aF ?aO ?aN ?aB ?aS ?aL ?_; (case aF => exact fun _ _ => trivial); (case aO => exact Kd.R_nil _ _ _ _ _); (case aN => omega); (case aB => exact Below.refl _ _); (case aS => exact Nat.le_refl _); (case aL => have := HN.out; simp only [List.length_nil]; omega); intro v1 w1 ho hb hg hat; obtain ⟨A1, c1, e1⟩ := Kd.R_slice ho; subst e1; have HO := Aside0.mk (Kd.R_take (m := 0) ho (Nat.zero_le _)); have hcut := cut_to (P := Try.prog) 23 5 .i64 Try.underlying23 hi0 A1 _ c1 0 (by omega) (by omega) (Kd.R_reads' ho).2.1; simp only [Int.toNat_zero] at hcut; have HB := Aside0.mk hb; clear ho hb hg hat)
    go_ret
    exact ⟨_, rfl, HO.out, HB.out⟩
set_option maxHeartbeats 4000000 in
set_option maxRecDepth 100000 in
theorem slices_Concat_byte_byte.calls (A0 : Option Addr) (c0 : Nat) (l0 : List (List Int)) (r : List Int) (w : World) (hr0 : Kd.C (Kd.slice 5 (Kd.int .u8)) w A0 l0.length l0) (hc0 : l0.length ≤ c0) (h : slices_Concat_byte_byte.f l0 = some r) :
    Calls Try.prog 31 #[.slice A0 l0.length c0] w fun e w' => ∃ v0_ : Value, e = .returned v0_ ∧ Kd.R (Kd.int .u8) 5 w' w.heap.size (fun _ => True) v0_ r ∧ Below w.heap.size w w' := by
  have hn : l0.length ≤ 1000 ∧ l0.flatten.length ≤ 1000000 := by
    unfold slices_Concat_byte_byte.f at h
    by_cases c : l0.length ≤ 1000 ∧ l0.flatten.length ≤ 1000000
    · exact c
    · rw [if_neg c] at h; cases h
  have hr : r = l0.flatten := by unfold slices_Concat_byte_byte.f at h; rw [if_pos hn] at h; exact (Option.some.inj h).symm
  clear h
  have HR := Aside0.mk hr
  have HN := Aside0.mk hn
  have HR0 := Aside0.mk hr0
  clear hr hn hr0
  go_enter Try.func31, Try.ntmps31
  go_wp2
  go_loopg [3, 11] (l0.length + 1) (fun kq v3 v11 w2 => ∃ i : Nat, v3 = .int .i64 ((l0.take i).flatten.length : Int) ∧ v11 = .int .i64 (i : Int) ∧ w2 = w ∧ Aside0 (i ≤ l0.length ∧ l0.length < kq + i))
  case atStart => exact ⟨0, rfl, rfl, rfl, ⟨Nat.zero_le _, by omega⟩⟩
  case round =>
    obtain ⟨i, rfl, rfl, hww, HI⟩ := hrel
    subst hww
    by_cases hlt : i < l0.length
    · obtain ⟨ad, A, c, hA, hcell, hc, hC⟩ := slices_Concat_byte_byte.elem HR0.out i hlt
      subst hA
      have ht := congrArg List.length (slices_Concat_byte_byte.tot l0 i hlt)
      rw [List.length_append] at ht
      have hle := slices_Concat_byte_byte.tot_le l0 (i + 1)
      have hnn := HN.out
      obtain ⟨S1, hS1⟩ : ∃ S1, S1 = (l0.take (i + 1)).flatten.length := ⟨_, rfl⟩
      rw [← hS1] at ht hle
      have hd : decide (i < l0.length) = true := decide_eq_true hlt
      have hd2 : decide ((i : Int) < (l0.length : Int)) = true := decide_eq_true (by omega)
      have hs : IntKind.i64.wrap (((l0.take i).flatten.length : Int) + ((l0.getD i []).length : Int)) = (S1 : Int) := by rw [IntKind.wrap_i64]; omega
      have hw1 : IntKind.i64.wrap ((i : Int) + 1) = ((i + 1 : Nat) : Int) := by rw [IntKind.wrap_i64]; omega
      have hng : decide ((S1 : Int) < 0) = false := decide_eq_false (by omega)
      have HS := Aside0.mk hS1
      clear hS1 ht hle hnn hc hC
      generalize (l0.take i).flatten.length = S0 at *
      generalize (l0.getD i []).length = m at *
      have hi0 : (0 : Int) ≤ (i : Int) := by omega
      go_wp2
      go_roundg (gk - 1)
      case measure => have := HI.out; omega
      case rel => exact ⟨i + 1, by rw [HS.out], by first | rfl | go_num, rfl, ⟨by omega, by have := HI.out; omega⟩⟩
    · have hd : decide (i < l0.length) = false := decide_eq_false hlt
      have hd2 : decide ((i : Int) < (l0.length : Int)) = false := decide_eq_false (by omega)
      obtain rfl : i = l0.length := by have := HI.out; omega
      rw [List.take_length]
      have HC0 := Aside0.mk hc0
      clear hlt HI hc0
      obtain ⟨w9, hw9⟩ : ∃ w9, w9 = wr := ⟨_, rfl⟩
      subst hw9
      go_wp2_with ((with_reducible refine gate_callee (f := 33) rfl ?_); refine goesL_ (some 24) rfl rfl Try.func33 (by kernel_rfl) rfl #[.slice none 0 0, .int .i64 (l0.flatten.length : Int)] rfl (by (try simp only [List.map_toArray, List.map_cons, List.map_nil]); first | done | rfl) ?_; (refine (slices_Concat_byte_byte.grow _ HN.out.2 _).mono ?_); rintro e w1 ⟨v1, rfl, ho, hb⟩; refine ⟨_, rfl, ?_⟩; have HO1 := Aside0.mk ho; have HB1 := Aside0.mk hb; clear ho hb)
      go_loopg [6, 27] (l0.length + 1) (fun kq v6 v27 w2 => ∃ i : Nat, v27 = .int .i64 (i : Int) ∧ Aside0 (Kd.R (Kd.int .u8) 5 w2 w9.heap.size (fun _ => True) v6 (l0.take i).flatten) ∧ Aside0 (Below w9.heap.size w9 w2) ∧ Aside0 (i ≤ l0.length ∧ l0.length < kq + i))
      case atStart => exact ⟨0, rfl, ⟨HO1.out⟩, HB1, ⟨Nat.zero_le _, by omega⟩⟩
      case round =>
        obtain ⟨i, rfl, HO, HB, HI⟩ := hrel
        by_cases hlt : i < l0.length
        · obtain ⟨ad, A, c, hA, hcell, hc, hC⟩ := slices_Concat_byte_byte.elem HR0.out i hlt
          subst hA
          have hcell2 := (HB.out.cell (World.block_lt_of_cell? _ _ hcell)).trans hcell
          have HC := Aside0.mk (Kd.C_below hC HB.out)
          have ht := slices_Concat_byte_byte.tot l0 i hlt
          have htl := congrArg List.length ht
          rw [List.length_append] at htl
          have hle := slices_Concat_byte_byte.tot_le l0 (i + 1)
          have hnn := HN.out
          have hd : decide (i < l0.length) = true := decide_eq_true hlt
          have hd2 : decide ((i : Int) < (l0.length : Int)) = true := decide_eq_true (by omega)
          have hw1 : IntKind.i64.wrap ((i : Int) + 1) = ((i + 1 : Nat) : Int) := by rw [IntKind.wrap_i64]; omega
          have hi0 : (0 : Int) ≤ (i : Int) := by omega
          have HL := Aside0.mk (show (l0.take i).flatten.length + (l0.getD i []).length ≤ 1000000 by omega)
          have HT := Aside0.mk ht
          clear ht htl hle hnn hc hC hcell
          generalize (l0.take i).flatten = acc at *
          generalize l0.getD i [] = row at *
          go_wp2_with ((with_reducible refine gate_builtin (b := .append) (xs := #[.tmp 31, .tmp 32]) rfl ?_); at_builtin; refine Kd.R_append_rows (Kd.int .u8) (w0 := w9) w9.heap.size rfl (.tmp 31) (.tmp 32) 23 5 (.int .u8 0) 1 rfl Try.underlying23 slices_Concat_byte_byte.info rfl (by decide) (by omega) u6 acc row _ _ _ (fun _ => True) (fun _ => False) rfl rfl ?aO ?aR (fun _ _ h => h) (fun _ h => h.elim) ?aF ?aB ?aS ?aL ?_; (case aR => exact HC.out); (case aB => exact HB.out); (case aF => exact fun _ _ => trivial); (case aO => exact HO.out); (case aS => exact HB.out.size); (case aL => have := HL.out; omega); intro v2 w2 ho hb hg hat; have HO2 := Aside0.mk ho; have HB2 := Aside0.mk hb; clear ho hb hg hat)
          go_roundg (gk - 1)
          case measure => have := HI.out; omega
          case rel => exact ⟨i + 1, by first | rfl | go_num, ⟨by rw [HT.out]; exact HO2.out⟩, HB2, ⟨by omega, by have := HI.out; omega⟩⟩
        · have hd : decide (i < l0.length) = false := decide_eq_false hlt
          have hd2 : decide ((i : Int) < (l0.length : Int)) = false := decide_eq_false (by omega)
          obtain rfl : i = l0.length := by have := HI.out; omega
          have HO3 := HO.out
          rw [List.take_length] at HO3
          have HO4 := Aside0.mk HO3
          clear hlt HI HO HO3
          go_wp2
          go_ret
          exact ⟨_, rfl, by rw [HR.out]; exact HO4.out, HB.out⟩

-- NOT PRINTED: function 13 (dev_Dev_Crash)

-- NOT PRINTED: function 14 (dev_Dev_Read)

-- NOT PRINTED: function 15 (dev_Dev_Writes)

-- NOT PRINTED: function 32 (dev_write)

-- NOT PRINTED: function 21 (dev_Dev_Copy)

-- NOT PRINTED: function 26 (dev_Dev_Stopped)

-- NOT PRINTED: function 7 (rabbetlaw18_begun)

/-! ### rabbetlaw18_light: function 8 -/
def rabbetlaw18_light.l0 : Nat → List (S34) → Int → Option (Bool)
  | 0, _, _ => none
  | k + 1, x0, x3 => if x3 < (x0.length : Int) then (if 0 ≤ x3 then (if (((rd_T34 x0 x3).f5).length : Int) > 200 then (some false) else (if (((rd_T34 x0 x3).f6).length : Int) > 20 then (some false) else (rabbetlaw18_light.l0 k x0 (wrap64 (x3 + 1))))) else (none)) else (some (decide ((x0.length : Int) ≤ 40)))
def rabbetlaw18_light.f (k : Nat) (l0 : List (S34)) : Option (Bool) := rabbetlaw18_light.l0 k l0 0
theorem rabbetlaw18_light.mono_l : ∀ k, (∀ y0 y1, LeO (rabbetlaw18_light.l0 k y0 y1) (rabbetlaw18_light.l0 (k + 1) y0 y1))
  | 0 => fun _ _ r h => by simp [rabbetlaw18_light.l0] at h
  | k + 1 => by
    have ih0 := rabbetlaw18_light.mono_l k
    · intro y0 y1
      unfold rabbetlaw18_light.l0
      repeat' first
      | (with_reducible exact ih0 _ _)
      | (with_reducible exact LeO.refl _)
      | (with_reducible exact LeO.none _)
      | (with_reducible refine LeO.ite ?_ ?_)
      | (with_reducible refine LeO.bind ?_ (fun _ => ?_))
      | exact ih0 _ _
      | exact LeO.none _
      | refine LeO.ite ?_ ?_
      | refine LeO.bind ?_ (fun _ => ?_)
theorem rabbetlaw18_light.mono : ∀ a0 k, LeO (rabbetlaw18_light.f k a0) (rabbetlaw18_light.f (k + 1) a0) := by
  intro a0 k
  have ih0 := rabbetlaw18_light.mono_l k
  unfold rabbetlaw18_light.f
  repeat' first
      | (with_reducible exact ih0 _ _)
      | (with_reducible exact LeO.refl _)
      | (with_reducible exact LeO.none _)
      | (with_reducible refine LeO.ite ?_ ?_)
      | (with_reducible refine LeO.bind ?_ (fun _ => ?_))
      | exact ih0 _ _
      | exact LeO.none _
      | refine LeO.ite ?_ ?_
      | refine LeO.bind ?_ (fun _ => ?_)
set_option maxHeartbeats 8000000 in
set_option maxRecDepth 100000 in
theorem rabbetlaw18_light.calls (k : Nat) (A0 : Option Addr) (c0 : Nat) (l0 : List (S34)) (r : Bool) (w : World) (hr0 : Kd.C k34 w A0 l0.length l0) (hc0 : l0.length ≤ c0) (h : rabbetlaw18_light.f k l0 = some r) :
    Calls Try.prog 8 #[.slice A0 l0.length c0] w fun e w' => e = .returned (.bool r) ∧ Drawn0 w w' := by
  have HR0 := Aside0.mk hr0
  have HC0 := Aside0.mk hc0
  clear hr0 hc0
  have H : (rabbetlaw18_light.l0 k l0 0) = some r := h
  clear h
  have H' := Aside0.mk H
  clear H
  go_enter Try.func8, Try.ntmps8
  go_wp2
  go_loopg [3] k (fun kq v3 w' => ∃ (x3_1 : Int), v3 = .int .i64 x3_1 ∧ Aside0 (rabbetlaw18_light.l0 kq l0 x3_1 = some r) ∧ Aside0 (kq ≤ k) ∧ Drawn0 w w')
  case atStart => exact ⟨(0), (by first | rfl | (simp; done) | (simp [*]; done)), H', ⟨Nat.le_refl _⟩, by repeat (first | exact Drawn0.refl _ | apply Drawn0.step)⟩
  case round =>
    clear H'
    obtain ⟨x3_1, rfl, HA, HK1, ⟨m1, rfl⟩⟩ := hrel
    cases gk with
    | zero => exact absurd HA.out (by simp [rabbetlaw18_light.l0])
    | succ k1 =>
      have H := HA.out
      clear HA
      simp only [rabbetlaw18_light.l0] at H
      by_cases c2 : x3_1 < (l0.length : Int)
      · rw [if_pos c2] at H
        have c2b0 : decide (x3_1 < (l0.length : Int)) = true := decide_eq_true c2
        clear c2
        by_cases c3 : 0 ≤ x3_1
        · rw [if_pos c3] at H
          have c3b0 : decide (0 ≤ x3_1) = true := decide_eq_true c3
          clear c3
          by_cases c4 : (((rd_T34 l0 x3_1).f5).length : Int) > 200
          · rw [if_pos c4] at H
            have c4b0 : decide (200 < (((rd_T34 l0 x3_1).f5).length : Int)) = true := decide_eq_true c4
            have c4b1 : decide (200 < ((rd_T34 l0 x3_1).f5).length) = true := decide_eq_true (by omega)
            clear c4
            obtain rfl := Option.some.inj H
            have p101 : 0 ≤ (x3_1 : Int) := of_decide_eq_true (by first | (with_reducible assumption) | assumption)
            have q101 : x3_1 < (l0.length : Int) := of_decide_eq_true (by first | (with_reducible assumption) | assumption)
            obtain ⟨ad101, A101_5, c101_5, A101_6, c101_6, e101, hx101_0, hx101_1, hx101_2, hx101_3, hx101_4, hx101_5, hx101_6, hl101_5, hi101_5, hl101_6, hi101_6⟩ := at_T34 HR0.out x3_1 p101 q101
            cases e101
            have HR101_5 := Aside0.mk hi101_5
            have HC101_5 := Aside0.mk hl101_5
            clear hi101_5 hl101_5
            have HR101_6 := Aside0.mk hi101_6
            have HC101_6 := Aside0.mk hl101_6
            clear hi101_6 hl101_6
            replace p101 := eq_true p101
            replace q101 := eq_true q101
            go_wp2
            go_ret
            exact ⟨by first | rfl | (simp; done) | (simp [*]; done), by repeat (first | exact Drawn0.refl _ | apply Drawn0.step)⟩
          · rw [if_neg c4] at H
            have c4b0 : decide (200 < (((rd_T34 l0 x3_1).f5).length : Int)) = false := decide_eq_false c4
            (try rw [hl101_5] at c4b0)
            (try rw [hl101_6] at c4b0)
            have c4b1 : decide (200 < ((rd_T34 l0 x3_1).f5).length) = false := decide_eq_false (by omega)
            clear c4
            by_cases c5 : (((rd_T34 l0 x3_1).f6).length : Int) > 20
            · rw [if_pos c5] at H
              have c5b0 : decide (20 < (((rd_T34 l0 x3_1).f6).length : Int)) = true := decide_eq_true c5
              (try rw [hl101_5] at c5b0)
              (try rw [hl101_6] at c5b0)
              have c5b1 : decide (20 < ((rd_T34 l0 x3_1).f6).length) = true := decide_eq_true (by omega)
              clear c5
              obtain rfl := Option.some.inj H
              have p101 : 0 ≤ (x3_1 : Int) := of_decide_eq_true (by first | (with_reducible assumption) | assumption)
              have q101 : x3_1 < (l0.length : Int) := of_decide_eq_true (by first | (with_reducible assumption) | assumption)
              obtain ⟨ad101, A101_5, c101_5, A101_6, c101_6, e101, hx101_0, hx101_1, hx101_2, hx101_3, hx101_4, hx101_5, hx101_6, hl101_5, hi101_5, hl101_6, hi101_6⟩ := at_T34 HR0.out x3_1 p101 q101
              cases e101
              have HR101_5 := Aside0.mk hi101_5
              have HC101_5 := Aside0.mk hl101_5
              clear hi101_5 hl101_5
              have HR101_6 := Aside0.mk hi101_6
              have HC101_6 := Aside0.mk hl101_6
              clear hi101_6 hl101_6
              replace p101 := eq_true p101
              replace q101 := eq_true q101
              have p102 : 0 ≤ (x3_1 : Int) := of_decide_eq_true (by first | (with_reducible assumption) | assumption)
              have q102 : x3_1 < (l0.length : Int) := of_decide_eq_true (by first | (with_reducible assumption) | assumption)
              obtain ⟨ad102, A102_5, c102_5, A102_6, c102_6, e102, hx102_0, hx102_1, hx102_2, hx102_3, hx102_4, hx102_5, hx102_6, hl102_5, hi102_5, hl102_6, hi102_6⟩ := at_T34 HR0.out x3_1 p102 q102
              obtain rfl : ad101 = ad102 := (by injection e102)
              have HR102_5 := Aside0.mk hi102_5
              have HC102_5 := Aside0.mk hl102_5
              clear hi102_5 hl102_5
              have HR102_6 := Aside0.mk hi102_6
              have HC102_6 := Aside0.mk hl102_6
              clear hi102_6 hl102_6
              replace p102 := eq_true p102
              replace q102 := eq_true q102
              have ea_ := Option.some.inj (hx101_5.symm.trans hx102_5)
              injection ea_ with ea_ en_ ec_
              subst ea_
              subst ec_
              clear en_
              have ea_ := Option.some.inj (hx101_6.symm.trans hx102_6)
              injection ea_ with ea_ en_ ec_
              subst ea_
              subst ec_
              clear en_
              go_wp2
              go_ret
              exact ⟨by first | rfl | (simp; done) | (simp [*]; done), by repeat (first | exact Drawn0.refl _ | apply Drawn0.step)⟩
            · rw [if_neg c5] at H
              have c5b0 : decide (20 < (((rd_T34 l0 x3_1).f6).length : Int)) = false := decide_eq_false c5
              (try rw [hl101_5] at c5b0)
              (try rw [hl101_6] at c5b0)
              (try rw [hl102_5] at c5b0)
              (try rw [hl102_6] at c5b0)
              have c5b1 : decide (20 < ((rd_T34 l0 x3_1).f6).length) = false := decide_eq_false (by omega)
              clear c5
              have H' := Aside0.mk H
              clear H
              have p101 : 0 ≤ (x3_1 : Int) := of_decide_eq_true (by first | (with_reducible assumption) | assumption)
              have q101 : x3_1 < (l0.length : Int) := of_decide_eq_true (by first | (with_reducible assumption) | assumption)
              obtain ⟨ad101, A101_5, c101_5, A101_6, c101_6, e101, hx101_0, hx101_1, hx101_2, hx101_3, hx101_4, hx101_5, hx101_6, hl101_5, hi101_5, hl101_6, hi101_6⟩ := at_T34 HR0.out x3_1 p101 q101
              cases e101
              have HR101_5 := Aside0.mk hi101_5
              have HC101_5 := Aside0.mk hl101_5
              clear hi101_5 hl101_5
              have HR101_6 := Aside0.mk hi101_6
              have HC101_6 := Aside0.mk hl101_6
              clear hi101_6 hl101_6
              replace p101 := eq_true p101
              replace q101 := eq_true q101
              have p102 : 0 ≤ (x3_1 : Int) := of_decide_eq_true (by first | (with_reducible assumption) | assumption)
              have q102 : x3_1 < (l0.length : Int) := of_decide_eq_true (by first | (with_reducible assumption) | assumption)
              obtain ⟨ad102, A102_5, c102_5, A102_6, c102_6, e102, hx102_0, hx102_1, hx102_2, hx102_3, hx102_4, hx102_5, hx102_6, hl102_5, hi102_5, hl102_6, hi102_6⟩ := at_T34 HR0.out x3_1 p102 q102
              obtain rfl : ad101 = ad102 := (by injection e102)
              have HR102_5 := Aside0.mk hi102_5
              have HC102_5 := Aside0.mk hl102_5
              clear hi102_5 hl102_5
              have HR102_6 := Aside0.mk hi102_6
              have HC102_6 := Aside0.mk hl102_6
              clear hi102_6 hl102_6
              replace p102 := eq_true p102
              replace q102 := eq_true q102
              have ea_ := Option.some.inj (hx101_5.symm.trans hx102_5)
              injection ea_ with ea_ en_ ec_
              subst ea_
              subst ec_
              clear en_
              have ea_ := Option.some.inj (hx101_6.symm.trans hx102_6)
              injection ea_ with ea_ en_ ec_
              subst ea_
              subst ec_
              clear en_
              go_wp2
              go_roundg k1
              case measure => have := HK1.out; omega
              case rel => exact ⟨(wrap64 (x3_1 + 1)), (by first | rfl | (simp; done) | (simp [*]; done)), H', ⟨by have := HK1.out; omega⟩, by repeat (first | exact Drawn0.refl _ | apply Drawn0.step)⟩
        · rw [if_neg c3] at H
          exact absurd H (by simp)
      · rw [if_neg c2] at H
        have c2b0 : decide (x3_1 < (l0.length : Int)) = false := decide_eq_false c2
        (try rw [hl101_5] at c2b0)
        (try rw [hl101_6] at c2b0)
        (try rw [hl102_5] at c2b0)
        (try rw [hl102_6] at c2b0)
        clear c2
        obtain rfl := Option.some.inj H
        go_wp2
        go_ret
        exact ⟨by first | rfl | (simp; done) | (simp [*]; done), by repeat (first | exact Drawn0.refl _ | apply Drawn0.step)⟩

/-! ### rabbetlaw18_full: function 10 -/
def rabbetlaw18_full.l0 : Nat → List Int → List Int → Int → Option (List Int)
  | 0, _, _, _ => none
  | k + 1, x0, x3, x4 => if x4 < (x0.length : Int) then (if x4 < 128 then (if 0 ≤ x4 then (if x4 < (x3.length : Int) then (rabbetlaw18_full.l0 k x0 (x3.set (x4 : Int).toNat (rd x0 x4)) (wrap64 (x4 + 1))) else (none)) else (none)) else (some x3)) else (some x3)
def rabbetlaw18_full.f (k : Nat) (l0 : List Int) : Option (List Int) := if 128 ≤ 281474976710656 then (rabbetlaw18_full.l0 k l0 (List.replicate 128 0) 0) else (none)
theorem rabbetlaw18_full.mono_l : ∀ k, (∀ y0 y1 y2, LeO (rabbetlaw18_full.l0 k y0 y1 y2) (rabbetlaw18_full.l0 (k + 1) y0 y1 y2))
  | 0 => fun _ _ _ r h => by simp [rabbetlaw18_full.l0] at h
  | k + 1 => by
    have ih0 := rabbetlaw18_full.mono_l k
    · intro y0 y1 y2
      unfold rabbetlaw18_full.l0
      repeat' first
      | (with_reducible exact ih0 _ _ _)
      | (with_reducible exact LeO.refl _)
      | (with_reducible exact LeO.none _)
      | (with_reducible refine LeO.ite ?_ ?_)
      | (with_reducible refine LeO.bind ?_ (fun _ => ?_))
      | exact ih0 _ _ _
      | exact LeO.none _
      | refine LeO.ite ?_ ?_
      | refine LeO.bind ?_ (fun _ => ?_)
theorem rabbetlaw18_full.mono : ∀ a0 k, LeO (rabbetlaw18_full.f k a0) (rabbetlaw18_full.f (k + 1) a0) := by
  intro a0 k
  have ih0 := rabbetlaw18_full.mono_l k
  unfold rabbetlaw18_full.f
  repeat' first
      | (with_reducible exact ih0 _ _ _)
      | (with_reducible exact LeO.refl _)
      | (with_reducible exact LeO.none _)
      | (with_reducible refine LeO.ite ?_ ?_)
      | (with_reducible refine LeO.bind ?_ (fun _ => ?_))
      | exact ih0 _ _ _
      | exact LeO.none _
      | refine LeO.ite ?_ ?_
      | refine LeO.bind ?_ (fun _ => ?_)
set_option maxHeartbeats 8000000 in
set_option maxRecDepth 100000 in
theorem rabbetlaw18_full.calls (k : Nat) (A0 : Option Addr) (c0 : Nat) (l0 : List Int) (r : List Int) (w : World) (hr0 : Kd.C (Kd.int .u8) w A0 l0.length l0) (hc0 : l0.length ≤ c0) (h : rabbetlaw18_full.f k l0 = some r) :
    Calls Try.prog 10 #[.slice A0 l0.length c0] w fun e w' => ∃ v0_ : Value, e = .returned (v0_) ∧ Kd.R (Kd.int .u8) 5 w' w.heap.size (fun _ => True) v0_ r ∧ Below w.heap.size w w' := by
  have HR0 := Aside0.mk hr0
  have HC0 := Aside0.mk hc0
  clear hr0 hc0
  have HB := Aside0.mk (Below.refl w.heap.size w)
  have H : (if 128 ≤ 281474976710656 then (rabbetlaw18_full.l0 k l0 (List.replicate 128 0) 0) else (none)) = some r := h
  clear h
  by_cases c2 : 128 ≤ 281474976710656
  · rw [if_pos c2] at H
    have c2b0 := eq_true c2
    have c2b1 : decide (128 ≤ 281474976710656) = true := decide_eq_true c2
    clear c2
    obtain ⟨y103, hy103⟩ : ∃ y_ : List Int, y_ = (List.replicate 128 0) := ⟨_, rfl⟩
    replace H : (rabbetlaw18_full.l0 k l0 y103 0) = some r := by first | (rw [hy103]; with_reducible exact H) | (have H2_ := (Option.bind_some _ _).symm.trans H; rw [hy103]; with_reducible exact H2_) | (have H2_ := (Option.bind_some _ _).symm.trans H; with_reducible exact H2_) | with_reducible exact H | (rw [hy103]; exact H) | exact H
    have Ny103 := Aside0.mk hy103
    clear hy103
    have H' := Aside0.mk H
    clear H
    go_enter Try.func10, Try.ntmps10
    go_wp2_with (first | ((with_reducible refine gate_dst (N := 5) rfl ?_); refine Kd.R_make (Kd.int .u8) _ 5 rfl (N := 5) rfl 23 _ _ rfl 128 rfl rfl Try.underlying23 (.int .u8 0) 1 info5 rfl (by decide) (by omega) 0 (ok := fun _ => True) (okp := fun _ => True) rfl (fun _ hk => hk) trivial (by omega) (by omega) (Below.refl _ _) (Nat.le_refl _) ?_; intro v104 w3 ho4 hb hg_ hnew_; clear hg_ hnew_; (first | rw [← Ny103.out] at ho4 | (simp only [Int.reduceToNat] at ho4; rw [← Ny103.out] at ho4)); have n0_ := Aside0.mk (Kd.R_lower ho4 (below_size (by repeat (first | (with_reducible first | exact HB.out | apply below_alloc | apply pw_below_drewN | apply below_drew1) | exact HB.out)))); have n1_ := Aside0.mk (below_step (by repeat (first | (with_reducible first | exact HB.out | apply below_alloc | apply pw_below_drewN | apply below_drew1) | exact HB.out)) hb); clear HB; have HO105 := n0_; have HB := n1_; clear n0_ n1_; clear hb ho4))
    go_loopg [4] k (fun kq v4 w' => ∃ (x3_1 : List Int) (x4_1 : Int), v4 = .int .i64 x4_1 ∧ Aside0 (rabbetlaw18_full.l0 kq l0 x3_1 x4_1 = some r) ∧ Aside0 (kq ≤ k) ∧ Aside0 (Kd.R (Kd.int .u8) 5 w' w.heap.size (fun _ => True) v104 x3_1) ∧ Aside0 (Below w.heap.size w w'))
    case atStart => exact ⟨(y103), (0), (by first | rfl | (simp; done) | (simp [*]; done)), H', ⟨Nat.le_refl _⟩, ⟨by (with_reducible repeat (first | apply Kd.R_alloc | apply Kd.R_drewN | apply Kd.R_drew)); exact HO105.out⟩, ⟨by repeat (first | (with_reducible first | exact HB.out | apply below_alloc | apply pw_below_drewN | apply below_drew1) | exact HB.out)⟩⟩
    case round =>
      clear H'
      try clear c1
      try clear c2
      try clear c2b0
      try clear c2b1
      try clear p2
      obtain ⟨x3_1, x4_1, rfl, HA, HK1, HO_3, HB⟩ := hrel
      cases gk with
      | zero => exact absurd HA.out (by simp [rabbetlaw18_full.l0])
      | succ k1 =>
        have H := HA.out
        clear HA
        simp only [rabbetlaw18_full.l0] at H
        by_cases c5 : x4_1 < (l0.length : Int)
        · rw [if_pos c5] at H
          have c5b0 : decide (x4_1 < (l0.length : Int)) = true := decide_eq_true c5
          clear c5
          by_cases c6 : x4_1 < 128
          · rw [if_pos c6] at H
            have c6b0 : decide (x4_1 < 128) = true := decide_eq_true c6
            clear c6
            by_cases c7 : 0 ≤ x4_1
            · rw [if_pos c7] at H
              have c7b0 : decide (0 ≤ x4_1) = true := decide_eq_true c7
              clear c7
              by_cases c8 : x4_1 < (x3_1.length : Int)
              · rw [if_pos c8] at H
                have c8b0 : decide (x4_1 < (x3_1.length : Int)) = true := decide_eq_true c8
                clear c8
                obtain ⟨y107, hy107⟩ : ∃ y_ : List Int, y_ = (x3_1.set (x4_1 : Int).toNat (rd l0 x4_1)) := ⟨_, rfl⟩
                replace H : (rabbetlaw18_full.l0 k1 l0 y107 (wrap64 (x4_1 + 1))) = some r := by first | (rw [hy107]; with_reducible exact H) | (have H2_ := (Option.bind_some _ _).symm.trans H; rw [hy107]; with_reducible exact H2_) | (have H2_ := (Option.bind_some _ _).symm.trans H; with_reducible exact H2_) | with_reducible exact H | (rw [hy107]; exact H) | exact H
                have Ny107 := Aside0.mk hy107
                clear hy107
                have H' := Aside0.mk H
                clear H
                have p106 : 0 ≤ (x4_1 : Int) := of_decide_eq_true (by first | (with_reducible assumption) | assumption)
                have q106 : x4_1 < (l0.length : Int) := of_decide_eq_true (by first | (with_reducible assumption) | assumption)
                obtain ⟨ad106, e106, hx106_0⟩ := Kd.at_int HR0.out x4_1 p106 q106
                cases e106
                replace hx106_0 := (HB.out.cell (World.block_lt_of_cell? w _ hx106_0)).trans hx106_0
                replace p106 := eq_true p106
                replace q106 := eq_true q106
                have p9 : 0 ≤ (x4_1 : Int) := of_decide_eq_true (by first | (with_reducible assumption) | assumption)
                have q9 : (x4_1 : Int) < ((x3_1.length : Int) : Int) := of_decide_eq_true (by first | (with_reducible assumption) | assumption)
                obtain ⟨go9, co9, eo9, gb9, gl9, cl9, HG9⟩ := Kd.R_form HO_3.out (by omega)
                (first | cases eo9 | (injection eo9 with ea_ en_ ec_; (first | subst ea_ | (injection ea_ with ea_; subst ea_)); subst ec_; clear en_))
                have GB9 := Aside0.mk gb9
                have GG9 := Aside0.mk HG9
                clear gb9 gl9 HG9
                obtain ⟨hx9_0, hf9_0⟩ := Kd.R_celln 0 HO_3.out (x4_1 : Int) p9 q9
                replace p9 := eq_true p9
                replace q9 := eq_true q9
                have HP10 := Kd.R_putg HO_3.out (x4_1 : Int) (rd l0 x4_1)
                go_wp2_with (first | ((with_reducible refine gate_store (t := 5) (p := 22) rfl ?_); refine store_event (t := 5) (p := 22) (v := ?vo_w11) (w1 := (wr.setCell ⟨go9, (x4_1 : Int).toNat, none⟩ (.int .u8 (rd l0 x4_1)))) ?hg ?ho ?hn ?hr ?_; (case ho => rfl); (case hg => rfl); (case hn => rfl); (case hr => first | (go_simp; done) | (go_simp; rfl)); intro w11 hw; have hg : wr.grownBy w11 (some go9) := (by rw [hw]; exact HP10.2); have hp_ : Kd.R (Kd.int .u8) 5 w11 w.heap.size (fun _ => True) (.slice (some ⟨go9, 0, none⟩) x3_1.length co9) y107 := (by rw [hw, Ny107.out]; exact HP10.1); clear HP10; have n0_ := Aside0.mk (hp_); have n1_ := Aside0.mk ((by rw [hw]; exact below_set (HB.out) GB9.out : Below w.heap.size w w11)); clear HO_3; clear HB; have HO_3 := n0_; have HB := n1_; clear n0_ n1_; clear hg hw hp_))
                go_roundg k1
                case measure => have := HK1.out; omega
                case rel => exact ⟨(y107), (wrap64 (x4_1 + 1)), (by first | rfl | (simp; done) | (simp [*]; done)), H', ⟨by have := HK1.out; omega⟩, ⟨by (with_reducible repeat (first | apply Kd.R_alloc | apply Kd.R_drewN | apply Kd.R_drew)); exact HO_3.out⟩, ⟨by repeat (first | (with_reducible first | exact HB.out | apply below_alloc | apply pw_below_drewN | apply below_drew1) | exact HB.out)⟩⟩
              · rw [if_neg c8] at H
                exact absurd H (by simp)
            · rw [if_neg c7] at H
              exact absurd H (by simp)
          · rw [if_neg c6] at H
            have c6b0 : decide (x4_1 < 128) = false := decide_eq_false c6
            clear c6
            obtain rfl := Option.some.inj H
            go_wp2
            go_ret
            exact ⟨_, by first | rfl | (simp [errW_none, errW_some] <;> rfl) | (simp [*, errW_none, errW_some] <;> rfl), by (with_reducible repeat (first | apply Kd.R_alloc | apply Kd.R_drewN | apply Kd.R_drew)); exact HO_3.out, by repeat (first | (with_reducible first | exact HB.out | apply below_alloc | apply pw_below_drewN | apply below_drew1) | exact HB.out)⟩
        · rw [if_neg c5] at H
          have c5b0 : decide (x4_1 < (l0.length : Int)) = false := decide_eq_false c5
          clear c5
          obtain rfl := Option.some.inj H
          go_wp2
          go_ret
          exact ⟨_, by first | rfl | (simp [errW_none, errW_some] <;> rfl) | (simp [*, errW_none, errW_some] <;> rfl), by (with_reducible repeat (first | apply Kd.R_alloc | apply Kd.R_drewN | apply Kd.R_drew)); exact HO_3.out, by repeat (first | (with_reducible first | exact HB.out | apply below_alloc | apply pw_below_drewN | apply below_drew1) | exact HB.out)⟩
  · rw [if_neg c2] at H
    exact absurd H (by simp)

-- NOT PRINTED: function 16 (rabbetref18_NewDev)

-- NOT PRINTED: function 17 (rabbetref18_Dev_Flush)

-- NOT PRINTED: function 18 (dev_Dev_Stop)

/-- A state of type 50 at block g of W; what its slices lead to came in by w0. -/
def IsS50 (w0 W : World) (g : Nat) (f0 : List ByteArray) (f1 : List ByteArray) (f2 : List (S62)) (f3 : Int) (f4 : Int) : Prop := ∃ A0 c0, ∃ A1 c1, ∃ A2 c2, W.heap[g]? = some (.cells #[.slice A0 f0.length c0, .slice A1 f1.length c1, .slice A2 f2.length c2, .int .i64 f3, .int .i64 f4] 50 (0, 0)) ∧ w0.heap.size ≤ g ∧ Kd.C Kd.string w0 A0 f0.length f0 ∧ Kd.C Kd.string w0 A1 f1.length f1 ∧ Kd.C k62 w0 A2 f2.length f2
theorem IsS50.grown {w0 W : World} {g : Nat} {f0 : List ByteArray} {f1 : List ByteArray} {f2 : List (S62)} {f3 : Int} {f4 : Int} {W1 : World} {row : Option Nat} (h : IsS50 w0 W g f0 f1 f2 f3 f4) (hw : W.grownBy W1 row) (hne : some g ≠ row) : IsS50 w0 W1 g f0 f1 f2 f3 f4 := by
  obtain ⟨A0, c0, A1, c1, A2, c2, hb, hg, hr0, hr1, hr2⟩ := h
  exact ⟨A0, c0, A1, c1, A2, c2, blk_grown hb hw hne, hg, hr0, hr1, hr2⟩
theorem IsS50.own_neN {w0 W : World} {g : Nat} {f0 : List ByteArray} {f1 : List ByteArray} {f2 : List (S62)} {f3 : Int} {f4 : Int} {α : Type} {d : Kd α} {e : Nat} {base : Nat} {ok : Nat → Prop} {v : Value} {xs : List α} (h : IsS50 w0 W g f0 f1 f2 f3 f4) (ho : Kd.N d e W base ok v xs) (ht : e ≠ 50) : some g ≠ v.ownBlock := by
  obtain ⟨A0, c0, A1, c1, A2, c2, hb, hg, hr0, hr1, hr2⟩ := h
  exact Kd.N_ne ho hb ht
theorem IsS50.fresh {w0 W : World} {g : Nat} {f0 : List ByteArray} {f1 : List ByteArray} {f2 : List (S62)} {f3 : Int} {f4 : Int} (h : IsS50 w0 W g f0 f1 f2 f3 f4) : ∀ k, W.heap.size ≤ k → k ≠ g := by
  obtain ⟨A0, c0, A1, c1, A2, c2, hb, hg, hr0, hr1, hr2⟩ := h
  exact Kd.freshB hb
theorem IsS50.kept {w0 W : World} {g : Nat} {f0 : List ByteArray} {f1 : List ByteArray} {f2 : List (S62)} {f3 : Int} {f4 : Int} {W1 : World} {S : Nat → Prop} (h : IsS50 w0 W g f0 f1 f2 f3 f4) (hk : Kept W W1 S) (hne : ¬ S g) : IsS50 w0 W1 g f0 f1 f2 f3 f4 := by
  obtain ⟨A0, c0, A1, c1, A2, c2, hb, hg, hr0, hr1, hr2⟩ := h
  exact ⟨A0, c0, A1, c1, A2, c2, blk_kept hb hk hne, hg, hr0, hr1, hr2⟩
theorem IsS50.below {w0 W : World} {g : Nat} {f0 : List ByteArray} {f1 : List ByteArray} {f2 : List (S62)} {f3 : Int} {f4 : Int} {W1 : World} (h : IsS50 w0 W g f0 f1 f2 f3 f4) (hw : Below W.heap.size W W1) : IsS50 w0 W1 g f0 f1 f2 f3 f4 := h.grown (grown_of_below hw none) (by simp)
theorem IsS50.alloc {w0 W : World} {g : Nat} {f0 : List ByteArray} {f1 : List ByteArray} {f2 : List (S62)} {f3 : Int} {f4 : Int} (h : IsS50 w0 W g f0 f1 f2 f3 f4) (o : Obj) : IsS50 w0 (W.alloc o) g f0 f1 f2 f3 f4 := h.below (below_alloc (Below.refl _ _) o)
theorem IsS50.drewN {w0 W : World} {g : Nat} {f0 : List ByteArray} {f1 : List ByteArray} {f2 : List (S62)} {f3 : Int} {f4 : Int} (h : IsS50 w0 W g f0 f1 f2 f3 f4) (m : Nat) : IsS50 w0 (W.drewN m) g f0 f1 f2 f3 f4 := h
theorem IsS50.drew {w0 W : World} {g : Nat} {f0 : List ByteArray} {f1 : List ByteArray} {f2 : List (S62)} {f3 : Int} {f4 : Int} (h : IsS50 w0 W g f0 f1 f2 f3 f4) : IsS50 w0 W.drew g f0 f1 f2 f3 f4 := h
theorem IsS50.at_ {w0 W : World} {g : Nat} {f0 : List ByteArray} {f1 : List ByteArray} {f2 : List (S62)} {f3 : Int} {f4 : Int} {w' : World} {m : Nat} (hq : W.drewN m = w') (h : IsS50 w0 W g f0 f1 f2 f3 f4) : IsS50 w0 w' g f0 f1 f2 f3 f4 := by subst hq; exact IsS50.drewN h m
theorem IsS50.apart {w0 W : World} {g : Nat} {f0 : List ByteArray} {f1 : List ByteArray} {f2 : List (S62)} {f3 : Int} {f4 : Int} {α : Type} {d : Kd α} {e : Nat} {base : Nat} {ok : Nat → Prop} {v : Value} {xs : List α} (h : IsS50 w0 W g f0 f1 f2 f3 f4) (ho : d.R e W base ok v xs) (ht : ∀ q, q ∈ e :: d.E → q ≠ 50) : d.R e W base (fun k => ok k ∧ k ≠ g) v xs := by
  obtain ⟨A0, c0, A1, c1, A2, c2, hb, hg, hr0, hr1, hr2⟩ := h
  exact Kd.R_types ho hb ht
theorem IsS50.own_ne {w0 W : World} {g : Nat} {f0 : List ByteArray} {f1 : List ByteArray} {f2 : List (S62)} {f3 : Int} {f4 : Int} {α : Type} {d : Kd α} {e : Nat} {base : Nat} {ok : Nat → Prop} {v : Value} {xs : List α} (h : IsS50 w0 W g f0 f1 f2 f3 f4) (ho : d.R e W base ok v xs) (ht : e ≠ 50) : some g ≠ v.ownBlock := by
  obtain ⟨A0, c0, A1, c1, A2, c2, hb, hg, hr0, hr1, hr2⟩ := h
  exact Kd.R_ne ho hb ht
theorem IsS50.apartQ {w0 W : World} {g : Nat} {f0 : List ByteArray} {f1 : List ByteArray} {f2 : List (S62)} {f3 : Int} {f4 : Int} {α : Type} {d : Kd α} {e : Nat} {base : Nat} {ok : Nat → Prop} {v : Value} {xs : List α} (h : IsS50 w0 W g f0 f1 f2 f3 f4) (ho : d.Q e W base ok v xs) (ht : ∀ q, q ∈ e :: d.E → q ≠ 50) : d.Q e W base (fun k => ok k ∧ k ≠ g) v xs := by
  obtain ⟨A0, c0, A1, c1, A2, c2, hb, hg, hr0, hr1, hr2⟩ := h
  exact Kd.Q_types ho hb ht
theorem IsS50.own_neQ {w0 W : World} {g : Nat} {f0 : List ByteArray} {f1 : List ByteArray} {f2 : List (S62)} {f3 : Int} {f4 : Int} {α : Type} {d : Kd α} {e : Nat} {base : Nat} {ok : Nat → Prop} {v : Value} {xs : List α} (h : IsS50 w0 W g f0 f1 f2 f3 f4) (ho : d.Q e W base ok v xs) (ht : e ≠ 50) : some g ≠ v.ownBlock := by
  obtain ⟨A0, c0, A1, c1, A2, c2, hb, hg, hr0, hr1, hr2⟩ := h
  exact Kd.Q_ne ho hb ht
theorem IsS50.apartS {w0 W : World} {g : Nat} {f0 : List ByteArray} {f1 : List ByteArray} {f2 : List (S62)} {f3 : Int} {f4 : Int} {α : Type} {d : Kd α} {e : Nat} {base : Nat} {ok : Nat → Prop} {v : Value} {xs : List α} (h : IsS50 w0 W g f0 f1 f2 f3 f4) (ho : d.S e W base ok v xs) (ht : ∀ q, q ∈ e :: d.E → q ≠ 50) : d.S e W base (fun k => ok k ∧ k ≠ g) v xs := by
  obtain ⟨A0, c0, A1, c1, A2, c2, hb, hg, hr0, hr1, hr2⟩ := h
  exact Kd.S_types ho hb ht
theorem IsS50.own_neS {w0 W : World} {g : Nat} {f0 : List ByteArray} {f1 : List ByteArray} {f2 : List (S62)} {f3 : Int} {f4 : Int} {α : Type} {d : Kd α} {e : Nat} {base : Nat} {ok : Nat → Prop} {v : Value} {xs : List α} (h : IsS50 w0 W g f0 f1 f2 f3 f4) (ho : d.S e W base ok v xs) (ht : e ≠ 50) : some g ≠ v.ownBlock := by
  obtain ⟨A0, c0, A1, c1, A2, c2, hb, hg, hr0, hr1, hr2⟩ := h
  exact Kd.S_ne ho hb ht
theorem IsS50.lt {w0 W : World} {g : Nat} {f0 : List ByteArray} {f1 : List ByteArray} {f2 : List (S62)} {f3 : Int} {f4 : Int} (h : IsS50 w0 W g f0 f1 f2 f3 f4) : g < W.heap.size := by
  obtain ⟨A0, c0, A1, c1, A2, c2, hb, hg, hr0, hr1, hr2⟩ := h
  exact blk_lt hb
theorem IsS50.ge {w0 W : World} {g : Nat} {f0 : List ByteArray} {f1 : List ByteArray} {f2 : List (S62)} {f3 : Int} {f4 : Int} (h : IsS50 w0 W g f0 f1 f2 f3 f4) : w0.heap.size ≤ g := by
  obtain ⟨A0, c0, A1, c1, A2, c2, hb, hg, hr0, hr1, hr2⟩ := h
  exact hg
theorem IsS50.ne_blk {w0 W : World} {g : Nat} {f0 : List ByteArray} {f1 : List ByteArray} {f2 : List (S62)} {f3 : Int} {f4 : Int} {a : Nat} {cs : Array Value} {t : TypeId} {fr : Nat × Nat} (h : IsS50 w0 W g f0 f1 f2 f3 f4) (hb2 : W.heap[a]? = some (.cells cs t fr)) (ht : t ≠ 50) : g ≠ a := by
  obtain ⟨A0, c0, A1, c1, A2, c2, hb, hg, hr0, hr1, hr2⟩ := h
  rintro rfl
  rw [hb] at hb2
  injection hb2 with hb2
  injection hb2 with _ ht2
  exact ht ht2.symm
theorem IsS50.far {w0 W : World} {g : Nat} {f0 : List ByteArray} {f1 : List ByteArray} {f2 : List (S62)} {f3 : Int} {f4 : Int} {p : Addr} (h : IsS50 w0 W g f0 f1 f2 f3 f4) (hne : g ≠ p.block) (u : Value) : IsS50 w0 (W.setCell p u) g f0 f1 f2 f3 f4 := by
  obtain ⟨A0, c0, A1, c1, A2, c2, hb, hg, hr0, hr1, hr2⟩ := h
  exact ⟨A0, c0, A1, c1, A2, c2, blk_far hb hne u, hg, hr0, hr1, hr2⟩
theorem cellS50_0 {W : World} {g : Nat} {A0 : Option Addr} {c0 : Nat} {A1 : Option Addr} {c1 : Nat} {A2 : Option Addr} {c2 : Nat} {f0 : List ByteArray} {f1 : List ByteArray} {f2 : List (S62)} {f3 : Int} {f4 : Int} (h : W.heap[g]? = some (.cells #[.slice A0 f0.length c0, .slice A1 f1.length c1, .slice A2 f2.length c2, .int .i64 f3, .int .i64 f4] 50 (0, 0))) : W.cell? ⟨g, 0, none⟩ = some (.slice A0 f0.length c0) := (blk_cell h 0).trans rfl
theorem cellS50_1 {W : World} {g : Nat} {A0 : Option Addr} {c0 : Nat} {A1 : Option Addr} {c1 : Nat} {A2 : Option Addr} {c2 : Nat} {f0 : List ByteArray} {f1 : List ByteArray} {f2 : List (S62)} {f3 : Int} {f4 : Int} (h : W.heap[g]? = some (.cells #[.slice A0 f0.length c0, .slice A1 f1.length c1, .slice A2 f2.length c2, .int .i64 f3, .int .i64 f4] 50 (0, 0))) : W.cell? ⟨g, 1, none⟩ = some (.slice A1 f1.length c1) := (blk_cell h 1).trans rfl
theorem cellS50_2 {W : World} {g : Nat} {A0 : Option Addr} {c0 : Nat} {A1 : Option Addr} {c1 : Nat} {A2 : Option Addr} {c2 : Nat} {f0 : List ByteArray} {f1 : List ByteArray} {f2 : List (S62)} {f3 : Int} {f4 : Int} (h : W.heap[g]? = some (.cells #[.slice A0 f0.length c0, .slice A1 f1.length c1, .slice A2 f2.length c2, .int .i64 f3, .int .i64 f4] 50 (0, 0))) : W.cell? ⟨g, 2, none⟩ = some (.slice A2 f2.length c2) := (blk_cell h 2).trans rfl
theorem cellS50_3 {W : World} {g : Nat} {A0 : Option Addr} {c0 : Nat} {A1 : Option Addr} {c1 : Nat} {A2 : Option Addr} {c2 : Nat} {f0 : List ByteArray} {f1 : List ByteArray} {f2 : List (S62)} {f3 : Int} {f4 : Int} (h : W.heap[g]? = some (.cells #[.slice A0 f0.length c0, .slice A1 f1.length c1, .slice A2 f2.length c2, .int .i64 f3, .int .i64 f4] 50 (0, 0))) : W.cell? ⟨g, 3, none⟩ = some (.int .i64 f3) := (blk_cell h 3).trans rfl
theorem IsS50.set_3 {w0 W : World} {g : Nat} {f0 : List ByteArray} {f1 : List ByteArray} {f2 : List (S62)} {f3 : Int} {f4 : Int} (h : IsS50 w0 W g f0 f1 f2 f3 f4) (x : Int) : IsS50 w0 (W.setCell ⟨g, 3, none⟩ (.int .i64 x)) g f0 f1 f2 x f4 := by
  obtain ⟨A0, c0, A1, c1, A2, c2, hb, hg, hr0, hr1, hr2⟩ := h
  exact ⟨A0, c0, A1, c1, A2, c2, by simpa using blk_set hb 3 (.int .i64 x), hg, hr0, hr1, hr2⟩
theorem cellS50_4 {W : World} {g : Nat} {A0 : Option Addr} {c0 : Nat} {A1 : Option Addr} {c1 : Nat} {A2 : Option Addr} {c2 : Nat} {f0 : List ByteArray} {f1 : List ByteArray} {f2 : List (S62)} {f3 : Int} {f4 : Int} (h : W.heap[g]? = some (.cells #[.slice A0 f0.length c0, .slice A1 f1.length c1, .slice A2 f2.length c2, .int .i64 f3, .int .i64 f4] 50 (0, 0))) : W.cell? ⟨g, 4, none⟩ = some (.int .i64 f4) := (blk_cell h 4).trans rfl
theorem IsS50.set_4 {w0 W : World} {g : Nat} {f0 : List ByteArray} {f1 : List ByteArray} {f2 : List (S62)} {f3 : Int} {f4 : Int} (h : IsS50 w0 W g f0 f1 f2 f3 f4) (x : Int) : IsS50 w0 (W.setCell ⟨g, 4, none⟩ (.int .i64 x)) g f0 f1 f2 f3 x := by
  obtain ⟨A0, c0, A1, c1, A2, c2, hb, hg, hr0, hr1, hr2⟩ := h
  exact ⟨A0, c0, A1, c1, A2, c2, by simpa using blk_set hb 4 (.int .i64 x), hg, hr0, hr1, hr2⟩
theorem IsS50.new (w0 W : World) (A0 : Option Addr) (c0 : Nat) (A1 : Option Addr) (c1 : Nat) (A2 : Option Addr) (c2 : Nat) (f0 : List ByteArray) (f1 : List ByteArray) (f2 : List (S62)) (f3 : Int) (f4 : Int) (hB : Below w0.heap.size w0 W) (hr0 : Kd.C Kd.string w0 A0 f0.length f0) (hr1 : Kd.C Kd.string w0 A1 f1.length f1) (hr2 : Kd.C k62 w0 A2 f2.length f2) : IsS50 w0 (W.alloc (.cells #[.slice A0 f0.length c0, .slice A1 f1.length c1, .slice A2 f2.length c2, .int .i64 f3, .int .i64 f4] 50)) W.heap.size f0 f1 f2 f3 f4 := ⟨A0, c0, A1, c1, A2, c2, by simpa using heap_alloc_new W _, hB.size, hr0, hr1, hr2⟩

/-! ### rabbetref18_Dev_Stop: function 19 -/
def rabbetref18_Dev_Stop.f (s0_0 : List ByteArray) (s0_1 : List ByteArray) (s0_2 : List (S62)) (s0_3 : Int) (s0_4 : Int) (a1 : Int) : Option (Int × Int) := some (s0_3, mx a1 (-1))
set_option maxHeartbeats 8000000 in
set_option maxRecDepth 100000 in
theorem rabbetref18_Dev_Stop.calls (g : Nat) (s0_0 : List ByteArray) (s0_1 : List ByteArray) (s0_2 : List (S62)) (s0_3 : Int) (s0_4 : Int) (a1 : Int) (r1 : Int) (r2 : Int) (w0 w : World) (hI : IsS50 w0 w g s0_0 s0_1 s0_2 s0_3 s0_4) (hB : Below w0.heap.size w0 w) (h : rabbetref18_Dev_Stop.f s0_0 s0_1 s0_2 s0_3 s0_4 a1 = some (r1, r2)) :
    Calls Try.prog 19 #[.pointer (some ⟨g, 0, none⟩), .int .i64 a1] w fun e w' => e = .returned (.tuple #[]) ∧ IsS50 w0 w' g s0_0 s0_1 s0_2 r1 r2 ∧ Below w0.heap.size w0 w' ∧ KeepBut w w' g none := by
  have HI0 := Aside0.mk hI
  have HK := Aside0.mk (KeepBut.refl w g none)
  have HL := Aside0.mk hB.size
  clear hI
  have HW0 := Aside0.mk hB.size
  have HB := Aside0.mk hB
  clear hB
  have H : (some (s0_3, mx a1 (-1))) = some (r1, r2) := h
  clear h
  obtain ⟨ji3, hji3⟩ : ∃ j_ : Int, (mx a1 (-1)) = j_ := ⟨_, rfl⟩
  replace H : (some (s0_3, ji3)) = some (r1, r2) := by first | (rw [hji3] at H; exact H) | (simp only [hji3] at H ⊢; exact H) | exact H
  have hji3_ : (if a1 < (-1) then (-1) else a1) = ji3 := hji3
  simp only [Option.some.injEq, Prod.mk.injEq] at H
  obtain ⟨rfl, rfl⟩ := H
  obtain ⟨ASz4_0, cSz4_0, ASz4_1, cSz4_1, ASz4_2, cSz4_2, HGz4, hgz4, HSz4_0, HSz4_1, HSz4_2⟩ := HI0.out
  have hcz4_0 := cellS50_0 HGz4
  have hcz4_1 := cellS50_1 HGz4
  have hcz4_2 := cellS50_2 HGz4
  have hcz4_3 := cellS50_3 HGz4
  have hcz4_4 := cellS50_4 HGz4
  have hfz4_3 := blk_frozen HGz4 3
  have hfz4_4 := blk_frozen HGz4 4
  clear HGz4 hgz4
  go_enter Try.func19, Try.ntmps19
  go_wp2
  first | go_end0 | ((try simp only [Exit.inBlock, Exit.then]); refine bodyPost_ret (results_none rfl _ _ _) rfl ?_)
  exact ⟨by first | rfl | (simp [errW_none, errW_some] <;> rfl) | (simp only [← hji3]; first | rfl | (simp [errW_none, errW_some] <;> rfl)) | (simp [*, errW_none, errW_some] <;> rfl), by repeat (first | (with_reducible first | exact HI0.out | apply IsS50.alloc | apply IsS50.drewN | apply IsS50.drew | apply IsS50.set_3 | apply IsS50.set_4) | exact HI0.out), by repeat (first | (with_reducible first | exact HB.out | apply below_alloc | apply pw_below_drewN | apply below_drew1 | refine below_set ?_ (IsS50.ge HI0.out)) | exact HB.out), by repeat (first | (with_reducible first | exact HK.out | apply KeepBut.set_ | apply keep_drewN | apply keep_drew | apply keep_alloc) | exact HK.out)⟩

-- NOT PRINTED: function 20 (rabbetref18_Dev_Crash)

/-! ### rabbetlaw0_Handed: function 22 -/
/-- Five known bytes stand in the room behind the row. -/
def Spare (w : World) (v : Value) (n : Nat) : Prop := ∃ g cap, v = .slice (some ⟨g, 0, none⟩) n cap ∧ n + 5 ≤ cap ∧ ∀ i, i < 5 → w.cell? ⟨g, n + i, none⟩ = some (.int .u8 ((161 + i : Nat) : Int))
theorem Spare.move {w w1 : World} {v : Value} {n : Nat} (h : Spare w v n) (hm : ∀ k, v.ownBlock = some k → w1.heap[k]? = w.heap[k]?) : Spare w1 v n := by
  obtain ⟨g, cap, rfl, hc, hh⟩ := h
  refine ⟨g, cap, rfl, hc, fun i hi => ?_⟩
  rw [← hh i hi]
  have := hm g rfl
  unfold World.cell?
  rw [this]
def Kd.H {α : Type} (d : Kd α) (e : Nat) (w : World) (base : Nat) (ok : Nat → Prop) (v : Value) (xs : List α) : Prop := d.R e w base ok v xs ∧ Spare w v xs.length
section
variable {α : Type} {d : Kd α} {e e' : Nat} {w w1 W : World} {base base' : Nat} {ok ok' : Nat → Prop} {v u : Value} {xs : List α}
theorem Kd.H_R (h : Kd.H d e w base ok v xs) : d.R e w base ok v xs := h.1
theorem Kd.H_spare (h : Kd.H d e w base ok v xs) : Spare w v xs.length := h.2
theorem Kd.H_mono (h : Kd.H d e w base ok v xs) (hok : ∀ k, ok k → ok' k) : Kd.H d e w base ok' v xs := ⟨Kd.R_mono h.1 hok, h.2⟩
theorem Kd.H_lower (h : Kd.H d e w base ok v xs) (hb : base' ≤ base) : Kd.H d e w base' ok v xs := ⟨Kd.R_lower h.1 hb, h.2⟩
theorem Kd.H_lt (h : Kd.H d e w base ok v xs) : ∀ k, v.ownBlock = some k → k < w.heap.size := Kd.R_lt h.1
theorem Kd.H_base (h : Kd.H d e w base ok v xs) : ∀ k, v.ownBlock = some k → base ≤ k := Kd.R_base h.1
theorem Kd.H_typed (h : Kd.H d e w base ok v xs) : ∀ k, v.ownBlock = some k → ∃ cells, w.heap[k]? = some (.cells cells e (0, 0)) := Kd.R_typed h.1
theorem Kd.H_reads' {A : Option Addr} {n c : Nat} (h : Kd.H d e w base ok (.slice A n c) xs) : n = xs.length ∧ n ≤ c ∧ d.C w A xs.length xs := Kd.R_reads' h.1
theorem Kd.H_form (h : Kd.H d e w base ok v xs) (hp : 0 < xs.length) : ∃ g cap, v = .slice (some ⟨g, 0, none⟩) xs.length cap ∧ base ≤ g ∧ g < w.heap.size ∧ ∃ cells, w.heap[g]? = some (.cells cells e (0, 0)) := Kd.R_form h.1 hp
theorem Kd.H_slice (h : Kd.H d e w base ok v xs) : ∃ A c, v = .slice A xs.length c := Kd.R_slice h.1
theorem Kd.H_below (h : Kd.H d e w base ok v xs) (hb : Below w.heap.size w w1) : Kd.H d e w1 base ok v xs := ⟨Kd.R_below h.1 hb, h.2.move (fun k hk => hb.block k (Kd.R_lt h.1 k hk))⟩
theorem Kd.H_alloc (h : Kd.H d e w base ok v xs) (o : Obj) : Kd.H d e (w.alloc o) base ok v xs := Kd.H_below h (below_alloc (Below.refl _ _) o)
theorem Kd.H_drewN (h : Kd.H d e w base ok v xs) (m : Nat) : Kd.H d e (w.drewN m) base ok v xs := Kd.H_below h (pw_below_drewN (Below.refl _ _) m)
theorem Kd.H_drew (h : Kd.H d e w base ok v xs) : Kd.H d e w.drew base ok v xs := Kd.H_below h (below_drew (Below.refl _ _))
theorem Kd.H_grown (h : Kd.H d e w base ok v xs) {row : Option Nat} (hg : w.grownBy w1 row) (hok : ∀ k, ok k → some k ≠ row) : Kd.H d e w1 base ok v xs :=
  ⟨Kd.R_grown h.1 hg hok, h.2.move (fun k hk => hg.block k (Kd.R_lt h.1 k hk) (hok k (h.1.1 k hk)))⟩
theorem Kd.H_far (h : Kd.H d e w base ok v xs) {p : Addr} (hok : ∀ k, ok k → k ≠ p.block) (x : Value) : Kd.H d e (w.setCell p x) base ok v xs :=
  ⟨Kd.R_far h.1 hok x, h.2.move (fun k hk => Below.heap_setCell w p x k (hok k (h.1.1 k hk)))⟩
theorem Kd.H_elder' (hu : Kd.H d e W base ok u xs) (hbase : ∀ k, v.ownBlock = some k → W.heap.size ≤ k) (hb : Below W.heap.size W w1) : Kd.H d e w1 base (fun k => ok k ∧ some k ≠ v.ownBlock) u xs :=
  ⟨Kd.R_elder' hu.1 hbase hb, hu.2.move (fun k hk => hb.block k (Kd.R_lt hu.1 k hk))⟩
theorem Kd.H_old (hu : Kd.H d e W base ok u xs) (hb : Below W.heap.size W w1) : Kd.H d e w1 base (fun k => ok k ∧ k < W.heap.size) u xs :=
  ⟨Kd.R_old hu.1 hb, hu.2.move (fun k hk => hb.block k (Kd.R_lt hu.1 k hk))⟩
theorem Kd.H_told {N : Nat} (h : Kd.H d e w1 base (fun k => ok k ∧ k < N) u xs) (hbase : ∀ k, v.ownBlock = some k → N ≤ k) : Kd.H d e w1 base (fun k => (ok k ∧ some k ≠ v.ownBlock) ∧ k < N) u xs := ⟨Kd.R_told h.1 hbase, h.2⟩
theorem Kd.H_apart' (h : Kd.H d e W base ok u xs) (hty : ∀ k, v.ownBlock = some k → ∃ cells, W.heap[k]? = some (.cells cells e' (0, 0))) (ht : ∀ q, q ∈ e :: d.E → q ≠ e') : Kd.H d e W base (fun k => ok k ∧ some k ≠ v.ownBlock) u xs := ⟨Kd.R_apart' h.1 hty ht, h.2⟩
theorem Kd.H_apart_nil (h : Kd.H d e w base ok u xs) : Kd.H d e w base (fun k => ok k ∧ some k ≠ (Value.slice none 0 0).ownBlock) u xs := ⟨Kd.R_apart_nil h.1, h.2⟩
theorem Kd.H_after {v1 : Value} (h : Kd.H d e W base (fun k => ok k ∧ some k ≠ v.ownBlock) u xs) (hg : W.grownBy w1 v.ownBlock) (hat : v1.ownBlock = v.ownBlock ∨ ∃ b, v1.ownBlock = some b ∧ W.heap.size ≤ b) : Kd.H d e w1 base (fun k => ok k ∧ some k ≠ v1.ownBlock) u xs :=
  ⟨Kd.R_after h.1 hg hat, h.2.move (fun k hk => hg.block k (Kd.R_lt h.1 k hk) (h.1.1 k hk).2)⟩
theorem Kd.H_over' (h : Kd.H d e W base ok u xs) (hty : ∀ k, v.ownBlock = some k → ∃ cells, W.heap[k]? = some (.cells cells e' (0, 0))) (ht : ∀ q, q ∈ e :: d.E → q ≠ e') (hg : W.grownBy w1 v.ownBlock) : Kd.H d e w1 base ok u xs :=
  ⟨Kd.R_over' h.1 hty ht hg, h.2.move (fun k hk => hg.block k (Kd.R_lt h.1 k hk) (((Kd.R_apart' h.1 hty ht).1 k hk).2))⟩
theorem Kd.H_types (h : Kd.H d e w base ok v xs) {g t : Nat} {cells : Array Value} (hb : w.heap[g]? = some (.cells cells t (0, 0))) (ht : ∀ q, q ∈ e :: d.E → q ≠ t) : Kd.H d e w base (fun k => ok k ∧ k ≠ g) v xs := ⟨Kd.R_types h.1 hb ht, h.2⟩
theorem Kd.H_ne (h : Kd.H d e w base ok v xs) {g t : Nat} {cells : Array Value} (hb : w.heap[g]? = some (.cells cells t (0, 0))) (ht : e ≠ t) : some g ≠ v.ownBlock := Kd.R_ne h.1 hb ht
end
/-- Nothing that was there has changed, and the five bytes stand behind the row. -/
structure BelowS (w W : World) (v : Value) (n : Nat) : Prop where
  b : Below w.heap.size w W
  s : Spare W v n
section
variable {w W w2 : World} {v : Value} {n : Nat}
theorem spare_below (h : Spare W v n) (hb : Below W.heap.size W w2) : Spare w2 v n := by
  obtain ⟨g, cap, rfl, hc, hh⟩ := h
  exact ⟨g, cap, rfl, hc, fun i hi => (hb.cell (World.block_lt_of_cell? W _ (hh i hi))).trans (hh i hi)⟩
theorem belowS_step (h : BelowS w W v n) (k : Below W.heap.size W w2) : BelowS w w2 v n := ⟨below_step h.b k, spare_below h.s k⟩
theorem belowS_alloc (h : BelowS w W v n) (o : Obj) : BelowS w (W.alloc o) v n := belowS_step h (below_alloc (Below.refl _ _) o)
theorem belowS_drewN (h : BelowS w W v n) (m : Nat) : BelowS w (W.drewN m) v n := belowS_step h (pw_below_drewN (Below.refl _ _) m)
theorem belowS_drew1 (h : BelowS w W v n) : BelowS w W.drew v n := belowS_step h (below_drew (Below.refl _ _))
theorem belowS_size (h : BelowS w W v n) : w.heap.size ≤ W.heap.size := h.b.size
theorem belowS_spare (h : BelowS w W v n) : Spare W v n := h.s
/-- The same of two rows. -/
structure BelowT (w W : World) (v : Value) (n : Nat) (v2 : Value) (n2 : Nat) : Prop where
  s1 : BelowS w W v n
  s2 : Spare W v2 n2
theorem BelowT.b {v2 : Value} {n2 : Nat} (h : BelowT w W v n v2 n2) : Below w.heap.size w W := h.s1.b
theorem belowT_step {v2 : Value} {n2 : Nat} (h : BelowT w W v n v2 n2) (k : Below W.heap.size W w2) : BelowT w w2 v n v2 n2 := ⟨belowS_step h.s1 k, spare_below h.s2 k⟩
theorem belowT_alloc {v2 : Value} {n2 : Nat} (h : BelowT w W v n v2 n2) (o : Obj) : BelowT w (W.alloc o) v n v2 n2 := belowT_step h (below_alloc (Below.refl _ _) o)
theorem belowT_drewN {v2 : Value} {n2 : Nat} (h : BelowT w W v n v2 n2) (m : Nat) : BelowT w (W.drewN m) v n v2 n2 := belowT_step h (pw_below_drewN (Below.refl _ _) m)
theorem belowT_drew1 {v2 : Value} {n2 : Nat} (h : BelowT w W v n v2 n2) : BelowT w W.drew v n v2 n2 := belowT_step h (below_drew (Below.refl _ _))
theorem belowT_size {v2 : Value} {n2 : Nat} (h : BelowT w W v n v2 n2) : w.heap.size ≤ W.heap.size := h.b.size
theorem belowT_spare {v2 : Value} {n2 : Nat} (h : BelowT w W v n v2 n2) : Spare W v n := h.s1.s
theorem belowT_spare2 {v2 : Value} {n2 : Nat} (h : BelowT w W v n v2 n2) : Spare W v2 n2 := h.s2
end
def rabbetlaw0_Handed.f (l0 : List Int) : Option (List Int) := if l0.length ≤ 1000000 then (some l0) else none
theorem rabbetlaw0_Handed.info : (Try.prog.info? 5).map (fun i => (i.zero, i.size, i.bytes)) = some (some (.int .u8 0), 1, 1) := by kernel_rfl
theorem rabbetlaw0_Handed.make (n : Nat) (hn : n ≤ 1000000) (W : World) : (Instr.makeSlice 23 (.int .i64 (n : Int)) (.int .i64 ((n : Int) + 5))).run Try.prog W = .ok (.slice (some ⟨W.heap.size, 0, none⟩) n (n + 5)) (W.alloc (.cells (madeCells #[.int .u8 0] (n + 5)) 5)) := by
  obtain ⟨i, hi, hz⟩ := Option.map_eq_some_iff.1 rabbetlaw0_Handed.info
  simp only [Prod.mk.injEq] at hz
  obtain ⟨hz0, hz1, hz2⟩ := hz
  have := run_make (P := Try.prog) W 23 5 i (.int .u8 0) Try.underlying23 hi hz0 .i64 .i64 (n : Int) ((n : Int) + 5) (by omega) (by omega) (by rw [hz2]; omega) (by omega)
  rw [hz1, Nat.mul_one, Int.toNat_natCast, show ((n : Int) + 5).toNat = n + 5 by omega] at this
  exact this
theorem rabbetlaw0_Handed.fill (l : List Int) (n i : Nat) (hi : i < n) (hl : l.length = n) : (l.take i ++ List.replicate (n + 5 - i) 0).set i (rd l (i : Int)) = l.take (i + 1) ++ List.replicate (n + 5 - (i + 1)) 0 := by
  have h1 : (l.take i).length = i := by rw [List.length_take]; omega
  rw [List.set_append_right _ _ (by omega), h1, Nat.sub_self, show n + 5 - i = (n + 5 - (i + 1)) + 1 by omega, List.replicate_succ, List.set_cons_zero]
  rw [List.take_succ_eq_append_getElem (by omega), List.append_assoc]
  congr 1
  simp [rd, List.getD_eq_getElem?_getD, List.getElem?_eq_getElem (show i < l.length by omega)]
def rabbetlaw0_Handed.tail (i : Nat) : List Int := (List.range 5).map fun j => if j < i then ((161 + j : Nat) : Int) else 0
theorem rabbetlaw0_Handed.mark (l : List Int) (n i : Nat) (hi : i < 5) (hl : l.length = n) : (l ++ rabbetlaw0_Handed.tail i).set (n + i) ((161 + i : Nat) : Int) = l ++ rabbetlaw0_Handed.tail (i + 1) := by
  rw [List.set_append_right _ _ (by omega), hl, Nat.add_sub_cancel_left]
  congr 1
  have : i = 0 ∨ i = 1 ∨ i = 2 ∨ i = 3 ∨ i = 4 := by omega
  rcases this with rfl | rfl | rfl | rfl | rfl <;> rfl
theorem rabbetlaw0_Handed.relen {w : World} {base n m : Nat} {e : TypeId} {v : Value} {xs : List Value} (h : n = m) (ho : w.ownsRow base e 1 v n xs) : w.ownsRow base e 1 v m xs := h ▸ ho
theorem rabbetlaw0_Handed.rd_tail (l : List Int) (i : Nat) (hi : i < 5) : rd (l ++ rabbetlaw0_Handed.tail 5) ((l.length + i : Nat) : Int) = ((161 + i : Nat) : Int) := by
  unfold rd
  rw [Int.toNat_natCast, List.getD_eq_getElem?_getD, List.getElem?_append_right (by omega), Nat.add_sub_cancel_left]
  have : i = 0 ∨ i = 1 ∨ i = 2 ∨ i = 3 ∨ i = 4 := by omega
  rcases this with rfl | rfl | rfl | rfl | rfl <;> rfl
theorem rabbetlaw0_Handed.cut (A : Option Addr) (n c : Nat) (hc : n + 5 ≤ c := by omega) : ∀ W : World, (Instr.slice 23 (.slice A n c) none (some (.int .i64 ((n : Int) + 5))) none).run Try.prog W = .ok (.slice A (n + 5) c) W := by
  intro W
  obtain ⟨i0, hi0, hz⟩ := Option.map_eq_some_iff.1 rabbetlaw0_Handed.info
  simp only [Prod.mk.injEq] at hz
  have hel : Try.prog.elem 23 = 5 := by simp [Program.elem, Try.underlying23]
  have hu : Try.prog.underlying 23 = some (.slice (Try.prog.elem 23)) := by rw [hel]; exact Try.underlying23
  rw [run_slice_h W 23 A n c hu .i64 ((n : Int) + 5) (by omega) (by omega), hel]
  simp [sizeOf, typeInfo, hi0, hz.2.1, sliced, Result.andThen]
  refine ⟨fun _ => ?_, by omega⟩
  cases A <;> simp [Addr.add_zero']
set_option maxHeartbeats 4000000 in
set_option maxRecDepth 100000 in
theorem rabbetlaw0_Handed.calls (A0 : Option Addr) (c0 : Nat) (l0 : List Int) (r : List Int) (w : World) (hr0 : Kd.C (Kd.int .u8) w A0 l0.length l0) (hc0 : l0.length ≤ c0) (h : rabbetlaw0_Handed.f l0 = some r) :
    Calls Try.prog 22 #[.slice A0 l0.length c0] w fun e w' => ∃ v0_ : Value, e = .returned v0_ ∧ Kd.H (Kd.int .u8) 5 w' w.heap.size (fun _ => True) v0_ r ∧ Below w.heap.size w w' := by
  have hn : l0.length ≤ 1000000 := by
    unfold rabbetlaw0_Handed.f at h
    by_cases c : l0.length ≤ 1000000
    · exact c
    · rw [if_neg c] at h; cases h
  have hr : r = l0 := by unfold rabbetlaw0_Handed.f at h; rw [if_pos hn] at h; exact (Option.some.inj h).symm
  clear h
  have HR := Aside0.mk hr
  clear hr
  have HR0 := Aside0.mk hr0
  clear hr0
  have mk := rabbetlaw0_Handed.make l0.length hn
  have mz : madeCells #[.int .u8 0] (l0.length + 5) = (nums .u8 (l0.take 0 ++ List.replicate (l0.length + 5 - 0) 0)).toArray := by
    apply Array.ext'
    simp only [List.take_zero, List.nil_append, Nat.sub_zero]
    apply List.ext_getElem
    · simp [nums, madeCells]
    · intro i h1 h2
      simp [nums, madeCells, Nat.mod_one]
  have MZ := Aside0.mk mz
  clear mz
  go_enter Try.func22, Try.ntmps22
  go_wp2
  go_loopg [4] (l0.length + 1) (fun kq v4 w' => ∃ i : Nat, v4 = .int .i64 (i : Int) ∧ Aside0 (i ≤ l0.length ∧ l0.length < kq + i) ∧ Aside0 (w'.ownsRow w.heap.size 5 1 (.slice (some ⟨w.heap.size, 0, none⟩) (l0.length + 5) (l0.length + 5)) (l0.length + 5) (nums .u8 (l0.take i ++ List.replicate (l0.length + 5 - i) 0))) ∧ Aside0 (Below w.heap.size w w'))
  case atStart =>
    refine ⟨0, rfl, ⟨Nat.zero_le _, by omega⟩, ⟨?_⟩, ⟨(Below.refl _ _).alloc (Nat.le_refl _) _⟩⟩
    rw [MZ.out]
    have z := own_lit w w.heap.size 5 .u8 (List.replicate (l0.length + 5) 0) (Nat.le_refl _) (by simp; omega)
    rw [List.length_replicate] at z
    simp only [List.take_zero, List.nil_append, Nat.sub_zero]
    exact z
  case round =>
    obtain ⟨i, rfl, HI, HO, HB⟩ := hrel
    have hi1 := HI.out.1
    by_cases hlt : i < l0.length
    · obtain ⟨ad, e0, hx⟩ := Kd.at_int HR0.out (i : Int) (by omega) (by omega)
      cases e0
      replace hx := (HB.out.cell (World.block_lt_of_cell? w _ hx)).trans hx
      rw [Int.toNat_natCast] at hx
      have hg := own_at HO.out (i : Int) (by omega) (by omega)
      obtain ⟨hg1, hg2⟩ := hg
      rw [Int.toNat_natCast] at hg1 hg2
      have hlt2 : (i : Int) < (l0.length : Int) := by omega
      have hd : decide (i < l0.length) = true := decide_eq_true hlt
      go_wp2
      go_roundg (l0.length - i)
      case measure => have := HI.out; omega
      case rel =>
        refine ⟨i + 1, by go_num, ⟨by omega, by omega⟩, ⟨?_⟩, ⟨?_⟩⟩
        · have := (own_store HO.out (i : Int) (rd l0 (i : Int))).1
          rw [Int.toNat_natCast, rabbetlaw0_Handed.fill l0 l0.length i hlt rfl] at this
          exact this
        · exact HB.out.setCell (Nat.le_refl _) _
    · have hie : i = l0.length := by omega
      have hd : decide (i < l0.length) = false := decide_eq_false hlt
      subst hie
      have HO2 := Aside0.mk (show World.ownsRow _ w.heap.size 5 1 (.slice (some ⟨w.heap.size, 0, none⟩) (l0.length + 5) (l0.length + 5)) (l0.length + 5) (nums .u8 (l0 ++ rabbetlaw0_Handed.tail 0)) from by
        have z := HO.out
        rw [List.take_length, show List.replicate (l0.length + 5 - l0.length) (0 : Int) = rabbetlaw0_Handed.tail 0 by rw [Nat.add_sub_cancel_left]; rfl] at z
        exact z)
      clear HO HI hi1
      have hcut := rabbetlaw0_Handed.cut (some ⟨w.heap.size, 0, none⟩) l0.length (l0.length + 5)
      go_wp2
      go_loopg [6] 6 (fun kq v6 w' => ∃ i : Nat, v6 = .int .i64 (i : Int) ∧ Aside0 (i ≤ 5 ∧ 5 < kq + i) ∧ Aside0 (w'.ownsRow w.heap.size 5 1 (.slice (some ⟨w.heap.size, 0, none⟩) (l0.length + 5) (l0.length + 5)) (l0.length + 5) (nums .u8 (l0 ++ rabbetlaw0_Handed.tail i))) ∧ Aside0 (Below w.heap.size w w'))
      case atStart => exact ⟨0, rfl, ⟨by omega, by omega⟩, HO2, HB⟩
      case round =>
        clear HO2 HB hd hlt hcut
        obtain ⟨i, rfl, HI, HO, HB⟩ := hrel
        have hi1 := HI.out.1
        by_cases hlt : i < 5
        · obtain ⟨hg1, hg2⟩ := own_at HO.out ((l0.length + i : Nat) : Int) (by omega) (by omega)
          rw [Int.toNat_natCast] at hg1 hg2
          have hd : decide ((i : Int) < 5) = true := decide_eq_true (by omega)
          have hlt3 : (i : Int) < 5 := by omega
          have hsum : IntKind.i64.wrap ((l0.length : Int) + (i : Int)) = ((l0.length + i : Nat) : Int) := by simp only [i64_w]; unfold wrap64; omega
          have hin : ((l0.length + i : Nat) : Int) < ((l0.length + 5 : Nat) : Int) := by omega
          have hin2 : decide (l0.length + i < l0.length + 5) = true := decide_eq_true (by omega)
          go_wp2
          go_roundg (5 - i)
          case measure => have := HI.out; omega
          case rel =>
            refine ⟨i + 1, by go_num, ⟨by omega, by have := HI.out; omega⟩, ⟨?_⟩, ⟨?_⟩⟩
            · have z := (own_store HO.out ((l0.length + i : Nat) : Int) ((161 + i : Nat) : Int)).1
              rw [Int.toNat_natCast, rabbetlaw0_Handed.mark l0 l0.length i hlt rfl, show ((161 + i : Nat) : Int) = 161 + (i : Int) by omega] at z
              exact z
            · exact HB.out.setCell (Nat.le_refl _) _
        · have hie : i = 5 := by omega
          subst hie
          go_wp2
          go_ret
          have hx : (l0 ++ rabbetlaw0_Handed.tail 5).length = l0.length + 5 := by rw [List.length_append]; rfl
          have hown := HO.out
          have hown2 := rabbetlaw0_Handed.relen hx.symm hown
          have hR := Kd.R_take (m := l0.length) (Kd.R_of_own (h1 := fun _ => rfl) (ok := fun _ => True) hown2 (fun _ _ => trivial)) (by rw [hx]; omega)
          rw [List.take_left] at hR
          rw [HR.out]
          refine ⟨_, rfl, ⟨hR, ⟨w.heap.size, l0.length + 5, rfl, Nat.le_refl _, fun i hi => ?_⟩⟩, HB.out⟩
          obtain ⟨hg1, _⟩ := own_at HO.out ((l0.length + i : Nat) : Int) (by omega) (by omega)
          rw [Int.toNat_natCast, rabbetlaw0_Handed.rd_tail l0 i hi] at hg1
          exact hg1

-- NOT PRINTED: function 23 (rabbetref18_Dev_Write)

end Go.Proofs.Ytaoegbebeogkbaa.PDev
