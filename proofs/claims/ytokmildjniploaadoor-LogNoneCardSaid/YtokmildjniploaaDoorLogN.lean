/- LogNone: what no log tells: the walk. Conditions: none. -/
import Derived.Test.YtokmildjniploaaDoorLogG
namespace Go.Proofs.YtokmildjniploaaDoor.PLog
open Go.RowKit Go.Proofs.YtokmildjniploaaDoorW.PrintWords Go.Proofs.YtokmildjniploaaDoorW.PrintLast Go.Proofs.YtokmildjniploaaDoorW.PrintMore Go.Proofs.YtokmildjniploaaDoor.BGLog
open Go.Extern.Stop Go.Stop Go.Extern
set_option linter.unusedVariables false
set_option linter.unusedSimpArgs false
theorem slot_zero (i : Nat) : slotB z128 i = false := by
  have : numS z128 = 0 := by decide +kernel
  unfold slotB
  rw [this]
  simp
theorem slot_nil (i : Nat) : slotB [] i = false := by
  have : numS [] = 0 := by decide
  unfold slotB
  rw [this]
  simp
theorem row_new (nb : Nat) (i : Int) : rowAt (newD nb) i = z128 ∨ rowAt (newD nb) i = [] := by
  unfold rowAt
  split
  · rename_i h
    have hl : (newD nb).seen.length = nb := List.length_replicate
    rw [hl] at h
    refine .inl ?_
    show (List.replicate nb z128).getD i.toNat [] = z128
    rw [List.getD_eq_getElem?_getD, List.getElem?_replicate, if_pos (by omega)]
    rfl
  · exact .inr rfl
theorem slot_new (nb : Nat) (i : Nat) : slotB (rowAt (newD nb) (i : Int)) i = false := by
  rcases row_new nb (i : Int) with h | h
  · rw [h]; exact slot_zero i
  · rw [h]; exact slot_nil i
theorem gen_new (nb : Nat) : genTo (newD nb) 2 = 0 := by
  unfold genTo
  rw [slot_new, if_neg (by decide)]
  unfold genTo
  rw [slot_new, if_neg (by decide)]
  rfl
set_option maxHeartbeats 16000000 in
set_option maxRecDepth 100000 in
theorem none_no (GA : Nat → Addr) (a : Int) (b nb : Nat) (w : World) (HG : Aside0 (Glob GA w)) (hb : b < 256) (hnb : 1 + b = nb) (h0 : ¬ (1000 < a ∧ a < 1048576)) (HMY : Aside0 (mayB (newD nb) a = false)) :
    Calls Tryd.prog 4 #[.int .i64 a, .int .u8 (b : Int)] w fun e w' => e = .returned (.bool true) ∧ Below w.heap.size w w' := by
  have hn1 : 1 ≤ nb := by omega
  have hn2 : nb ≤ 256 := by omega
  have hwb : IntKind.i64.wrap (b : Int) = (b : Int) := by rw [IntKind.wrap_i64]; omega
  have hwn : IntKind.i64.wrap (1 + (b : Int)) = (nb : Int) := by rw [IntKind.wrap_i64]; omega
  have hmy := of_decide_eq_false HMY.out
  rw [show (newD nb).seen.length = nb from List.length_replicate] at hmy
  by_cases h1 : a < 1
  · have d1 : decide ((1000 : Int) < a) = false := decide_eq_false (by omega)
    have d2 : decide (1 ≤ a) = false := decide_eq_false (by omega)
    clear hmy h0 h1 hnb
    go_enter Tryd.func4, Tryd.ntmps4
    go_wp2_with (first | (go_at_call 7; (refine (begun GA _ HG.out).mono ?_); rintro e w1 ⟨rfl, hb⟩; have HB := Aside0.mk hb; clear hb) | (go_at_call 8; (refine (New nb _ hn1 (by omega)).mono ?_); rintro e w2 ⟨gd, rfl, hd, hb⟩; have HD := Aside0.mk (hd.mono (fun k hk => show w.heap.size ≤ k from Nat.le_trans HB.out.size hk)); have n0 := Aside0.mk (below_step HB.out hb); clear HB hd hb; have HB := n0; clear n0) | (go_at_call 11; (with_reducible refine (Open_nil 3 _).mono ?_); rintro e wz ⟨rfl, hww⟩; subst hww) | (go_at_call 10; (with_reducible refine (Make_nil 3 (.slice none 0 0) _).mono ?_); rintro e wz ⟨rfl, hww⟩; subst hww) | (go_at_call 13; (refine (Append_nil none 0 0 _).mono ?_); rintro e wz ⟨rfl, hww⟩; subst hww) | (go_at_call 15; (refine (Anew_nil _).mono ?_); rintro e wz ⟨rfl, hww⟩; subst hww) | (go_at_call 12; (refine (Room_nil _).mono ?_); rintro e wz ⟨rfl, hww⟩; subst hww) | (go_at_call 16; (refine (Gen_nil _).mono ?_); rintro e wz ⟨rfl, hww⟩; subst hww) | (go_at_call 11; (with_reducible refine (Open_no _ gd (newD nb) a _ HD.out HMY.out).mono ?_); rintro e w3 ⟨rfl, hb⟩; have n0 := Aside0.mk (below_step HB.out hb); have n1 := Aside0.mk (HD.out.below hb); clear HB HD hb; have HB := n0; have HD := n1; clear n0 n1) | (go_at_call 10; (with_reducible refine (Make_no _ gd (newD nb) a (.slice none 0 0) _ HD.out HMY.out).mono ?_); rintro e w3 ⟨rfl, hb⟩; have n0 := Aside0.mk (below_step HB.out hb); clear HB hb; have HB := n0; clear n0))
    go_ret
    exact ⟨rfl, HB.out⟩
  by_cases h2 : 1000 < a
  · have d1 : decide ((1000 : Int) < a) = true := decide_eq_true h2
    have d2 : decide (a < 1048576) = false := decide_eq_false (fun h => h0 ⟨h2, h⟩)
    have d3 : decide (1 ≤ a) = true := decide_eq_true (by omega)
    have d4 : decide (a ≤ 1000) = false := decide_eq_false (by omega)
    clear hmy h0 h1 h2 hnb
    go_enter Tryd.func4, Tryd.ntmps4
    go_wp2_with (first | (go_at_call 7; (refine (begun GA _ HG.out).mono ?_); rintro e w1 ⟨rfl, hb⟩; have HB := Aside0.mk hb; clear hb) | (go_at_call 8; (refine (New nb _ hn1 (by omega)).mono ?_); rintro e w2 ⟨gd, rfl, hd, hb⟩; have HD := Aside0.mk (hd.mono (fun k hk => show w.heap.size ≤ k from Nat.le_trans HB.out.size hk)); have n0 := Aside0.mk (below_step HB.out hb); clear HB hd hb; have HB := n0; clear n0) | (go_at_call 11; (with_reducible refine (Open_nil 3 _).mono ?_); rintro e wz ⟨rfl, hww⟩; subst hww) | (go_at_call 10; (with_reducible refine (Make_nil 3 (.slice none 0 0) _).mono ?_); rintro e wz ⟨rfl, hww⟩; subst hww) | (go_at_call 13; (refine (Append_nil none 0 0 _).mono ?_); rintro e wz ⟨rfl, hww⟩; subst hww) | (go_at_call 15; (refine (Anew_nil _).mono ?_); rintro e wz ⟨rfl, hww⟩; subst hww) | (go_at_call 12; (refine (Room_nil _).mono ?_); rintro e wz ⟨rfl, hww⟩; subst hww) | (go_at_call 16; (refine (Gen_nil _).mono ?_); rintro e wz ⟨rfl, hww⟩; subst hww) | (go_at_call 11; (with_reducible refine (Open_no _ gd (newD nb) a _ HD.out HMY.out).mono ?_); rintro e w3 ⟨rfl, hb⟩; have n0 := Aside0.mk (below_step HB.out hb); have n1 := Aside0.mk (HD.out.below hb); clear HB HD hb; have HB := n0; have HD := n1; clear n0 n1) | (go_at_call 10; (with_reducible refine (Make_no _ gd (newD nb) a (.slice none 0 0) _ HD.out HMY.out).mono ?_); rintro e w3 ⟨rfl, hb⟩; have n0 := Aside0.mk (below_step HB.out hb); clear HB hb; have HB := n0; clear n0))
    go_ret
    exact ⟨rfl, HB.out⟩
  have d1 : decide ((1000 : Int) < a) = false := decide_eq_false h2
  have d3 : decide (1 ≤ a) = true := decide_eq_true (by omega)
  have d4 : decide (a ≤ 1000) = true := decide_eq_true (by omega)
  obtain ⟨n, rfl⟩ := Int.eq_ofNat_of_zero_le (show 0 ≤ a by omega)
  obtain ⟨m, hm⟩ : ∃ m, 2 + 2 * n = m := ⟨_, rfl⟩
  have w1 : IntKind.i64.wrap (2 * (n : Int)) = 2 * (n : Int) := by rw [IntKind.wrap_i64]; omega
  have w2 : IntKind.i64.wrap (2 + 2 * (n : Int)) = (m : Int) := by rw [IntKind.wrap_i64]; omega
  have d5 : decide ((m : Int) ≤ (nb : Int)) = false := decide_eq_false (by omega)
  have d5n : decide (m ≤ nb) = false := decide_eq_false (by omega)
  have d3n : decide (1 ≤ n) = true := decide_eq_true (by omega)
  have d4n : decide (n ≤ 1000) = true := decide_eq_true (by omega)
  have d1n : decide (1000 < n) = false := decide_eq_false (by omega)
  clear hmy h0 h1 h2 hnb hm
  generalize hz : (n : Int) = a at *
  clear hz
  go_enter Tryd.func4, Tryd.ntmps4
  go_wp2_with (first | (go_at_call 7; (refine (begun GA _ HG.out).mono ?_); rintro e w1 ⟨rfl, hb⟩; have HB := Aside0.mk hb; clear hb) | (go_at_call 8; (refine (New nb _ hn1 (by omega)).mono ?_); rintro e w2 ⟨gd, rfl, hd, hb⟩; have HD := Aside0.mk (hd.mono (fun k hk => show w.heap.size ≤ k from Nat.le_trans HB.out.size hk)); have n0 := Aside0.mk (below_step HB.out hb); clear HB hd hb; have HB := n0; clear n0) | (go_at_call 11; (with_reducible refine (Open_nil 3 _).mono ?_); rintro e wz ⟨rfl, hww⟩; subst hww) | (go_at_call 10; (with_reducible refine (Make_nil 3 (.slice none 0 0) _).mono ?_); rintro e wz ⟨rfl, hww⟩; subst hww) | (go_at_call 13; (refine (Append_nil none 0 0 _).mono ?_); rintro e wz ⟨rfl, hww⟩; subst hww) | (go_at_call 15; (refine (Anew_nil _).mono ?_); rintro e wz ⟨rfl, hww⟩; subst hww) | (go_at_call 12; (refine (Room_nil _).mono ?_); rintro e wz ⟨rfl, hww⟩; subst hww) | (go_at_call 16; (refine (Gen_nil _).mono ?_); rintro e wz ⟨rfl, hww⟩; subst hww) | (go_at_call 11; (with_reducible refine (Open_no _ gd (newD nb) a _ HD.out HMY.out).mono ?_); rintro e w3 ⟨rfl, hb⟩; have n0 := Aside0.mk (below_step HB.out hb); have n1 := Aside0.mk (HD.out.below hb); clear HB HD hb; have HB := n0; have HD := n1; clear n0 n1) | (go_at_call 10; (with_reducible refine (Make_no _ gd (newD nb) a (.slice none 0 0) _ HD.out HMY.out).mono ?_); rintro e w3 ⟨rfl, hb⟩; have n0 := Aside0.mk (below_step HB.out hb); clear HB hb; have HB := n0; clear n0))
  go_ret
  exact ⟨rfl, HB.out⟩
set_option maxHeartbeats 16000000 in
set_option maxRecDepth 100000 in
theorem none_yes (GA : Nat → Addr) (n : Nat) (b nb : Nat) (w : World) (HG : Aside0 (Glob GA w)) (hb : b < 256) (hnb : 1 + b = nb) (HMY : Aside0 (mayB (newD nb) (n : Int) = true)) :
    Calls Tryd.prog 4 #[.int .i64 (n : Int), .int .u8 (b : Int)] w fun e w' => e = .returned (.bool true) ∧ Below w.heap.size w w' := by
  have hn1 : 1 ≤ nb := by omega
  have hn2 : nb ≤ 256 := by omega
  have hwb : IntKind.i64.wrap (b : Int) = (b : Int) := by rw [IntKind.wrap_i64]; omega
  have hwn : IntKind.i64.wrap (1 + (b : Int)) = (nb : Int) := by rw [IntKind.wrap_i64]; omega
  have hmy := of_decide_eq_true HMY.out
  rw [show (newD nb).seen.length = nb from List.length_replicate] at hmy
  have d1 : decide ((1000 : Int) < (n : Int)) = false := decide_eq_false (by omega)
  have d3 : decide (1 ≤ (n : Int)) = true := decide_eq_true (by omega)
  have d4 : decide ((n : Int) ≤ 1000) = true := decide_eq_true (by omega)
  obtain ⟨m, hm⟩ : ∃ m, 2 + 2 * n = m := ⟨_, rfl⟩
  have w1 : IntKind.i64.wrap (2 * (n : Int)) = 2 * (n : Int) := by rw [IntKind.wrap_i64]; omega
  have w2 : IntKind.i64.wrap (2 + 2 * (n : Int)) = (m : Int) := by rw [IntKind.wrap_i64]; omega
  have d5 : decide ((m : Int) ≤ (nb : Int)) = true := decide_eq_true (by omega)
  have d5n : decide (m ≤ nb) = true := decide_eq_true (by omega)
  have d3n : decide (1 ≤ n) = true := decide_eq_true (by omega)
  have d4n : decide (n ≤ 1000) = true := decide_eq_true (by omega)
  have d1n : decide (1000 < n) = false := decide_eq_false (by omega)
  clear hmy hnb hm
  go_enter Tryd.func4, Tryd.ntmps4
  go_upto_region 9 with (first | (go_at_call 7; (refine (begun GA _ HG.out).mono ?_); rintro e w1 ⟨rfl, hb⟩; have HB := Aside0.mk hb; clear hb) | (go_at_call 8; (refine (New nb _ hn1 (by omega)).mono ?_); rintro e w2 ⟨gd, rfl, hd, hb⟩; have HD := Aside0.mk (hd.mono (fun k hk => show w.heap.size ≤ k from Nat.le_trans HB.out.size hk)); have n0 := Aside0.mk (below_step HB.out hb); clear HB hd hb; have HB := n0; clear n0))
  have HOP := Aside0.mk (fun W (hd : DevAt W (fun k => w.heap.size ≤ k) gd (newD nb)) (hb : Below w.heap.size w W) => Open_ GA nb 0 (fun k => w.heap.size ≤ k) gd (newD nb) n W hd (fun k hk => Nat.le_trans hb.size hk) HMY.out (by omega) (by decide) (good_new nb) (byt_new nb) (Glob.below HG.out hb) (by rw [gen_new]; decide))
  have HMK := Aside0.mk (fun W (hd : DevAt W (fun k => w.heap.size ≤ k) gd (newD nb)) (hb : Below w.heap.size w W) => show Calls Tryd.prog 10 #[.pointer (some ⟨gd, 0, none⟩), .int .i64 (n : Int), .slice none 0 0] W _ from Make_ nb 0 (fun k => w.heap.size ≤ k) gd (newD nb) n none 0 [] W hd (fun k hk => Nat.le_trans hb.size hk) HMY.out (by omega) (by decide) (good_new nb) (fun w' _ => Kd.C_nil _ _) (Nat.le_refl _) (fun r hr => absurd hr List.not_mem_nil) (by decide) (Nat.zero_le _))
  go_wp2_with (first | (go_at_call 11; (with_reducible refine (Open_nil 3 _).mono ?_); rintro e wz ⟨rfl, hww⟩; subst hww) | (go_at_call 10; (with_reducible refine (Make_nil 3 (.slice none 0 0) _).mono ?_); rintro e wz ⟨rfl, hww⟩; subst hww) | (go_at_call 13; (refine (Append_nil none 0 0 _).mono ?_); rintro e wz ⟨rfl, hww⟩; subst hww) | (go_at_call 15; (refine (Anew_nil _).mono ?_); rintro e wz ⟨rfl, hww⟩; subst hww) | (go_at_call 12; (refine (Room_nil _).mono ?_); rintro e wz ⟨rfl, hww⟩; subst hww) | (go_at_call 16; (refine (Gen_nil _).mono ?_); rintro e wz ⟨rfl, hww⟩; subst hww) | (go_at_call 11; (with_reducible refine (HOP.out _ HD.out HB.out).mono ?_); intro e w3 hh; rcases hh with ⟨_, rfl, hb⟩ | ⟨h0, _⟩; rotate_left; exact absurd (gen_new nb) h0; have n0 := Aside0.mk (below_step HB.out hb); have n1 := Aside0.mk (HD.out.below hb); clear HB HD hb; have HB := n0; have HD := n1; clear n0 n1) | (go_at_call 10; (with_reducible refine (HMK.out _ HD.out HB.out).mono ?_); rintro e w4 ⟨rfl, _, hf⟩; have n0 := Aside0.mk (hf.below HB.out HB.out.size (fun k hk => hk)); clear HB hf; have HB := n0; clear n0))
  go_ret
  exact ⟨rfl, HB.out⟩
theorem none_walk (GA : Nat → Addr) (a : Int) (b : Int) (w : World) (hG : Glob GA w) (hb0 : 0 ≤ b) (hb1 : b < 256) :
    Calls Tryd.prog 4 #[.int .i64 a, .int .u8 b] w fun e w' => e = .returned (.bool true) ∧ Below w.heap.size w w' := by
  obtain ⟨b, rfl⟩ := Int.eq_ofNat_of_zero_le hb0
  have HG := Aside0.mk hG
  by_cases h0 : 1000 < a ∧ a < 1048576
  · have d1 : decide ((1000 : Int) < a) = true := decide_eq_true h0.1
    have d2 : decide (a < 1048576) = true := decide_eq_true h0.2
    clear hG h0 hb0
    go_enter Tryd.func4, Tryd.ntmps4
    go_wp2_with (go_at_call 7; (refine (begun GA _ HG.out).mono ?_); rintro e w1 ⟨rfl, hb⟩; have HB := Aside0.mk hb; clear hb)
    go_ret
    exact ⟨rfl, HB.out⟩
  · cases hm : mayB (newD (1 + b)) a with
    | false => exact none_no GA a b (1 + b) w HG (by omega) rfl h0 ⟨hm⟩
    | true =>
      have h1 := of_decide_eq_true hm
      obtain ⟨n, rfl⟩ := Int.eq_ofNat_of_zero_le (show 0 ≤ a by omega)
      exact none_yes GA n b (1 + b) w HG (by omega) rfl ⟨hm⟩
def rabbetlaw21_LogNone.f (a0 a1 : Int) : Option Bool := if 0 ≤ a1 ∧ a1 < 256 then some true else none
theorem rabbetlaw21_LogNone.calls (GA : Nat → Addr) (a0 a1 : Int) (r : Bool) (w : World) (hG : Glob GA w) (h : rabbetlaw21_LogNone.f a0 a1 = some r) :
    Calls Tryd.prog 4 #[.int .i64 a0, .int .u8 a1] w fun e w' => e = .returned (.bool r) ∧ Below w.heap.size w w' := by
  unfold rabbetlaw21_LogNone.f at h
  split at h
  · rename_i c
    obtain rfl := Option.some.inj h
    exact none_walk GA a0 a1 w hG c.1 c.2
  · cases h
end Go.Proofs.YtokmildjniploaaDoor.PLog
