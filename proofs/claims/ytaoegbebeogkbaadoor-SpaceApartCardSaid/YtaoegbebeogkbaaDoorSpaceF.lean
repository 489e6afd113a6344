/- SpaceFirst: the first run that is long enough is taken. The walk, with its plain law. Conditions: none. -/
import Derived.Test.YtaoegbebeogkbaaDoorSpaceB
namespace Go.Proofs.YtaoegbebeogkbaaDoor.PSpace
open Go.RowKit Go.Proofs.YtaoegbebeogkbaaDoorW.PrintWords Go.Proofs.YtaoegbebeogkbaaDoorW.PrintLast Go.Proofs.YtaoegbebeogkbaaDoorW.PrintMore
open Go.Extern.Stop Go.Stop Go.Extern
set_option linter.unusedVariables false
set_option linter.unusedSimpArgs false
attribute [local go_sem high] eqA39
theorem Sp.lower {T B B' g : Nat} {v : Value} {fr : Int} {l : List Bool} {w : World} (h : Sp T w B g v fr l) (hb : B' ≤ B) : Sp T w B' g v fr l := ⟨Nat.le_trans hb h.1, h.2.1, Kd.R_lower h.2.2 hb⟩
def part (l : List Bool) (i : Nat) : List Bool := l.take i ++ List.replicate (l.length - i) false
theorem part_length (l : List Bool) (i : Nat) (h : i ≤ l.length) : (part l i).length = l.length := by
  unfold part
  rw [List.length_append, List.length_take, List.length_replicate]
  omega
theorem part_drop (l : List Bool) (i : Nat) (h : i < l.length) : part l i = l.take i ++ false :: List.replicate (l.length - (i + 1)) false := by
  unfold part
  rw [show l.length - i = (l.length - (i + 1)) + 1 by omega, List.replicate_succ]
theorem part_mark (l : List Bool) (i : Nat) (h : i < l.length) (ht : l[i] = true) : setE 5 (part l i) (5 + (i : Int)) 1 true = (true, part l (i + 1)) := by
  have hl := part_length l i (by omega)
  have hti : (l.take i).length = i := by rw [List.length_take]; omega
  have h1 : (5 + (i : Int) - 5).toNat = i := by omega
  unfold setE
  rw [h1, if_pos ⟨by unfold okE; omega, by
    rw [part_drop l i h, List.drop_append_of_le_length (by omega), List.drop_of_length_le (by omega)]
    simp⟩]
  congr 1
  unfold setN
  rw [part_drop l i h, show Int.toNat 1 = 1 from rfl]
  rw [List.take_append_of_le_length (by omega), List.take_of_length_le (by omega)]
  rw [show (l.take i ++ false :: List.replicate (l.length - (i + 1)) false).drop (i + 1) = List.replicate (l.length - (i + 1)) false by
    rw [List.drop_append, hti, List.drop_of_length_le (by omega), Nat.add_sub_cancel_left]; rfl]
  unfold part
  rw [List.take_succ_eq_append_getElem h, ht]
  rfl
theorem part_skip (l : List Bool) (i : Nat) (h : i < l.length) (ht : l[i] = false) : part l (i + 1) = part l i := by
  rw [part_drop l i h]
  unfold part
  rw [List.take_succ_eq_append_getElem h, ht, List.append_assoc]
  rfl
theorem part_all (l : List Bool) : part l l.length = l := by
  unfold part
  simp
theorem takeP_iff (l : List Bool) (N i : Nat) (hN : 1 ≤ N) (hi : i + N ≤ l.length) : takeP 5 l (N : Int) i = decide (true ∉ (l.drop i).take N) := by
  unfold takeP setE
  rw [show (5 + (i : Int) - 5).toNat = i by omega, Int.toNat_natCast]
  by_cases h : true ∉ (l.drop i).take N
  · rw [if_pos ⟨by unfold okE; omega, h⟩, decide_eq_true h]
  · rw [if_neg (fun hh => h hh.2), decide_eq_false h]
set_option maxHeartbeats 16000000 in
set_option maxRecDepth 100000 in
theorem first_walk (GA : Nat → Addr) (A0 : Option Addr) (c0 : Nat) (l0 : List Bool) (kk : Nat) (w : World) (hr0 : Kd.C Kd.bool w A0 l0.length l0) (hc0 : l0.length ≤ c0) (hG : Glob GA w) (hk : kk < 256) :
    Calls Tryd.prog 9 #[.slice A0 l0.length c0, .int .u8 (kk : Int)] w fun e w' => e = .returned (.bool true) ∧ Below w.heap.size w w' := by
  have HG := Aside0.mk hG
  have HR := Aside0.mk hr0
  have hmax := Kd.C_max hr0
  clear hG hr0
  by_cases h40 : 40 < l0.length
  · have d1 : decide ((40 : Int) < (l0.length : Int)) = true := decide_eq_true (by omega)
    have d2 : decide (40 < l0.length) = true := decide_eq_true h40
    have d3 : (40 : Int) < (l0.length : Int) := by omega
    go_enter Tryd.func9, Tryd.ntmps9
    go_wp2_with (go_at_call 17; (refine (begun GA _ HG.out).mono ?_); rintro e w1 ⟨rfl, hb⟩; have HB := Aside0.mk hb; clear hb)
    go_ret
    exact ⟨rfl, HB.out⟩
  have d1 : decide ((40 : Int) < (l0.length : Int)) = false := decide_eq_false (by omega)
  have d2 : decide (40 < l0.length) = false := decide_eq_false h40
  have d3 : ¬ (40 : Int) < (l0.length : Int) := by omega
  have hclamp : clampE (l0.length : Int) = l0.length := by
    unfold clampE
    rw [if_neg (by omega), if_neg (by omega), Int.toNat_natCast]
  have hm8 : Int.tmod (kk : Int) 8 = ((kk % 8 : Nat) : Int) := rfl
  obtain ⟨N, hN⟩ : ∃ N, N = 1 + kk % 8 := ⟨_, rfl⟩
  have hw8 : IntKind.u8.wrap ((kk % 8 : Nat) : Int) = ((kk % 8 : Nat) : Int) := by simp [IntKind.wrap, IntKind.bits, IntKind.signed]; omega
  have hw64 : IntKind.i64.wrap ((kk % 8 : Nat) : Int) = ((kk % 8 : Nat) : Int) := by rw [IntKind.wrap_i64]; omega
  have hwN : IntKind.i64.wrap (1 + ((kk % 8 : Nat) : Int)) = (N : Int) := by rw [IntKind.wrap_i64]; omega
  have HN := Aside0.mk (show 1 ≤ N ∧ N ≤ 8 by omega)
  generalize kk % 8 = k8 at *
  have HL := Aside0.mk (show l0.length ≤ 40 by omega)
  clear hN h40 hmax
  go_enter Tryd.func9, Tryd.ntmps9
  go_wp2_with (first | (go_at_call 17; (refine (begun GA _ HG.out).mono ?_); rintro e w1 ⟨rfl, hb⟩; have HB1 := Aside0.mk hb; clear hb) | (go_at_call 18; (refine (New (l0.length : Int) 5 _).mono ?_); rintro e w2 ⟨g, v, rfl, hs, hb⟩; rw [hclamp] at hs; have HS := Aside0.mk (Sp.lower (show Sp 62 w2 w1.heap.size g v 5 (List.replicate l0.length false) from hs) HB1.out.size); have HB := Aside0.mk (below_step HB1.out hb); clear hs hb hclamp))
  go_loopg [6] (l0.length + 1) (fun kq v6 w3 => ∃ i : Nat, v6 = .int .i64 (i : Int) ∧ Aside0 (i ≤ l0.length ∧ l0.length < kq + i) ∧ Aside0 (Sp 62 w3 w.heap.size g v 5 (part l0 i)) ∧ Aside0 (Below w.heap.size w w3))
  case atStart => exact ⟨0, rfl, ⟨Nat.zero_le _, by omega⟩, ⟨by have := HS.out; unfold part; simpa using this⟩, HB⟩
  case round =>
    clear HS HB
    obtain ⟨i, rfl, HI, HS, HB⟩ := hrel
    by_cases hlt : i < l0.length
    · have e1 : decide ((i : Int) < (l0.length : Int)) = true := decide_eq_true (by omega)
      have e2 : decide (i < l0.length) = true := decide_eq_true hlt
      have e3 : (i : Int) < (l0.length : Int) := by omega
      have hl40 := HL.out
      have hw5 : IntKind.i64.wrap (5 + (i : Int)) = 5 + (i : Int) := by rw [IntKind.wrap_i64]; omega
      have hw1 : IntKind.i64.wrap ((i : Int) + 1) = ((i + 1 : Nat) : Int) := by rw [IntKind.wrap_i64]; omega
      obtain ⟨ad, e0, hx⟩ := Kd.at_bool HR.out (i : Int) (by omega) (by omega)
      cases e0
      replace hx := (HB.out.cell (World.block_lt_of_cell? w _ hx)).trans hx
      rw [Int.toNat_natCast] at hx
      have hg : rdOf false l0 (i : Int) = l0[i] := by simp [rdOf, List.getD_eq_getElem?_getD, List.getElem?_eq_getElem hlt]
      rw [hg] at hx
      clear hg
      by_cases hb : l0[i] = true
      · have HM := Aside0.mk (part_mark l0 i hlt hb)
        have HPL := Aside0.mk (part_length l0 i (by omega))
        rw [hb] at hx
        clear hb hl40
        go_wp2_with (go_at_call 20; (refine (Mark GA w.heap.size g v (part l0 i) 5 (5 + (i : Int)) 1 _ (Glob.below HG.out HB.out) HS.out (by decide) (by rw [HPL.out]; have := HL.out; omega) (by omega) (by have := HL.out; omega) (by decide) (by decide)).mono ?_); rintro e w4 ⟨rfl, hs, hg⟩; rw [HM.out] at hs ⊢; have n0 := Aside0.mk hs; have n1 := Aside0.mk (HS.out.stay HB.out hg); clear HS HB hs hg; have HS := n0; have HB := n1; clear n0 n1)
        go_roundg (gk - 1)
        case measure => have := HI.out; omega
        case rel => exact ⟨i + 1, by first | rfl | go_num, ⟨by omega, by have := HI.out; omega⟩, HS, HB⟩
      · have hb2 := Bool.eq_false_iff.mpr hb
        have HM := Aside0.mk (part_skip l0 i hlt hb2)
        rw [hb2] at hx
        clear hb hl40 hb2
        go_wp2
        go_roundg (gk - 1)
        case measure => have := HI.out; omega
        case rel => exact ⟨i + 1, by first | rfl | go_num, ⟨by omega, by have := HI.out; omega⟩, ⟨by rw [HM.out]; exact HS.out⟩, HB⟩
    · have e1 : decide ((i : Int) < (l0.length : Int)) = false := decide_eq_false (by omega)
      have e2 : decide (i < l0.length) = false := decide_eq_false hlt
      have e3 : ¬ (i : Int) < (l0.length : Int) := by omega
      obtain rfl : i = l0.length := by have := HI.out; omega
      have HS2 := HS.out
      rw [part_all] at HS2
      have n0 := Aside0.mk HS2
      clear HS HS2 HI hlt
      have HS := n0
      clear n0
      go_wp2
      clear HB1
      obtain ⟨wl, hwl⟩ : ∃ wl, wl = wr := ⟨_, rfl⟩
      rw [← hwl]
      rw [← hwl] at HS HB
      clear hwl
      go_loopg [8, 9] (l0.length + 3) (fun kq v8 v9 w4 => ∃ (i : Nat) (wt : Int), v9 = .int .i64 (i : Int) ∧ v8 = .int .i64 wt ∧ w4 = wl ∧ Aside0 (i ≤ l0.length + 1 ∧ l0.length + 2 < kq + i) ∧ Aside0 ((wt = -1 ∧ ∀ j, j < i → takeP 5 l0 (N : Int) j = false) ∨ ∃ q : Nat, wt = 5 + (q : Int) ∧ takeP 5 l0 (N : Int) q = true ∧ ∀ j, j < q → takeP 5 l0 (N : Int) j = false))
      case atStart => exact ⟨0, -1, rfl, rfl, rfl, ⟨by omega, by omega⟩, ⟨.inl ⟨rfl, fun j hj => by omega⟩⟩⟩
      case round =>
        obtain ⟨i, wt, rfl, rfl, hww, HI, HW⟩ := hrel
        subst hww
        have hi1 := HI.out.1
        have hl40 := HL.out
        have hn8 := HN.out
        have hwi : IntKind.i64.wrap ((i : Int) + (N : Int)) = (i : Int) + (N : Int) := by rw [IntKind.wrap_i64]; omega
        by_cases hc : i + N ≤ l0.length
        · have c1 : decide ((i : Int) + (N : Int) ≤ (l0.length : Int)) = true := decide_eq_true (by omega)
          have c2 : (i : Int) + (N : Int) ≤ (l0.length : Int) := by omega
          rcases HW.out with ⟨hwt, hq⟩ | ⟨q, hwt, hq1, hq2⟩
          · subst hwt
            have HQ := Aside0.mk hq
            have HC := Aside0.mk (And.intro hc hn8)
            have hw5 : IntKind.i64.wrap (5 + (i : Int)) = 5 + (i : Int) := by rw [IntKind.wrap_i64]; omega
            have hw1 : IntKind.i64.wrap ((i : Int) + 1) = ((i + 1 : Nat) : Int) := by rw [IntKind.wrap_i64]; omega
            clear hq hi1 hl40 hn8 HW
            obtain ⟨wo, rfl⟩ : ∃ wo : World, wo = wr := ⟨_, rfl⟩
            obtain ⟨go, rfl⟩ : ∃ go : Nat, go = gk := ⟨_, rfl⟩
            go_wp2
            go_loopg [10, 11] (N + 1) (fun kq2 v10 v11 w5 => ∃ (m : Nat) (b : Bool), v11 = .int .i64 (m : Int) ∧ v10 = .bool b ∧ w5 = wo ∧ Aside0 (i ≤ m ∧ m ≤ i + N ∧ i + N < kq2 + m) ∧ Aside0 (b = decide (true ∉ (l0.drop i).take (m - i))))
            case atStart => exact ⟨i, true, rfl, rfl, rfl, ⟨by omega, by omega, by omega⟩, ⟨by rw [Nat.sub_self]; simp⟩⟩
            case round =>
              obtain ⟨m, b, rfl, rfl, hww2, HM, Hb⟩ := hrel
              subst hww2
              have hm2 := HM.out.2.1
              have hm1 := HM.out.1
              have hc1 := HC.out.1
              have hl40 := HL.out
              by_cases hlt : m < i + N
              · have g1 : decide ((m : Int) < (i : Int) + (N : Int)) = true := decide_eq_true (by omega)
                have g2 : (m : Int) < (i : Int) + (N : Int) := by omega
                have g3 : (m : Int) < (l0.length : Int) := by omega
                have g4 : decide (m < l0.length) = true := decide_eq_true (by omega)
                have hw2 : IntKind.i64.wrap ((m : Int) + 1) = ((m + 1 : Nat) : Int) := by rw [IntKind.wrap_i64]; omega
                obtain ⟨ad, e0, hx⟩ := Kd.at_bool HR.out (m : Int) (by omega) (by omega)
                cases e0
                replace hx := (HB.out.cell (World.block_lt_of_cell? w _ hx)).trans hx
                rw [Int.toNat_natCast] at hx
                have hst := cut_step l0 i (m - i) true (by omega)
                rw [show i + (m - i) = m by omega, show m - i + 1 = m + 1 - i by omega] at hst
                have HST := Aside0.mk hst
                clear hm1 hm2 hc1 hl40 hst
                cases b with
                | true =>
                  cases hv : rdOf false l0 (m : Int) with
                  | true =>
                    rw [hv] at hx
                    have HV := Aside0.mk hv
                    clear hv
                    go_wp2
                    go_roundg (gk - 1)
                    case measure => have := HM.out; omega
                    case rel => exact ⟨m + 1, false, by first | rfl | go_num, rfl, rfl, ⟨by have := HM.out; omega, by omega, by have := HM.out; omega⟩, ⟨(decide_eq_false (fun h => h (HST.out.2 (.inr HV.out)))).symm⟩⟩
                  | false =>
                    rw [hv] at hx
                    have HV := Aside0.mk hv
                    clear hv
                    go_wp2
                    go_roundg (gk - 1)
                    case measure => have := HM.out; omega
                    case rel =>
                      have hdt : decide (true ∉ (l0.drop i).take (m + 1 - i)) = true := by
                        rw [decide_eq_true_iff]
                        intro h
                        have h3 := Hb.out.symm
                        rw [decide_eq_true_iff] at h3
                        exact (HST.out.1 h).elim h3 (fun h2 => by rw [HV.out] at h2; cases h2)
                      exact ⟨m + 1, true, by first | rfl | go_num, rfl, rfl, ⟨by have := HM.out; omega, by omega, by have := HM.out; omega⟩, ⟨hdt.symm⟩⟩
                | false =>
                  go_wp2
                  go_roundg (gk - 1)
                  case measure => have := HM.out; omega
                  case rel =>
                    have hdf : decide (true ∉ (l0.drop i).take (m + 1 - i)) = false := by
                      rw [decide_eq_false_iff_not]
                      intro h
                      have h3 := Hb.out.symm
                      rw [decide_eq_false_iff_not] at h3
                      exact h3 (fun hq => h (HST.out.2 (.inl hq)))
                    exact ⟨m + 1, false, by first | rfl | go_num, rfl, rfl, ⟨by have := HM.out; omega, by omega, by have := HM.out; omega⟩, ⟨hdf.symm⟩⟩
              · have hme : m = i + N := by omega
                have hbt := takeP_iff l0 N i (by have := HC.out; omega) (by omega)
                have hb2 := Hb.out
                rw [hme, Nat.add_sub_cancel_left, ← hbt] at hb2
                have HBT := Aside0.mk hb2
                have HME := Aside0.mk hme
                have g1 : decide ((m : Int) < (i : Int) + (N : Int)) = false := decide_eq_false (by omega)
                have g2 : ¬ (m : Int) < (i : Int) + (N : Int) := by omega
                clear hm1 hm2 hc1 hl40 hme hbt hb2 hlt Hb
                cases b with
                | true =>
                  go_wp2
                  go_roundg (go - 1)
                  case measure => have := HI.out; omega
                  case rel => exact ⟨i + 1, 5 + (i : Int), by first | rfl | go_num, rfl, rfl, ⟨by have := HC.out; have := HI.out; omega, by have := HI.out; omega⟩, ⟨.inr ⟨i, rfl, HBT.out.symm, HQ.out⟩⟩⟩
                | false =>
                  go_wp2
                  go_roundg (go - 1)
                  case measure => have := HI.out; omega
                  case rel => exact ⟨i + 1, -1, by first | rfl | go_num, rfl, rfl, ⟨by have := HC.out; have := HI.out; omega, by have := HI.out; omega⟩, ⟨.inl ⟨rfl, fun j hj => by
                    by_cases cj : j < i
                    · exact HQ.out j cj
                    · obtain rfl : j = i := by omega
                      exact HBT.out.symm⟩⟩⟩
          · subst hwt
            have f1 : decide ((5 : Int) + (q : Int) < 0) = false := decide_eq_false (by omega)
            have f2 : ¬ (5 : Int) + (q : Int) < 0 := by omega
            clear hi1 hl40 hn8 HW
            have HT := Aside0.mk (take_some (fr := 5) (l := l0) (k := (N : Int)) (i := q) hq2 hq1)
            have hg0 : decide ((0 : Int) ≤ 5 + (q : Int)) = true := decide_eq_true (by omega)
            have hg1 : (0 : Int) ≤ 5 + (q : Int) := by omega
            clear hq1 hq2
            go_wp2_with (go_at_call 25; (refine (Take GA w g v l0 5 (N : Int) _ HG.out HB.out HS.out (by decide) (by decide) (by have := HL.out; omega) (by omega) (by have := HN.out; omega)).mono ?_); rintro e w9 ⟨rfl, hs, hg⟩; rw [HT.out]; have HBE := Aside0.mk (HS.out.stay HB.out hg); clear hs hg)
            go_ret
            exact ⟨rfl, below_alloc HBE.out _⟩
        · have c1 : decide ((i : Int) + (N : Int) ≤ (l0.length : Int)) = false := decide_eq_false (by omega)
          have c2 : ¬ (i : Int) + (N : Int) ≤ (l0.length : Int) := by omega
          rcases HW.out with ⟨hwt, hq⟩ | ⟨q, hwt, hq1, hq2⟩
          · subst hwt
            clear hi1 hl40 hn8 HW
            have HT := Aside0.mk (take_none (fr := 5) (l := l0) (k := (N : Int)) (i := i) hq (by have := HN.out; omega))
            clear hq
            go_wp2_with (go_at_call 25; (refine (Take GA w g v l0 5 (N : Int) _ HG.out HB.out HS.out (by decide) (by decide) (by have := HL.out; omega) (by omega) (by have := HN.out; omega)).mono ?_); rintro e w9 ⟨rfl, hs, hg⟩; rw [HT.out]; have HBE := Aside0.mk (HS.out.stay HB.out hg); clear hs hg)
            go_ret
            exact ⟨rfl, below_alloc HBE.out _⟩
          · subst hwt
            clear hi1 hl40 hn8 HW
            have HT := Aside0.mk (take_some (fr := 5) (l := l0) (k := (N : Int)) (i := q) hq2 hq1)
            have hg0 : decide ((0 : Int) ≤ 5 + (q : Int)) = true := decide_eq_true (by omega)
            have hg1 : (0 : Int) ≤ 5 + (q : Int) := by omega
            clear hq1 hq2
            go_wp2_with (go_at_call 25; (refine (Take GA w g v l0 5 (N : Int) _ HG.out HB.out HS.out (by decide) (by decide) (by have := HL.out; omega) (by omega) (by have := HN.out; omega)).mono ?_); rintro e w9 ⟨rfl, hs, hg⟩; rw [HT.out]; have HBE := Aside0.mk (HS.out.stay HB.out hg); clear hs hg)
            go_ret
            exact ⟨rfl, below_alloc HBE.out _⟩
def rabbetlaw19_SpaceFirst.f (l0 : List Bool) (a1 : Int) : Option Bool := if 0 ≤ a1 ∧ a1 < 256 then some true else none
theorem rabbetlaw19_SpaceFirst.calls (GA : Nat → Addr) (A0 : Option Addr) (c0 : Nat) (l0 : List Bool) (a1 : Int) (r : Bool) (w : World) (hr0 : Kd.C Kd.bool w A0 l0.length l0) (hc0 : l0.length ≤ c0) (hG : Glob GA w) (h : rabbetlaw19_SpaceFirst.f l0 a1 = some r) :
    Calls Tryd.prog 9 #[.slice A0 l0.length c0, .int .u8 a1] w fun e w' => e = .returned (.bool r) ∧ Below w.heap.size w w' := by
  unfold rabbetlaw19_SpaceFirst.f at h
  split at h
  · rename_i c
    obtain rfl := Option.some.inj h
    obtain ⟨n, rfl⟩ := Int.eq_ofNat_of_zero_le c.1
    exact first_walk GA A0 c0 l0 n w hr0 hc0 hG (by omega)
  · cases h
end Go.Proofs.YtaoegbebeogkbaaDoor.PSpace
