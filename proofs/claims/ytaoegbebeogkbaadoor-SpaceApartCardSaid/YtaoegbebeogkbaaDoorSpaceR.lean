/- the document's Space: Mark, Free, Take, Used, told by the same words as space's. Conditions: none. -/
import Derived.Test.YtaoegbebeogkbaaDoorSpaceS
namespace Go.Proofs.YtaoegbebeogkbaaDoor.PSpace
open Go.RowKit Go.Proofs.YtaoegbebeogkbaaDoorW.PrintWords Go.Proofs.YtaoegbebeogkbaaDoorW.PrintLast Go.Proofs.YtaoegbebeogkbaaDoorW.PrintMore
open Go.Extern.Stop Go.Stop Go.Extern
set_option linter.unusedVariables false
set_option linter.unusedSimpArgs false
set_option maxHeartbeats 8000000 in
set_option maxRecDepth 100000 in
theorem all_no (g : Nat) (A : Option Addr) (c m : Nat) (fr a n : Int) (t : Bool) (w : World) (hb : w.heap[g]? = some (.cells #[.int .i64 fr, .slice A m c] 64 (0, 0)))
    (hfr : 0 ≤ fr) (hm : m ≤ 1000000) (ha0 : -9223372036854775808 ≤ a) (ha : a ≤ 9223372036854775807) (hn0 : -9223372036854775808 ≤ n) (hn : n ≤ 9223372036854775807) (h : ¬ okE fr m a n) :
    Calls Tryd.prog 43 #[.pointer (some ⟨g, 0, none⟩), .agg #[.int .i64 a, .int .i64 n], .bool t] w fun e w' => e = .returned (.bool false) ∧ Below w.heap.size w w' := by
  have hlt := blk_lt hb
  have hb1 : (w.alloc (.cells #[.int .i64 a, .int .i64 n] 39)).heap[g]? = some (.cells #[.int .i64 fr, .slice A m c] 64 (0, 0)) := (Below.heap_alloc _ _ _ hlt).trans hb
  have hc0 : (w.alloc (.cells #[.int .i64 a, .int .i64 n] 39)).cell? ⟨g, 0, none⟩ = some (.int .i64 fr) := blk_cell hb1 0
  have hc1 : (w.alloc (.cells #[.int .i64 a, .int .i64 n] 39)).cell? ⟨g, 1, none⟩ = some (.slice A m c) := blk_cell hb1 1
  have HB := Aside0.mk hb
  clear hb1 hb hlt
  have HX := Aside0.mk h
  clear h
  by_cases h1 : n < 1
  · have d1 : decide (n < 1) = true := decide_eq_true h1
    go_enter Tryd.func43, Tryd.ntmps43
    go_wp2
    go_quiet (fail)
    go_wp2
    go_ret
    exact ⟨rfl, pw_below_drewN (below_alloc (Below.refl _ _) _) _⟩
  have d1 : decide (n < 1) = false := decide_eq_false h1
  by_cases h2 : (m : Int) < n
  · have d2 : decide ((m : Int) < n) = true := decide_eq_true h2
    go_enter Tryd.func43, Tryd.ntmps43
    go_wp2
    go_quiet (fail)
    go_wp2
    go_ret
    exact ⟨rfl, pw_below_drewN (below_alloc (Below.refl _ _) _) _⟩
  have d2 : decide ((m : Int) < n) = false := decide_eq_false h2
  by_cases h3 : a < fr
  · have d3 : decide (a < fr) = true := decide_eq_true h3
    go_enter Tryd.func43, Tryd.ntmps43
    go_wp2
    go_quiet (fail)
    go_wp2
    go_ret
    exact ⟨rfl, pw_below_drewN (below_alloc (Below.refl _ _) _) _⟩
  have d3 : decide (a < fr) = false := decide_eq_false h3
  have h4 : (m : Int) - n < a - fr := by have := HX.out; unfold okE at this; omega
  have d4 : decide ((m : Int) - n < a - fr) = true := decide_eq_true h4
  have hw1 : IntKind.i64.wrap (a - fr) = a - fr := by rw [IntKind.wrap_i64]; omega
  have hw2 : IntKind.i64.wrap ((m : Int) - n) = (m : Int) - n := by rw [IntKind.wrap_i64]; omega
  clear h1 h2 h3 h4 HX
  go_enter Tryd.func43, Tryd.ntmps43
  go_wp2
  go_quiet (fail)
  go_wp2
  go_ret
  exact ⟨rfl, pw_below_drewN (below_alloc (Below.refl _ _) _) _⟩
theorem cut_step (l : List Bool) (i j : Nat) (t : Bool) (h : i + j < l.length) : t ∈ (l.drop i).take (j + 1) ↔ t ∈ (l.drop i).take j ∨ rdOf false l ((i + j : Nat) : Int) = t := by
  have hg : rdOf false l ((i + j : Nat) : Int) = l[i + j] := by unfold rdOf; rw [Int.toNat_natCast, List.getD_eq_getElem?_getD, List.getElem?_eq_getElem h]; rfl
  have h2 : j < (l.drop i).length := by rw [List.length_drop]; omega
  rw [List.take_succ_eq_append_getElem h2, List.mem_append, List.mem_singleton, hg, List.getElem_drop]
  exact or_congr Iff.rfl eq_comm
theorem cut_mono (l : List Bool) (i j N : Nat) (t : Bool) (h : j ≤ N) (hm : t ∈ (l.drop i).take j) : t ∈ (l.drop i).take N := by
  have : (l.drop i).take j = ((l.drop i).take N).take j := by rw [List.take_take, Nat.min_eq_left h]
  rw [this] at hm
  exact List.mem_of_mem_take hm
set_option maxHeartbeats 8000000 in
set_option maxRecDepth 100000 in
theorem all_ok (g b c i N : Nat) (l : List Bool) (fr a : Int) (t : Bool) (w : World) (hb : w.heap[g]? = some (.cells #[.int .i64 fr, .slice (some ⟨b, 0, none⟩) l.length c] 64 (0, 0)))
    (hR : Kd.C Kd.bool w (some ⟨b, 0, none⟩) l.length l) (hc : l.length ≤ c) (hfr : 0 ≤ fr) (hm : l.length ≤ 1000000) (ha : a = fr + i) (ha2 : a ≤ 9223372036854775807) (hN : 1 ≤ N) (hi : i + N ≤ l.length) (R : Bool) (hRR : decide ((!t) ∉ (l.drop i).take N) = R) :
    Calls Tryd.prog 43 #[.pointer (some ⟨g, 0, none⟩), .agg #[.int .i64 a, .int .i64 (N : Int)], .bool t] w fun e w' => e = .returned (.bool R) ∧ Below w.heap.size w w' := by
  have HRR := Aside0.mk hRR
  clear hRR
  have hlt := blk_lt hb
  have hb1 : (w.alloc (.cells #[.int .i64 a, .int .i64 (N : Int)] 39)).heap[g]? = some (.cells #[.int .i64 fr, .slice (some ⟨b, 0, none⟩) l.length c] 64 (0, 0)) := (Below.heap_alloc _ _ _ hlt).trans hb
  have hc0 : (w.alloc (.cells #[.int .i64 a, .int .i64 (N : Int)] 39)).cell? ⟨g, 0, none⟩ = some (.int .i64 fr) := blk_cell hb1 0
  have hc1 : (w.alloc (.cells #[.int .i64 a, .int .i64 (N : Int)] 39)).cell? ⟨g, 1, none⟩ = some (.slice (some ⟨b, 0, none⟩) l.length c) := blk_cell hb1 1
  have HBk := Aside0.mk hb
  have HR := Aside0.mk hR
  have d1 : decide ((N : Int) < 1) = false := decide_eq_false (by omega)
  have d2 : decide ((l.length : Int) < (N : Int)) = false := decide_eq_false (by omega)
  have d2n : decide (l.length < N) = false := decide_eq_false (by omega)
  have d3 : decide (a < fr) = false := decide_eq_false (by omega)
  have hw1 : IntKind.i64.wrap (a - fr) = (i : Int) := by rw [IntKind.wrap_i64]; omega
  have hw2 : IntKind.i64.wrap ((l.length : Int) - (N : Int)) = ((l.length - N : Nat) : Int) := by rw [IntKind.wrap_i64]; omega
  have d4 : decide (((l.length - N : Nat) : Int) < (i : Int)) = false := decide_eq_false (by omega)
  have d4n : decide (l.length - N < i) = false := decide_eq_false (by omega)
  have HX := Aside0.mk (And.intro hN (And.intro hi hm))
  have HA := Aside0.mk ha
  clear hb1 hb hlt hR ha hN hi hc
  go_enter Tryd.func43, Tryd.ntmps43
  go_wp2
  go_quiet (fail)
  go_wp2
  clear hc0 hc1 d1 d2 d2n d3 d4 d4n hw2
  go_loopg [7] (N + 1) (fun kq v7 w2 => ∃ j : Nat, v7 = .int .i64 (j : Int) ∧ Aside0 (j ≤ N ∧ N < kq + j) ∧ Aside0 (Below w.heap.size w w2) ∧ Aside0 (w2.heap[w.heap.size]? = some (.cells #[.int .i64 a, .int .i64 (N : Int)] 39 (0, 0))) ∧ Aside0 ((!t) ∉ (l.drop i).take j))
  case atStart => exact ⟨0, rfl, ⟨Nat.zero_le _, by omega⟩, ⟨pw_below_drewN (below_alloc (Below.refl _ _) _) _⟩, ⟨blk_drewN (heap_alloc_new _ _) _⟩, ⟨by simp⟩⟩
  case round =>
    obtain ⟨j, rfl, HI, HW, HE, HM⟩ := hrel
    have e0 := blk_cell HE.out 0
    have e1 := blk_cell HE.out 1
    have hb1 := (HW.out.block _ (blk_lt HBk.out)).trans HBk.out
    have hc0 : wr.cell? ⟨g, 0, none⟩ = some (.int .i64 fr) := blk_cell hb1 0
    have hc1 : wr.cell? ⟨g, 1, none⟩ = some (.slice (some ⟨b, 0, none⟩) l.length c) := blk_cell hb1 1
    clear hb1
    by_cases hlt : j < N
    · have hd : decide ((j : Int) < (N : Int)) = true := decide_eq_true (by omega)
      have hd1 : decide (j < N) = true := decide_eq_true hlt
      have hlt2 : (j : Int) < (N : Int) := by omega
      have hm0 := HX.out.2.2
      have hi0 := HX.out.2.1
      have hw3 : IntKind.i64.wrap ((i : Int) + (j : Int)) = (i : Int) + (j : Int) := by rw [IntKind.wrap_i64]; omega
      have hw4 : IntKind.i64.wrap ((j : Int) + 1) = ((j + 1 : Nat) : Int) := by rw [IntKind.wrap_i64]; omega
      have hin : (i : Int) + (j : Int) < (l.length : Int) := by omega
      have hin0 : (0 : Int) ≤ (i : Int) + (j : Int) := by omega
      have htn : ((i : Int) + (j : Int)).toNat = i + j := by omega
      obtain ⟨ad, e2, hx⟩ := Kd.at_bool HR.out ((i + j : Nat) : Int) (by omega) (by omega)
      cases e2
      replace hx := (HW.out.cell (World.block_lt_of_cell? w _ hx)).trans hx
      rw [Int.toNat_natCast, add_plain] at hx
      have HS := Aside0.mk (cut_step l i j (!t) (by omega))
      clear hm0 hi0
      by_cases hv : rdOf false l ((i + j : Nat) : Int) = t
      · rw [hv] at hx
        have HV := Aside0.mk hv
        clear hv
        go_wp2
        go_quiet (fail)
        go_wp2
        go_roundg (gk - 1)
        case measure => have := HI.out; omega
        case rel => exact ⟨j + 1, by first | rfl | go_num, ⟨by omega, by have := HI.out; omega⟩, ⟨pw_below_drewN HW.out _⟩, ⟨blk_drewN HE.out _⟩, ⟨fun h => (HS.out.1 h).elim HM.out (fun h2 => by rw [HV.out] at h2; cases t <;> cases h2)⟩⟩
      · have hv2 : rdOf false l ((i + j : Nat) : Int) = !t := by
          cases hq : rdOf false l ((i + j : Nat) : Int) <;> cases t <;> first | rfl | exact absurd hq hv
        rw [hv2] at hx
        have HV := Aside0.mk hv2
        clear hv hv2
        have HD := Aside0.mk (decide_eq_false (fun hn : (!t) ∉ (l.drop i).take N => hn (cut_mono l i (j + 1) N (!t) hlt (HS.out.2 (.inr HV.out)))))
        clear HV HS HM
        cases t
        all_goals
          go_wp2
          go_quiet (fail)
          go_wp2
          go_ret
          exact ⟨by rw [← HRR.out, HD.out]; rfl, pw_below_drewN HW.out _⟩
    · have hd : decide ((j : Int) < (N : Int)) = false := decide_eq_false (by omega)
      have hd1 : decide (j < N) = false := decide_eq_false hlt
      have hlt2 : ¬ (j : Int) < (N : Int) := by omega
      obtain rfl : j = N := by have := HI.out; omega
      go_wp2
      go_ret
      exact ⟨by rw [← HRR.out, decide_eq_true HM.out]; rfl, HW.out⟩
set_option maxHeartbeats 8000000 in
set_option maxRecDepth 100000 in
theorem turn_not (g : Nat) (m c : Nat) (A : Option Addr) (fr a n : Int) (t : Bool) (w : World) (hb : w.heap[g]? = some (.cells #[.int .i64 fr, .slice A m c] 64 (0, 0)))
    (h : ∀ W, Below w.heap.size w W → Calls Tryd.prog 43 #[.pointer (some ⟨g, 0, none⟩), .agg #[.int .i64 a, .int .i64 n], .bool (!t)] W fun e w' => e = .returned (.bool false) ∧ Below W.heap.size W w') :
    Calls Tryd.prog 35 #[.pointer (some ⟨g, 0, none⟩), .agg #[.int .i64 a, .int .i64 n], .bool t] w fun e w' => e = .returned (.bool false) ∧ Below w.heap.size w w' := by
  have HR := Aside0.mk (h (w.alloc (.cells #[.int .i64 a, .int .i64 n] 39)) (below_alloc (Below.refl _ _) _))
  clear h hb
  go_enter Tryd.func35, Tryd.ntmps35
  go_wp2_with (go_at_call 43; (refine HR.out.mono ?_); rintro e w1 ⟨rfl, hb1⟩; have HB1 := Aside0.mk (below_step (below_alloc (Below.refl _ _) _) hb1); clear hb1)
  go_ret
  exact ⟨rfl, HB1.out⟩
set_option maxHeartbeats 8000000 in
set_option maxRecDepth 100000 in
theorem turn_yes (B g b c i N : Nat) (l : List Bool) (fr a : Int) (t : Bool) (w : World) (hb : w.heap[g]? = some (.cells #[.int .i64 fr, .slice (some ⟨b, 0, none⟩) l.length c] 64 (0, 0)))
    (hR : Kd.R Kd.bool 4 w B (fun _ => True) (.slice (some ⟨b, 0, none⟩) l.length c) l) (hfr : 0 ≤ fr) (hm : l.length ≤ 1000000) (ha : a = fr + i) (ha2 : a ≤ 9223372036854775807) (hN : 1 ≤ N) (hi : i + N ≤ l.length)
    (h : ∀ W, Below w.heap.size w W → Calls Tryd.prog 43 #[.pointer (some ⟨g, 0, none⟩), .agg #[.int .i64 a, .int .i64 (N : Int)], .bool (!t)] W fun e w' => e = .returned (.bool true) ∧ Below W.heap.size W w') :
    Calls Tryd.prog 35 #[.pointer (some ⟨g, 0, none⟩), .agg #[.int .i64 a, .int .i64 (N : Int)], .bool t] w fun e w' => e = .returned (.bool true) ∧ Kd.R Kd.bool 4 w' B (fun _ => True) (.slice (some ⟨b, 0, none⟩) l.length c) (setN l i N t) ∧ w.grownBy w' (some b) := by
  have HR := Aside0.mk (h (w.alloc (.cells #[.int .i64 a, .int .i64 (N : Int)] 39)) (below_alloc (Below.refl _ _) _))
  have hwl : b < w.heap.size := Kd.R_lt hR b rfl
  have hgb : some g ≠ (Value.slice (some ⟨b, 0, none⟩) l.length c).ownBlock := Kd.R_ne hR hb (by decide)
  have HNe := Aside0.mk (show g ≠ b ∧ w.heap.size ≠ b from ⟨fun e => hgb (by rw [e]; rfl), by omega⟩)
  have HO := Aside0.mk hR
  have HBk := Aside0.mk hb
  have HX := Aside0.mk (And.intro hN (And.intro hi hm))
  have HL := Aside0.mk (show ∀ j, j ≤ N → (setN l i j t).length = l.length from fun j hj => setN_length l i j t (by omega))
  have HP := Aside0.mk (show ∀ j, j < N → (setN l i j t).set (i + j) t = setN l i (j + 1) t from fun j hj => setN_set l i j t (by omega))
  have hw1 : IntKind.i64.wrap (a - fr) = (i : Int) := by rw [IntKind.wrap_i64]; omega
  clear h hb hR hwl hgb hN hi ha
  go_enter Tryd.func35, Tryd.ntmps35
  go_wp2_with (go_at_call 43; (refine HR.out.mono ?_); rintro e w1 ⟨rfl, hb1⟩; have hbe := (hb1.block _ (blk_lt (heap_alloc_new w (.cells #[.int .i64 a, .int .i64 (N : Int)] 39)))).trans (heap_alloc_new w _); have HBe := Aside0.mk hbe; have HB1 := Aside0.mk (below_step (below_alloc (Below.refl _ _) _) hb1); clear hb1 hbe)
  go_loopg [7] (N + 1) (fun kq v7 w2 => ∃ j : Nat, v7 = .int .i64 (j : Int) ∧ Aside0 (j ≤ N ∧ N < kq + j) ∧ Aside0 (Kd.R Kd.bool 4 w2 B (fun _ => True) (.slice (some ⟨b, 0, none⟩) l.length c) (setN l i j t)) ∧ Aside0 (w.grownBy w2 (some b)) ∧ Aside0 (w2.heap[w.heap.size]? = some (.cells #[.int .i64 a, .int .i64 (N : Int)] 39 (0, 0))))
  case atStart => exact ⟨0, rfl, ⟨Nat.zero_le _, by omega⟩, ⟨by rw [setN_zero]; exact Kd.R_below HO.out HB1.out⟩, ⟨grown_of_below HB1.out _⟩, HBe⟩
  case round =>
    obtain ⟨j, rfl, HI, HR2, HG, HE⟩ := hrel
    have e0 := blk_cell HE.out 0
    have e1 := blk_cell HE.out 1
    have hb1 := blk_grown HBk.out HG.out (fun e => HNe.out.1 (Option.some.inj e))
    have hc0 : wr.cell? ⟨g, 0, none⟩ = some (.int .i64 fr) := blk_cell hb1 0
    have hc1 : wr.cell? ⟨g, 1, none⟩ = some (.slice (some ⟨b, 0, none⟩) l.length c) := blk_cell hb1 1
    clear hb1
    by_cases hlt : j < N
    · have hd : decide ((j : Int) < (N : Int)) = true := decide_eq_true (by omega)
      have hd1 : decide (j < N) = true := decide_eq_true hlt
      have hlt2 : (j : Int) < (N : Int) := by omega
      have hm0 := HX.out.2.2
      have hi0 := HX.out.2.1
      have hw3 : IntKind.i64.wrap ((i : Int) + (j : Int)) = (i : Int) + (j : Int) := by rw [IntKind.wrap_i64]; omega
      have hw4 : IntKind.i64.wrap ((j : Int) + 1) = ((j + 1 : Nat) : Int) := by rw [IntKind.wrap_i64]; omega
      have hin : (i : Int) + (j : Int) < (l.length : Int) := by omega
      have hin0 : (0 : Int) ≤ (i : Int) + (j : Int) := by omega
      have htn : ((i : Int) + (j : Int)).toNat = i + j := by omega
      have hcf := Kd.R_celln (d := false) HR2.out ((i + j : Nat) : Int) (by omega) (by omega)
      rw [Int.toNat_natCast] at hcf
      obtain ⟨hx, hf1⟩ := hcf
      have hput := Kd.R_putg HR2.out ((i + j : Nat) : Int) t
      rw [Int.toNat_natCast, HP.out j hlt] at hput
      have HPU := Aside0.mk hput
      clear hput hi0 hm0
      go_wp2
      go_region
      go_wp2
      go_roundg (gk - 1)
      case measure => have := HI.out; omega
      case rel => exact ⟨j + 1, by first | rfl | go_num, ⟨by omega, by have := HI.out; omega⟩, ⟨Kd.R_drew HPU.out.1⟩, ⟨grown_drew (grown_trans HG.out HPU.out.2)⟩, ⟨blk_drew (blk_far HE.out HNe.out.2 _)⟩⟩
    · have hd : decide ((j : Int) < (N : Int)) = false := decide_eq_false (by omega)
      have hd1 : decide (j < N) = false := decide_eq_false hlt
      have hlt2 : ¬ (j : Int) < (N : Int) := by omega
      obtain rfl : j = N := by have := HI.out; omega
      go_wp2
      go_ret
      exact ⟨rfl, HR2.out, HG.out⟩
/-- Setting a run, whatever it is. -/
theorem turn (B g : Nat) (v : Value) (l : List Bool) (fr a n : Int) (t : Bool) (w : World) (h : Sp 64 w B g v fr l) (hfr : 0 ≤ fr) (hm : l.length ≤ 1000000) (ha0 : -9223372036854775808 ≤ a) (ha : a ≤ 9223372036854775807) (hn0 : -9223372036854775808 ≤ n) (hn : n ≤ 9223372036854775807) :
    Calls Tryd.prog 35 #[.pointer (some ⟨g, 0, none⟩), .agg #[.int .i64 a, .int .i64 n], .bool t] w fun e w' => e = .returned (.bool (setE fr l a n t).1) ∧ Sp 64 w' B g v fr (setE fr l a n t).2 ∧ w.grownBy w' v.ownBlock := by
  obtain ⟨hB, hb, hR⟩ := h
  obtain ⟨A, c, rfl⟩ := Kd.R_slice hR
  by_cases ok : okE fr l.length a n
  · obtain ⟨i, N, e1, e2, h1, h2, e3, e4⟩ := okE_nat ok
    subst e2
    obtain ⟨b, c', he, hb1, hb2, _⟩ := Kd.R_form hR (by omega)
    injection he with he _ he3
    subst he he3
    by_cases hin : t ∈ (l.drop i).take N
    · have e : setE fr l a N t = (false, l) := by unfold setE; rw [if_neg (by rw [e3, e4]; exact fun h => h.2 hin)]
      rw [e]
      refine (turn_not g l.length c _ fr a N t w hb (fun W hW => ?_)).mono fun e w' ⟨he, hw⟩ => ⟨he, ⟨hB, (hw.block _ (blk_lt hb)).trans hb, Kd.R_below hR hw⟩, grown_of_below hw _⟩
      have := all_ok g b c i N l fr a (!t) W ((hW.block _ (blk_lt hb)).trans hb) (Kd.C_below (Kd.R_reads' hR).2.2 hW) (Kd.R_reads' hR).2.1 hfr hm e1 ha h1 h2 false (by rw [Bool.not_not]; exact decide_eq_false (fun hn => hn hin))
      exact this
    · have e : setE fr l a N t = (true, setN l i N t) := by unfold setE; rw [e3, e4, if_pos ⟨ok, hin⟩]
      rw [e]
      refine (turn_yes B g b c i N l fr a t w hb hR hfr hm e1 ha h1 h2 (fun W hW => ?_)).mono fun e w' ⟨he, hr, hw⟩ => ⟨he, ⟨hB, ?_, hr⟩, hw⟩
      · have := all_ok g b c i N l fr a (!t) W ((hW.block _ (blk_lt hb)).trans hb) (Kd.C_below (Kd.R_reads' hR).2.2 hW) (Kd.R_reads' hR).2.1 hfr hm e1 ha h1 h2 true (by rw [Bool.not_not]; exact decide_eq_true hin)
        exact this
      · exact blk_grown hb hw (Kd.R_ne hR hb (by decide))
  · have e : setE fr l a n t = (false, l) := by unfold setE; rw [if_neg (fun h => ok h.1)]
    rw [e]
    exact (turn_not g l.length c A fr a n t w hb (fun W hW => all_no g A c l.length fr a n (!t) W ((hW.block _ (blk_lt hb)).trans hb) hfr hm ha0 ha hn0 hn ok)).mono fun e w' ⟨he, hw⟩ => ⟨he, ⟨hB, (hw.block _ (blk_lt hb)).trans hb, Kd.R_below hR hw⟩, grown_of_below hw _⟩
set_option maxHeartbeats 8000000 in
set_option maxRecDepth 100000 in
theorem RefMark (B g : Nat) (v : Value) (l : List Bool) (fr a n : Int) (w : World) (h : Sp 64 w B g v fr l) (hfr : 0 ≤ fr) (hm : l.length ≤ 1000000) (ha0 : -9223372036854775808 ≤ a) (ha : a ≤ 9223372036854775807) (hn0 : -9223372036854775808 ≤ n) (hn : n ≤ 9223372036854775807) :
    Calls Tryd.prog 21 #[.pointer (some ⟨g, 0, none⟩), .agg #[.int .i64 a, .int .i64 n]] w fun e w' => e = .returned (.bool (setE fr l a n true).1) ∧ Sp 64 w' B g v fr (setE fr l a n true).2 ∧ w.grownBy w' v.ownBlock := by
  have HS := Aside0.mk (turn B g v l fr a n true (w.alloc (.cells #[.int .i64 a, .int .i64 n] 39)) (h.below (below_alloc (Below.refl _ _) _)) hfr hm ha0 ha hn0 hn)
  clear h hfr hm ha0 ha hn0 hn
  go_enter Tryd.func21, Tryd.ntmps21
  go_wp2_with (go_at_call 35; (refine HS.out.mono ?_); rintro e w1 ⟨rfl, hs, hg⟩; have HS1 := Aside0.mk hs; have HG1 := Aside0.mk (grown_trans (grown_of_below (below_alloc (Below.refl _ _) _) _) hg); clear hs hg)
  go_ret
  exact ⟨rfl, HS1.out, HG1.out⟩
set_option maxHeartbeats 8000000 in
set_option maxRecDepth 100000 in
theorem RefFree (B g : Nat) (v : Value) (l : List Bool) (fr a n : Int) (w : World) (h : Sp 64 w B g v fr l) (hfr : 0 ≤ fr) (hm : l.length ≤ 1000000) (ha0 : -9223372036854775808 ≤ a) (ha : a ≤ 9223372036854775807) (hn0 : -9223372036854775808 ≤ n) (hn : n ≤ 9223372036854775807) :
    Calls Tryd.prog 23 #[.pointer (some ⟨g, 0, none⟩), .agg #[.int .i64 a, .int .i64 n]] w fun e w' => e = .returned (.bool (setE fr l a n false).1) ∧ Sp 64 w' B g v fr (setE fr l a n false).2 ∧ w.grownBy w' v.ownBlock := by
  have HS := Aside0.mk (turn B g v l fr a n false (w.alloc (.cells #[.int .i64 a, .int .i64 n] 39)) (h.below (below_alloc (Below.refl _ _) _)) hfr hm ha0 ha hn0 hn)
  clear h hfr hm ha0 ha hn0 hn
  go_enter Tryd.func23, Tryd.ntmps23
  go_wp2_with (go_at_call 35; (refine HS.out.mono ?_); rintro e w1 ⟨rfl, hs, hg⟩; have HS1 := Aside0.mk hs; have HG1 := Aside0.mk (grown_trans (grown_of_below (below_alloc (Below.refl _ _) _) _) hg); clear hs hg)
  go_ret
  exact ⟨rfl, HS1.out, HG1.out⟩
set_option maxHeartbeats 8000000 in
set_option maxRecDepth 100000 in
theorem RefUsed (B g : Nat) (v : Value) (l : List Bool) (fr : Int) (w : World) (h : Sp 64 w B g v fr l) (hm : l.length ≤ 1000000) :
    Calls Tryd.prog 28 #[.pointer (some ⟨g, 0, none⟩)] w fun e w' => e = .returned (.int .i64 (usedE l : Int)) ∧ Below w.heap.size w w' := by
  obtain ⟨hB, hb, hR⟩ := h
  obtain ⟨A, c, rfl⟩ := Kd.R_slice hR
  have HR := Aside0.mk hR
  have HBk := Aside0.mk hb
  have hc1 : w.cell? ⟨g, 1, none⟩ = some (.slice A l.length c) := blk_cell hb 1
  clear hb hR hB
  go_enter Tryd.func28, Tryd.ntmps28
  go_wp2
  go_loopg [3, 4] (l.length + 1) (fun kq v3 v4 w2 => ∃ i : Nat, v3 = .int .i64 (usedE (l.take i) : Int) ∧ v4 = .int .i64 (i : Int) ∧ Aside0 (i ≤ l.length ∧ l.length < kq + i) ∧ Aside0 (Below w.heap.size w w2))
  case atStart => exact ⟨0, rfl, rfl, ⟨Nat.zero_le _, by omega⟩, ⟨Below.refl _ _⟩⟩
  case round =>
    obtain ⟨i, rfl, rfl, HI, HW⟩ := hrel
    have hc1 : wr.cell? ⟨g, 1, none⟩ = some (.slice A l.length c) := (HW.out.cell (blk_lt HBk.out)).trans (blk_cell HBk.out 1)
    by_cases hlt : i < l.length
    · have hd : decide ((i : Int) < (l.length : Int)) = true := decide_eq_true (by omega)
      have hd1 : decide (i < l.length) = true := decide_eq_true hlt
      have hlt2 : (i : Int) < (l.length : Int) := by omega
      obtain ⟨ad, e0, hx⟩ := Kd.at_bool (Kd.R_reads' HR.out).2.2 (i : Int) (by omega) (by omega)
      cases e0
      replace hx := (HW.out.cell (World.block_lt_of_cell? w _ hx)).trans hx
      rw [Int.toNat_natCast] at hx
      have hus := used_step l i hlt
      have hul := used_le (l.take i)
      have hll : (l.take i).length ≤ i := List.length_take_le _ _
      have hw1 : IntKind.i64.wrap ((i : Int) + 1) = ((i + 1 : Nat) : Int) := by rw [IntKind.wrap_i64]; omega
      have hw2 : IntKind.i64.wrap (((usedE (l.take i) : Nat) : Int) + 1) = ((usedE (l.take i) + 1 : Nat) : Int) := by rw [IntKind.wrap_i64]; omega
      have HU := Aside0.mk hus
      clear hus hul hll
      by_cases hb : rdOf false l (i : Int) = true
      · rw [hb] at hx
        have HUb := Aside0.mk hb
        clear hb
        go_wp2
        go_roundg (gk - 1)
        case measure => have := HI.out; omega
        case rel => exact ⟨i + 1, by rw [HU.out, HUb.out]; first | rfl | go_num, by first | rfl | go_num, ⟨by omega, by have := HI.out; omega⟩, HW⟩
      · replace hb := Bool.eq_false_iff.mpr hb
        rw [hb] at hx
        have HUb := Aside0.mk hb
        clear hb
        go_wp2
        go_roundg (gk - 1)
        case measure => have := HI.out; omega
        case rel => exact ⟨i + 1, by rw [HU.out, HUb.out]; first | rfl | go_num, by first | rfl | go_num, ⟨by omega, by have := HI.out; omega⟩, HW⟩
    · have hd : decide ((i : Int) < (l.length : Int)) = false := decide_eq_false (by omega)
      have hd1 : decide (i < l.length) = false := decide_eq_false hlt
      have hlt2 : ¬ (i : Int) < (l.length : Int) := by omega
      obtain rfl : i = l.length := by have := HI.out; omega
      rw [List.take_length]
      go_wp2
      go_ret
      exact ⟨rfl, HW.out⟩
theorem rtake_res {tmps : Array Value} {w : World} {g : Nat} {cs : Array Value} (h4 : tmps.getD 4 undef = .pointer (some ⟨g, 0, none⟩)) (hg : w.heap[g]? = some (.cells cs 39 (0, 0))) (hs : cs.size = 2) :
    (results Tryd.f26 tmps).run Tryd.prog w = .ok (.tuple #[.agg cs, tmps.getD 5 undef]) w :=
  results_list (rs := [.cell 4 39, .tmp 5]) (vs := [.agg cs, tmps.getD 5 undef]) (by kernel_rfl) (by simp) (Vals.cell g 39 cs (0, 0) _ h4 hg Tryd.underlying39 rfl (by rw [hs]; kernel_rfl) (Vals.tmp Vals.nil))
set_option maxHeartbeats 8000000 in
set_option maxRecDepth 100000 in
theorem RefTake (B g : Nat) (v : Value) (l : List Bool) (fr k : Int) (w : World) (h : Sp 64 w B g v fr l) (hfr : 0 ≤ fr) (hfr2 : fr ≤ 4611686018427387904) (hm : l.length ≤ 1000000) (hk0 : -9223372036854775808 ≤ k) (hk : k ≤ 9223372036854775807) :
    Calls Tryd.prog 26 #[.pointer (some ⟨g, 0, none⟩), .int .i64 k] w fun e w' => e = .returned (.tuple #[.agg #[.int .i64 (takeE fr l k).1, .int .i64 (takeE fr l k).2.1], .bool (takeE fr l k).2.2.1]) ∧ Sp 64 w' B g v fr (takeE fr l k).2.2.2 ∧ w.grownBy w' v.ownBlock := by
  have HS := Aside0.mk h
  clear h
  obtain ⟨A, c, rfl⟩ := Kd.R_slice HS.out.2.2
  go_enter Tryd.func26, Tryd.ntmps26
  go_wp2
  go_loopg [6] (l.length + 2) (fun kq v6 w2 => ∃ (i : Nat), v6 = .int .i64 (i : Int) ∧ Aside0 (i ≤ l.length ∧ l.length + 1 < kq + i) ∧ Aside0 (∀ j, j < i → takeP fr l k j = false) ∧ Aside0 (Sp 64 w2 B g (.slice A l.length c) fr l) ∧ Aside0 (w.grownBy w2 (Value.slice A l.length c).ownBlock) ∧ Aside0 (w2.heap[w.heap.size]? = some (.cells #[.int .i64 0, .int .i64 0] 39 (0, 0))))
  case atStart => exact ⟨0, rfl, ⟨Nat.zero_le _, by omega⟩, ⟨fun j hj => by omega⟩, ⟨HS.out.below (below_alloc (Below.refl _ _) _)⟩, ⟨grown_of_below (below_alloc (Below.refl _ _) _) _⟩, ⟨by show (w.heap.push _)[w.heap.size]? = _; simp⟩⟩
  case round =>
    obtain ⟨i, rfl, HI, HP, HSp, HGr, HRes⟩ := hrel
    have hc0 : wr.cell? ⟨g, 0, none⟩ = some (.int .i64 fr) := blk_cell HSp.out.2.1 0
    have hc1 : wr.cell? ⟨g, 1, none⟩ = some (.slice A l.length c) := blk_cell HSp.out.2.1 1
    have hi1 := HI.out.1
    by_cases hlt : i < l.length
    · have hd : decide ((i : Int) < (l.length : Int)) = true := decide_eq_true (by omega)
      have hd1 : decide (i < l.length) = true := decide_eq_true hlt
      have hlt2 : (i : Int) < (l.length : Int) := by omega
      have hw1 : IntKind.i64.wrap ((i : Int) + 1) = ((i + 1 : Nat) : Int) := by rw [IntKind.wrap_i64]; omega
      obtain ⟨a, ha⟩ : ∃ a, fr + (i : Int) = a := ⟨_, rfl⟩
      have hw2 : IntKind.i64.wrap (fr + (i : Int)) = a := by rw [IntKind.wrap_i64]; omega
      have HSe := Aside0.mk (fun W hW => RefMark B g (.slice A l.length c) l fr a k W hW hfr hm (by omega) (by omega) hk0 hk)
      have HA := Aside0.mk ha
      clear ha hi1
      by_cases hf : takeP fr l k i = true
      · have HFq := Aside0.mk hf
        clear hf
        obtain ⟨r, hr⟩ : ∃ r, setE fr l a k true = r := ⟨_, rfl⟩
        have hr1 : r.1 = true := by rw [← hr, ← HA.out]; exact HFq.out
        have HRr := Aside0.mk hr
        rw [hr] at HSe
        rw [hr1] at HSe
        clear hr hr1
        go_wp2_with (go_at_call 21; (refine (HSe.out _ ?side1).mono ?_); (case side1 => exact Sp.below HSp.out (by repeat (first | exact Below.refl _ _ | apply pw_below_drewN | apply below_alloc))); rintro e w3 ⟨rfl, hs, hg⟩; have HS3 := Aside0.mk hs; have HG3 := Aside0.mk (grown_trans (grown_trans HGr.out (World.grownBy_alloc _ _ _)) hg); have hn7 := HSp.out.own_lt; have hn4 := HS.out.own_lt; have hb7 := blk_grown (g := wr.heap.size) (heap_alloc_new wr (.cells #[.int .i64 a, .int .i64 k] 39)) hg (fun e => Nat.lt_irrefl _ (hn7 _ e.symm)); have hb4 := blk_grown (g := w.heap.size) ((Below.heap_alloc wr (.cells #[.int .i64 a, .int .i64 k] 39) _ (blk_lt HRes.out)).trans HRes.out) hg (fun e => Nat.lt_irrefl _ (hn4 _ e.symm)); have e0 := blk_cell hb7 0; have e1 := blk_cell hb7 1; have f0 := blk_frozen hb4 0; have f1 := blk_frozen hb4 1; have g0 := blk_cell hb4 0; have g1 := blk_cell hb4 1; have HB4 := Aside0.mk hb4; clear hs hg hn7 hn4 hb7 hb4)
        have hne : some w.heap.size ≠ (Value.slice A l.length c).ownBlock := fun e => Nat.lt_irrefl _ (HS.out.own_lt _ e.symm)
        have hng : w.heap.size ≠ g := fun e => by have := HS.out.lt; omega
        refine bodyPost_ret (rtake_res (cs := #[.int .i64 a, .int .i64 k]) rfl (by refine blk_put (cs := #[.int .i64 a, .int .i64 0]) ?_ 1 _ rfl; refine blk_put (cs := #[.int .i64 0, .int .i64 0]) ?_ 0 _ rfl; exact HB4.out) rfl) rfl ?_
        have e := take_some (fr := fr) HP.out HFq.out
        rw [e, HA.out, HRr.out]
        exact ⟨rfl, (HS3.out.set hne hng _).set hne hng _, grown_set_new (grown_set_new HG3.out (Nat.le_refl _) _) (Nat.le_refl _) _⟩
      · have HFq := Aside0.mk (Bool.eq_false_iff.mpr hf)
        clear hf
        have hr : setE fr l a k true = (false, l) := by rw [← HA.out]; exact take_false HFq.out
        rw [hr] at HSe
        clear hr
        go_wp2_with (go_at_call 21; (refine (HSe.out _ ?side1).mono ?_); (case side1 => exact Sp.below HSp.out (by repeat (first | exact Below.refl _ _ | apply pw_below_drewN | apply below_alloc))); rintro e w3 ⟨rfl, hs, hg⟩; have HS3 := Aside0.mk hs; have HG3 := Aside0.mk (grown_trans (grown_trans HGr.out (World.grownBy_alloc _ _ _)) hg); have hn4 := HS.out.own_lt; have hb4 := blk_grown (g := w.heap.size) ((Below.heap_alloc wr (.cells #[.int .i64 a, .int .i64 k] 39) _ (blk_lt HRes.out)).trans HRes.out) hg (fun e => Nat.lt_irrefl _ (hn4 _ e.symm)); have HB4 := Aside0.mk hb4; clear hs hg hn4 hb4)
        go_roundg (gk - 1)
        case measure => have := HI.out; omega
        case rel =>
          exact ⟨i + 1, by first | rfl | go_num, ⟨by omega, by have := HI.out; omega⟩, ⟨fun j hj => by
            by_cases c : j < i
            · exact HP.out j c
            · obtain rfl : j = i := by omega
              exact HFq.out⟩, HS3, HG3, HB4⟩
    · have hd : decide ((i : Int) < (l.length : Int)) = false := decide_eq_false (by omega)
      have hd1 : decide (i < l.length) = false := decide_eq_false hlt
      have hlt2 : ¬ (i : Int) < (l.length : Int) := by omega
      have HN2 := Aside0.mk (show i = l.length by omega)
      clear hi1 hlt
      have f0 := blk_frozen HRes.out 0
      have f1 := blk_frozen HRes.out 1
      have g0 := blk_cell HRes.out 0
      have g1 := blk_cell HRes.out 1
      go_wp2
      have hne : some w.heap.size ≠ (Value.slice A l.length c).ownBlock := fun e => Nat.lt_irrefl _ (HS.out.own_lt _ e.symm)
      have hng : w.heap.size ≠ g := fun e => by have := HS.out.lt; omega
      refine bodyPost_ret (rtake_res (cs := #[.int .i64 0, .int .i64 0]) rfl (by refine blk_put (cs := #[.int .i64 0, .int .i64 0]) ?_ 1 _ rfl; refine blk_put (cs := #[.int .i64 0, .int .i64 0]) ?_ 0 _ rfl; exact HRes.out) rfl) rfl ?_
      have e := take_none (fr := fr) HP.out (fun h => by have := HN2.out; omega)
      rw [e]
      exact ⟨rfl, (HSp.out.set hne hng _).set hne hng _, grown_set_new (grown_set_new HGr.out (Nat.le_refl _) _) (Nat.le_refl _) _⟩
set_option maxHeartbeats 8000000 in
set_option maxRecDepth 100000 in
theorem Used_nil (GA : Nat → Addr)  (w : World) :
    Calls Tryd.prog 27 #[.pointer none] w fun e w' => e = .returned (.int .i64 0) ∧ Below w.heap.size w w' := by
  go_enter Tryd.func27, Tryd.ntmps27
  go_wp2
  go_ret
  exact ⟨rfl, Below.refl _ _⟩
set_option maxHeartbeats 8000000 in
set_option maxRecDepth 100000 in
theorem Copy_nil (GA : Nat → Addr)  (w : World) :
    Calls Tryd.prog 24 #[.pointer none] w fun e w' => e = .returned (.pointer none) ∧ Below w.heap.size w w' := by
  go_enter Tryd.func24, Tryd.ntmps24
  go_wp2
  go_ret
  exact ⟨rfl, Below.refl _ _⟩
set_option maxHeartbeats 8000000 in
set_option maxRecDepth 100000 in
theorem Take_nil (GA : Nat → Addr) (k : Int) (w : World) :
    Calls Tryd.prog 25 #[.pointer none, .int .i64 k] w fun e w' => e = .returned (.tuple #[.agg #[.int .i64 0, .int .i64 0], .bool false]) ∧ Below w.heap.size w w' := by
  go_enter Tryd.func25, Tryd.ntmps25
  go_wp2
  refine bodyPost_ret (v := .tuple #[.agg #[.int .i64 0, .int .i64 0], .bool false]) (by simp [results, Tryd.results25, go_sem]) rfl ⟨rfl, below_alloc (Below.refl _ _) _⟩
set_option maxHeartbeats 8000000 in
set_option maxRecDepth 100000 in
theorem run_nil (GA : Nat → Addr) (a n : Int) (t : Bool) (w : World) (hG : Glob GA w) :
    Calls Tryd.prog 42 #[.pointer none, .agg #[.int .i64 a, .int .i64 n], .bool t] w fun e w' => e = .returned (.tuple #[.slice none 0 0, (.iface (errT 0) (errA GA 0) : Value)]) ∧ Below w.heap.size w w' := by
  have hgl : (w.alloc (.cells #[.int .i64 a, .int .i64 n] 39)).cell? ⟨1, 0, none⟩ = some (.iface 93 (.pointer (some (GA 1)))) := (Glob.below hG (below_alloc (Below.refl _ _) _)).c1
  clear hG
  go_enter Tryd.func42, Tryd.ntmps42
  go_wp2
  go_quiet (fail)
  go_wp2
  go_quiet (fail)
  go_wp2
  go_ret2
  exact ⟨rfl, pw_below_drewN (pw_below_drewN (below_alloc (Below.refl _ _) _) _) _⟩
set_option maxHeartbeats 8000000 in
set_option maxRecDepth 100000 in
theorem sets_nil (GA : Nat → Addr) (a n : Int) (t : Bool) (w : World) (hG : Glob GA w) :
    Calls Tryd.prog 34 #[.pointer none, .agg #[.int .i64 a, .int .i64 n], .bool t] w fun e w' => e = .returned (.bool false) ∧ Below w.heap.size w w' := by
  have hG1 := Glob.below hG (below_alloc (Below.refl _ _) (.cells #[.int .i64 a, .int .i64 n] 39))
  have HG1 := Aside0.mk hG1
  have HR := Aside0.mk (run_nil GA a n (!t) (w.alloc (.cells #[.int .i64 a, .int .i64 n] 39)) hG1)
  clear hG1 hG
  go_enter Tryd.func34, Tryd.ntmps34
  go_wp2_with (first | ((with_reducible refine gate_callee (f := 42) rfl ?_); refine goesL_ (some 15) rfl rfl Tryd.func42 (by kernel_rfl) rfl #[.pointer none, .agg #[.int .i64 a, .int .i64 n], .bool (!t)] rfl (by (try simp only [List.map_toArray, List.map_cons, List.map_nil]); first | done | rfl) ?_; (refine HR.out.mono ?_); rintro e w1 ⟨rfl, hb1⟩; refine ⟨_, rfl, ?_⟩; have hgl := (Glob.below HG1.out hb1).c1; have HG2 := Aside0.mk (Glob.below HG1.out hb1); have HB1 := Aside0.mk (below_step (below_alloc (Below.refl _ _) _) hb1); clear hb1) | ((with_reducible refine gate_callee (f := 33) rfl ?_); refine goesL_ (some 20) rfl rfl Tryd.func33 (by kernel_rfl) rfl #[.iface (errT 0) (errA GA 0), .iface 93 (.pointer (some (GA 1)))] rfl (by (try simp only [List.map_toArray, List.map_cons, List.map_nil]); first | done | rfl) ?_; (refine (is0 GA _ HG2.out).mono ?_); rintro e w2 ⟨rfl, hb2⟩; refine ⟨_, rfl, ?_⟩; have HB2 := Aside0.mk (below_step HB1.out hb2); clear hb2))
  go_ret
  exact ⟨rfl, HB2.out⟩
set_option maxHeartbeats 8000000 in
set_option maxRecDepth 100000 in
theorem Mark_nil (GA : Nat → Addr) (a n : Int) (w : World) (hG : Glob GA w) :
    Calls Tryd.prog 20 #[.pointer none, .agg #[.int .i64 a, .int .i64 n]] w fun e w' => e = .returned (.bool false) ∧ Below w.heap.size w w' := by
  have HS := Aside0.mk (sets_nil GA a n true (w.alloc (.cells #[.int .i64 a, .int .i64 n] 39)) (Glob.below hG (below_alloc (Below.refl _ _) _)))
  clear hG
  go_enter Tryd.func20, Tryd.ntmps20
  go_wp2_with (go_at_call 34; (refine HS.out.mono ?_); rintro e w1 ⟨rfl, hb⟩; have HB1 := Aside0.mk (below_step (below_alloc (Below.refl _ _) _) hb); clear hb)
  go_ret
  exact ⟨rfl, HB1.out⟩
set_option maxHeartbeats 8000000 in
set_option maxRecDepth 100000 in
theorem Free_nil (GA : Nat → Addr) (a n : Int) (w : World) (hG : Glob GA w) :
    Calls Tryd.prog 22 #[.pointer none, .agg #[.int .i64 a, .int .i64 n]] w fun e w' => e = .returned (.bool false) ∧ Below w.heap.size w w' := by
  have HS := Aside0.mk (sets_nil GA a n false (w.alloc (.cells #[.int .i64 a, .int .i64 n] 39)) (Glob.below hG (below_alloc (Below.refl _ _) _)))
  clear hG
  go_enter Tryd.func22, Tryd.ntmps22
  go_wp2_with (go_at_call 34; (refine HS.out.mono ?_); rintro e w1 ⟨rfl, hb⟩; have HB1 := Aside0.mk (below_step (below_alloc (Below.refl _ _) _) hb); clear hb)
  go_ret
  exact ⟨rfl, HB1.out⟩
end Go.Proofs.YtaoegbebeogkbaaDoor.PSpace
