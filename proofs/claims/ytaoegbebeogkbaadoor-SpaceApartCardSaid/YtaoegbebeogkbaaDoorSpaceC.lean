/- space: what its inner functions do, told once (a block that holds from where they are and a row of bools). Conditions: none. -/
import Derived.Test.YtaoegbebeogkbaaDoorPSpacex1
import Derived.BigQuiet
import Derived.Outline
namespace Go.Proofs.YtaoegbebeogkbaaDoor.PSpace
open Go.RowKit Go.Proofs.YtaoegbebeogkbaaDoorW.PrintWords Go.Proofs.YtaoegbebeogkbaaDoorW.PrintLast Go.Proofs.YtaoegbebeogkbaaDoorW.PrintMore
open Go.Extern.Stop Go.Stop Go.Extern
set_option linter.unusedVariables false
set_option linter.unusedSimpArgs false
/-- Is it a run of blocks of those that begin at fr? -/
def okE (fr : Int) (m : Nat) (a n : Int) : Prop := 1 ≤ n ∧ n ≤ m ∧ fr ≤ a ∧ a - fr ≤ m - n
instance (fr : Int) (m : Nat) (a n : Int) : Decidable (okE fr m a n) := by unfold okE; infer_instance
def mid (fr : Int) (l : List Bool) (a n : Int) : List Bool := (l.take (a - fr + n).toNat).drop (a - fr).toNat
theorem glob_ne {GA : Nat → Addr} {w : World} {g : Nat} {cs : Array Value} {t : TypeId} (hG : Glob GA w) : True := trivial
set_option maxHeartbeats 8000000 in
set_option maxRecDepth 100000 in
theorem run_no (GA : Nat → Addr) (g : Nat) (A : Option Addr) (c m : Nat) (fr a n : Int) (t : Bool) (w : World) (hG : Glob GA w) (hb : w.heap[g]? = some (.cells #[.int .i64 fr, .slice A m c] 62 (0, 0)))
    (hfr : 0 ≤ fr) (hm : m ≤ 1000000) (ha0 : -9223372036854775808 ≤ a) (ha : a ≤ 9223372036854775807) (hn0 : -9223372036854775808 ≤ n) (hn : n ≤ 9223372036854775807) (h : ¬ okE fr m a n) :
    Calls Tryd.prog 42 #[.pointer (some ⟨g, 0, none⟩), .agg #[.int .i64 a, .int .i64 n], .bool t] w fun e w' => e = .returned (.tuple #[.slice none 0 0, (.iface (errT 0) (errA GA 0) : Value)]) ∧ Below w.heap.size w w' := by
  have hlt := blk_lt hb
  have hb1 : (w.alloc (.cells #[.int .i64 a, .int .i64 n] 39)).heap[g]? = some (.cells #[.int .i64 fr, .slice A m c] 62 (0, 0)) := (Below.heap_alloc _ _ _ hlt).trans hb
  have hc0 : (w.alloc (.cells #[.int .i64 a, .int .i64 n] 39)).cell? ⟨g, 0, none⟩ = some (.int .i64 fr) := blk_cell hb1 0
  have hc1 : (w.alloc (.cells #[.int .i64 a, .int .i64 n] 39)).cell? ⟨g, 1, none⟩ = some (.slice A m c) := blk_cell hb1 1
  have hgl : (w.alloc (.cells #[.int .i64 a, .int .i64 n] 39)).cell? ⟨1, 0, none⟩ = some (.iface 93 (.pointer (some (GA 1)))) := (Glob.below hG (below_alloc (Below.refl _ _) _)).c1
  have HG := Aside0.mk hG
  have HB := Aside0.mk hb
  clear hb1 hb hG hlt
  have HX := Aside0.mk h
  clear h
  by_cases h1 : n < 1
  · have d1 : decide (n < 1) = true := decide_eq_true h1
    go_enter Tryd.func42, Tryd.ntmps42
    go_wp2
    go_quiet (fail)
    go_wp2
    go_quiet (fail)
    go_wp2
    go_ret2
    exact ⟨rfl, pw_below_drewN (pw_below_drewN (below_alloc (Below.refl _ _) _) _) _⟩
  have d1 : decide (n < 1) = false := decide_eq_false h1
  by_cases h2 : (m : Int) < n
  · have d2 : decide ((m : Int) < n) = true := decide_eq_true h2
    go_enter Tryd.func42, Tryd.ntmps42
    go_wp2
    go_quiet (fail)
    go_wp2
    go_quiet (fail)
    go_wp2
    go_ret2
    exact ⟨rfl, pw_below_drewN (pw_below_drewN (below_alloc (Below.refl _ _) _) _) _⟩
  have d2 : decide ((m : Int) < n) = false := decide_eq_false h2
  by_cases h3 : a < fr
  · have d3 : decide (a < fr) = true := decide_eq_true h3
    go_enter Tryd.func42, Tryd.ntmps42
    go_wp2
    go_quiet (fail)
    go_wp2
    go_quiet (fail)
    go_wp2
    go_ret2
    exact ⟨rfl, pw_below_drewN (pw_below_drewN (below_alloc (Below.refl _ _) _) _) _⟩
  have d3 : decide (a < fr) = false := decide_eq_false h3
  have h4 : (m : Int) - n < a - fr := by have := HX.out; unfold okE at this; omega
  have d4 : decide ((m : Int) - n < a - fr) = true := decide_eq_true h4
  have hw1 : IntKind.i64.wrap (a - fr) = a - fr := by rw [IntKind.wrap_i64]; omega
  have hw2 : IntKind.i64.wrap ((m : Int) - n) = (m : Int) - n := by rw [IntKind.wrap_i64]; omega
  clear h1 h2 h3 h4 HX
  go_enter Tryd.func42, Tryd.ntmps42
  go_wp2
  go_quiet (fail)
  go_wp2
  go_quiet (fail)
  go_wp2
  go_ret2
  exact ⟨rfl, pw_below_drewN (pw_below_drewN (below_alloc (Below.refl _ _) _) _) _⟩
theorem index_loop (x : Bool) (l : List Bool) (d : Nat) : ∀ (k i : Nat), l.length ≤ 1000000 → i + d = l.length → d < k →
    ∃ r, slices_Index_bool_bool.l0 k l x (l.length : Int) (i : Int) = some r ∧ (0 ≤ r ↔ x ∈ l.drop i) := by
  induction d with
  | zero =>
    intro k i hl hi hk
    obtain ⟨k, rfl⟩ : ∃ q, k = q + 1 := ⟨k - 1, by omega⟩
    refine ⟨-1, ?_, ?_⟩
    · simp only [slices_Index_bool_bool.l0]
      rw [if_neg (by omega)]
    · rw [List.drop_eq_nil_of_le (by omega)]
      simp
  | succ d ih =>
    intro k i hl hi hk
    obtain ⟨k, rfl⟩ : ∃ q, k = q + 1 := ⟨k - 1, by omega⟩
    obtain ⟨r, hr, h⟩ := ih k (i + 1) hl (by omega) (by omega)
    have hlt : i < l.length := by omega
    have hg : rdOf false l (i : Int) = l[i] := by simp [rdOf, List.getD_eq_getElem?_getD, List.getElem?_eq_getElem hlt]
    have hm : x ∈ l.drop i ↔ x = l[i] ∨ x ∈ l.drop (i + 1) := by rw [List.drop_eq_getElem_cons hlt, List.mem_cons]
    rw [hm]
    by_cases c : x = l[i]
    · refine ⟨(i : Int), ?_, ⟨fun _ => .inl c, fun _ => by omega⟩⟩
      simp only [slices_Index_bool_bool.l0, hg]
      rw [if_pos (by omega), if_pos (by omega), if_pos (by omega), if_pos (by rw [beq_iff_eq]; exact c)]
    · refine ⟨r, ?_, ⟨fun hr => .inr (h.1 hr), fun hr => h.2 (hr.resolve_left c)⟩⟩
      simp only [slices_Index_bool_bool.l0, hg]
      rw [if_pos (by omega), if_pos (by omega), if_pos (by omega), if_neg (by rw [beq_iff_eq]; exact c), show wrap64 ((i : Int) + 1) = ((i + 1 : Nat) : Int) by unfold wrap64; omega]
      exact hr
theorem contains_ev (x : Bool) (l : List Bool) (hl : l.length ≤ 1000000) : slices_Contains_bool_bool.f (l.length + 1) l x = some (decide (x ∈ l)) := by
  obtain ⟨r, hr, h⟩ := index_loop x l l.length (l.length + 1) 0 hl (by omega) (by omega)
  unfold slices_Contains_bool_bool.f slices_Index_bool_bool.f
  rw [show (0 : Int) = ((0 : Nat) : Int) from rfl, hr]
  simp only [Option.bind_some]
  rw [List.drop_zero] at h
  congr 1
  exact decide_eq_decide.2 h
theorem cut_at (b i N m c : Nat) (hi : i + N ≤ m) (hN : 1 ≤ N) (hc : m ≤ c) : ∀ W : World, (Instr.slice 48 (.slice (some ⟨b, 0, none⟩) m c) (some (.int .i64 (i : Int))) (some (.int .i64 ((i : Int) + (N : Int)))) none).run Tryd.prog W = .ok (.slice (some ⟨b, i, none⟩) N (c - i)) W := by
  intro W
  rw [show (i : Int) + (N : Int) = ((i + N : Nat) : Int) by omega]
  obtain ⟨i0, hi0, hz⟩ := Option.map_eq_some_iff.1 info4
  simp only [Prod.mk.injEq] at hz
  have h := cut_mid (P := Tryd.prog) 48 4 .i64 .i64 Tryd.underlying48 hi0 1 hz.2.1 (some ⟨b, 0, none⟩) m c (i : Int) ((i + N : Nat) : Int) (by omega) (by omega) (by omega) hc W
  rw [h, Int.toNat_natCast, Int.toNat_natCast, if_neg (by omega), Nat.add_sub_cancel_left]
  simp [add_plain]
theorem C_cut {W : World} {b i N c : Nat} {l : List Bool} (h : Kd.C Kd.bool W (some ⟨b, 0, none⟩) l.length l) (hi : i + N ≤ l.length) (hN : 1 ≤ N) (hc : l.length ≤ c) : Kd.C Kd.bool W (some ⟨b, i, none⟩) N ((l.drop i).take N) := by
  have h2 := Kd.C_mid (lo := i) (hi := i + N) (c := c) h (by omega) (by omega) hc
  rw [if_neg (by omega), show (l.take (i + N)).drop i = (l.drop i).take N by rw [List.drop_take, Nat.add_sub_cancel_left]] at h2
  rw [show ((l.drop i).take N).length = N by rw [List.length_take, List.length_drop]; omega] at h2
  simpa [add_plain, show Kd.bool.sz = 1 from rfl] using h2
theorem contains_at (b i N c : Nat) (l : List Bool) (x r : Bool) (w : World) (h : Kd.C Kd.bool w (some ⟨b, 0, none⟩) l.length l) (hl : l.length ≤ 1000000) (hi : i + N ≤ l.length) (hN : 1 ≤ N) (hc : l.length ≤ c) (hr : decide (x ∈ (l.drop i).take N) = r) :
    Calls Tryd.prog 44 #[.slice (some ⟨b, i, none⟩) N (c - i), .bool x] w fun e w' => e = .returned (.bool r) ∧ Drawn0 w w' := by
  have hn : ((l.drop i).take N).length = N := by rw [List.length_take, List.length_drop]; omega
  have := slices_Contains_bool_bool.calls (N + 1) (some ⟨b, i, none⟩) (c - i) ((l.drop i).take N) x r w (by rw [hn]; exact C_cut h hi hN hc) (by omega) (by have := contains_ev x ((l.drop i).take N) (by omega); rw [hn, hr] at this; exact this)
  rw [hn] at this
  exact this
set_option maxHeartbeats 8000000 in
set_option maxRecDepth 100000 in
theorem run_here (GA : Nat → Addr) (g b c i N : Nat) (l : List Bool) (fr a : Int) (t : Bool) (w : World) (hG : Glob GA w) (hb : w.heap[g]? = some (.cells #[.int .i64 fr, .slice (some ⟨b, 0, none⟩) l.length c] 62 (0, 0)))
    (hR : Kd.C Kd.bool w (some ⟨b, 0, none⟩) l.length l) (hc : l.length ≤ c) (hfr : 0 ≤ fr) (hm : l.length ≤ 1000000) (ha : a = fr + i) (ha2 : a ≤ 9223372036854775807) (hN : 1 ≤ N) (hi : i + N ≤ l.length) (h : (!t) ∈ (l.drop i).take N) :
    Calls Tryd.prog 42 #[.pointer (some ⟨g, 0, none⟩), .agg #[.int .i64 a, .int .i64 (N : Int)], .bool t] w fun e w' => e = .returned (.tuple #[.slice none 0 0, (.iface (errT 1) (errA GA 1) : Value)]) ∧ Below w.heap.size w w' := by
  have hlt := blk_lt hb
  have hb1 : (w.alloc (.cells #[.int .i64 a, .int .i64 (N : Int)] 39)).heap[g]? = some (.cells #[.int .i64 fr, .slice (some ⟨b, 0, none⟩) l.length c] 62 (0, 0)) := (Below.heap_alloc _ _ _ hlt).trans hb
  have hc0 : (w.alloc (.cells #[.int .i64 a, .int .i64 (N : Int)] 39)).cell? ⟨g, 0, none⟩ = some (.int .i64 fr) := blk_cell hb1 0
  have hc1 : (w.alloc (.cells #[.int .i64 a, .int .i64 (N : Int)] 39)).cell? ⟨g, 1, none⟩ = some (.slice (some ⟨b, 0, none⟩) l.length c) := blk_cell hb1 1
  have hgl : (w.alloc (.cells #[.int .i64 a, .int .i64 (N : Int)] 39)).cell? ⟨2, 0, none⟩ = some (.iface 93 (.pointer (some (GA 2)))) := (Glob.below hG (below_alloc (Below.refl _ _) _)).c2
  have HG := Aside0.mk hG
  have HB := Aside0.mk hb
  have HR := Aside0.mk (Kd.C_alloc hR (.cells #[.int .i64 a, .int .i64 (N : Int)] 39))
  have HH := Aside0.mk (decide_eq_true h)
  have d1 : decide ((N : Int) < 1) = false := decide_eq_false (by omega)
  have d2 : decide ((l.length : Int) < (N : Int)) = false := decide_eq_false (by omega)
  have d2n : decide (l.length < N) = false := decide_eq_false (by omega)
  have d3 : decide (a < fr) = false := decide_eq_false (by omega)
  have hw1 : IntKind.i64.wrap (a - fr) = (i : Int) := by rw [IntKind.wrap_i64]; omega
  have hw2 : IntKind.i64.wrap ((l.length : Int) - (N : Int)) = ((l.length - N : Nat) : Int) := by rw [IntKind.wrap_i64]; omega
  have hw3 : IntKind.i64.wrap ((i : Int) + (N : Int)) = (i : Int) + (N : Int) := by rw [IntKind.wrap_i64]; omega
  have d4 : decide (((l.length - N : Nat) : Int) < (i : Int)) = false := decide_eq_false (by omega)
  have d4n : decide (l.length - N < i) = false := decide_eq_false (by omega)
  have hcut := cut_at b i N l.length c hi hN hc
  have HA := Aside0.mk ha
  have HN := Aside0.mk hN
  have HI := Aside0.mk hi
  have HC := Aside0.mk hc
  clear hb1 hb hG hlt hR h ha hN hi hc
  go_enter Tryd.func42, Tryd.ntmps42
  go_wp2
  go_quiet (fail)
  go_wp2
  go_quiet (fail)
  go_wp2_with ((with_reducible refine gate_callee (f := 44) rfl ?_); refine goesL_ (some 81) rfl rfl Tryd.func44 (by kernel_rfl) rfl #[.slice (some ⟨b, i, none⟩) N (c - i), .bool (!t)] rfl (by (try simp only [List.map_toArray, List.map_cons, List.map_nil]); first | done | rfl) ?_; (refine (contains_at b i N c l (!t) true _ (Kd.C_drewN HR.out _) hm HI.out HN.out HC.out HH.out).mono ?_); rintro e w' ⟨rfl, ⟨⟨nd, rfl⟩⟩⟩; refine ⟨_, rfl, ?_⟩)
  go_quiet (fail)
  go_wp2
  go_ret2
  exact ⟨rfl, by repeat (first | exact below_alloc (Below.refl _ _) _ | apply pw_below_drewN)⟩
set_option maxHeartbeats 8000000 in
set_option maxRecDepth 100000 in
theorem run_yes (GA : Nat → Addr) (g b c i N : Nat) (l : List Bool) (fr a : Int) (t : Bool) (w : World) (hG : Glob GA w) (hb : w.heap[g]? = some (.cells #[.int .i64 fr, .slice (some ⟨b, 0, none⟩) l.length c] 62 (0, 0)))
    (hR : Kd.C Kd.bool w (some ⟨b, 0, none⟩) l.length l) (hc : l.length ≤ c) (hfr : 0 ≤ fr) (hm : l.length ≤ 1000000) (ha : a = fr + i) (ha2 : a ≤ 9223372036854775807) (hN : 1 ≤ N) (hi : i + N ≤ l.length) (h : (!t) ∉ (l.drop i).take N) :
    Calls Tryd.prog 42 #[.pointer (some ⟨g, 0, none⟩), .agg #[.int .i64 a, .int .i64 (N : Int)], .bool t] w fun e w' => e = .returned (.tuple #[.slice (some ⟨b, i, none⟩) N (c - i), .nilIface]) ∧ Below w.heap.size w w' := by
  have hlt := blk_lt hb
  have hb1 : (w.alloc (.cells #[.int .i64 a, .int .i64 (N : Int)] 39)).heap[g]? = some (.cells #[.int .i64 fr, .slice (some ⟨b, 0, none⟩) l.length c] 62 (0, 0)) := (Below.heap_alloc _ _ _ hlt).trans hb
  have hc0 : (w.alloc (.cells #[.int .i64 a, .int .i64 (N : Int)] 39)).cell? ⟨g, 0, none⟩ = some (.int .i64 fr) := blk_cell hb1 0
  have hc1 : (w.alloc (.cells #[.int .i64 a, .int .i64 (N : Int)] 39)).cell? ⟨g, 1, none⟩ = some (.slice (some ⟨b, 0, none⟩) l.length c) := blk_cell hb1 1
  have hgl : (w.alloc (.cells #[.int .i64 a, .int .i64 (N : Int)] 39)).cell? ⟨2, 0, none⟩ = some (.iface 93 (.pointer (some (GA 2)))) := (Glob.below hG (below_alloc (Below.refl _ _) _)).c2
  have HG := Aside0.mk hG
  have HB := Aside0.mk hb
  have HR := Aside0.mk (Kd.C_alloc hR (.cells #[.int .i64 a, .int .i64 (N : Int)] 39))
  have HH := Aside0.mk (decide_eq_false h)
  have d1 : decide ((N : Int) < 1) = false := decide_eq_false (by omega)
  have d2 : decide ((l.length : Int) < (N : Int)) = false := decide_eq_false (by omega)
  have d2n : decide (l.length < N) = false := decide_eq_false (by omega)
  have d3 : decide (a < fr) = false := decide_eq_false (by omega)
  have hw1 : IntKind.i64.wrap (a - fr) = (i : Int) := by rw [IntKind.wrap_i64]; omega
  have hw2 : IntKind.i64.wrap ((l.length : Int) - (N : Int)) = ((l.length - N : Nat) : Int) := by rw [IntKind.wrap_i64]; omega
  have hw3 : IntKind.i64.wrap ((i : Int) + (N : Int)) = (i : Int) + (N : Int) := by rw [IntKind.wrap_i64]; omega
  have d4 : decide (((l.length - N : Nat) : Int) < (i : Int)) = false := decide_eq_false (by omega)
  have d4n : decide (l.length - N < i) = false := decide_eq_false (by omega)
  have hcut := cut_at b i N l.length c hi hN hc
  have HA := Aside0.mk ha
  have HN := Aside0.mk hN
  have HI := Aside0.mk hi
  have HC := Aside0.mk hc
  clear hb1 hb hG hlt hR h ha hN hi hc
  go_enter Tryd.func42, Tryd.ntmps42
  go_wp2
  go_quiet (fail)
  go_wp2
  go_quiet (fail)
  go_wp2_with ((with_reducible refine gate_callee (f := 44) rfl ?_); refine goesL_ (some 81) rfl rfl Tryd.func44 (by kernel_rfl) rfl #[.slice (some ⟨b, i, none⟩) N (c - i), .bool (!t)] rfl (by (try simp only [List.map_toArray, List.map_cons, List.map_nil]); first | done | rfl) ?_; (refine (contains_at b i N c l (!t) false _ (Kd.C_drewN HR.out _) hm HI.out HN.out HC.out HH.out).mono ?_); rintro e w' ⟨rfl, ⟨⟨nd, rfl⟩⟩⟩; refine ⟨_, rfl, ?_⟩)
  go_ret2
  exact ⟨rfl, by repeat (first | exact below_alloc (Below.refl _ _) _ | apply pw_below_drewN)⟩
end Go.Proofs.YtaoegbebeogkbaaDoor.PSpace
