/- space: a block that holds from where and a row of bools, as a plain pair; Mark, Free, Take, Used, Copy, New. Conditions: none. -/
import Derived.Test.YtaoegbebeogkbaaDoorSpaceC
namespace Go.Proofs.YtaoegbebeogkbaaDoor.PSpace
open Go.RowKit Go.Proofs.YtaoegbebeogkbaaDoorW.PrintWords Go.Proofs.YtaoegbebeogkbaaDoorW.PrintLast Go.Proofs.YtaoegbebeogkbaaDoorW.PrintMore
open Go.Extern.Stop Go.Stop Go.Extern
attribute [local go_sem] max2_int min2_int max_two min_two   -- for this text's walks alone
set_option linter.unusedVariables false
set_option linter.unusedSimpArgs false
/-- At block g lies such a struct (of type T) over a row of its own. -/
def Sp (T : Nat) (W : World) (B g : Nat) (v : Value) (fr : Int) (l : List Bool) : Prop := B ≤ g ∧ W.heap[g]? = some (.cells #[.int .i64 fr, v] T (0, 0)) ∧ Kd.R Kd.bool 4 W B (fun _ => True) v l
theorem grown_trans {w w1 w2 : World} {row : Option Nat} (h : w.grownBy w1 row) (k : w1.grownBy w2 row) : w.grownBy w2 row :=
  ⟨k.os.trans h.os, k.tape.trans h.tape, k.output.trans h.output, Nat.le_trans h.size k.size, fun i hi hn => (k.block i (Nat.lt_of_lt_of_le hi h.size) hn).trans (h.block i hi hn)⟩
theorem grown_drew {w w1 : World} {row : Option Nat} (h : w.grownBy w1 row) : w.grownBy w1.drew row := ⟨h.os, h.tape, h.output, h.size, h.block⟩
theorem grown_drewN {w w1 : World} {row : Option Nat} (h : w.grownBy w1 row) (n : Nat) : w.grownBy (w1.drewN n) row := ⟨h.os, h.tape, h.output, h.size, h.block⟩
theorem grown_set_new {w w1 : World} {row : Option Nat} (h : w.grownBy w1 row) {p : Addr} (hp : w.heap.size ≤ p.block) (u : Value) : w.grownBy (w1.setCell p u) row :=
  ⟨h.os, h.tape, h.output, by show _ ≤ (w1.heap.modify _ _).size; rw [Array.size_modify]; exact h.size, fun k hk hn => (Below.heap_setCell _ _ _ _ (by omega)).trans (h.block k hk hn)⟩
section
variable {T B g : Nat} {v : Value} {fr : Int} {l : List Bool} {w w1 : World}
theorem Sp.grown (h : Sp T w B g v fr l) {row : Option Nat} (hg : w.grownBy w1 row) (h1 : ∀ k, row = some k → some k ≠ v.ownBlock) (h2 : ∀ k, row = some k → k ≠ g) : Sp T w1 B g v fr l :=
  ⟨h.1, blk_grown h.2.1 hg (fun e => h2 g e.symm rfl), Kd.R_grown2 h.2.2 rfl hg h1⟩
theorem Sp.below (h : Sp T w B g v fr l) (hb : Below w.heap.size w w1) : Sp T w1 B g v fr l := h.grown (grown_of_below hb none) (by simp) (by simp)
theorem Sp.set (h : Sp T w B g v fr l) {p : Addr} (h1 : some p.block ≠ v.ownBlock) (h2 : p.block ≠ g) (u : Value) : Sp T (w.setCell p u) B g v fr l :=
  ⟨h.1, blk_far h.2.1 (Ne.symm h2) u, Kd.R_drop (Kd.R_far (Kd.R_far1 h.2.2 rfl h1) (fun k hk => hk.2) u)⟩
theorem Sp.lt (h : Sp T w B g v fr l) : g < w.heap.size := blk_lt h.2.1
theorem Sp.own_lt (h : Sp T w B g v fr l) : ∀ k, v.ownBlock = some k → k < w.heap.size := Kd.R_lt h.2.2
theorem Sp.own_ge (h : Sp T w B g v fr l) : ∀ k, v.ownBlock = some k → B ≤ k := Kd.R_base h.2.2
theorem Sp.own_ne (h : Sp T w B g v fr l) {T' B' g' : Nat} {v' : Value} {fr' : Int} {l' : List Bool} (h' : Sp T' w B' g' v' fr' l') (ht : T' ≠ 4) : some g' ≠ v.ownBlock := fun e => by
  obtain ⟨cs, hc⟩ := Kd.R_typed h.2.2 g' e.symm
  rw [h'.2.1] at hc
  injection hc with hc
  injection hc with _ hc
  exact ht hc
end
theorem below_of_grown {w w1 w2 : World} {B : Nat} {row : Option Nat} (h : Below B w w1) (hB : B ≤ w1.heap.size) (hg : w1.grownBy w2 row) (hr : ∀ k, row = some k → B ≤ k) : Below B w w2 := h.grown hg hB hr
def setN (l : List Bool) (i j : Nat) (t : Bool) : List Bool := l.take i ++ List.replicate j t ++ l.drop (i + j)
theorem setN_length (l : List Bool) (i j : Nat) (t : Bool) (h : i + j ≤ l.length) : (setN l i j t).length = l.length := by
  unfold setN
  rw [List.length_append, List.length_append, List.length_take, List.length_replicate, List.length_drop]
  omega
theorem setN_zero (l : List Bool) (i : Nat) (t : Bool) : setN l i 0 t = l := by
  unfold setN
  simp
theorem setN_set (l : List Bool) (i j : Nat) (t : Bool) (h : i + j < l.length) : (setN l i j t).set (i + j) t = setN l i (j + 1) t := by
  unfold setN
  have h1 : (l.take i ++ List.replicate j t).length = i + j := by rw [List.length_append, List.length_take, List.length_replicate]; omega
  rw [List.set_append_right _ _ (by omega), h1, Nat.sub_self, List.drop_eq_getElem_cons h, List.set_cons_zero, List.replicate_succ', List.append_assoc, List.append_assoc, List.append_assoc]
  rfl
/-- What setting a run does. -/
def setE (fr : Int) (l : List Bool) (a n : Int) (t : Bool) : Bool × List Bool := if okE fr l.length a n ∧ t ∉ (l.drop (a - fr).toNat).take n.toNat then (true, setN l (a - fr).toNat n.toNat t) else (false, l)
theorem setE_length (fr : Int) (l : List Bool) (a n : Int) (t : Bool) : (setE fr l a n t).2.length = l.length := by
  unfold setE
  split
  · rename_i h
    exact setN_length _ _ _ _ (by have := h.1; unfold okE at this; omega)
  · rfl
theorem okE_nat {fr a n : Int} {m : Nat} (h : okE fr m a n) : ∃ i N : Nat, a = fr + i ∧ n = N ∧ 1 ≤ N ∧ i + N ≤ m ∧ (a - fr).toNat = i ∧ n.toNat = N := by
  unfold okE at h
  exact ⟨(a - fr).toNat, n.toNat, by omega, by omega, by omega, by omega, rfl, rfl⟩
theorem is0 (GA : Nat → Addr) (w : World) (hG : Glob GA w) : Calls Tryd.prog 33 #[.iface (errT 0) (errA GA 0), .iface 93 (.pointer (some (GA 1)))] w fun e w' => e = .returned (.bool true) ∧ Below w.heap.size w w' := errors_IsS.calls GA 0 1 true w hG rfl
theorem is1 (GA : Nat → Addr) (w : World) (hG : Glob GA w) : Calls Tryd.prog 33 #[.iface (errT 1) (errA GA 1), .iface 93 (.pointer (some (GA 1)))] w fun e w' => e = .returned (.bool false) ∧ Below w.heap.size w w' := errors_IsS.calls GA 1 1 false w hG rfl
theorem is2 (GA : Nat → Addr) (w : World) (hG : Glob GA w) : Calls Tryd.prog 33 #[.iface (errT 1) (errA GA 1), .iface 93 (.pointer (some (GA 2)))] w fun e w' => e = .returned (.bool true) ∧ Below w.heap.size w w' := errors_IsS.calls GA 1 2 true w hG rfl
set_option maxHeartbeats 8000000 in
set_option maxRecDepth 100000 in
theorem sets_no (GA : Nat → Addr) (g : Nat) (m c : Nat) (A : Option Addr) (fr a n : Int) (t : Bool) (w : World) (hG : Glob GA w) (hb : w.heap[g]? = some (.cells #[.int .i64 fr, .slice A m c] 62 (0, 0)))
    (hfr : 0 ≤ fr) (hm : m ≤ 1000000) (ha0 : -9223372036854775808 ≤ a) (ha : a ≤ 9223372036854775807) (hn0 : -9223372036854775808 ≤ n) (hn : n ≤ 9223372036854775807) (h : ¬ okE fr m a n) :
    Calls Tryd.prog 34 #[.pointer (some ⟨g, 0, none⟩), .agg #[.int .i64 a, .int .i64 n], .bool t] w fun e w' => e = .returned (.bool false) ∧ Below w.heap.size w w' := by
  have hG1 := Glob.below hG (below_alloc (Below.refl _ _) (.cells #[.int .i64 a, .int .i64 n] 39))
  have HG1 := Aside0.mk hG1
  have HR := Aside0.mk (run_no GA g A c m fr a n (!t) (w.alloc (.cells #[.int .i64 a, .int .i64 n] 39)) hG1 ((Below.heap_alloc _ _ _ (blk_lt hb)).trans hb) hfr hm ha0 ha hn0 hn h)
  clear hG1 hG hb h
  go_enter Tryd.func34, Tryd.ntmps34
  go_wp2_with (first | ((with_reducible refine gate_callee (f := 42) rfl ?_); refine goesL_ (some 15) rfl rfl Tryd.func42 (by kernel_rfl) rfl #[.pointer (some ⟨g, 0, none⟩), .agg #[.int .i64 a, .int .i64 n], .bool (!t)] rfl (by (try simp only [List.map_toArray, List.map_cons, List.map_nil]); first | done | rfl) ?_; (refine HR.out.mono ?_); rintro e w1 ⟨rfl, hb1⟩; refine ⟨_, rfl, ?_⟩; have hgl := (Glob.below HG1.out hb1).c1; have HG2 := Aside0.mk (Glob.below HG1.out hb1); have HB1 := Aside0.mk (below_step (below_alloc (Below.refl _ _) _) hb1); clear hb1) | ((with_reducible refine gate_callee (f := 33) rfl ?_); refine goesL_ (some 20) rfl rfl Tryd.func33 (by kernel_rfl) rfl #[.iface (errT 0) (errA GA 0), .iface 93 (.pointer (some (GA 1)))] rfl (by (try simp only [List.map_toArray, List.map_cons, List.map_nil]); first | done | rfl) ?_; (refine (is0 GA _ HG2.out).mono ?_); rintro e w2 ⟨rfl, hb2⟩; refine ⟨_, rfl, ?_⟩; have HB2 := Aside0.mk (below_step HB1.out hb2); clear hb2))
  go_ret
  exact ⟨rfl, HB2.out⟩
set_option maxHeartbeats 8000000 in
set_option maxRecDepth 100000 in
theorem sets_here (GA : Nat → Addr) (g b c i N : Nat) (l : List Bool) (fr a : Int) (t : Bool) (w : World) (hG : Glob GA w) (hb : w.heap[g]? = some (.cells #[.int .i64 fr, .slice (some ⟨b, 0, none⟩) l.length c] 62 (0, 0)))
    (hR : Kd.C Kd.bool w (some ⟨b, 0, none⟩) l.length l) (hc : l.length ≤ c) (hfr : 0 ≤ fr) (hm : l.length ≤ 1000000) (ha : a = fr + i) (ha2 : a ≤ 9223372036854775807) (hN : 1 ≤ N) (hi : i + N ≤ l.length) (h : t ∈ (l.drop i).take N) :
    Calls Tryd.prog 34 #[.pointer (some ⟨g, 0, none⟩), .agg #[.int .i64 a, .int .i64 (N : Int)], .bool t] w fun e w' => e = .returned (.bool false) ∧ Below w.heap.size w w' := by
  have hG1 := Glob.below hG (below_alloc (Below.refl _ _) (.cells #[.int .i64 a, .int .i64 (N : Int)] 39))
  have HG1 := Aside0.mk hG1
  have HR := Aside0.mk (run_here GA g b c i N l fr a (!t) (w.alloc (.cells #[.int .i64 a, .int .i64 (N : Int)] 39)) hG1 ((Below.heap_alloc _ _ _ (blk_lt hb)).trans hb) (Kd.C_alloc hR _) hc hfr hm ha ha2 hN hi (by rw [Bool.not_not]; exact h))
  clear hG1 hG hb h hR hc hfr hm ha ha2 hN hi
  go_enter Tryd.func34, Tryd.ntmps34
  go_wp2_with (first | ((with_reducible refine gate_callee (f := 42) rfl ?_); refine goesL_ (some 15) rfl rfl Tryd.func42 (by kernel_rfl) rfl #[.pointer (some ⟨g, 0, none⟩), .agg #[.int .i64 a, .int .i64 (N : Int)], .bool (!t)] rfl (by (try simp only [List.map_toArray, List.map_cons, List.map_nil]); first | done | rfl) ?_; (refine HR.out.mono ?_); rintro e w1 ⟨rfl, hb1⟩; refine ⟨_, rfl, ?_⟩; have hgl := (Glob.below HG1.out hb1).c1; have hgl2 := (Glob.below HG1.out hb1).c2; have HG2 := Aside0.mk (Glob.below HG1.out hb1); have HB1 := Aside0.mk (below_step (below_alloc (Below.refl _ _) _) hb1); clear hb1) | ((with_reducible refine gate_callee (f := 33) rfl ?_); refine goesL_ (some 20) rfl rfl Tryd.func33 (by kernel_rfl) rfl #[.iface (errT 1) (errA GA 1), .iface 93 (.pointer (some (GA 1)))] rfl (by (try simp only [List.map_toArray, List.map_cons, List.map_nil]); first | done | rfl) ?_; (refine (is1 GA _ HG2.out).mono ?_); rintro e w2 ⟨rfl, hb2⟩; refine ⟨_, rfl, ?_⟩; have hgl3 := (Glob.below HG2.out hb2).c2; have HG3 := Aside0.mk (Glob.below HG2.out hb2); have HB2 := Aside0.mk (below_step HB1.out hb2); clear hb2) | (go_at_call 33; (with_reducible refine (is2 GA _ ?side).mono ?_); (case side => exact HG3.out); rintro e w3 ⟨rfl, hb2⟩; have HB3 := Aside0.mk (below_step HB2.out hb2); clear hb2))
  go_ret
  exact ⟨rfl, HB3.out⟩
theorem isn (j : Nat) (GA : Nat → Addr) (w : World) (hG : Glob GA w) : Calls Tryd.prog 33 #[.nilIface, .iface 93 (.pointer (some (GA j)))] w fun e w' => e = .returned (.bool false) ∧ Drawn0 w w' := errors_IsN.calls GA () j false w hG rfl
set_option maxHeartbeats 8000000 in
set_option maxRecDepth 100000 in
theorem sets_yes (GA : Nat → Addr) (B g b c i N : Nat) (l : List Bool) (fr a : Int) (t : Bool) (w : World) (hG : Glob GA w) (hb : w.heap[g]? = some (.cells #[.int .i64 fr, .slice (some ⟨b, 0, none⟩) l.length c] 62 (0, 0)))
    (hR : Kd.R Kd.bool 4 w B (fun _ => True) (.slice (some ⟨b, 0, none⟩) l.length c) l) (hfr : 0 ≤ fr) (hm : l.length ≤ 1000000) (ha : a = fr + i) (ha2 : a ≤ 9223372036854775807) (hN : 1 ≤ N) (hi : i + N ≤ l.length) (h : t ∉ (l.drop i).take N) :
    Calls Tryd.prog 34 #[.pointer (some ⟨g, 0, none⟩), .agg #[.int .i64 a, .int .i64 (N : Int)], .bool t] w fun e w' => e = .returned (.bool true) ∧ Kd.R Kd.bool 4 w' B (fun _ => True) (.slice (some ⟨b, 0, none⟩) l.length c) (setN l i N t) ∧ w.grownBy w' (some b) := by
  have hG1 := Glob.below hG (below_alloc (Below.refl _ _) (.cells #[.int .i64 a, .int .i64 (N : Int)] 39))
  have HG1 := Aside0.mk hG1
  have hc := (Kd.R_reads' hR).2.1
  have HR := Aside0.mk (run_yes GA g b c i N l fr a (!t) (w.alloc (.cells #[.int .i64 a, .int .i64 (N : Int)] 39)) hG1 ((Below.heap_alloc _ _ _ (blk_lt hb)).trans hb) (Kd.C_alloc (Kd.R_reads' hR).2.2 _) hc hfr hm ha ha2 hN hi (by rw [Bool.not_not]; exact h))
  have HO := Aside0.mk hR
  have HX := Aside0.mk (And.intro hN (And.intro hi hm))
  clear hG1 hG hb h hR hc hfr hm ha ha2 hN hi
  go_enter Tryd.func34, Tryd.ntmps34
  go_wp2_with (first | ((with_reducible refine gate_callee (f := 42) rfl ?_); refine goesL_ (some 15) rfl rfl Tryd.func42 (by kernel_rfl) rfl #[.pointer (some ⟨g, 0, none⟩), .agg #[.int .i64 a, .int .i64 (N : Int)], .bool (!t)] rfl (by (try simp only [List.map_toArray, List.map_cons, List.map_nil]); first | done | rfl) ?_; (refine HR.out.mono ?_); rintro e w1 ⟨rfl, hb1⟩; refine ⟨_, rfl, ?_⟩; have hgl := (Glob.below HG1.out hb1).c1; have hgl2 := (Glob.below HG1.out hb1).c2; have HG2 := Aside0.mk (Glob.below HG1.out hb1); have HB1 := Aside0.mk (below_step (below_alloc (Below.refl _ _) _) hb1); clear hb1) | ((with_reducible refine gate_callee (f := 33) rfl ?_); refine goesL_ (some 20) rfl rfl Tryd.func33 (by kernel_rfl) rfl #[.nilIface, .iface 93 (.pointer (some (GA 1)))] rfl (by (try simp only [List.map_toArray, List.map_cons, List.map_nil]); first | done | rfl) ?_; (refine (isn 1 GA _ HG2.out).mono ?_); rintro e w2 ⟨rfl, ⟨⟨nd, rfl⟩⟩⟩; refine ⟨_, rfl, ?_⟩) | (go_at_call 33; (with_reducible refine (isn 2 GA _ ?side).mono ?_); (case side => exact Glob.below HG2.out (pw_below_drewN (Below.refl _ _) _)); rintro e w3 ⟨rfl, ⟨⟨nd2, rfl⟩⟩⟩))
  have hi0 := HX.out.2.1
  have hm0 := HX.out.2.2
  have hO0 := Kd.R_below HO.out HB1.out
  have HL := Aside0.mk (show ∀ j, j ≤ N → (setN l i j t).length = l.length from fun j hj => setN_length l i j t (by omega))
  have HP := Aside0.mk (show ∀ j, j < N → (setN l i j t).set (i + j) t = setN l i (j + 1) t from fun j hj => setN_set l i j t (by omega))
  clear hi0 hm0
  go_loopg [9, 28] (N + 1) (fun kq v9 v28 w2 => ∃ j : Nat, v28 = .int .i64 (j : Int) ∧ Aside0 (j ≤ N ∧ N < kq + j) ∧ Aside0 (Kd.R Kd.bool 4 w2 B (fun _ => True) (.slice (some ⟨b, 0, none⟩) l.length c) (setN l i j t)) ∧ Aside0 (w.grownBy w2 (some b)))
  case atStart => exact ⟨0, rfl, ⟨Nat.zero_le _, by omega⟩, ⟨by rw [setN_zero]; exact Kd.R_drewN hO0 _⟩, ⟨grown_drewN (grown_of_below HB1.out _) _⟩⟩
  case round =>
    obtain ⟨j, rfl, HI, HR2, HG⟩ := hrel
    by_cases hlt : j < N
    · have hd : decide ((j : Int) < (N : Int)) = true := decide_eq_true (by omega)
      have hd1 : decide (j < N) = true := decide_eq_true hlt
      have hlt2 : (j : Int) < (N : Int) := by omega
      have hj0 : (0 : Int) ≤ (j : Int) := by omega
      have hm0 := HX.out.2.2
      have hi0 := HX.out.2.1
      have hw1 : IntKind.i64.wrap ((j : Int) + 1) = ((j + 1 : Nat) : Int) := by rw [IntKind.wrap_i64]; omega
      have hcf := Kd.R_celln (d := false) HR2.out ((i + j : Nat) : Int) (by omega) (by omega)
      rw [Int.toNat_natCast] at hcf
      obtain ⟨hc1, hf1⟩ := hcf
      have hput := Kd.R_putg HR2.out ((i + j : Nat) : Int) t
      rw [Int.toNat_natCast, HP.out j hlt] at hput
      have HPU := Aside0.mk hput
      clear hput hi0 hm0
      go_wp2
      go_roundg (gk - 1)
      case measure => have := HI.out; omega
      case rel => exact ⟨j + 1, by first | rfl | go_num, ⟨by omega, by have := HI.out; omega⟩, ⟨HPU.out.1⟩, ⟨grown_trans HG.out HPU.out.2⟩⟩
    · have hd : decide ((j : Int) < (N : Int)) = false := decide_eq_false (by omega)
      have hd1 : decide (j < N) = false := decide_eq_false hlt
      have hlt2 : ¬ (j : Int) < (N : Int) := by omega
      obtain rfl : j = N := by have := HI.out; omega
      go_wp2
      go_ret
      exact ⟨rfl, HR2.out, HG.out⟩
/-- Setting a run, whatever it is. -/
theorem sets (GA : Nat → Addr) (B g : Nat) (v : Value) (l : List Bool) (fr a n : Int) (t : Bool) (w : World) (hG : Glob GA w) (h : Sp 62 w B g v fr l) (hfr : 0 ≤ fr) (hm : l.length ≤ 1000000) (ha0 : -9223372036854775808 ≤ a) (ha : a ≤ 9223372036854775807) (hn0 : -9223372036854775808 ≤ n) (hn : n ≤ 9223372036854775807) :
    Calls Tryd.prog 34 #[.pointer (some ⟨g, 0, none⟩), .agg #[.int .i64 a, .int .i64 n], .bool t] w fun e w' => e = .returned (.bool (setE fr l a n t).1) ∧ Sp 62 w' B g v fr (setE fr l a n t).2 ∧ w.grownBy w' v.ownBlock := by
  obtain ⟨hB, hb, hR⟩ := h
  obtain ⟨A, c, rfl⟩ := Kd.R_slice hR
  by_cases ok : okE fr l.length a n
  · obtain ⟨i, N, e1, e2, h1, h2, e3, e4⟩ := okE_nat ok
    subst e2
    obtain ⟨b, c', he, hb1, hb2, _⟩ := Kd.R_form hR (by omega)
    injection he with he _ he3
    subst he he3
    by_cases hin : t ∈ (l.drop i).take N
    · have e : setE fr l a N t = (false, l) := by unfold setE; rw [if_neg (by rw [e3, e4]; exact fun h => h.2 hin)]
      rw [e]
      exact (sets_here GA g b c i N l fr a t w hG hb (Kd.R_reads' hR).2.2 (Kd.R_reads' hR).2.1 hfr hm e1 ha h1 h2 hin).mono fun e w' ⟨he, hw⟩ => ⟨he, ⟨hB, (hw.block _ (blk_lt hb)).trans hb, Kd.R_below hR hw⟩, grown_of_below hw _⟩
    · have e : setE fr l a N t = (true, setN l i N t) := by unfold setE; rw [e3, e4, if_pos ⟨ok, hin⟩]
      rw [e]
      refine (sets_yes GA B g b c i N l fr a t w hG hb hR hfr hm e1 ha h1 h2 hin).mono fun e w' ⟨he, hr, hw⟩ => ⟨he, ⟨hB, ?_, ?_⟩, hw⟩
      · refine blk_grown hb hw ?_
        have hne := Kd.R_ne hR hb (by decide)
        exact hne
      · exact hr
  · have e : setE fr l a n t = (false, l) := by unfold setE; rw [if_neg (fun h => ok h.1)]
    rw [e]
    exact (sets_no GA g l.length c A fr a n t w hG hb hfr hm ha0 ha hn0 hn ok).mono fun e w' ⟨he, hw⟩ => ⟨he, ⟨hB, (hw.block _ (blk_lt hb)).trans hb, Kd.R_below hR hw⟩, grown_of_below hw _⟩
set_option maxHeartbeats 8000000 in
set_option maxRecDepth 100000 in
theorem Mark (GA : Nat → Addr) (B g : Nat) (v : Value) (l : List Bool) (fr a n : Int) (w : World) (hG : Glob GA w) (h : Sp 62 w B g v fr l) (hfr : 0 ≤ fr) (hm : l.length ≤ 1000000) (ha0 : -9223372036854775808 ≤ a) (ha : a ≤ 9223372036854775807) (hn0 : -9223372036854775808 ≤ n) (hn : n ≤ 9223372036854775807) :
    Calls Tryd.prog 20 #[.pointer (some ⟨g, 0, none⟩), .agg #[.int .i64 a, .int .i64 n]] w fun e w' => e = .returned (.bool (setE fr l a n true).1) ∧ Sp 62 w' B g v fr (setE fr l a n true).2 ∧ w.grownBy w' v.ownBlock := by
  have HS := Aside0.mk (sets GA B g v l fr a n true (w.alloc (.cells #[.int .i64 a, .int .i64 n] 39)) (Glob.below hG (below_alloc (Below.refl _ _) _)) (h.below (below_alloc (Below.refl _ _) _)) hfr hm ha0 ha hn0 hn)
  clear hG h hfr hm ha0 ha hn0 hn
  go_enter Tryd.func20, Tryd.ntmps20
  go_wp2_with (go_at_call 34; (refine HS.out.mono ?_); rintro e w1 ⟨rfl, hs, hg⟩; have HS1 := Aside0.mk hs; have HG1 := Aside0.mk (grown_trans (grown_of_below (below_alloc (Below.refl _ _) _) _) hg); clear hs hg)
  go_ret
  exact ⟨rfl, HS1.out, HG1.out⟩
set_option maxHeartbeats 8000000 in
set_option maxRecDepth 100000 in
theorem Free (GA : Nat → Addr) (B g : Nat) (v : Value) (l : List Bool) (fr a n : Int) (w : World) (hG : Glob GA w) (h : Sp 62 w B g v fr l) (hfr : 0 ≤ fr) (hm : l.length ≤ 1000000) (ha0 : -9223372036854775808 ≤ a) (ha : a ≤ 9223372036854775807) (hn0 : -9223372036854775808 ≤ n) (hn : n ≤ 9223372036854775807) :
    Calls Tryd.prog 22 #[.pointer (some ⟨g, 0, none⟩), .agg #[.int .i64 a, .int .i64 n]] w fun e w' => e = .returned (.bool (setE fr l a n false).1) ∧ Sp 62 w' B g v fr (setE fr l a n false).2 ∧ w.grownBy w' v.ownBlock := by
  have HS := Aside0.mk (sets GA B g v l fr a n false (w.alloc (.cells #[.int .i64 a, .int .i64 n] 39)) (Glob.below hG (below_alloc (Below.refl _ _) _)) (h.below (below_alloc (Below.refl _ _) _)) hfr hm ha0 ha hn0 hn)
  clear hG h hfr hm ha0 ha hn0 hn
  go_enter Tryd.func22, Tryd.ntmps22
  go_wp2_with (go_at_call 34; (refine HS.out.mono ?_); rintro e w1 ⟨rfl, hs, hg⟩; have HS1 := Aside0.mk hs; have HG1 := Aside0.mk (grown_trans (grown_of_below (below_alloc (Below.refl _ _) _) _) hg); clear hs hg)
  go_ret
  exact ⟨rfl, HS1.out, HG1.out⟩
def takeP (fr : Int) (l : List Bool) (k : Int) (i : Nat) : Bool := (setE fr l (fr + i) k true).1
/-- Which run is taken: the first that may be. -/
def takeI (fr : Int) (l : List Bool) (k : Int) : Option Nat := (List.range l.length).find? (takeP fr l k)
theorem find_first {P : Nat → Bool} {n i : Nat} (h : ∀ j, j < i → P j = false) (hi : P i = true) (hn : i < n) : (List.range n).find? P = some i := by
  rw [List.find?_eq_some_iff_getElem]
  refine ⟨hi, i, by simpa using hn, by simp, fun j hj => by simp [h j hj]⟩
theorem find_not {P : Nat → Bool} {n : Nat} (h : ∀ j, j < n → P j = false) : (List.range n).find? P = none := by
  rw [List.find?_eq_none]
  intro x hx
  simp [h x (List.mem_range.1 hx)]
/-- What Take tells, and leaves. -/
def takeE (fr : Int) (l : List Bool) (k : Int) : Int × Int × Bool × List Bool := match takeI fr l k with
  | some i => (fr + i, k, true, (setE fr l (fr + i) k true).2)
  | none => (0, 0, false, l)
theorem take_some {fr : Int} {l : List Bool} {k : Int} {i : Nat} (h : ∀ j, j < i → takeP fr l k j = false) (hi : takeP fr l k i = true) : takeE fr l k = (fr + i, k, true, (setE fr l (fr + i) k true).2) := by
  have hlt : i < l.length := by
    unfold takeP setE at hi
    split at hi
    · rename_i c
      have := c.1
      unfold okE at this
      omega
    · cases hi
  unfold takeE takeI
  rw [find_first h hi hlt]
theorem take_none {fr : Int} {l : List Bool} {k : Int} {i : Nat} (h : ∀ j, j < i → takeP fr l k j = false) (hi : ¬ (1 ≤ k ∧ (i : Int) ≤ l.length - k)) : takeE fr l k = (0, 0, false, l) := by
  unfold takeE takeI
  rw [find_not (fun j hj => by
    by_cases c : j < i
    · exact h j c
    · unfold takeP setE
      rw [if_neg (fun hc => by have := hc.1; unfold okE at this; omega)])]
theorem take_false {fr : Int} {l : List Bool} {k : Int} {i : Nat} (h : takeP fr l k i = false) : (setE fr l (fr + i) k true) = (false, l) := by
  unfold takeP setE at h
  unfold setE
  split
  · rename_i c
    rw [if_pos c] at h
    cases h
  · rfl
theorem take_res {tmps : Array Value} {w : World} {g : Nat} {cs : Array Value} (h4 : tmps.getD 4 undef = .pointer (some ⟨g, 0, none⟩)) (hg : w.heap[g]? = some (.cells cs 39 (0, 0))) (hs : cs.size = 2) :
    (results Tryd.f25 tmps).run Tryd.prog w = .ok (.tuple #[.agg cs, tmps.getD 5 undef]) w :=
  results_list (rs := [.cell 4 39, .tmp 5]) (vs := [.agg cs, tmps.getD 5 undef]) (by kernel_rfl) (by simp) (Vals.cell g 39 cs (0, 0) _ h4 hg Tryd.underlying39 rfl (by rw [hs]; kernel_rfl) (Vals.tmp Vals.nil))
set_option maxHeartbeats 8000000 in
set_option maxRecDepth 100000 in
theorem Take (GA : Nat → Addr) (w0 : World) (g : Nat) (v : Value) (l : List Bool) (fr k : Int) (w : World) (hG : Glob GA w0) (hB : Below w0.heap.size w0 w) (h : Sp 62 w w0.heap.size g v fr l) (hfr : 0 ≤ fr) (hfr2 : fr ≤ 4611686018427387904) (hm : l.length ≤ 1000000) (hk0 : -9223372036854775808 ≤ k) (hk : k ≤ 9223372036854775807) :
    Calls Tryd.prog 25 #[.pointer (some ⟨g, 0, none⟩), .int .i64 k] w fun e w' => e = .returned (.tuple #[.agg #[.int .i64 (takeE fr l k).1, .int .i64 (takeE fr l k).2.1], .bool (takeE fr l k).2.2.1]) ∧ Sp 62 w' w0.heap.size g v fr (takeE fr l k).2.2.2 ∧ w.grownBy w' v.ownBlock := by
  have HG := Aside0.mk hG
  have HB := Aside0.mk hB
  have HS := Aside0.mk h
  clear hG h hB
  by_cases h1 : k < 1
  · have d1 : decide (k < 1) = true := decide_eq_true h1
    have e := take_none (fr := fr) (l := l) (k := k) (i := 0) (fun j hj => by omega) (by omega)
    rw [e]
    clear e
    go_enter Tryd.func25, Tryd.ntmps25
    go_wp2
    refine bodyPost_ret (v := .tuple #[.agg #[.int .i64 0, .int .i64 0], .bool false]) (by simp [results, Tryd.results25, go_sem]) rfl ⟨rfl, HS.out.below (below_alloc (Below.refl _ _) _), grown_of_below (below_alloc (Below.refl _ _) _) _⟩
  · have d1 : decide (k < 1) = false := decide_eq_false h1
    obtain ⟨A, c, rfl⟩ := Kd.R_slice HS.out.2.2
    have hlt := HS.out.lt
    have hb1 : (w.alloc (.cells #[.int .i64 0, .int .i64 0] 39)).heap[g]? = some (.cells #[.int .i64 fr, .slice A l.length c] 62 (0, 0)) := (Below.heap_alloc _ _ _ hlt).trans HS.out.2.1
    have hc0 : (w.alloc (.cells #[.int .i64 0, .int .i64 0] 39)).cell? ⟨g, 0, none⟩ = some (.int .i64 fr) := blk_cell hb1 0
    have HK1 := Aside0.mk (show 1 ≤ k by omega)
    clear hb1 hlt h1
    go_enter Tryd.func25, Tryd.ntmps25
    go_wp2
    have hgc := hc0
    clear hc0
    go_loopg [6] (l.length + 2) (fun kq v6 w2 => ∃ (i : Nat) (a : Int), v6 = .int .i64 a ∧ Aside0 (a = fr + (i : Int)) ∧ Aside0 (i ≤ l.length ∧ l.length + 1 < kq + i) ∧ Aside0 (∀ j, j < i → takeP fr l k j = false) ∧ Aside0 (Sp 62 w2 w0.heap.size g (.slice A l.length c) fr l) ∧ Aside0 (w.grownBy w2 (Value.slice A l.length c).ownBlock) ∧ Aside0 (w2.heap[w.heap.size]? = some (.cells #[.int .i64 0, .int .i64 0] 39 (0, 0))))
    case atStart => exact ⟨0, _, rfl, ⟨by omega⟩, ⟨Nat.zero_le _, by omega⟩, ⟨fun j hj => by omega⟩, ⟨HS.out.below (below_alloc (Below.refl _ _) _)⟩, ⟨grown_of_below (below_alloc (Below.refl _ _) _) _⟩, ⟨by show (w.heap.push _)[w.heap.size]? = _; simp⟩⟩
    case round =>
      obtain ⟨i, a, rfl, HA, HI, HP, HSp, HGr, HRes⟩ := hrel
      clear hgc
      have hc0 : wr.cell? ⟨g, 0, none⟩ = some (.int .i64 fr) := blk_cell HSp.out.2.1 0
      have hc1 : wr.cell? ⟨g, 1, none⟩ = some (.slice A l.length c) := blk_cell HSp.out.2.1 1
      have hi1 := HI.out.1
      have hw1 : IntKind.i64.wrap (a - fr) = (i : Int) := by have := HA.out; rw [IntKind.wrap_i64]; omega
      by_cases h2 : (i : Int) ≤ (l.length : Int) - k
      · have hk1 := HK1.out
        have hw2 : IntKind.i64.wrap ((l.length : Int) - k) = (l.length : Int) - k := by rw [IntKind.wrap_i64]; omega
        have d2 : decide ((i : Int) ≤ (l.length : Int) - k) = true := decide_eq_true h2
        have hw3 : IntKind.i64.wrap (a + 1) = a + 1 := by have := HA.out; rw [IntKind.wrap_i64]; omega
        have HSe := Aside0.mk (fun W hW hG => sets GA w0.heap.size g (.slice A l.length c) l fr a k true W hG hW hfr hm (by have := HA.out; omega) (by have := HA.out; omega) hk0 hk)
        have HG2 := Aside0.mk (show Glob GA wr from Glob.below HG.out (below_of_grown HB.out HB.out.size HGr.out (fun q hq => HS.out.own_ge q hq)))
        clear hk1 hi1
        go_wp2
        go_quiet (fail)
        have n0 := Aside0.mk (HSp.out.below (pw_below_drewN (Below.refl _ _) nq))
        have n1 := Aside0.mk (grown_drewN HGr.out nq)
        have n2 := Aside0.mk (blk_drewN HRes.out nq)
        have n3 := Aside0.mk (Glob.below HG2.out (pw_below_drewN (Below.refl _ _) nq))
        clear HSp HGr HRes HG2 hc0 hc1
        have HSp := n0
        have HGr := n1
        have HRes := n2
        have HG2 := n3
        clear n0 n1 n2 n3
        generalize wr.drewN nq = wq at HSp HGr HRes HG2 ⊢
        by_cases hf : takeP fr l k i = true
        · have HFq := Aside0.mk hf
          clear hf
          obtain ⟨r, hr⟩ : ∃ r, setE fr l a k true = r := ⟨_, rfl⟩
          have hr1 : r.1 = true := by rw [← hr, HA.out]; exact HFq.out
          have HRr := Aside0.mk hr
          rw [hr] at HSe
          rw [hr1] at HSe
          clear hr hr1
          go_wp2_with (go_at_call 34; (refine (HSe.out _ ?side1 ?side2).mono ?_); (case side1 => exact Sp.below HSp.out (by repeat (first | exact Below.refl _ _ | apply pw_below_drewN | apply below_alloc))); (case side2 => exact Glob.below HG2.out (by repeat (first | exact Below.refl _ _ | apply pw_below_drewN | apply below_alloc))); rintro e w3 ⟨rfl, hs, hg⟩; have HS3 := Aside0.mk hs; have HG3 := Aside0.mk (grown_trans (grown_trans HGr.out (World.grownBy_alloc _ _ _)) hg); have hn7 := HSp.out.own_lt; have hn4 := HS.out.own_lt; have hb7 := blk_grown (g := wq.heap.size) (heap_alloc_new wq (.cells #[.int .i64 a, .int .i64 k] 39)) hg (fun e => Nat.lt_irrefl _ (hn7 _ e.symm)); have hb4 := blk_grown (g := w.heap.size) ((Below.heap_alloc wq (.cells #[.int .i64 a, .int .i64 k] 39) _ (blk_lt HRes.out)).trans HRes.out) hg (fun e => Nat.lt_irrefl _ (hn4 _ e.symm)); have e0 := blk_cell hb7 0; have e1 := blk_cell hb7 1; have f0 := blk_frozen hb4 0; have f1 := blk_frozen hb4 1; have g0 := blk_cell hb4 0; have g1 := blk_cell hb4 1; have HB4 := Aside0.mk hb4; clear hs hg hn7 hn4 hb7 hb4)
          have hws : wq.heap.size ≥ w.heap.size := HGr.out.size
          have hne : some w.heap.size ≠ (Value.slice A l.length c).ownBlock := fun e => Nat.lt_irrefl _ (HS.out.own_lt _ e.symm)
          have hng : w.heap.size ≠ g := fun e => by have := HS.out.lt; omega
          refine bodyPost_ret (take_res (cs := #[.int .i64 a, .int .i64 k]) rfl (by refine blk_put (cs := #[.int .i64 a, .int .i64 0]) ?_ 1 _ rfl; refine blk_put (cs := #[.int .i64 0, .int .i64 0]) ?_ 0 _ rfl; exact HB4.out) rfl) rfl ?_
          have e := take_some (fr := fr) HP.out HFq.out
          rw [e, ← HA.out, HRr.out]
          exact ⟨rfl, (HS3.out.set hne hng _).set hne hng _, grown_set_new (grown_set_new HG3.out (Nat.le_refl _) _) (Nat.le_refl _) _⟩
        · have HFq := Aside0.mk (Bool.eq_false_iff.mpr hf)
          clear hf
          have hr : setE fr l a k true = (false, l) := by rw [HA.out]; exact take_false HFq.out
          rw [hr] at HSe
          clear hr
          go_wp2_with (go_at_call 34; (refine (HSe.out _ ?side1 ?side2).mono ?_); (case side1 => exact Sp.below HSp.out (by repeat (first | exact Below.refl _ _ | apply pw_below_drewN | apply below_alloc))); (case side2 => exact Glob.below HG2.out (by repeat (first | exact Below.refl _ _ | apply pw_below_drewN | apply below_alloc))); rintro e w3 ⟨rfl, hs, hg⟩; have HS3 := Aside0.mk hs; have HG3 := Aside0.mk (grown_trans (grown_trans HGr.out (World.grownBy_alloc _ _ _)) hg); have hn4 := HS.out.own_lt; have hb4 := blk_grown (g := w.heap.size) ((Below.heap_alloc wq (.cells #[.int .i64 a, .int .i64 k] 39) _ (blk_lt HRes.out)).trans HRes.out) hg (fun e => Nat.lt_irrefl _ (hn4 _ e.symm)); have HB4 := Aside0.mk hb4; clear hs hg hn4 hb4)
          go_roundg (gk - 1)
          case measure => have := HI.out; omega
          case rel =>
            have hk1 := HK1.out
            exact ⟨i + 1, _, rfl, ⟨by have := HA.out; omega⟩, ⟨by omega, by have := HI.out; omega⟩, ⟨fun j hj => by
              by_cases c : j < i
              · exact HP.out j c
              · obtain rfl : j = i := by omega
                exact HFq.out⟩, HS3, HG3, HB4⟩
      · have hk1 := HK1.out
        have hw2 : IntKind.i64.wrap ((l.length : Int) - k) = (l.length : Int) - k := by rw [IntKind.wrap_i64]; omega
        have d2 : decide ((i : Int) ≤ (l.length : Int) - k) = false := decide_eq_false h2
        have HN2 := Aside0.mk h2
        clear hk1 hi1 h2
        go_wp2
        go_quiet (fail)
        have n0 := Aside0.mk (HSp.out.below (pw_below_drewN (Below.refl _ _) nq))
        have n1 := Aside0.mk (grown_drewN HGr.out nq)
        have n2 := Aside0.mk (blk_drewN HRes.out nq)
        clear HSp HGr HRes hc0 hc1
        have HSp := n0
        have HGr := n1
        have HRes := n2
        clear n0 n1 n2
        generalize wr.drewN nq = wq at HSp HGr HRes ⊢
        have f0 := blk_frozen HRes.out 0
        have f1 := blk_frozen HRes.out 1
        have g0 := blk_cell HRes.out 0
        have g1 := blk_cell HRes.out 1
        go_wp2
        have hne : some w.heap.size ≠ (Value.slice A l.length c).ownBlock := fun e => Nat.lt_irrefl _ (HS.out.own_lt _ e.symm)
        have hng : w.heap.size ≠ g := fun e => by have := HS.out.lt; omega
        refine bodyPost_ret (take_res (cs := #[.int .i64 0, .int .i64 0]) rfl (by refine blk_put (cs := #[.int .i64 0, .int .i64 0]) ?_ 1 _ rfl; refine blk_put (cs := #[.int .i64 0, .int .i64 0]) ?_ 0 _ rfl; exact HRes.out) rfl) rfl ?_
        have e := take_none (fr := fr) HP.out (fun h => by have := HN2.out; omega)
        rw [e]
        exact ⟨rfl, (HSp.out.set hne hng _).set hne hng _, grown_set_new (grown_set_new HGr.out (Nat.le_refl _) _) (Nat.le_refl _) _⟩
/-- How many are set. -/
def usedE (l : List Bool) : Nat := l.count true
theorem used_step (l : List Bool) (i : Nat) (h : i < l.length) : usedE (l.take (i + 1)) = usedE (l.take i) + if rdOf false l (i : Int) then 1 else 0 := by
  have hg : rdOf false l (i : Int) = l[i] := by simp [rdOf, List.getD_eq_getElem?_getD, List.getElem?_eq_getElem h]
  unfold usedE
  rw [List.take_succ_eq_append_getElem h, List.count_append, hg]
  cases l[i] <;> simp
theorem used_le (l : List Bool) : usedE l ≤ l.length := List.count_le_length
set_option maxHeartbeats 8000000 in
set_option maxRecDepth 100000 in
theorem Used (B g : Nat) (v : Value) (l : List Bool) (fr : Int) (w : World) (h : Sp 62 w B g v fr l) (hm : l.length ≤ 1000000) :
    Calls Tryd.prog 27 #[.pointer (some ⟨g, 0, none⟩)] w fun e w' => e = .returned (.int .i64 (usedE l : Int)) ∧ Below w.heap.size w w' := by
  obtain ⟨hB, hb, hR⟩ := h
  obtain ⟨A, c, rfl⟩ := Kd.R_slice hR
  have HR := Aside0.mk hR
  have HBk := Aside0.mk hb
  have hc1 : w.cell? ⟨g, 1, none⟩ = some (.slice A l.length c) := blk_cell hb 1
  clear hb hR hB
  go_enter Tryd.func27, Tryd.ntmps27
  go_wp2
  go_loopg [2, 12] (l.length + 1) (fun kq v2 v12 w2 => ∃ i : Nat, v2 = .int .i64 (usedE (l.take i) : Int) ∧ v12 = .int .i64 (i : Int) ∧ Aside0 (i ≤ l.length ∧ l.length < kq + i) ∧ Aside0 (Below w.heap.size w w2))
  case atStart => exact ⟨0, rfl, rfl, ⟨Nat.zero_le _, by omega⟩, ⟨Below.refl _ _⟩⟩
  case round =>
    obtain ⟨i, rfl, rfl, HI, HW⟩ := hrel
    by_cases hlt : i < l.length
    · have hd : decide ((i : Int) < (l.length : Int)) = true := decide_eq_true (by omega)
      have hd1 : decide (i < l.length) = true := decide_eq_true hlt
      have hlt2 : (i : Int) < (l.length : Int) := by omega
      obtain ⟨ad, e0, hx⟩ := Kd.at_bool (Kd.R_reads' HR.out).2.2 (i : Int) (by omega) (by omega)
      cases e0
      replace hx := (HW.out.cell (World.block_lt_of_cell? w _ hx)).trans hx
      rw [Int.toNat_natCast] at hx
      have hus := used_step l i hlt
      have hul := used_le (l.take i)
      have hll : (l.take i).length ≤ i := List.length_take_le _ _
      have hw1 : IntKind.i64.wrap ((i : Int) + 1) = ((i + 1 : Nat) : Int) := by rw [IntKind.wrap_i64]; omega
      have hw2 : IntKind.i64.wrap (((usedE (l.take i) : Nat) : Int) + 1) = ((usedE (l.take i) + 1 : Nat) : Int) := by rw [IntKind.wrap_i64]; omega
      have HU := Aside0.mk hus
      clear hus hul hll
      by_cases hb : rdOf false l (i : Int) = true
      · rw [hb] at hx
        have HUb := Aside0.mk hb
        clear hb
        go_wp2
        go_roundg (gk - 1)
        case measure => have := HI.out; omega
        case rel => exact ⟨i + 1, by rw [HU.out, HUb.out]; first | rfl | go_num, by first | rfl | go_num, ⟨by omega, by have := HI.out; omega⟩, HW⟩
      · replace hb := Bool.eq_false_iff.mpr hb
        rw [hb] at hx
        have HUb := Aside0.mk hb
        clear hb
        go_wp2
        go_roundg (gk - 1)
        case measure => have := HI.out; omega
        case rel => exact ⟨i + 1, by rw [HU.out, HUb.out]; first | rfl | go_num, by first | rfl | go_num, ⟨by omega, by have := HI.out; omega⟩, HW⟩
    · have hd : decide ((i : Int) < (l.length : Int)) = false := decide_eq_false (by omega)
      have hd1 : decide (i < l.length) = false := decide_eq_false hlt
      have hlt2 : ¬ (i : Int) < (l.length : Int) := by omega
      obtain rfl : i = l.length := by have := HI.out; omega
      rw [List.take_length]
      go_wp2
      go_ret
      exact ⟨rfl, HW.out⟩
def clampE (n : Int) : Nat := (if n < 0 then 0 else if 4000 < n then 4000 else n).toNat
def fromE (n : Int) : Int := if n < 0 then 0 else n
theorem made_bools (n : Nat) : madeCells #[Value.bool false] n = (bools (List.replicate n false)).toArray := by
  apply Array.ext'
  apply List.ext_getElem
  · simp [bools, madeCells]
  · intro i h1 h2
    simp [bools, madeCells, Nat.mod_one]
set_option maxHeartbeats 8000000 in
set_option maxRecDepth 100000 in
theorem New (n fr : Int) (w : World) :
    Calls Tryd.prog 18 #[.int .i64 fr, .int .i64 n] w fun e w' => ∃ g v, e = .returned (.pointer (some ⟨g, 0, none⟩)) ∧ Sp 62 w' w.heap.size g v (fromE fr) (List.replicate (clampE n) false) ∧ Below w.heap.size w w' := by
  obtain ⟨F, hF⟩ : ∃ F, fromE fr = F := ⟨_, rfl⟩
  obtain ⟨N, hN⟩ : ∃ N, clampE n = N := ⟨_, rfl⟩
  obtain ⟨n1, hn1⟩ : ∃ n1 : Int, (if n < 0 then 0 else n) = n1 := ⟨_, rfl⟩
  have hf : (if fr < 0 then 0 else fr) = F := hF
  have hn2 : (if 4000 < n1 then 4000 else n1) = (N : Int) := by
    rw [← hN, ← hn1]
    unfold clampE
    split
    · rw [if_neg (by omega)]; rfl
    · split <;> omega
  have hNl : N ≤ 4000 := by
    rw [← hN]
    unfold clampE
    split
    · decide
    · split <;> omega
  rw [hF, hN]
  clear hF hN
  obtain ⟨i0, hi0, hz⟩ := Option.map_eq_some_iff.1 info4
  simp only [Prod.mk.injEq] at hz
  have mk : ∀ W : World, (Instr.makeSlice 48 (.int .i64 (N : Int)) (.int .i64 (N : Int))).run Tryd.prog W = .ok (.slice (some ⟨W.heap.size, 0, none⟩) N N) (W.alloc (.cells (bools (List.replicate N false)).toArray 4)) := fun W => by
    have := run_make (P := Tryd.prog) W 48 4 i0 _ Tryd.underlying48 hi0 hz.1 .i64 .i64 (N : Int) (N : Int) (by omega) (by omega) (by rw [hz.2.2]; omega) (by omega)
    rw [hz.2.1, Int.toNat_natCast, Nat.mul_one] at this
    rw [this]
    exact congrArg (fun cs => Result.ok (Value.slice (some ⟨W.heap.size, 0, none⟩) N N) (W.alloc (.cells cs 4))) (made_bools N)
  have HN := Aside0.mk hNl
  clear hz hi0 hNl
  go_enter Tryd.func18, Tryd.ntmps18
  go_wp2
  go_ret
  refine ⟨w.heap.size + 1, .slice (some ⟨w.heap.size, 0, none⟩) N N, rfl, ⟨by omega, ?_, ?_⟩, below_alloc (below_alloc (Below.refl _ _) _) _⟩
  · show ((w.heap.push _).push _)[_]? = _
    rw [Array.getElem?_push, if_pos (by simp)]
  · have hown : (w.alloc (.cells (bools (List.replicate N false)).toArray 4)).ownsRow w.heap.size 4 1 (.slice (some ⟨w.heap.size, 0, none⟩) N N) N (bools (List.replicate N false)) := by
      have := World.ownsRow_lit (base := w.heap.size) (e := 4) (size := 1) w (bools (List.replicate N false)).toArray N (Nat.le_refl _) (by have := HN.out; unfold maxLen; omega) (by simp [bools])
      simpa using this
    have hR := Kd.R_of_own (e := 4) (enc := Value.bool) (h1 := fun _ => rfl) (xs := List.replicate N false) (ok := fun _ => True) (by rw [List.length_replicate]; exact hown) (fun _ _ => trivial)
    exact Kd.R_alloc hR _
set_option maxHeartbeats 8000000 in
set_option maxRecDepth 100000 in
theorem RefNew (n fr : Int) (w : World) :
    Calls Tryd.prog 19 #[.int .i64 fr, .int .i64 n] w fun e w' => ∃ g v, e = .returned (.pointer (some ⟨g, 0, none⟩)) ∧ Sp 64 w' w.heap.size g v (fromE fr) (List.replicate (clampE n) false) ∧ Below w.heap.size w w' := by
  obtain ⟨F, hF⟩ : ∃ F, fromE fr = F := ⟨_, rfl⟩
  obtain ⟨N, hN⟩ : ∃ N, clampE n = N := ⟨_, rfl⟩
  obtain ⟨n1, hn1⟩ : ∃ n1 : Int, (if n < 0 then 0 else n) = n1 := ⟨_, rfl⟩
  have hf : (if fr < 0 then 0 else fr) = F := hF
  have hn2 : (if 4000 < n1 then 4000 else n1) = (N : Int) := by
    rw [← hN, ← hn1]
    unfold clampE
    split
    · rw [if_neg (by omega)]; rfl
    · split <;> omega
  have hNl : N ≤ 4000 := by
    rw [← hN]
    unfold clampE
    split
    · decide
    · split <;> omega
  rw [hF, hN]
  clear hF hN
  obtain ⟨i0, hi0, hz⟩ := Option.map_eq_some_iff.1 info4
  simp only [Prod.mk.injEq] at hz
  have mk : ∀ W : World, (Instr.makeSlice 48 (.int .i64 (N : Int)) (.int .i64 (N : Int))).run Tryd.prog W = .ok (.slice (some ⟨W.heap.size, 0, none⟩) N N) (W.alloc (.cells (bools (List.replicate N false)).toArray 4)) := fun W => by
    have := run_make (P := Tryd.prog) W 48 4 i0 _ Tryd.underlying48 hi0 hz.1 .i64 .i64 (N : Int) (N : Int) (by omega) (by omega) (by rw [hz.2.2]; omega) (by omega)
    rw [hz.2.1, Int.toNat_natCast, Nat.mul_one] at this
    rw [this]
    exact congrArg (fun cs => Result.ok (Value.slice (some ⟨W.heap.size, 0, none⟩) N N) (W.alloc (.cells cs 4))) (made_bools N)
  have HN := Aside0.mk hNl
  clear hz hi0 hNl
  go_enter Tryd.func19, Tryd.ntmps19
  go_wp2
  go_ret
  refine ⟨w.heap.size + 1, .slice (some ⟨w.heap.size, 0, none⟩) N N, rfl, ⟨by omega, ?_, ?_⟩, below_alloc (below_alloc (Below.refl _ _) _) _⟩
  · show ((w.heap.push _).push _)[_]? = _
    rw [Array.getElem?_push, if_pos (by simp)]
  · have hown : (w.alloc (.cells (bools (List.replicate N false)).toArray 4)).ownsRow w.heap.size 4 1 (.slice (some ⟨w.heap.size, 0, none⟩) N N) N (bools (List.replicate N false)) := by
      have := World.ownsRow_lit (base := w.heap.size) (e := 4) (size := 1) w (bools (List.replicate N false)).toArray N (Nat.le_refl _) (by have := HN.out; unfold maxLen; omega) (by simp [bools])
      simpa using this
    have hR := Kd.R_of_own (e := 4) (enc := Value.bool) (h1 := fun _ => rfl) (xs := List.replicate N false) (ok := fun _ => True) (by rw [List.length_replicate]; exact hown) (fun _ _ => trivial)
    exact Kd.R_alloc hR _
theorem nil_eqi (P : Program) (w : World) (d : Nat) (t e : TypeId) (a : Option Addr) (l c : Nat) (h : P.underlying t = some (.slice e)) : (Op.equalIn (d + 1) t (.slice a l c) (.slice none 0 0)).run P w = .ok a.isNone w := by
  cases a <;> simp [Op.equalIn, run_underlying h]
theorem nil_eqn (P : Program) (w : World) (t e : TypeId) (a : Option Addr) (l c : Nat) (h : P.underlying t = some (.slice e)) : (binOp .eql t (.slice a l c) (.slice none 0 0)).run P w = .ok (.bool a.isNone) w := by
  have h2 : (Op.equal t (.slice a l c) (.slice none 0 0)).run P w = .ok a.isNone w := nil_eqi P w 9999 t e a l c h
  simp [binOp, h2]
set_option maxHeartbeats 4000000 in
set_option maxRecDepth 100000 in
theorem Clone (A0 : Option Addr) (c0 : Nat) (l0 : List Bool) (w : World) (hr0 : Kd.C Kd.bool w A0 l0.length l0) (hc0 : l0.length ≤ c0) (hn : l0.length ≤ 1000000) :
    Calls Tryd.prog 36 #[.slice A0 l0.length c0] w fun e w' => ∃ v0_ : Value, e = .returned v0_ ∧ Kd.R Kd.bool 4 w' w.heap.size (fun _ => True) v0_ l0 ∧ Below w.heap.size w w' := by
  rcases A0 with _ | ad
  · have h0 : l0 = [] := by
      rcases Nat.eq_zero_or_pos l0.length with h0 | h0
      · exact List.eq_nil_of_length_eq_zero h0
      · obtain ⟨ad, h, _⟩ := hr0.2.2 h0
        cases h
    subst h0
    clear hr0 hn
    have heq := fun w => nil_eqn Tryd.prog w 48 4 none 0 c0 Tryd.underlying48
    go_enter Tryd.func36, Tryd.ntmps36
    go_wp2
    go_ret
    exact ⟨_, rfl, Kd.R_nil _ _ _ _ _, Below.refl _ _⟩
  · have HR0 := Aside0.mk hr0
    clear hr0
    have HB := Aside0.mk (Below.refl w.heap.size w)
    have HN := Aside0.mk hn
    clear hn
    have heq := fun w => nil_eqn Tryd.prog w 48 4 (some ad) l0.length c0 Tryd.underlying48
    go_enter Tryd.func36, Tryd.ntmps36
    go_wp2_with (first
      | ((with_reducible refine gate_dst (N := 5) rfl ?_); refine Kd.R_lit Kd.bool _ 4 ?hg (N := 5) ?hd (xs := ([] : List Bool)) (inner := []) (ok := fun _ => True) (okp := fun _ => True) ?hr ?hp (fun _ hk => hk) trivial (Below.refl _ _) (Nat.le_refl _) (by simp) ?_; (case hd => rfl); (case hg => rfl); (case hr => first | (go_simp; done) | (go_simp; rfl)); (case hp => exact (Reps.none _ _)); intro v1 w1 ho hb hg_ hnew_; clear hg_ hnew_; have HO := Aside0.mk ho; have HB1 := Aside0.mk hb; clear ho hb)
      | ((with_reducible refine gate_builtin (b := .append) (xs := #[.tmp 5, .tmp 6]) rfl ?_); at_builtin; refine Kd.R_append_rows Kd.bool (w0 := w) w.heap.size rfl (.tmp 5) (.tmp 6) 48 4 (.bool false) 1 rfl Tryd.underlying48 info4 rfl (by decide) (by omega) v1 ([] : List Bool) l0 _ _ _ (fun _ => True) (fun _ => some 0 ≠ v1.ownBlock ∧ False) rfl rfl ?aO ?aR (fun _ _ h => h) (fun _ h => h.2.elim) ?aF ?aB ?aS ?aL ?_; (case aR => exact Kd.C_below HR0.out HB1.out); (case aB => exact HB1.out); (case aF => exact fun _ _ => trivial); (case aO => exact HO.out); (case aS => exact HB1.out.size); (case aL => have := HN.out; simp only [List.length_nil]; omega); intro v2 w2 ho hb hg hat; have HO2 := Aside0.mk ho; have HB2 := Aside0.mk hb; clear ho hb hg hat))
    go_ret
    exact ⟨_, rfl, HO2.out, HB2.out⟩
def copy3.T : Bool × List (List Nat × List Nat) := (true, [([], []), ([0], [0]), ([1], [1]), ([2], [2]), ([], []), ([4], [4]), ([5], [5]), ([6], [6]), ([7], [7]), ([3, 8], [3, 8]), ([9], [9]), ([10, 8, 0, 1, 2, 3, 4, 5, 6, 7, 8, 9, 10], [10])])
def copy3.B : List Nat := [0, 1, 3, 7, 0, 16, 48, 112, 240, 511, 1023, 2047]
theorem copy3.tab : rtab .any (opsOf Tryd.f24 3) = copy3.T := by kernel_rfl
theorem copy3.bits : waitsOk copy3.T.2 copy3.B = true := by kernel_rfl
set_option maxHeartbeats 8000000 in
set_option maxRecDepth 100000 in
theorem Copy (B g : Nat) (v : Value) (l : List Bool) (fr : Int) (w : World) (h : Sp 62 w B g v fr l) (hm : l.length ≤ 1000000) :
    Calls Tryd.prog 24 #[.pointer (some ⟨g, 0, none⟩)] w fun e w' => ∃ g' v', e = .returned (.pointer (some ⟨g', 0, none⟩)) ∧ Sp 62 w' w.heap.size g' v' fr l ∧ Below w.heap.size w w' := by
  obtain ⟨hB, hb, hR⟩ := h
  obtain ⟨A, c, rfl⟩ := Kd.R_slice hR
  have HR := Aside0.mk (Kd.R_reads' hR).2
  have HBk := Aside0.mk hb
  clear hb hR hB
  go_enter Tryd.func24, Tryd.ntmps24
  go_upto_region 3 with (fail)
  refine start_ (n := 12) (S := fun w' => w'.cell? ⟨g, 0, none⟩ = some (.int .i64 fr) ∧ w'.cell? ⟨g, 1, none⟩ = some (.slice A l.length c)) (ds := []) #[false, false, false, false, false, false, false, false, false, false, false, false] (by kernel_rfl) rfl rfl ⟨blk_cell HBk.out 0, blk_cell HBk.out 1⟩ (fun hHeld => ?_)
  refine with_tabW copy3.tab copy3.bits (fun HT_ HW_ => ?_)
  have hb0 := Aside0.mk (below_drew1 (Below.refl w.heap.size w))
  generalize w.drew = w1 at hb0 hHeld ⊢
  refine pure_ (i := 0) (N := (some 5)) (v := ?_) (a' := ?_) #[true, false, false, false, false, false, false, false, false, false, false, false] rfl rfl (any_of HT_.out (by kernel_rfl)) (fun _ _ _ h => h) (Or.inl ⟨by rfl, ?_⟩) ?_ ?_
  rotate_left
  · intro w'
    go_simp
    with_reducible rfl
  rotate_left
  · simp only [Act.put, List.setIfInBounds_toArray, List.set_cons_zero, List.set_cons_succ, i64_w, i32_w]
    rfl
  refine pure_ (i := 1) (N := (some 6)) (v := ?_) (a' := ?_) #[true, true, false, false, false, false, false, false, false, false, false, false] rfl rfl (any_of HT_.out (by kernel_rfl)) (fun _ _ _ h => h) (Or.inl ⟨by rfl, ?_⟩) ?_ ?_
  rotate_left
  · intro w'
    go_simp
    with_reducible rfl
  rotate_left
  · simp only [Act.put, List.setIfInBounds_toArray, List.set_cons_zero, List.set_cons_succ, i64_w, i32_w]
    rfl
  refine pure_ (i := 2) (N := (some 7)) (v := ?_) (a' := ?_) #[true, true, true, false, false, false, false, false, false, false, false, false] rfl rfl (any_of HT_.out (by kernel_rfl)) (fun _ _ _ h => h) (Or.inl ⟨by rfl, ?_⟩) ?_ ?_
  rotate_left
  · intro w'
    go_simp
    with_reducible rfl
  rotate_left
  · simp only [Act.put, List.setIfInBounds_toArray, List.set_cons_zero, List.set_cons_succ, i64_w, i32_w]
    rfl
  refine pure_ (i := 4) (N := (some 9)) (v := ?_) (a' := ?_) #[true, true, true, false, true, false, false, false, false, false, false, false] rfl rfl (any_of HT_.out (by kernel_rfl)) (fun _ _ _ h => h) (Or.inl ⟨by rfl, ?_⟩) ?_ ?_
  rotate_left
  · intro w'
    go_simp
    with_reducible rfl
  rotate_left
  · simp only [Act.put, List.setIfInBounds_toArray, List.set_cons_zero, List.set_cons_succ, i64_w, i32_w]
    rfl
  refine pure_ (i := 5) (N := (some 10)) (v := ?_) (a' := ?_) #[true, true, true, false, true, true, false, false, false, false, false, false] rfl rfl (any_of HT_.out (by kernel_rfl)) (fun _ _ _ h => h) (Or.inl ⟨by rfl, ?_⟩) ?_ ?_
  rotate_left
  · intro w'
    go_simp
    with_reducible rfl
  rotate_left
  · simp only [Act.put, List.setIfInBounds_toArray, List.set_cons_zero, List.set_cons_succ, i64_w, i32_w]
    rfl
  refine pure_ (i := 6) (N := (some 11)) (v := ?_) (a' := ?_) #[true, true, true, false, true, true, true, false, false, false, false, false] rfl rfl (any_of HT_.out (by kernel_rfl)) (fun _ _ _ h => h) (Or.inl ⟨by rfl, ?_⟩) ?_ ?_
  rotate_left
  · intro w'
    go_simp
    with_reducible rfl
  rotate_left
  · simp only [Act.put, List.setIfInBounds_toArray, List.set_cons_zero, List.set_cons_succ, i64_w, i32_w]
    rfl
  refine take_ (i := 3) (N := (some 8)) (v := ?_) (a' := ?_) #[true, true, true, true, true, true, true, false, false, false, false, false] rfl rfl (take_ofW HT_.out HW_.out (by kernel_rfl)) (fun _ _ _ h => h) (Or.inl ⟨by rfl, ?_⟩) (by exact hHeld) ?_ ?_
  rotate_left
  · intro w' hw'
    go_simp
    with_reducible rfl
  rotate_left
  · simp only [Act.put, List.setIfInBounds_toArray, List.set_cons_zero, List.set_cons_succ, i64_w, i32_w]
    rfl
  refine take_ (i := 7) (N := (some 12)) (v := ?_) (a' := ?_) #[true, true, true, true, true, true, true, true, false, false, false, false] rfl rfl (take_ofW HT_.out HW_.out (by kernel_rfl)) (fun _ _ _ h => h) (Or.inl ⟨by rfl, ?_⟩) (by exact hHeld) ?_ ?_
  rotate_left
  · intro w' hw'
    go_simp
    with_reducible rfl
  rotate_left
  · simp only [Act.put, List.setIfInBounds_toArray, List.set_cons_zero, List.set_cons_succ, i64_w, i32_w]
    rfl
  refine one_ (i := 8) (N := (some 13)) #[true, true, true, true, true, true, true, true, true, false, false, false] rfl rfl (one_of HT_.out (by kernel_rfl)) (by decide) (fun Kq hKq => ?_)
  refine call_ (f := 36) (args := #[.slice A l.length c]) (by rfl) rfl (by go_simp) ?_
  refine (Clone A c l _ (Kd.C_below HR.out.2 hb0.out) HR.out.1 hm).mono ?_
  rintro e w2 ⟨v2, rfl, ho, hb⟩
  obtain ⟨A2, c2, rfl⟩ := Kd.R_slice ho
  refine ⟨_, rfl, ?_⟩
  have HO := Aside0.mk ho
  have HB := Aside0.mk hb
  clear ho hb
  refine hKq.out _ _ ⟨(HB.out.cell (World.block_lt_of_cell? _ _ hHeld.1)).trans hHeld.1, (HB.out.cell (World.block_lt_of_cell? _ _ hHeld.2)).trans hHeld.2⟩ (fun hHeld => ?_)
  clear hKq Kq
  refine norm_ (a' := ?_) ?_ ?_
  rotate_left
  · show Act.put _ (some 13) _ = _
    simp only [Act.put, List.setIfInBounds_toArray, List.set_cons_zero, List.set_cons_succ, i64_w, i32_w]
    rfl
  refine pure_ (i := 9) (N := (some 14)) (v := ?_) (a' := ?_) #[true, true, true, true, true, true, true, true, true, true, false, false] rfl rfl (any_of HT_.out (by kernel_rfl)) (fun _ _ _ h => h) (Or.inl ⟨by rfl, ?_⟩) ?_ ?_
  rotate_left
  · intro w'
    go_simp
    with_reducible rfl
  rotate_left
  · simp only [Act.put, List.setIfInBounds_toArray, List.set_cons_zero, List.set_cons_succ, i64_w, i32_w]
    rfl
  refine one_ (i := 10) (N := (some 15)) #[true, true, true, true, true, true, true, true, true, true, true, false] rfl rfl (one_of HT_.out (by kernel_rfl)) (by decide) (fun Kq hKq => ?_)
  refine event_step (v := .pointer (some ⟨w2.heap.size, 0, none⟩)) (w1 := w2.alloc (.cells #[.int .i64 fr, .slice A2 l.length c2] 62)) (by rfl) (by first | (go_simp; done) | (go_simp; rfl)) ?_
  refine hKq.out _ _ ⟨(Below.cell (below_alloc (Below.refl _ _) _) (World.block_lt_of_cell? _ _ hHeld.1)).trans hHeld.1, (Below.cell (below_alloc (Below.refl _ _) _) (World.block_lt_of_cell? _ _ hHeld.2)).trans hHeld.2⟩ (fun hHeld => ?_)
  clear hKq Kq
  refine norm_ (a' := ?_) ?_ ?_
  rotate_left
  · show Act.put _ (some 15) _ = _
    simp only [Act.put, List.setIfInBounds_toArray, List.set_cons_zero, List.set_cons_succ, i64_w, i32_w]
    rfl
  refine pure_ (i := 11) (N := (some 2)) (v := ?_) (a' := ?_) #[true, true, true, true, true, true, true, true, true, true, true, true] rfl rfl (any_of HT_.out (by kernel_rfl)) (fun _ _ _ h => h) (Or.inl ⟨by rfl, ?_⟩) ?_ ?_
  rotate_left
  · intro w'
    go_simp
    with_reducible rfl
  rotate_left
  · simp only [Act.put, List.setIfInBounds_toArray, List.set_cons_zero, List.set_cons_succ, i64_w, i32_w]
    rfl
  refine done_ (done_of HT_.out (by kernel_rfl)) ?_
  go_wp2
  go_ret
  refine ⟨w2.heap.size, .slice A2 l.length c2, rfl, ⟨?_, heap_alloc_new _ _, ?_⟩, ?_⟩
  · exact Nat.le_trans hb0.out.size HB.out.size
  · exact Kd.R_alloc (Kd.R_lower HO.out hb0.out.size) _
  · exact below_alloc (below_step hb0.out HB.out) _
end Go.Proofs.YtaoegbebeogkbaaDoor.PSpace
