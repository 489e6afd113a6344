/- slices.Chunk over bytes, 110 at a time: what its iterator gives. Conditions: none. -/
import Derived.Test.YtokmildjniploaaDoorLogR
import Derived.Test.YtokmildjniploaaDoorLogI
namespace Go.Proofs.YtokmildjniploaaDoor.PLog
open Go.RowKit Go.Shelf Go.Proofs.YtokmildjniploaaDoorW.PrintWords Go.Proofs.YtokmildjniploaaDoorW.PrintLast Go.Proofs.YtokmildjniploaaDoorW.PrintMore
open Go.Extern.Stop Go.Stop Go.Extern
attribute [local go_sem] Oper.semAt_some max2_int min2_int max_two min_two
set_option linter.unusedVariables false
set_option linter.unusedSimpArgs false
def chN (len : Nat) : Nat := (len + 109) / 110
abbrev CI (len : Nat) := { i : Nat // i < chN len }
def chL (len i : Nat) : Nat := min 110 (len - i * 110)
def chV (b len i : Nat) : Value := .slice (some ⟨b, i * 110, none⟩) (chL len i) (chL len i)
theorem chL_pos {len i : Nat} (h : i < chN len) : 0 < chL len i ∧ i * 110 < len ∧ i * 110 + chL len i ≤ len ∧ chL len i ≤ 110 := by
  unfold chN at h
  unfold chL
  omega
/-- What a round that goes on keeps: the two boxes. -/
def Kp2 (Bs Bn : Nat) (A B : World) : Prop := B.heap[Bs]? = A.heap[Bs]? ∧ B.heap[Bn]? = A.heap[Bn]?
theorem Kp2.refl (Bs Bn : Nat) (A : World) : Kp2 Bs Bn A A := ⟨rfl, rfl⟩
theorem Kp2.trans {Bs Bn : Nat} {A B C : World} (h : Kp2 Bs Bn A B) (k : Kp2 Bs Bn B C) : Kp2 Bs Bn A C := ⟨k.1.trans h.1, k.2.trans h.2⟩
theorem cutFrom (b len cap i : Nat) (hi : i ≤ len) (hc : len ≤ cap) (hm : len ≤ 1000000) : ∃ A c, ∀ W : World, (Instr.slice 35 (.slice (some ⟨b, 0, none⟩) len cap) (some (.int .i64 (i : Int))) none none).run Tryd.prog W = .ok (.slice A (len - i) c) W := by
  obtain ⟨i0, hi0, hz⟩ := Option.map_eq_some_iff.1 bytes_Clone.info
  simp only [Prod.mk.injEq] at hz
  refine ⟨(if cap = i then some ⟨b, 0, none⟩ else (some ⟨b, 0, none⟩ : Option Addr).map (·.add (i * 1))), cap - i, fun W => ?_⟩
  have h := cut_from (P := Tryd.prog) 35 5 .i64 Tryd.underlying35 hi0 1 hz.2.1 (some ⟨b, 0, none⟩) len cap (i : Int) (by omega) (by omega) W
  rw [h, Int.toNat_natCast]
theorem cutMid (b len cap i k : Nat) (hk : 0 < k) (hi : i + k ≤ len) (hc : len ≤ cap) : ∀ W : World, (Instr.slice 35 (.slice (some ⟨b, 0, none⟩) len cap) (some (.int .i64 (i : Int))) (some (.int .i64 ((i : Int) + (k : Int)))) (some (.int .i64 ((i : Int) + (k : Int))))).run Tryd.prog W = .ok (.slice (some ⟨b, i, none⟩) k k) W := by
  intro W
  obtain ⟨i0, hi0, hz⟩ := Option.map_eq_some_iff.1 bytes_Clone.info
  simp only [Prod.mk.injEq] at hz
  have hel : Tryd.prog.elem 35 = 5 := by simp [Program.elem, Tryd.underlying35]
  have hu : Tryd.prog.underlying 35 = some (.slice (Tryd.prog.elem 35)) := by rw [hel]; exact Tryd.underlying35
  rw [run_slice_lhm W 35 (some ⟨b, 0, none⟩) len cap hu .i64 .i64 .i64 (i : Int) ((i : Int) + (k : Int)) ((i : Int) + (k : Int)) (by omega) (by omega) (by omega) (by omega), hel]
  have e1 : ((i : Int) + (k : Int)).toNat = i + k := by omega
  rw [e1, Int.toNat_natCast]
  simp [sizeOf, typeInfo, hi0, hz.2.1, sliced, Result.andThen, Addr.add]
  rw [if_neg (by omega)]
  by_cases h : i = 0
  · subst h; simp
  · rw [if_neg h]
def chunk3.T : Bool × List (List Nat × List Nat) := (true, [([], []), ([], []), ([], []), ([1, 2], [1, 2]), ([3], [3]), ([0, 4], [0, 4]), ([5, 0, 1, 2, 3, 4, 5], [5])])
def chunk3.B : List Nat := [0, 0, 0, 6, 14, 31, 63]
theorem chunk3.tab : rtab .any (opsOf Tryd.f48 3) = chunk3.T := by kernel_rfl
theorem chunk3.bits : waitsOk chunk3.T.2 chunk3.B = true := by kernel_rfl
set_option maxRecDepth 100000 in
set_option maxHeartbeats 8000000 in
theorem chunk1_in (n l Bs Bn b len cap : Nat) (hn1 : 1 ≤ n) (hlen : len ≤ 1000000) (hcap : len ≤ cap) (J Jx : List (CI len) → World → Prop) (hJd : ∀ pre W, J pre W → J pre W.drew)
    (hY : ∀ (pre : List (CI len)) (x : CI len) W, J pre W → pre.length < chN len → YieldAt Fence.wide (n - 1) Tryd.prog l #[chV b len x.1] W fun e W' =>
      (e = .returned (.bool true) ∧ J (pre ++ [x]) W' ∧ Kp2 Bs Bn W W') ∨ (e = .returned (.bool false) ∧ Jx (pre ++ [x]) W'))
    (W : World) (hs : W.cell? ⟨Bs, 0, none⟩ = some (.slice (some ⟨b, 0, none⟩) len cap)) (hn : W.cell? ⟨Bn, 0, none⟩ = some (.int .i64 110)) (h0 : J [] W) :
    CallsIn Fence.wide n Tryd.prog 48 #[.func (.yield l) #[] #[], .pointer (some ⟨Bs, 0, none⟩), .pointer (some ⟨Bn, 0, none⟩)] W fun e W' => (∃ v, e = .returned v) ∧
      ((∃ xs, xs.map (·.1) = List.range (chN len) ∧ J xs W') ∨ (∃ pre, True ∧ Jx pre W')) := by
  refine callsIn_of_wp Tryd.func48 rfl trivial ?_ rfl
  simp only [Tryd.ntmps48, List.size_toArray, List.length_cons, List.length_nil, Nat.reduceAdd, Nat.reduceSub, Array.replicate_succ, Array.replicate_zero, List.push_toArray, List.append_toArray, List.nil_append, List.cons_append]
  gi_wp2
  gi_loopw [4] (fun v wr => ∃ (k : Nat) (pre : List (CI len)), k ≤ chN len ∧ v = .int .i64 ((k * 110 : Nat) : Int) ∧ pre.map (·.1) = List.range k ∧ J pre wr ∧ Kp2 Bs Bn W wr)
    (fun v _ => chN len * 110 - (intOf v).toNat)
  case atStart => exact ⟨0, [], Nat.zero_le _, rfl, rfl, h0, Kp2.refl _ _ _⟩
  case round =>
    obtain ⟨k, pre, hk, rfl, hpre, hJs, hKp⟩ := hrel
    have hs1 : wr.cell? ⟨Bs, 0, none⟩ = some (.slice (some ⟨b, 0, none⟩) len cap) := by
      unfold World.cell? at hs ⊢
      rw [hKp.1]; exact hs
    have hn1' : wr.cell? ⟨Bn, 0, none⟩ = some (.int .i64 110) := by
      unfold World.cell? at hn ⊢
      rw [hKp.2]; exact hn
    obtain ⟨kk, hkk⟩ : ∃ kk, k * 110 = kk := ⟨_, rfl⟩
    by_cases hlt : k < chN len
    · have hc := chL_pos hlt
      obtain ⟨cl, hcl⟩ : ∃ cl, chL len k = cl := ⟨_, rfl⟩
      have hcl2 : min 110 (len - kk) = cl := by rw [← hcl, ← hkk]; rfl
      have hpl : pre.length = k := by rw [← List.length_map (f := fun x : CI len => x.1), hpre, List.length_range]
      obtain ⟨fn, tmps, assign, body, hy, hR⟩ := hY pre ⟨k, hlt⟩ wr.drew (hJd _ _ hJs) (by rw [hpl]; exact hlt)
      have HR := Aside0.mk hR
      clear hR
      rw [show chV b len (⟨k, hlt⟩ : CI len).1 = .slice (some ⟨b, kk, none⟩) cl cl from by unfold chV; rw [hkk, hcl]] at hy
      rw [hcl, hkk] at hc
      rw [hkk]
      have HX := Aside0.mk (And.intro hkk hpl)
      have e1 : decide ((kk : Int) < (len : Int)) = true := decide_eq_true (by omega)
      have e2 : decide (kk < len) = true := decide_eq_true hc.2.1
      have e3 : (kk : Int) < (len : Int) := by omega
      obtain ⟨A1, c1, hcf⟩ := cutFrom b len cap kk (by omega) hcap hlen
      have hcm := cutMid b len cap kk cl hc.1 hc.2.2.1 hcap
      have hmn : (if (((len - kk : Nat) : Nat) : Int) < 110 then (((len - kk : Nat) : Nat) : Int) else 110) = (cl : Int) := by split <;> omega
      have hw2 : IntKind.i64.wrap ((kk : Int) + (cl : Int)) = (kk : Int) + (cl : Int) := by rw [IntKind.wrap_i64]; omega
      have hw3 : IntKind.i64.wrap ((kk : Int) + 110) = ((kk + 110 : Nat) : Int) := by rw [IntKind.wrap_i64]; omega
      have HC := Aside0.mk hc
      clear hc hkk hcl hpl hcl2
      obtain ⟨lk, hlk⟩ : ∃ lk, len - kk = lk := ⟨_, rfl⟩
      rw [hlk] at hcf hmn
      clear hlk
      gi_wp2
      refine wpIn_wide.2 ?_
      refine start_ (n := 7) (S := fun w' => w'.cell? ⟨Bs, 0, none⟩ = some (.slice (some ⟨b, 0, none⟩) len cap) ∧ w'.cell? ⟨Bn, 0, none⟩ = some (.int .i64 110)) (ds := []) #[false, false, false, false, false, false, false] (by kernel_rfl) rfl rfl ⟨hs1, hn1'⟩ (fun hHeld => ?_)
      refine with_tabW chunk3.tab chunk3.bits (fun HT_ HW_ => ?_)
      refine pure_ (i := 2) (N := (some 15)) (v := ?_) (a' := ?_) #[false, false, true, false, false, false, false] rfl rfl (any_of HT_.out (by kernel_rfl)) (fun _ _ _ h => h) (Or.inl ⟨by rfl, ?_⟩) ?_ ?_
      rotate_left
      · intro w'
        go_simp
        with_reducible rfl
      rotate_left
      · simp only [Act.put, List.setIfInBounds_toArray, List.set_cons_zero, List.set_cons_succ, i64_w, i32_w]
        rfl
      refine take_ (i := 0) (N := (some 13)) (v := ?_) (a' := ?_) #[true, false, true, false, false, false, false] rfl rfl (take_ofW HT_.out HW_.out (by kernel_rfl)) (fun _ _ _ h => h) (Or.inl ⟨by rfl, ?_⟩) (by exact hHeld) ?_ ?_
      rotate_left
      · intro w' hw'
        go_simp
        with_reducible rfl
      rotate_left
      · simp only [Act.put, List.setIfInBounds_toArray, List.set_cons_zero, List.set_cons_succ, i64_w, i32_w]
        rfl
      refine take_ (i := 1) (N := (some 14)) (v := ?_) (a' := ?_) #[true, true, true, false, false, false, false] rfl rfl (take_ofW HT_.out HW_.out (by kernel_rfl)) (fun _ _ _ h => h) (Or.inl ⟨by rfl, ?_⟩) (by exact hHeld) ?_ ?_
      rotate_left
      · intro w' hw'
        go_simp
        with_reducible rfl
      rotate_left
      · simp only [Act.put, List.setIfInBounds_toArray, List.set_cons_zero, List.set_cons_succ, i64_w, i32_w]
        rfl
      refine pure_ (i := 3) (N := (some 16)) (v := ?_) (a' := ?_) #[true, true, true, true, false, false, false] rfl rfl (any_of HT_.out (by kernel_rfl)) (fun _ _ _ h => h) (Or.inl ⟨by rfl, ?_⟩) ?_ ?_
      rotate_left
      · intro w'
        go_simp
        with_reducible rfl
      rotate_left
      · simp only [Act.put, List.setIfInBounds_toArray, List.set_cons_zero, List.set_cons_succ, i64_w, i32_w]
        rfl
      refine pure_ (i := 4) (N := (some 17)) (v := ?_) (a' := ?_) #[true, true, true, true, true, false, false] rfl rfl (any_of HT_.out (by kernel_rfl)) (fun _ _ _ h => h) (Or.inl ⟨by rfl, ?_⟩) ?_ ?_
      rotate_left
      · intro w'
        go_simp
        with_reducible rfl
      rotate_left
      · simp only [Act.put, List.setIfInBounds_toArray, List.set_cons_zero, List.set_cons_succ, i64_w, i32_w]
        rfl
      refine pure_ (i := 5) (N := (some 18)) (v := ?_) (a' := ?_) #[true, true, true, true, true, true, false] rfl rfl (any_of HT_.out (by kernel_rfl)) (fun _ _ _ h => h) (Or.inl ⟨by rfl, ?_⟩) ?_ ?_
      rotate_left
      · intro w'
        go_simp
        with_reducible rfl
      rotate_left
      · simp only [Act.put, List.setIfInBounds_toArray, List.set_cons_zero, List.set_cons_succ, i64_w, i32_w]
        rfl
      refine pure_ (i := 6) (N := (some 5)) (v := ?_) (a' := ?_) #[true, true, true, true, true, true, true] rfl rfl (any_of HT_.out (by kernel_rfl)) (fun _ _ _ h => h) (Or.inl ⟨by rfl, ?_⟩) ?_ ?_
      rotate_left
      · intro w'
        go_simp
        with_reducible rfl
      rotate_left
      · simp only [Act.put, List.setIfInBounds_toArray, List.set_cons_zero, List.set_cons_succ, i64_w, i32_w]
        rfl
      refine done_ (done_of HT_.out (by kernel_rfl)) ?_
      have hs2 := hHeld.1
      have hn2 := hHeld.2
      gi_wp2
      refine HR.out.mono ?_
      rintro e W3 (⟨rfl, hJ3, hk3⟩ | ⟨rfl, hJx3⟩)
      · have hn3 : W3.cell? ⟨Bn, 0, none⟩ = some (.int .i64 110) := by
          unfold World.cell? at hn2 ⊢
          rw [hk3.2]; exact hn2
        gi_wp2
        go_roundw
        case rel => exact ⟨k + 1, pre ++ [⟨k, hlt⟩], by omega, by rw [show (k + 1) * 110 = kk + 110 by have := HX.out.1; omega]; first | rfl | (simp; done) | (simp; omega), by rw [List.map_append, hpre, List.range_succ]; rfl, hJ3, hKp.trans hk3⟩
        case measure => have := HX.out.1; simp [intOf]; omega
      · gi_wp2
        refine bodyPost_ret (results_none rfl _ _ _) rfl ?_
        exact ⟨⟨_, rfl⟩, .inr ⟨_, trivial, hJx3⟩⟩
    · obtain rfl : k = chN len := by omega
      have hge : len ≤ kk := by rw [← hkk]; unfold chN; omega
      rw [hkk]
      have e1 : decide ((kk : Int) < (len : Int)) = false := decide_eq_false (by omega)
      have e2 : decide (kk < len) = false := decide_eq_false (by omega)
      have e3 : ¬ (kk : Int) < (len : Int) := by omega
      gi_wp2
      go_end0
      exact ⟨⟨_, rfl⟩, .inl ⟨pre, hpre, hJs⟩⟩
theorem chunk_in (n : Nat) (A : Option Addr) (len cap : Nat) (w : World) :
    CallsIn Fence.wide n Tryd.prog 42 #[.slice A len cap, .int .i64 110] w fun e w' => e = .returned (.func (.func 48) #[] #[.pointer (some ⟨w.heap.size, 0, none⟩), .pointer (some ⟨w.heap.size + 1, 0, none⟩)]) ∧ w' = (w.alloc (.cells #[.slice A len cap] 35)).alloc (.cells #[.int .i64 110] 3) := by
  refine callsIn_of_wp Tryd.func42 rfl trivial ?_ rfl
  simp only [Tryd.ntmps42, List.size_toArray, List.length_cons, List.length_nil, Nat.reduceAdd, Nat.reduceSub, Array.replicate_succ, Array.replicate_zero, List.push_toArray, List.append_toArray, List.nil_append, List.cons_append]
  gi_wp2
  go_ret
  exact ⟨by simp, rfl⟩
theorem chunk_stops (n Bs Bn b len cap : Nat) (hn1 : 1 ≤ n) (hlen : len ≤ 1000000) (hcap : len ≤ cap) (w : World) (hs : w.cell? ⟨Bs, 0, none⟩ = some (.slice (some ⟨b, 0, none⟩) len cap)) (hn : w.cell? ⟨Bn, 0, none⟩ = some (.int .i64 110)) :
    SeqStopsK Fence.wide n Tryd.prog 48 #[.pointer (some ⟨Bs, 0, none⟩), .pointer (some ⟨Bn, 0, none⟩)] (fun x : CI len => #[chV b len x.1]) (Kp2 Bs Bn) (fun xs => xs.map (·.1) = List.range (chN len)) (fun _ => True) (chN len) w := fun l J Jx W hW hJ hJx hY h0 =>
  chunk1_in n l Bs Bn b len cap hn1 hlen hcap J Jx (fun pre W1 h => hJ pre W1 W1.drew none h ⟨rfl, rfl, rfl, Nat.le_refl _, fun _ _ _ => rfl⟩ (fun r e => by cases e)) hY W ((hW.cell (World.block_lt_of_cell? w _ hs)).trans hs) ((hW.cell (World.block_lt_of_cell? w _ hn)).trans hn) h0
end Go.Proofs.YtokmildjniploaaDoor.PLog
