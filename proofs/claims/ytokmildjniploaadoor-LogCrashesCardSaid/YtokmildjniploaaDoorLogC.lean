/- log: what a log's block says, and what its small functions do. Conditions: none. -/
import Derived.Test.YtokmildjniploaaDoorLogH
import Derived.Test.YtokmildjniploaaDoorBGLog
namespace Go.Proofs.YtokmildjniploaaDoor.PLog
open Go.RowKit Go.Proofs.YtokmildjniploaaDoorW.PrintWords Go.Proofs.YtokmildjniploaaDoorW.PrintLast Go.Proofs.YtokmildjniploaaDoorW.PrintMore
open Go.Extern.Stop Go.Stop Go.Extern
attribute [local go_sem] max2_int min2_int max_two min_two   -- for this text's walks alone
set_option linter.unusedVariables false
set_option linter.unusedSimpArgs false
theorem u32_wrap (n : Int) : IntKind.u32.wrap n = n % 4294967296 := by simp [IntKind.wrap, IntKind.bits, IntKind.signed]
def logT : List Nat := 58 :: devT
/-- A log's block. -/
def Lbx (W : World) (gl gd area gen used : Nat) : Prop := W.heap[gl]? = some (.cells #[.pointer (some ⟨gd, 0, none⟩), .int .i64 (area : Int), .int .u32 (gen : Int), .int .i64 (used : Int)] 58 (0, 0))
/-- A device, and a log of it. -/
structure LogAt (W : World) (ok : Nat → Prop) (gd gl : Nat) (D : Dat) (area gen used : Nat) : Prop where
  dev : DevAt W ok gd D
  box : Lbx W gl gd area gen used
  here : ok gl
section
variable {W W1 : World} {ok ok2 : Nat → Prop} {gd gl : Nat} {D D' : Dat} {area gen used : Nat} {Ts : List Nat}
theorem LogAt.mono (h : LogAt W ok gd gl D area gen used) (hk : ∀ k, ok k → ok2 k) : LogAt W ok2 gd gl D area gen used := ⟨h.dev.mono hk, h.box, hk _ h.here⟩
theorem LogAt.below (h : LogAt W ok gd gl D area gen used) (hb : Below W.heap.size W W1) : LogAt W1 ok gd gl D area gen used := ⟨h.dev.below hb, blk_below h.box hb, h.here⟩
theorem LogAt.step_dev (h : LogAt W ok gd gl D area gen used) (hd : DevAt W1 ok gd D') (hf : Fr ok devT W W1) : LogAt W1 ok gd gl D' area gen used :=
  ⟨hd, (hf.typed _ _ _ _ h.box (by decide)).trans h.box, h.here⟩
theorem frL (hf : Fr ok devT W W1) : Fr ok logT W W1 := hf.mono (fun _ h => h) (fun t ht => List.mem_cons_of_mem _ ht)
theorem LogAt.set_num (h : LogAt W ok gd gl D area gen used) (j : Nat) (v : Value) (gen' used' : Nat) (hc : (#[Value.pointer (some ⟨gd, 0, none⟩), .int .i64 (area : Int), .int .u32 (gen : Int), .int .i64 (used : Int)] : Array Value).setIfInBounds j v = #[Value.pointer (some ⟨gd, 0, none⟩), .int .i64 (area : Int), .int .u32 (gen' : Int), .int .i64 (used' : Int)]) :
    LogAt (W.setCell ⟨gl, j, none⟩ v) ok gd gl D area gen' used' ∧ Fr ok logT W (W.setCell ⟨gl, j, none⟩ v) := by
  have hf : Fr ok [58] W (W.setCell ⟨gl, j, none⟩ v) := Fr.set (p := ⟨gl, j, none⟩) (Ts := [58]) h.box h.here (by simp) _
  exact ⟨⟨h.dev.frT hf (by decide), (blk_set h.box j v).trans (by rw [hc]), h.here⟩, hf.mono (fun _ h => h) (by decide)⟩
theorem LogAt.set_used (h : LogAt W ok gd gl D area gen used) (u : Nat) : LogAt (W.setCell ⟨gl, 3, none⟩ (.int .i64 (u : Int))) ok gd gl D area gen u ∧ Fr ok logT W (W.setCell ⟨gl, 3, none⟩ (.int .i64 (u : Int))) := h.set_num 3 _ gen u rfl
theorem LogAt.set_gen (h : LogAt W ok gd gl D area gen used) (u : Nat) : LogAt (W.setCell ⟨gl, 2, none⟩ (.int .u32 (u : Int))) ok gd gl D area u used ∧ Fr ok logT W (W.setCell ⟨gl, 2, none⟩ (.int .u32 (u : Int))) := h.set_num 2 _ u used rfl
theorem row_frL {B : Nat} {okr : Nat → Prop} {v : Value} {l : List Int} (h : Kd.R (Kd.int .u8) 5 W B okr v l) (hf : Fr ok logT W W1) : Kd.R (Kd.int .u8) 5 W1 B okr v l := row_fr h hf (by decide)
end
/-- Which block. -/
def atN (area gen i : Nat) : Nat := 2 + gen % 2 * area + i
theorem Room (W : World) (gl gd area gen used : Nat) (h : Lbx W gl gd area gen used) (ha : area ≤ 1000) (hu : used ≤ area) :
    Calls Tryd.prog 12 #[.pointer (some ⟨gl, 0, none⟩)] W fun e w' => e = .returned (.int .i64 ((area - used : Nat) : Int)) ∧ Drawn0 W w' := by
  have x1 := blk_cell h 1
  have x3 := blk_cell h 3
  have hw : IntKind.i64.wrap ((area : Int) - (used : Int)) = ((area - used : Nat) : Int) := by rw [IntKind.wrap_i64]; omega
  clear h ha hu
  go_enter Tryd.func12, Tryd.ntmps12
  go_upto_region 3 with (fail)
  go_quiet (fail)
  go_wp2
  go_ret
  exact ⟨rfl, ⟨_, rfl⟩⟩
theorem Room_nil (W : World) : Calls Tryd.prog 12 #[.pointer none] W fun e w' => e = .returned (.int .i64 0) ∧ W = w' := by
  go_enter Tryd.func12, Tryd.ntmps12
  go_wp2
  go_ret
  exact ⟨rfl, rfl⟩
theorem Gen (W : World) (gl gd area gen used : Nat) (h : Lbx W gl gd area gen used) :
    Calls Tryd.prog 16 #[.pointer (some ⟨gl, 0, none⟩)] W fun e w' => e = .returned (.int .u32 (gen : Int)) ∧ W = w' := by
  have x2 := blk_cell h 2
  clear h
  go_enter Tryd.func16, Tryd.ntmps16
  go_wp2
  go_ret
  exact ⟨rfl, rfl⟩
theorem Gen_nil (W : World) : Calls Tryd.prog 16 #[.pointer none] W fun e w' => e = .returned (.int .u32 0) ∧ W = w' := by
  go_enter Tryd.func16, Tryd.ntmps16
  go_wp2
  go_ret
  exact ⟨rfl, rfl⟩
set_option maxHeartbeats 4000000 in
set_option maxRecDepth 100000 in
theorem At (W : World) (gl gd area gen used : Nat) (g i : Nat) (h : Lbx W gl gd area gen used) (ha : area ≤ 1000) (hi : i ≤ 1000000) (hg : g < 4294967296) :
    Calls Tryd.prog 32 #[.pointer (some ⟨gl, 0, none⟩), .int .u32 (g : Int), .int .i64 (i : Int)] W fun e w' => e = .returned (.int .i64 ((atN area g i : Nat) : Int)) ∧ W = w' := by
  have x1 := blk_cell h 1
  obtain ⟨g2, hg2⟩ : ∃ g2, g % 2 = g2 := ⟨_, rfl⟩
  obtain ⟨m, hm⟩ : ∃ m, g2 * area = m := ⟨_, rfl⟩
  have h2 : g2 ≤ 1 := by omega
  have hml : m ≤ 1000 := by rw [← hm]; exact Nat.le_trans (Nat.mul_le_mul h2 ha) (by decide)
  have hr : (g : Int).tmod 2 = (g2 : Int) := by rw [← hg2]; rfl
  have w1 : IntKind.u32.wrap (g2 : Int) = (g2 : Int) := by rw [u32_wrap]; omega
  have w1' : (g2 : Int) % 4294967296 = (g2 : Int) := by omega
  have w2 : IntKind.i64.wrap (g2 : Int) = (g2 : Int) := by rw [IntKind.wrap_i64]; omega
  have hmm : (g2 : Int) * (area : Int) = (m : Int) := by rw [← hm]; exact (Int.natCast_mul _ _).symm
  have w3 : IntKind.i64.wrap (m : Int) = (m : Int) := by rw [IntKind.wrap_i64]; omega
  have w4 : IntKind.i64.wrap (2 + (m : Int)) = 2 + (m : Int) := by rw [IntKind.wrap_i64]; omega
  have w5 : IntKind.i64.wrap (2 + (m : Int) + (i : Int)) = ((atN area g i : Nat) : Int) := by
    rw [IntKind.wrap_i64]; unfold atN; rw [hg2, hm]; omega
  clear h ha hi hg hm hml h2 hg2
  go_enter Tryd.func32, Tryd.ntmps32
  go_wp2
  go_ret
  exact ⟨rfl, rfl⟩
/-- What the first four bytes say. -/
def numS (l : List Int) : Nat := (l.take 4).foldl (fun n c => (n * 256 + c.toNat) % 4294967296) 0
theorem or_u32 (x c : Nat) (hx : x < 4294967296) (hc : c < 256) : bits .or .u32 (((x : Int) * 256) % 4294967296) (c : Int) = (((x * 256 + c) % 4294967296 : Nat) : Int) := by
  have h1 : ((x : Int) * 256) % 4294967296 = ((x * 256 % 4294967296 : Nat) : Int) := by omega
  rw [h1]
  have h2 : x * 256 % 4294967296 = 2 ^ 8 * (x % 16777216) := by omega
  have h3 : bits BinOp.or IntKind.u32 ((x * 256 % 4294967296 : Nat) : Int) (c : Int) = IntKind.u32.wrap ((BitVec.ofInt 32 ((x * 256 % 4294967296 : Nat) : Int) ||| BitVec.ofInt 32 (c : Int)).toNat : Int) := rfl
  rw [h3, BitVec.toNat_or, BitVec.toNat_ofInt, BitVec.toNat_ofInt]
  have h4 : (((x * 256 % 4294967296 : Nat) : Int) % ((2 ^ 32 : Nat) : Int)).toNat = 2 ^ 8 * (x % 16777216) := by rw [← h2]; omega
  have h5 : ((c : Int) % ((2 ^ 32 : Nat) : Int)).toNat = c := by omega
  rw [h4, h5, ← Nat.two_pow_add_eq_or_of_lt (by omega) (x % 16777216)]
  rw [u32_wrap]
  omega
set_option maxHeartbeats 4000000 in
set_option maxRecDepth 100000 in
theorem num (A : Option Addr) (n c : Nat) (l : List Int) (W : World) (hC : Kd.C (Kd.int .u8) W A n l) (hc : n ≤ c) (hwf : ∀ x, x ∈ l → 0 ≤ x ∧ x < 256) :
    Calls Tryd.prog 37 #[.slice A n c] W fun e w' => e = .returned (.int .u32 ((numS l : Nat) : Int)) ∧ W = w' := by
  have hn : l.length = n := hC.1
  subst hn
  have hmx := Kd.C_max hC
  obtain ⟨m, hm⟩ : ∃ m, min 4 l.length = m := ⟨_, rfl⟩
  have hmi : (if (l.length : Int) < 4 then (l.length : Int) else 4) = (m : Int) := by split <;> omega
  have hml : m ≤ l.length := by omega
  obtain ⟨i0, hi0, hz⟩ := Option.map_eq_some_iff.1 bytes_Clone.info
  have hcut : ∀ W : World, (Instr.slice 35 (.slice A l.length c) none (some (.int .i64 (m : Int))) none).run Tryd.prog W = .ok (.slice A m c) W := by
    intro W
    have h := cut_to (P := Tryd.prog) 35 5 .i64 Tryd.underlying35 hi0 A l.length c (m : Int) (by omega) (by omega) hc W
    rw [h, Int.toNat_natCast]
  have HC := Aside0.mk hC
  have HWF := Aside0.mk hwf
  have hE : (l.take m).foldl (fun n c => (n * 256 + c.toNat) % 4294967296) 0 = numS l := by
    unfold numS
    congr 1
    rw [← hm]
    rcases Nat.le_total 4 l.length with h | h
    · rw [Nat.min_eq_left h]
    · rw [Nat.min_eq_right h, List.take_length, List.take_of_length_le h]
  have HE := Aside0.mk hE
  have HML := Aside0.mk hml
  clear hC hwf hE hm hml hi0 hz hc
  go_enter Tryd.func37, Tryd.ntmps37
  go_wp2
  go_loopg [2, 11] (m + 1) (fun kq v2 v11 w2 => ∃ (i x : Nat), v11 = .int .i64 (i : Int) ∧ v2 = .int .u32 (x : Int) ∧ Aside0 (i ≤ m ∧ m < kq + i ∧ x < 4294967296 ∧ (l.take i).foldl (fun n c => (n * 256 + c.toNat) % 4294967296) 0 = x) ∧ w2 = W)
  case atStart => exact ⟨0, 0, rfl, rfl, ⟨by omega, by omega, by omega, rfl⟩, rfl⟩
  case round =>
    obtain ⟨i, x, rfl, rfl, HI, rfl⟩ := hrel
    by_cases hlt : i < m
    · have e1 : decide ((i : Int) < (m : Int)) = true := decide_eq_true (by omega)
      have e2 : decide (i < m) = true := decide_eq_true hlt
      have e3 : (i : Int) < (m : Int) := by omega
      have e4 : (0 : Int) ≤ (i : Int) := by omega
      have hil : i < l.length := by have := HML.out; omega
      obtain ⟨ad, eA, hx⟩ := Kd.at_int HC.out (i : Int) (by omega) (by omega)
      cases eA
      rw [Int.toNat_natCast] at hx
      have hg : rd l (i : Int) = l[i] := by simp [rd, List.getD_eq_getElem?_getD, List.getElem?_eq_getElem hil]
      rw [hg] at hx
      have hb := HWF.out l[i] (List.getElem_mem _)
      obtain ⟨y, hy⟩ := Int.eq_ofNat_of_zero_le hb.1
      have HF := Aside0.mk (show (l.take (i + 1)).foldl (fun n c => (n * 256 + c.toNat) % 4294967296) 0 = (x * 256 + y) % 4294967296 by
        rw [List.take_succ_eq_append_getElem hil, List.foldl_append, HI.out.2.2.2, hy]
        rfl)
      rw [hy] at hx hb
      have hw1 : IntKind.i64.wrap ((i : Int) + 1) = ((i + 1 : Nat) : Int) := by rw [IntKind.wrap_i64]; omega
      have hw2 : IntKind.u32.wrap (y : Int) = (y : Int) := by rw [u32_wrap]; omega
      have hw3 : (y : Int) % 4294967296 = (y : Int) := by omega
      have hor := or_u32 x y HI.out.2.2.1 (by omega)
      have HLT := Aside0.mk hlt
      clear hlt hil hg hy hb
      go_wp2
      go_roundg (gk - 1)
      case measure => have := HI.out; omega
      case rel => exact ⟨i + 1, (x * 256 + y) % 4294967296, by first | rfl | go_num, by first | rfl | (first | (go_simp; done) | (simp only [hor]; rfl)), ⟨by have := HLT.out; omega, by have := HI.out; omega, Nat.mod_lt _ (by decide), HF.out⟩, rfl⟩
    · have e1 : decide ((i : Int) < (m : Int)) = false := decide_eq_false (by omega)
      have e2 : decide (i < m) = false := decide_eq_false hlt
      have e3 : ¬ (i : Int) < (m : Int) := by omega
      obtain rfl : i = m := by have := HI.out; omega
      have HX := Aside0.mk (HI.out.2.2.2.symm.trans HE.out)
      clear hlt
      go_wp2
      go_ret
      exact ⟨congrArg (fun x : Nat => Ending.returned (.int .u32 (x : Int))) HX.out, rfl⟩
end Go.Proofs.YtokmildjniploaaDoor.PLog
