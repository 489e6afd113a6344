/- DevStops: what has stopped takes just so many writes. Conditions: none. -/
import Derived.Test.YtaoegbebeogkbaaDevT
namespace Go.Proofs.Ytaoegbebeogkbaa.PDev
open Go.RowKit Go.Proofs.YtaoegbebeogkbaaW.PrintWords Go.Proofs.YtaoegbebeogkbaaW.PrintLast Go.Proofs.YtaoegbebeogkbaaW.PrintMore
open Go.Extern.Stop Go.Stop Go.Extern
set_option linter.unusedVariables false
set_option linter.unusedSimpArgs false
attribute [local go_sem] max2_int min2_int max_two min_two
def one : List Int := fullS [1]
def sD (N : Nat) : Nat → Dat
  | 0 => (newD 60).stop (N : Int)
  | i + 1 => ((sD N i).write (i : Int) one).2
theorem one_len : one.length = 128 := fullS_len _
theorem s_write {D : Dat} (i : Nat) (b : List Int) (h : D.seen.length = 60) (hi : i < 60) (hb : b.length = 128) : D.write (i : Int) b = (true, if D.left = 0 then D else D.wrote i b) := by
  unfold Dat.write
  rw [if_pos ⟨by omega, by omega, hb⟩, Int.toNat_natCast]
theorem s_facts (N : Nat) (hN : N < 50) : ∀ i : Nat, i ≤ 50 → Good 60 i (sD N i) ∧ (sD N i).left = (N : Int) - ((min i N : Nat) : Int) ∧ (sD N i).writes = ((min i N : Nat) : Int) ∧ ∀ j, j < 60 → (sD N i).seen[j]? = some (if j < min i N then one else z128)
  | 0, _ => by
    have h0 : min 0 N = 0 := by omega
    refine ⟨good_stop (good_new 60) _ (by omega), ?_, ?_, fun j hj => ?_⟩
    · rw [h0]
      show (if (N : Int) < -1 then -1 else (N : Int)) = _
      rw [if_neg (by omega)]
      omega
    · rw [h0]; rfl
    · rw [h0, if_neg (by omega)]
      show (List.replicate 60 z128)[j]? = _
      rw [List.getElem?_replicate, if_pos hj]
  | i + 1, hi => by
    obtain ⟨g, hl, hw, hs⟩ := s_facts N hN i (by omega)
    have e : sD N (i + 1) = ((sD N i).write (i : Int) one).2 := rfl
    have hg : Good 60 (i + 1) (sD N (i + 1)) := good_write g _ _
    rw [s_write i one g.seen (by omega) one_len] at e
    refine ⟨hg, ?_⟩
    rw [e]
    generalize sD N i = D at *
    by_cases c : N ≤ i
    · have h1 : min i N = N := by omega
      have h2 : min (i + 1) N = N := by omega
      rw [h1] at hl hw hs
      rw [h2]
      have hz : D.left = 0 := by omega
      simp only [if_pos hz]
      exact ⟨hl, hw, hs⟩
    · have h1 : min i N = i := by omega
      have h2 : min (i + 1) N = i + 1 := by omega
      rw [h1] at hl hw hs
      rw [h2]
      have hz : ¬ D.left = 0 := by omega
      simp only [if_neg hz]
      refine ⟨?_, ?_, fun j hj => ?_⟩
      · show (if 0 < D.left then D.left - 1 else D.left) = _
        rw [if_pos (by omega)]
        omega
      · show D.writes + 1 = _
        omega
      · show (D.seen.set i one)[j]? = _
        rw [List.getElem?_set]
        by_cases cj : i = j
        · subst cj
          rw [if_pos rfl, if_pos (by rw [g.seen]; omega), if_pos (by omega)]
        · rw [if_neg cj, hs j hj]
          by_cases c2 : j < i
          · rw [if_pos c2, if_pos (by omega)]
          · rw [if_neg c2, if_neg (by omega)]
theorem ones : rd one 0 = 1 ∧ rd z128 0 = 0 ∧ z128.length = 128 := by decide +kernel
set_option maxHeartbeats 16000000 in
set_option maxRecDepth 100000 in
theorem stops_walk (n k : Nat) (w : World) (hn : n < 256) (hk : k < 256) :
    Calls Try.prog 6 #[.int .u8 (n : Int), .int .u8 (k : Int)] w fun e w' => e = .returned (.bool true) ∧ Below w.heap.size w w' := by
  have hm1 : Int.tmod (n : Int) 50 = ((n % 50 : Nat) : Int) := rfl
  have hm2 : Int.tmod (k : Int) 50 = ((k % 50 : Nat) : Int) := rfl
  obtain ⟨N, hN⟩ : ∃ N, n % 50 = N := ⟨_, rfl⟩
  obtain ⟨K, hK⟩ : ∃ K, k % 50 = K := ⟨_, rfl⟩
  rw [hN] at hm1
  rw [hK] at hm2
  have hN5 : N < 50 := by omega
  have hK5 : K < 50 := by omega
  have hw1 : IntKind.u8.wrap (N : Int) = (N : Int) := by simp [IntKind.wrap, IntKind.bits, IntKind.signed]; omega
  have hw2 : IntKind.u8.wrap (K : Int) = (K : Int) := by simp [IntKind.wrap, IntKind.bits, IntKind.signed]; omega
  have hw3 : IntKind.i64.wrap (N : Int) = (N : Int) := by rw [IntKind.wrap_i64]; omega
  have hw4 : IntKind.i64.wrap (K : Int) = (K : Int) := by rw [IntKind.wrap_i64]; omega
  have HNK := Aside0.mk (And.intro hN5 hK5)
  have HS := Aside0.mk (s_facts N hN5)
  clear hN hK hn hk hN5 hK5
  go_enter Try.func6, Try.ntmps6
  go_upto_region 9 with (first | (go_at_call 7; (refine (begun _).mono ?_); rintro e w1 ⟨rfl, hb⟩; have HB := Aside0.mk hb; clear hb) | (go_at_call 9; (refine (New 60 _ (by decide) (by decide)).mono ?_); rintro e w2 ⟨g, rfl, hd, hb⟩; have HD := Aside0.mk (hd.mono (fun k hk => show w.heap.size ≤ k from Nat.le_trans HB.out.size hk)); have n0 := Aside0.mk (below_step HB.out hb); clear HB hd hb; have HB := n0; clear n0) | (go_at_call 18; (refine (Stop _ g (newD 60) (N : Int) _ HD.out).mono ?_); rintro e w3 ⟨rfl, hd, hf⟩; have n0 := Aside0.mk (hf.below HB.out HB.out.size (fun k hk => hk)); clear HB HD hf; have HB := n0; have HD := Aside0.mk (show DevAt w3 (fun k => w.heap.size ≤ k) g (sD N 0) from hd); clear hd n0))
  clear hm1 hm2 hw1 hw2 hw3 hw4
  go_loopg [9] (K + 1) (fun kq v9 w4 => ∃ i : Nat, v9 = .int .i64 (i : Int) ∧ Aside0 (i ≤ K ∧ K < kq + i) ∧ Aside0 (DevAt w4 (fun k => w.heap.size ≤ k) g (sD N i)) ∧ Aside0 (Below w.heap.size w w4))
  case atStart => exact ⟨0, rfl, ⟨by omega, by omega⟩, HD, HB⟩
  case round =>
    clear HD HB
    obtain ⟨i, rfl, HI, HD, HB⟩ := hrel
    by_cases hlt : i < K
    · have e1 : decide ((i : Int) < (K : Int)) = true := decide_eq_true (by omega)
      have e2 : decide (i < K) = true := decide_eq_true hlt
      have e3 : (i : Int) < (K : Int) := by omega
      have hw5 : IntKind.i64.wrap ((i : Int) + 1) = ((i + 1 : Nat) : Int) := by have := HNK.out; rw [IntKind.wrap_i64]; omega
      have HF := Aside0.mk (HS.out i (by have := HNK.out; omega))
      have HWT := Aside0.mk (show ((sD N i).write (i : Int) one).1 = true by rw [s_write i one HF.out.1.seen (by have := HNK.out; omega) one_len])
      have HLT := Aside0.mk hlt
      obtain ⟨q, hq, hq2, hq3⟩ : ∃ q : Bool, ((sD N i).left == 0) = q ∧ decide ((N : Int) ≤ (i : Int)) = q ∧ decide (N ≤ i) = q := by
        by_cases c : N ≤ i
        · exact ⟨true, by rw [beq_iff_eq]; have := HF.out.2.1; omega, decide_eq_true (by omega), decide_eq_true c⟩
        · exact ⟨false, by rw [beq_eq_false_iff_ne]; have := HF.out.2.1; omega, decide_eq_false (by omega), decide_eq_false c⟩
      have HQ := Aside0.mk hq
      clear hq hlt
      go_wp2_with (first | (go_at_call 26; (refine (Stopped _ g (sD N i) _ HD.out).mono ?_); rintro e w5 ⟨rfl, hww⟩; subst hww; rw [HQ.out]) | (go_at_call 10; (refine (full (some ⟨wr.heap.size, 0, none⟩) 1 1 [1] _ (rowC (lit_row wr [1] (by decide))) rfl (by decide) (by decide)).mono ?_); rintro e w6 ⟨Af, cf, rfl, hcf, hR, hb⟩; have HFA := Aside0.mk hR; have n0 := Aside0.mk (below_step (below_alloc HB.out (.cells (nums .u8 [1]).toArray 5)) hb); have n1 := Aside0.mk ((HD.out.below (below_alloc (Below.refl _ _) (.cells (nums .u8 [1]).toArray 5))).below hb); clear HB HD hR hb; have HB := n0; have HD := n1; clear n0 n1) | (go_at_call 11; (refine (Write _ g (sD N i) (i : Int) Af 128 cf one _ HD.out (fun k hk => Nat.le_trans HB.out.size hk) (by have := HF.out.1.seen; omega) (by have := HF.out.1.later; have := HLT.out; have := HNK.out; omega) ⟨by have := HF.out.1.l0; omega, HF.out.1.l1⟩ ⟨HF.out.1.w0, by have := HF.out.1.w1; have := HLT.out; have := HNK.out; omega⟩ (fun w' hf => rowC (row_fr HFA.out hf (by decide))) hcf).mono ?_); rintro e w7 ⟨rfl, hd, hf⟩; rw [HWT.out]; have n0 := Aside0.mk (hf.below HB.out HB.out.size (fun k hk => hk)); clear HB HD HFA hf; have HB := n0; have HD := Aside0.mk (show DevAt w7 (fun k => w.heap.size ≤ k) g (sD N (i + 1)) from hd); clear hd n0))
      go_roundg (gk - 1)
      case measure => have := HI.out; omega
      case rel => exact ⟨i + 1, by first | rfl | go_num, ⟨by have := HLT.out; omega, by have := HI.out; omega⟩, HD, HB⟩
    · have e1 : decide ((i : Int) < (K : Int)) = false := decide_eq_false (by omega)
      have e2 : decide (i < K) = false := decide_eq_false hlt
      have e3 : ¬ (i : Int) < (K : Int) := by omega
      obtain rfl : i = K := by have := HI.out; omega
      have hF := HS.out i (by have := HNK.out; omega)
      have hmn : min i N = min N i := Nat.min_comm _ _
      rw [hmn] at hF
      clear hmn hlt
      have hM50 : min N i < 50 := by have := HNK.out; omega
      have hMi : ((min N i : Nat) : Int) = min (N : Int) (i : Int) := by omega
      generalize min N i = M at *
      have HM5 := Aside0.mk hM50
      have HMI := Aside0.mk hMi
      have HF := Aside0.mk hF
      clear hM50 hMi hF HS HI
      generalize sD N i = D at *
      go_wp2
      go_loopg [10, 11] 61 (fun kq v10 v11 w5 => ∃ (j s : Nat), v11 = .int .i64 (j : Int) ∧ v10 = .int .i64 (s : Int) ∧ Aside0 (j ≤ 60 ∧ 60 < kq + j ∧ s = min j M) ∧ Aside0 (DevAt w5 (fun k => w.heap.size ≤ k) g D) ∧ Aside0 (Below w.heap.size w w5))
      case atStart => exact ⟨0, 0, rfl, rfl, ⟨by omega, by omega, by omega⟩, HD, HB⟩
      case round =>
        clear HD HB
        obtain ⟨j, s, rfl, rfl, HJ, HD, HB⟩ := hrel
        by_cases hj : j < 60
        · have f1 : decide ((j : Int) < 60) = true := decide_eq_true (by omega)
          have f2 : decide (j < 60) = true := decide_eq_true hj
          have f3 : (j : Int) < 60 := by omega
          have hw5 : IntKind.i64.wrap ((j : Int) + 1) = ((j + 1 : Nat) : Int) := by rw [IntKind.wrap_i64]; omega
          have HJJ := Aside0.mk hj
          have hs := HF.out.2.2.2 j hj
          by_cases c : j < M
          · rw [if_pos c] at hs
            have HSR := Aside0.mk hs
            have hw6 : IntKind.i64.wrap ((s : Int) + 1) = ((s + 1 : Nat) : Int) := by have := HJ.out; rw [IntKind.wrap_i64]; omega
            have HC := Aside0.mk c
            clear hs hj c
            go_wp2_with (go_at_call 14; (refine (Read_at _ g D j one 128 _ HD.out HSR.out one_len (by have := HF.out.1.seen; omega)).mono ?_); rintro e w9 ⟨Ax, cx, rfl, hcx, hR, hb⟩; obtain ⟨ad, e0, hx⟩ := Kd.at_int (rowC hR) 0 (by decide) (by decide); cases e0; rw [ones.1, show ad.add (Int.toNat 0) = ad by simp [Addr.add]] at hx; have n0 := Aside0.mk (HD.out.below hb); have n1 := Aside0.mk (below_step HB.out hb); clear HD HB hR hb; have HB := n1; have HD := n0; clear n0 n1)
            go_roundg (gk - 1)
            case measure => have := HJ.out; omega
            case rel => exact ⟨j + 1, s + 1, by first | rfl | go_num, by first | rfl | go_num, ⟨by have := HJJ.out; omega, by have := HJ.out; omega, by have := HJ.out; have := HC.out; omega⟩, HD, HB⟩
          · rw [if_neg c] at hs
            have HSR := Aside0.mk hs
            have hw6 : IntKind.i64.wrap (s : Int) = (s : Int) := by have := HJ.out; rw [IntKind.wrap_i64]; omega
            have HC := Aside0.mk c
            clear hs hj c
            go_wp2_with (go_at_call 14; (refine (Read_at _ g D j z128 128 _ HD.out HSR.out ones.2.2 (by have := HF.out.1.seen; omega)).mono ?_); rintro e w9 ⟨Ax, cx, rfl, hcx, hR, hb⟩; obtain ⟨ad, e0, hx⟩ := Kd.at_int (rowC hR) 0 (by decide) (by decide); cases e0; rw [ones.2.1, show ad.add (Int.toNat 0) = ad by simp [Addr.add]] at hx; have n0 := Aside0.mk (HD.out.below hb); have n1 := Aside0.mk (below_step HB.out hb); clear HD HB hR hb; have HB := n1; have HD := n0; clear n0 n1)
            go_roundg (gk - 1)
            case measure => have := HJ.out; omega
            case rel => exact ⟨j + 1, s, by first | rfl | go_num, by first | rfl | go_num, ⟨by have := HJJ.out; omega, by have := HJ.out; omega, by have := HJ.out; have := HC.out; omega⟩, HD, HB⟩
        · have f1 : decide ((j : Int) < 60) = false := decide_eq_false (by omega)
          have f2 : decide (j < 60) = false := decide_eq_false hj
          have f3 : ¬ (j : Int) < 60 := by omega
          obtain rfl : s = M := by have := HJ.out; have := HM5.out; omega
          clear hj
          go_upto_region 22 with (go_at_call 13; (refine (Crash _ g D none 0 [] (-1) 0 _ HD.out (fun k hk => Nat.le_trans HB.out.size hk) (by have := HF.out.1.seen; omega) (HF.out.1.sure.trans HF.out.1.seen.symm) (by have := HF.out.1.later; have := HNK.out; omega) HF.out.1.idx (fun w' hf => (Kd.R_reads' (Kd.R_nil (Kd.int .u8) 5 w' 0 (fun _ => True))).2.2) (by decide) (by decide) (fun x hx => by cases hx) (by have := HF.out.1.seen; omega)).mono ?_); rintro e w8 ⟨rfl, hd, hf⟩; have n0 := Aside0.mk (hf.below HB.out HB.out.size (fun k hk => hk)); clear HB HD hf; have HB := n0; have HD := Aside0.mk hd; clear hd n0)
          have hg2 := good_crash HF.out.1 [] (-1) 0
          have hg3 : Good 60 (i + 1) (D.crash [] (-1) 0) := hg2.le (Nat.le_succ _)
          have hw2 : (D.crash [] (-1) 0).writes = (s : Int) := HF.out.2.2.1
          have hl2 : (D.crash [] (-1) 0).left = -1 := rfl
          have hbq : ((D.crash [] (-1) 0).left == 0) = false := rfl
          have hsp := s_write (D := D.crash [] (-1) 0) 59 (fullS [5]) hg2.seen (by decide) (fullS_len _)
          rw [if_neg (by rw [hl2]; decide)] at hsp
          have hw3 : ((D.crash [] (-1) 0).wrote 59 (fullS [5])).writes = (s : Int) + 1 := by show (D.crash [] (-1) 0).writes + 1 = _; rw [hw2]
          have HG2 := Aside0.mk (And.intro hg2 (And.intro hw2 hbq))
          have HSP := Aside0.mk hsp
          have HW3 := Aside0.mk hw3
          have hmn1 : (if (i : Int) < (N : Int) then (i : Int) else (N : Int)) = (s : Int) := by rw [HMI.out]; split <;> omega
          have hmn2 : (if i < N then (i : Int) else (N : Int)) = (s : Int) := by rw [HMI.out]; split <;> omega
          have hw6 : IntKind.i64.wrap ((s : Int) + 1) = (s : Int) + 1 := by have := HM5.out; rw [IntKind.wrap_i64]; omega
          clear hg2 hg3 hw2 hl2 hbq hsp hw3 HF HJ
          generalize hD2 : D.crash [] (-1) 0 = D2 at *
          clear hD2
          go_wp2_with (first | (go_at_call 15; (refine (Writes _ g D2 _ HD.out).mono ?_); rintro e wz ⟨rfl, hww⟩; subst hww; rw [HG2.out.2.1]) | (go_at_call 26; (refine (Stopped _ g D2 _ HD.out).mono ?_); rintro e wz ⟨rfl, hww⟩; subst hww; rw [HG2.out.2.2]) | (go_at_call 10; (refine (full (some ⟨w8.heap.size, 0, none⟩) 1 1 [5] _ (rowC (lit_row w8 [5] (by decide))) rfl (by decide) (by decide)).mono ?_); rintro e w6 ⟨Af, cf, rfl, hcf, hR, hb⟩; have HFA := Aside0.mk hR; have n0 := Aside0.mk (below_step (below_alloc HB.out (.cells (nums .u8 [5]).toArray 5)) hb); have n1 := Aside0.mk ((HD.out.below (below_alloc (Below.refl _ _) (.cells (nums .u8 [5]).toArray 5))).below hb); clear HB HD hR hb; have HB := n0; have HD := n1; clear n0 n1) | (go_at_call 11; (refine (Write _ g D2 59 Af 128 cf (fullS [5]) _ HD.out (fun k hk => Nat.le_trans HB.out.size hk) (by have := HG2.out.1.seen; omega) (by have := HG2.out.1.later; have := HNK.out; omega) ⟨by have := HG2.out.1.l0; omega, HG2.out.1.l1⟩ ⟨HG2.out.1.w0, by have := HG2.out.1.w1; have := HNK.out; omega⟩ (fun w' hf => rowC (row_fr HFA.out hf (by decide))) hcf).mono ?_); rintro e w7 ⟨rfl, hd, hf⟩; rw [show ((59 : Int)) = ((59 : Nat) : Int) from rfl, HSP.out] at hd ⊢; have n0 := Aside0.mk (hf.below HB.out HB.out.size (fun k hk => hk)); clear HB HD HFA hf; have HB := n0; have HD := Aside0.mk hd; clear hd n0) | (go_at_call 15; (refine (Writes _ g (D2.wrote 59 (fullS [5])) _ HD.out).mono ?_); rintro e wz ⟨rfl, hww⟩; subst hww; rw [HW3.out]))
          go_ret
          exact ⟨rfl, HB.out⟩
def rabbetlaw18_DevStops.f (a0 a1 : Int) : Option Bool := if (0 ≤ a0 ∧ a0 < 256) ∧ 0 ≤ a1 ∧ a1 < 256 then some true else none
theorem rabbetlaw18_DevStops.calls (a0 a1 : Int) (r : Bool) (w : World) (h : rabbetlaw18_DevStops.f a0 a1 = some r) :
    Calls Try.prog 6 #[.int .u8 a0, .int .u8 a1] w fun e w' => e = .returned (.bool r) ∧ Below w.heap.size w w' := by
  unfold rabbetlaw18_DevStops.f at h
  split at h
  · rename_i c
    obtain rfl := Option.some.inj h
    obtain ⟨n, rfl⟩ := Int.eq_ofNat_of_zero_le c.1.1
    obtain ⟨k, rfl⟩ := Int.eq_ofNat_of_zero_le c.2.1
    exact stops_walk n k w (by omega) (by omega)
  · cases h
end Go.Proofs.Ytaoegbebeogkbaa.PDev
