/- LogFull: a record takes as many blocks as it wants: the walk. Conditions: none. -/
import Derived.Test.YtokmildjniploaaDoorLogF
namespace Go.Proofs.YtokmildjniploaaDoor.PLog
open Go.RowKit Go.Proofs.YtokmildjniploaaDoorW.PrintWords Go.Proofs.YtokmildjniploaaDoorW.PrintLast Go.Proofs.YtokmildjniploaaDoorW.PrintMore Go.Proofs.YtokmildjniploaaDoor.BGLog Go.Proofs.YtokmildjniploaaDoor.MStr
open Go.Extern.Stop Go.Stop Go.Extern
set_option linter.unusedVariables false
set_option linter.unusedSimpArgs false
theorem mkN (n : Nat) (hn : n ≤ 1000000) : ∀ W : World, (Instr.makeSlice 35 (.int .i64 (n : Int)) (.int .i64 (n : Int))).run Tryd.prog W = .ok (.slice (some ⟨W.heap.size, 0, none⟩) n n) (W.alloc (.cells (nums .u8 (List.replicate n 0)).toArray 5)) := fun W => by
  obtain ⟨i0, hi0, hz⟩ := Option.map_eq_some_iff.1 bytes_Clone.info
  simp only [Prod.mk.injEq] at hz
  have := run_make (P := Tryd.prog) W 35 5 i0 _ Tryd.underlying35 hi0 hz.1 .i64 .i64 (n : Int) (n : Int) (by omega) (by omega) (by rw [hz.2.2]; omega) (by omega)
  rw [hz.2.1, Int.toNat_natCast, Nat.mul_one] at this
  exact this.trans (congrArg (fun cs => Result.ok (Value.slice (some ⟨W.heap.size, 0, none⟩) n n) (W.alloc (.cells cs 5))) (made_bytes n))
/-- The made row, its first k bytes laid. -/
def mkR (i q k : Nat) : List Int := (List.range q).map fun j => if j < k then ((i + j : Nat) : Int) % 256 else 0
theorem mkR_len (i q k : Nat) : (mkR i q k).length = q := by unfold mkR; rw [List.length_map, List.length_range]
theorem mkR_zero (i q : Nat) : List.replicate q (0 : Int) = mkR i q 0 := by
  apply List.ext_getElem
  · rw [mkR_len, List.length_replicate]
  · intro j h1 h2
    rw [List.getElem_replicate]
    simp only [mkR, List.getElem_map]
    rw [if_neg (by omega)]
theorem mkR_set (i q k : Nat) : (mkR i q k).set k (((i + k : Nat) : Int) % 256) = mkR i q (k + 1) := by
  apply List.ext_getElem
  · rw [List.length_set, mkR_len, mkR_len]
  · intro j h1 h2
    rw [List.getElem_set]
    simp only [mkR, List.getElem_map, List.getElem_range]
    by_cases c : k = j
    · subst c
      rw [if_pos rfl, if_pos (by omega)]
    · rw [if_neg c]
      by_cases d : j < k
      · rw [if_pos d, if_pos (by omega)]
      · rw [if_neg d, if_neg (by omega)]
theorem mkR_wf (i q k : Nat) : wfb (mkR i q k) := fun x hx => by
  unfold mkR at hx
  obtain ⟨j, _, rfl⟩ := List.mem_map.1 hx
  split <;> omega
set_option maxHeartbeats 32000000 in
set_option maxRecDepth 100000 in
theorem full_walk (GA : Nat → Addr) (a : Nat) (A1 : Option Addr) (n1 c1 : Nat) (l : List Int) (w : World) (hG : Glob GA w) (ha : a < 256) (hC : Kd.C (Kd.int .u16) w A1 n1 l) (hc : n1 ≤ c1) (hl : ∀ x, x ∈ l → 0 ≤ x ∧ x < 65536) :
    Calls Tryd.prog 3 #[.int .u8 (a : Int), .slice A1 n1 c1] w fun e w' => e = .returned (.bool true) ∧ Below w.heap.size w w' := by
  have hln : l.length = n1 := hC.1
  have HG := Aside0.mk hG
  have HC := Aside0.mk hC
  have HLW := Aside0.mk hl
  have HLN := Aside0.mk hln
  by_cases h30 : 30 < n1
  · have d1 : decide ((30 : Int) < (n1 : Int)) = true := decide_eq_true (by omega)
    have d2 : decide (30 < n1) = true := decide_eq_true h30
    clear hG hC hl hln h30 ha
    go_enter Tryd.func3, Tryd.ntmps3
    go_wp2_with (go_at_call 7; (refine (begun GA _ HG.out).mono ?_); rintro e w1 ⟨rfl, hb⟩; have HB := Aside0.mk hb; clear hb)
    go_ret
    exact ⟨rfl, HB.out⟩
  have d1 : decide ((30 : Int) < (n1 : Int)) = false := decide_eq_false (by omega)
  have d2 : decide (30 < n1) = false := decide_eq_false h30
  have HN30 := Aside0.mk (show n1 ≤ 30 by omega)
  obtain ⟨r, hr⟩ : ∃ r, a % 40 = r := ⟨_, rfl⟩
  have hr1 : (a : Int).tmod 40 = (r : Int) := by rw [← hr]; rfl
  have hrl : r < 40 := by omega
  obtain ⟨n, hn⟩ : ∃ n, 2 + r = n := ⟨_, rfl⟩
  obtain ⟨nb, hnb⟩ : ∃ nb, 2 + 2 * n = nb := ⟨_, rfl⟩
  have hnl : 2 ≤ n ∧ n ≤ 41 := by omega
  have w1 : IntKind.u8.wrap (r : Int) = (r : Int) := by simp [IntKind.wrap, IntKind.bits, IntKind.signed]; omega
  have w1' : (r : Int) % 256 = (r : Int) := by omega
  have w2 : IntKind.i64.wrap (r : Int) = (r : Int) := by rw [IntKind.wrap_i64]; omega
  have w3 : IntKind.i64.wrap (2 + (r : Int)) = (n : Int) := by rw [IntKind.wrap_i64]; omega
  have HNB := Aside0.mk hnb
  have HNL := Aside0.mk hnl
  have hmy : mayB (newD nb) (n : Int) = true := decide_eq_true ⟨by omega, by omega, by show (2 : Int) + 2 * (n : Int) ≤ ((List.replicate nb z128).length : Int); rw [List.length_replicate]; omega⟩
  have HMK := Aside0.mk (fun W gd (hd : DevAt W (fun k => w.heap.size ≤ k) gd (newD nb)) (hb : Below w.heap.size w W) => show Calls Tryd.prog 10 #[.pointer (some ⟨gd, 0, none⟩), .int .i64 (n : Int), .slice none 0 0] W _ from Make_ nb 0 (fun k => w.heap.size ≤ k) gd (newD nb) n none 0 [] W hd (fun k hk => Nat.le_trans hb.size hk) hmy (by omega) (by decide) (good_new nb) (fun w' _ => Kd.C_nil _ _) (Nat.le_refl _) (fun r hr => absurd hr List.not_mem_nil) (by decide) (Nat.zero_le _))
  have HSZ := Aside0.mk (fun W => SizeN n (by omega) W)
  rw [hnb] at HSZ
  have HNW := Aside0.mk (fun W => New nb W (by omega) (by omega))
  clear hr hrl hn hnb hnl hmy hG hC hl hln h30 ha hc
  go_enter Tryd.func3, Tryd.ntmps3
  go_upto_region 9 with (first | (go_at_call 7; (refine (begun GA _ HG.out).mono ?_); rintro e w1 ⟨rfl, hb⟩; have HB := Aside0.mk hb; clear hb) | (go_at_call 9; (refine (HSZ.out _).mono ?_); rintro e w1b ⟨rfl, hdd⟩; have n0 := Aside0.mk (below_step HB.out hdd.below); clear HB hdd; have HB := n0; clear n0) | (go_at_call 8; (refine (HNW.out _).mono ?_); rintro e w2 ⟨gd, rfl, hd, hb⟩; have HD := Aside0.mk (hd.mono (fun k hk => show w.heap.size ≤ k from Nat.le_trans HB.out.size hk)); have n0 := Aside0.mk (below_step HB.out hb); clear HB hd hb; have HB := n0; clear n0) | (go_at_call 10; (with_reducible refine (HMK.out _ _ HD.out HB.out).mono ?_); rintro e w4 ⟨rfl, hd, hf⟩; have n1 := Aside0.mk hd; have n0 := Aside0.mk (hf.below HB.out HB.out.size (fun k hk => hk)); clear HD HB hd hf; have HB := n0; have HD := n1; clear n0 n1))
  have HLD := Aside0.mk (logD_first (nb := nb) (area := n) (recs := []) (by have := HNB.out; omega) (Nat.zero_le _) (fun r hr => absurd hr List.not_mem_nil))
  have HOP := Aside0.mk (open_l GA w w4 nb (n + sumS [] + 1) (fun k => w.heap.size ≤ k) gd (anewD n 1 (newD nb) []) n 1 [] HD.out ⟨fun k hk => hk, fun k hk => Nat.le_trans HB.out.size hk, HB.out⟩ HLD.out (by have := HNL.out; omega) (by have := HNL.out; omega) (by have := HNL.out; have := HNB.out; omega) (by have := HNL.out; show n + 0 + 1 ≤ _; omega) (Glob.below HG.out HB.out) (by decide))
  have hrm0 : n - 0 = n := Nat.sub_zero n
  go_upto_region 15 with (first | (go_at_call 11; (refine HOP.out.mono ?_); rintro e w5 ⟨gl, A5, c5, xs5, ok, rfl, ha, hld, hs, hok, hf, hx⟩; have HA := Aside0.mk (show LogAt w5 ok gd gl (anewD n 2 (anewD n 1 (newD nb) []) []) n 2 0 from ha); have n1 := Aside0.mk hld; have HS := Aside0.mk hs; clear HLD HD HB ha hld hs hok hf hx HOP HMK HSZ HNW; have HLD := n1; clear n1) | (go_at_call 12; (refine (Room _ gl gd n 2 0 HA.out.box (by have := HNL.out; omega) (Nat.zero_le _)).mono ?_); rintro e w6 ⟨rfl, hdd⟩; have hd := hdd.below; rw [hrm0]; have m0 := Aside0.mk (HA.out.below hd); have n0 := Aside0.mk (HS.out.step hd); clear HA HS hd hdd; have HA := m0; have HS := n0; clear m0 n0))
  have HX := Aside0.mk (held_nil w6 w.heap.size ok)
  have HAR := Aside0.mk (show sumS ([] : List (List Int)) = 0 from rfl)
  have HLD2 := Aside0.mk (show LogD nb (n + sumS [] + 1 + n + sumS [] + 1) (anewD n 2 (anewD n 1 (newD nb) []) []) n 2 [] from HLD.out)
  clear HLD
  generalize anewD n 2 (anewD n 1 (newD nb) []) [] = D2 at HLD2 HA
  have HLD := Aside0.mk (show LogD nb 1000 D2 n 2 [] from HLD2.out.le (by have := HNL.out; show n + 0 + 1 + n + 0 + 1 ≤ 1000; omega))
  clear HLD2
  go_loopg [11, 12, 13] (n1 + 1) (fun kq v11 v12 v13 w7 => ∃ (i m : Nat) (D : Dat) (recs : List (List Int)) (xs : List Rx) (ok : Nat → Prop), v13 = .int .i64 (i : Int) ∧ v11 = .int .i64 ((n - sumS recs : Nat) : Int) ∧ Aside0 (i ≤ n1 ∧ n1 < kq + i ∧ m ≤ 1000 + 10 * i ∧ recs.length ≤ i) ∧ Aside0 (LogAt w7 ok gd gl D n 2 (sumS recs)) ∧ Aside0 (LogD nb m D n 2 recs) ∧ Aside0 (Lst w w7 ok) ∧ Aside0 (Held w7 w.heap.size ok v12 xs recs))
  case atStart => exact ⟨0, 1000, D2, [], [], ok, rfl, by first | rfl | (rw [HAR.out, Nat.sub_zero]), ⟨by omega, by omega, by omega, by simp⟩, HA, HLD, HS, HX⟩
  case round =>
    clear HA HLD HS HX
    obtain ⟨i, m, D, recs, xs, ok, rfl, rfl, HI, HA, HLD, HS, HX⟩ := hrel
    generalize gk = gk0 at *
    generalize wr = wr0 at *
    have hn30 := HN30.out
    by_cases hlt : i < n1
    · have t1 : decide ((i : Int) < (n1 : Int)) = true := decide_eq_true (by omega)
      have t2 : decide (i < n1) = true := decide_eq_true hlt
      have t3 : (i : Int) < (n1 : Int) := by omega
      have t4 : (0 : Int) ≤ (i : Int) := by omega
      have hwi : IntKind.i64.wrap ((i : Int) + 1) = ((i + 1 : Nat) : Int) := by rw [IntKind.wrap_i64]; omega
      have hil : i < l.length := by have := HLN.out; omega
      obtain ⟨ad, eA, hx⟩ := Kd.at_int (Kd.C_below HC.out HS.out.below) (i : Int) (by omega) (by omega)
      cases eA
      rw [Int.toNat_natCast] at hx
      have hg : rd l (i : Int) = l[i] := by simp [rd, List.getD_eq_getElem?_getD, List.getElem?_eq_getElem hil]
      rw [hg] at hx
      have hb := HLW.out l[i] (List.getElem_mem _)
      obtain ⟨y, hy⟩ := Int.eq_ofNat_of_zero_le hb.1
      rw [hy] at hx hb
      obtain ⟨q, hq⟩ : ∃ q, y % 900 = q := ⟨_, rfl⟩
      have hq1 : (y : Int).tmod 900 = (q : Int) := by rw [← hq]; rfl
      have hql : q < 900 := by omega
      have w4 : IntKind.u16.wrap (q : Int) = (q : Int) := by simp [IntKind.wrap, IntKind.bits, IntKind.signed]; omega
      have w4' : (q : Int) % 65536 = (q : Int) := by omega
      have w5 : IntKind.i64.wrap (q : Int) = (q : Int) := by rw [IntKind.wrap_i64]; omega
      have hmk := mkN q (by omega)
      have HR0 := Aside0.mk (lit_row wr0 (List.replicate q 0) (by rw [List.length_replicate]; omega))
      rw [List.length_replicate, mkR_zero i q] at HR0
      have HB0 := Aside0.mk (below_alloc (Below.refl wr0.heap.size wr0) (.cells (nums .u8 (mkR i q 0)).toArray 5))
      rw [mkR_zero i q] at hmk
      have HQ := Aside0.mk hql
      have HLT := Aside0.mk hlt
      clear hq hb hy hg hil hlt hql
      obtain ⟨bq, hbq⟩ : ∃ bq, wr0.heap.size = bq := ⟨_, rfl⟩
      go_upto_region 19 with (fail)
      rw [hbq] at HR0
      (try rw [hbq])
      have HBQ := Aside0.mk hbq
      clear hbq hmk hx hq1 w4 w4' w5
      generalize wr0.alloc (.cells (nums .u8 (mkR i q 0)).toArray 5) = w8 at HR0 HB0 ⊢
      go_loopg [15] (q + 1) (fun kq v15 w9 => ∃ k : Nat, v15 = .int .i64 (k : Int) ∧ Aside0 (k ≤ q ∧ q < kq + k) ∧ Aside0 (Below wr0.heap.size wr0 w9) ∧ Aside0 (Kd.R (Kd.int .u8) 5 w9 0 (fun _ => True) (.slice (some ⟨bq, 0, none⟩) q q) (mkR i q k)))
      case atStart => exact ⟨0, rfl, ⟨by omega, by omega⟩, HB0, HR0⟩
      case round =>
        clear HB0 HR0
        obtain ⟨k, rfl, HK, HBR, HR⟩ := hrel
        have hqq := HQ.out
        by_cases hk : k < q
        · have s1 : decide ((k : Int) < (q : Int)) = true := decide_eq_true (by omega)
          have s2 : decide (k < q) = true := decide_eq_true hk
          have s3 : (k : Int) < (q : Int) := by omega
          have s4 : (0 : Int) ≤ (k : Int) := by omega
          have hwk : IntKind.i64.wrap ((k : Int) + 1) = ((k + 1 : Nat) : Int) := by rw [IntKind.wrap_i64]; omega
          obtain ⟨ad2, e2, hx2⟩ := Kd.at_int (rowC HR.out) (k : Int) (by omega) (by omega)
          cases e2
          rw [Int.toNat_natCast, add_plain] at hx2
          obtain ⟨csq, hcsq⟩ := Kd.R_typed HR.out bq rfl
          have f2 := blk_frozen hcsq k
          obtain ⟨p, hp⟩ : ∃ p, i + k = p := ⟨_, rfl⟩
          obtain ⟨x, hxx⟩ : ∃ x, p % 256 = x := ⟨_, rfl⟩
          have v1 : IntKind.i64.wrap ((i : Int) + (k : Int)) = (p : Int) := by rw [IntKind.wrap_i64]; omega
          have v2 : IntKind.u8.wrap (p : Int) = (x : Int) := by simp [IntKind.wrap, IntKind.bits, IntKind.signed]; omega
          have v3 : (p : Int) % 256 = (x : Int) := by omega
          have HST := Aside0.mk (show (mkR i q k).set k (x : Int) = mkR i q (k + 1) by rw [← mkR_set, hp, v3])
          have HKL := Aside0.mk hk
          clear hp hxx hk hcsq
          go_wp2
          go_roundg (gk - 1)
          case measure => have := HK.out; omega
          case rel => exact ⟨k + 1, by first | rfl | go_num, ⟨by have := HKL.out; omega, by have := HK.out; omega⟩, ⟨below_set HBR.out (by rw [HBQ.out]; exact Nat.le_refl _)⟩, ⟨by
            have h := (Kd.R_putg (enc := Value.int .u8) (h1 := fun _ => rfl) (g := bq) (n := q) (cap := q) HR.out (k : Int) (x : Int)).1
            rw [Int.toNat_natCast, HST.out] at h
            exact h⟩⟩
        · have s1 : decide ((k : Int) < (q : Int)) = false := decide_eq_false (by omega)
          have s2 : decide (k < q) = false := decide_eq_false hk
          have s3 : ¬ (k : Int) < (q : Int) := by omega
          obtain rfl : k = q := by have := HK.out; omega
          obtain ⟨p1, hp1⟩ : ∃ p1, 4 + k = p1 := ⟨_, rfl⟩
          obtain ⟨p2, hp2⟩ : ∃ p2, p1 + 109 = p2 := ⟨_, rfl⟩
          obtain ⟨ch, hch⟩ : ∃ ch, chN (4 + k) = ch := ⟨_, rfl⟩
          have hch2 : p2 / 110 = ch := by rw [← hch]; unfold chN; rw [← hp2, ← hp1]
          have v1 : IntKind.i64.wrap (4 + (k : Int)) = (p1 : Int) := by rw [IntKind.wrap_i64]; omega
          have v2 : IntKind.i64.wrap ((p1 : Int) + 109) = (p2 : Int) := by rw [IntKind.wrap_i64]; omega
          have v3 : Int.tdiv (p2 : Int) 110 = (ch : Int) := by rw [← hch2]; rfl
          have v4 : IntKind.i64.wrap (ch : Int) = (ch : Int) := by rw [IntKind.wrap_i64]; omega
          obtain ⟨us, hus⟩ : ∃ us, sumS recs = us := ⟨_, rfl⟩
          obtain ⟨rm, hrm⟩ : ∃ rm, n - us = rm := ⟨_, rfl⟩
          have husl : us ≤ n := by rw [← hus]; exact HLD.out.log.fit
          have HRX := Aside0.mk (show RowX _ ((some ⟨bq, 0, none⟩, k, k) : Rx) (mkR i k k) from ⟨(mkR_len i k k).symm, Nat.le_refl _, R_rowK HR.out⟩)
          have n0 := Aside0.mk (HA.out.below HBR.out)
          have n1 := Aside0.mk (HS.out.step HBR.out)
          have n2 := Aside0.mk (HX.out.step HBR.out)
          have HSU := Aside0.mk hus
          have HRW := Aside0.mk (rowC HR.out)
          have HNM := Aside0.mk (show nb ≤ 1000000 ∧ m ≤ 800000 ∧ n ≤ 1000 by have := HNB.out; have := HNL.out; have := HI.out; omega)
          have HSN := Aside0.mk (show sumS (recs ++ [mkR i k k]) = us + ch by rw [sumS_snoc, mkR_len, hus, hch])
          have hch9 : ch ≤ 9 := by omega
          have HCH9 := Aside0.mk hch9
          have hnn := HNL.out
          clear HA HS HX HBR HR
          have HA := n0
          have HS := n1
          have HX := n2
          clear n0 n1 n2
          by_cases hfit : us + ch ≤ n
          · obtain ⟨rm2, hrm2⟩ : ∃ rm2, n - (us + ch) = rm2 := ⟨_, rfl⟩
            have v5 : IntKind.i64.wrap ((rm : Int) - (ch : Int)) = (rm2 : Int) := by rw [IntKind.wrap_i64]; omega
            have u1 : decide ((ch : Int) ≤ (rm : Int)) = true := decide_eq_true (by omega)
            have u2 : decide (ch ≤ rm) = true := decide_eq_true (by omega)
            have HAP := Aside0.mk (append_l w _ nb m ok gd gl D n 2 recs (some ⟨bq, 0, none⟩) k k (mkR i k k) HA.out HS.out HLD.out HNM.out.2.2 (by decide) HNM.out.1 (by have := HNM.out; omega) HRW.out (mkR_wf i k k) (Nat.le_refl _) (by omega) (by rw [hus, hch]; exact hfit))
            have HRM2 := Aside0.mk hrm2
            have HFT := Aside0.mk hfit
            rw [hch] at HAP
            rw [hus, hrm]
            clear hp1 hp2 hch hch2 hus hrm hfit hrm2 husl hk hch9 HRW hnn
            go_wp2_with (first | (go_at_call 13; (refine HAP.out.mono ?_); rintro e w10 ⟨rfl, ha, hld, hs, hf⟩; have m0 := Aside0.mk ha; have m1 := Aside0.mk hld; have m2 := Aside0.mk hs; have m3 := Aside0.mk (HX.out.fr HS.out hf); have m4 := Aside0.mk (HRX.out.move (keepU_fr hf)); clear HA HLD HS HX HRX HAP ha hld hs hf; have HA := m0; have HLD := m1; have HS := m2; have HX := m3; have HRX := m4; clear m0 m1 m2 m3 m4) | ((with_reducible refine gate_builtin (b := .append) (xs := #[.tmp 119, .tmp 121]) rfl ?_); at_builtin; refine Kd.R_append kQ (w0 := w) w.heap.size rfl (.tmp 119) (.tmp 121) 31 35 (.slice none 0 0) 24 rfl Tryd.underlying31 infoB rfl (by decide) (by omega) u12 xs ((some ⟨bq, 0, none⟩, k, k) : Rx) [.slice (some ⟨bq, 0, none⟩) k k] (fun k => ¬ ok k ∨ w10.heap.size ≤ k) (fun _ => False) rfl (by first | (go_simp; done) | (go_simp; rfl)) ?aP (fun _ hk => hk.elim) ?aF ?aO ?aB ?aS ?aL ?_; (case aP => exact rfl); (case aB => exact HS.out.below); (case aF => exact fun _ hk => .inr hk); (case aO => exact Kd.R_mono HX.out.row (fun _ hk => .inl hk)); (case aS => exact HS.out.below.size); (case aL => have h1 := HX.out.each.1; have h2 := HI.out; omega); intro vw w11 ho hb hg hat; obtain ⟨okC, hk1, ha, hs, hx⟩ := want_step HX.out HS.out HA.out ho hg hb HRX.out; clear HA HS HX HRX ho hb hg hat hk1; have HA := Aside0.mk ha; have HS := Aside0.mk hs; have HX := Aside0.mk hx; clear ha hs hx) | (go_at_call 12; (refine (Room _ gl gd n 2 _ HA.out.box (by have := HNL.out; omega) (by rw [HSN.out]; exact HFT.out)).mono ?_); rintro e w12 ⟨rfl, hdd⟩; have hd := hdd.below; rw [HSN.out, HRM2.out]; have m0 := Aside0.mk (HA.out.below hd); have n0 := Aside0.mk (HS.out.step hd); have n1 := Aside0.mk (HX.out.step hd); clear HA HS HX hd hdd; have HA := m0; have HS := n0; have HX := n1; clear m0 n0 n1))
            go_roundg (gk0 - 1)
            case measure => have := HI.out; omega
            case rel => exact ⟨i + 1, m + ch, _, recs ++ [mkR i k k], _, _, by first | rfl | go_num, by rw [HSN.out, HRM2.out], ⟨by have := HLT.out; omega, by have := HI.out; omega, by have := HI.out; have := HCH9.out; omega, by rw [List.length_append]; have := HI.out; show recs.length + 1 ≤ _; omega⟩, HA, HLD, HS, HX⟩
          · have u1 : decide ((ch : Int) ≤ (rm : Int)) = false := decide_eq_false (by omega)
            have u2 : decide (ch ≤ rm) = false := decide_eq_false (by omega)
            have HAP := Aside0.mk (Append_full ok gd gl D n 2 us (some ⟨bq, 0, none⟩) k k (mkR i k k) _ (by rw [← hus]; exact HA.out) HNM.out.2.2 husl HRW.out (Nat.le_refl _) (by omega) (by rw [hch]; omega))
            have HRM := Aside0.mk hrm
            have HUN := Aside0.mk husl
            rw [hus, hrm]
            clear hp1 hp2 hch hch2 hus hrm hfit husl hk hch9 HRW hnn HRX
            go_wp2_with (first | (go_at_call 13; (refine HAP.out.mono ?_); rintro e w10 ⟨rfl, hd⟩; have m0 := Aside0.mk (HA.out.below hd); have m2 := Aside0.mk (HS.out.step hd); have m3 := Aside0.mk (HX.out.step hd); clear HA HS HX HAP hd; have HA := m0; have HS := m2; have HX := m3; clear m0 m2 m3) | (go_at_call 12; (refine (Room _ gl gd n 2 _ HA.out.box (by have := HNL.out; omega) (by rw [HSU.out]; exact HUN.out)).mono ?_); rintro e w12 ⟨rfl, hdd⟩; have hd := hdd.below; rw [HSU.out, HRM.out]; have m0 := Aside0.mk (HA.out.below hd); have n0 := Aside0.mk (HS.out.step hd); have n1 := Aside0.mk (HX.out.step hd); clear HA HS HX hd hdd; have HA := m0; have HS := n0; have HX := n1; clear m0 n0 n1))
            go_roundg (gk0 - 1)
            case measure => have := HI.out; omega
            case rel => exact ⟨i + 1, m, _, recs, _, _, by first | rfl | go_num, by rw [HSU.out, HRM.out], ⟨by have := HLT.out; omega, by have := HI.out; omega, by have := HI.out; omega, by have := HI.out; omega⟩, HA, HLD, HS, HX⟩
    · have t1 : decide ((i : Int) < (n1 : Int)) = false := decide_eq_false (by omega)
      have t2 : decide (i < n1) = false := decide_eq_false hlt
      have t3 : ¬ (i : Int) < (n1 : Int) := by omega
      have HNM := Aside0.mk (show nb ≤ 1000000 ∧ m ≤ 800000 ∧ n ≤ 1000 by have := HNB.out; have := HNL.out; have := HI.out; omega)
      have HOP := Aside0.mk (open_l GA w wr0 nb m ok gd D n 2 recs HA.out.dev HS.out HLD.out (by have := HNL.out; omega) HNM.out.2.2 HNM.out.1 HNM.out.2.1 (Glob.below HG.out HS.out.below) (by decide))
      have HRW := Aside0.mk (show (∀ r, r ∈ recs → wfb r) ∧ recs.length ≤ 1000000 from ⟨fun r hr => (HLD.out.log.good r hr).1, by have := HI.out; omega⟩)
      have hmk := mkN 65537 (by decide)
      have hml : ((65537 : Nat) : Int) = 65537 := rfl
      rw [hml] at hmk
      obtain ⟨zz, hzz⟩ : ∃ zz, (nums .u8 (List.replicate 65537 0)).toArray = zz := ⟨_, rfl⟩
      rw [hzz] at hmk
      clear hzz hml hlt
      obtain ⟨xl, hxl⟩ : ∃ xl, xs.length = xl := ⟨_, rfl⟩
      obtain ⟨Aw, cw, hvw, hcw, hCw⟩ := HX.out.C
      have HXW := Aside0.mk (And.intro hvw hcw)
      obtain ⟨rl, hrl⟩ : ∃ rl, recs.length = rl := ⟨_, rfl⟩
      rw [hrl] at hvw HOP
      subst hvw
      clear hxl hcw hCw HXW
      have HRL := Aside0.mk hrl
      clear hrl
      go_wp2_with (first | (go_at_call 11; (refine HOP.out.mono ?_); rintro e w5 ⟨gl2, A5, c5, xs5, ok2, rfl, ha, hld, hs, hok, hf, hx⟩; have HX5 := Aside0.mk hx; have n1 := Aside0.mk (HX.out.fr HS.out hf); have n2 := Aside0.mk hs; clear HA HLD HS HX HOP ha hld hs hok hf hx; have HX := n1; have HS := n2; clear n1 n2) | (go_at_call 14; (refine (same_ _ _ _ _ _ _ recs recs _ (by have h := HX5.out.C; obtain ⟨Au, cu, e1, _, h2⟩ := h; rw [HRL.out] at e1 h2; cases e1; exact h2) (by have h := HX.out.C; obtain ⟨Au, cu, e1, _, h2⟩ := h; rw [HRL.out] at e1 h2; cases e1; exact h2) HRW.out.1 HRW.out.1 (by have := HRW.out.2; have := HRL.out; omega)).mono ?_); rintro e w6 ⟨he, hb⟩; rw [decide_eq_true rfl] at he; subst he; have n2 := Aside0.mk (HS.out.step hb); clear HS hb HX HX5; have HS := n2; clear n2) | (go_at_call 13; (refine (Append_long gl _ 65537 65537 _ (by decide)).mono ?_); rintro e wz ⟨rfl, hww⟩; subst hww))
      go_ret
      exact ⟨rfl, below_alloc HS.out.below _⟩
end Go.Proofs.YtokmildjniploaaDoor.PLog
