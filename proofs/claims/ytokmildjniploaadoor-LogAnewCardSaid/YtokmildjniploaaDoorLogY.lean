/- LogAnew: what was made anew is all that there is: the walk. Conditions: none. -/
import Derived.Test.YtokmildjniploaaDoorLogX
namespace Go.Proofs.YtokmildjniploaaDoor.PLog
open Go.RowKit Go.Proofs.YtokmildjniploaaDoorW.PrintWords Go.Proofs.YtokmildjniploaaDoorW.PrintLast Go.Proofs.YtokmildjniploaaDoorW.PrintMore Go.Proofs.YtokmildjniploaaDoor.BGLog Go.Proofs.YtokmildjniploaaDoor.MStr
open Go.Extern.Stop Go.Stop Go.Extern
attribute [local go_sem] max2_int min2_int max_two min_two   -- for this text's walks alone
set_option linter.unusedVariables false
set_option linter.unusedSimpArgs false
set_option maxHeartbeats 32000000 in
set_option maxRecDepth 100000 in
theorem anew_walk (GA : Nat → Addr) (A0 : Option Addr) (n0 c0 : Nat) (l : List (List Int)) (nn more : Nat) (w : World) (hG : Glob GA w) (hC : Kd.C (Kd.slice 5 (Kd.int .u8)) w A0 n0 l) (hc : n0 ≤ c0) (hl : ∀ r, r ∈ l → wfb r) (hnn : nn < 256) (hmore : more < 256) :
    Calls Tryd.prog 5 #[.slice A0 n0 c0, .int .u8 (nn : Int), .int .u8 (more : Int)] w fun e w' => e = .returned (.bool true) ∧ Below w.heap.size w w' := by
  have hln : l.length = n0 := hC.1
  have HG := Aside0.mk hG
  have HC := Aside0.mk hC
  have HLW := Aside0.mk hl
  have HLN := Aside0.mk hln
  have HC0 := Aside0.mk hc
  by_cases h8 : 8 < n0
  · have d1 : decide ((8 : Int) < (n0 : Int)) = true := decide_eq_true (by omega)
    have d2 : decide (8 < n0) = true := decide_eq_true h8
    clear hG hC hl hln h8 hc hnn hmore
    go_enter Tryd.func5, Tryd.ntmps5
    go_wp2_with (go_at_call 7; (refine (begun GA _ HG.out).mono ?_); rintro e w1 ⟨rfl, hb⟩; have HB := Aside0.mk hb; clear hb)
    go_ret
    exact ⟨rfl, HB.out⟩
  have d1 : decide ((8 : Int) < (n0 : Int)) = false := decide_eq_false (by omega)
  have d2 : decide (8 < n0) = false := decide_eq_false h8
  have HN8 := Aside0.mk (show n0 ≤ 8 by omega)
  have HMW := Aside0.mk hmore
  obtain ⟨r4, hr4⟩ : ∃ r4, nn % 4 = r4 := ⟨_, rfl⟩
  have hr1 : (nn : Int).tmod 4 = (r4 : Int) := by rw [← hr4]; rfl
  have hrl : r4 < 4 := by omega
  have q1 : IntKind.u8.wrap (r4 : Int) = (r4 : Int) := by simp [IntKind.wrap, IntKind.bits, IntKind.signed]; omega
  have q1' : (r4 : Int) % 256 = (r4 : Int) := by omega
  have q2 : IntKind.i64.wrap (r4 : Int) = (r4 : Int) := by rw [IntKind.wrap_i64]; omega
  have HR4 := Aside0.mk hrl
  have hmy : mayB (newD 82) 40 = true := decide_eq_true ⟨by omega, by omega, by show (2 : Int) + 2 * 40 ≤ ((List.replicate 82 z128).length : Int); rw [List.length_replicate]; omega⟩
  have HMK := Aside0.mk (fun W gd (hd : DevAt W (fun k => w.heap.size ≤ k) gd (newD 82)) (hb : Below w.heap.size w W) => show Calls Tryd.prog 10 #[.pointer (some ⟨gd, 0, none⟩), .int .i64 40, .slice none 0 0] W _ from Make_ 82 0 (fun k => w.heap.size ≤ k) gd (newD 82) 40 none 0 [] W hd (fun k hk => Nat.le_trans hb.size hk) hmy (by omega) (by decide) (good_new 82) (fun w' _ => Kd.C_nil _ _) (Nat.le_refl _) (fun r hr => absurd hr List.not_mem_nil) (by decide) (Nat.zero_le _))
  have HSZ := Aside0.mk (fun W => show Calls Tryd.prog 9 #[.int .i64 40] W (fun e w' => e = .returned (.int .i64 82) ∧ Drawn0 W w') from SizeN 40 (by omega) W)
  have HNW := Aside0.mk (fun W => show Calls Tryd.prog 8 #[.int .i64 82] W _ from New 82 W (by omega) (by omega))
  clear hG hC hl hln h8 hc hnn hmore hr4 hrl hmy
  go_enter Tryd.func5, Tryd.ntmps5
  go_upto_region 8 with (first | (go_at_call 7; (refine (begun GA _ HG.out).mono ?_); rintro e w1 ⟨rfl, hb⟩; have HB := Aside0.mk hb; clear hb) | (go_at_call 17; (refine (rabbetlaw21_light.calls 10 (some ⟨w1.heap.size, 0, none⟩) 1 [z46] true _ (deed_lit w1) (Nat.le_refl _) light_one).mono ?_); rintro e w1a ⟨rfl, hdd⟩; have n0 := Aside0.mk (below_step (below_step HB.out (below_alloc (Below.refl _ _) _)) hdd.below); clear HB hdd; have HB := n0; clear n0) | (go_at_call 9; (refine (HSZ.out _).mono ?_); rintro e w1b ⟨rfl, hdd⟩; have n0 := Aside0.mk (below_step HB.out hdd.below); clear HB hdd; have HB := n0; clear n0) | (go_at_call 8; (refine (HNW.out _).mono ?_); rintro e w2 ⟨gd, rfl, hd, hb⟩; have HD := Aside0.mk (hd.mono (fun k hk => show w.heap.size ≤ k from Nat.le_trans HB.out.size hk)); have n0 := Aside0.mk (below_step HB.out hb); clear HB hd hb; have HB := n0; clear n0) | (go_at_call 10; (with_reducible refine (HMK.out _ _ HD.out HB.out).mono ?_); rintro e w4 ⟨rfl, hd, hf⟩; have n1 := Aside0.mk hd; have n0 := Aside0.mk (hf.below HB.out HB.out.size (fun k hk => hk)); clear HD HB hd hf; have HB := n0; have HD := n1; clear n0 n1))
  have HLD := Aside0.mk (logD_first (nb := 82) (area := 40) (recs := []) (by decide) (Nat.zero_le _) (fun r hr => absurd hr List.not_mem_nil))
  have HOP := Aside0.mk (show Calls Tryd.prog 11 #[.pointer (some ⟨gd, 0, none⟩), .int .i64 40] w4 _ from open_l GA w w4 82 (40 + sumS [] + 1) (fun k => w.heap.size ≤ k) gd (anewD 40 1 (newD 82) []) 40 1 [] HD.out ⟨fun k hk => hk, fun k hk => Nat.le_trans HB.out.size hk, HB.out⟩ HLD.out (by decide) (by decide) (by decide) (by decide) (Glob.below HG.out HB.out) (by decide))
  go_upto_region 12 with (go_at_call 11; (refine HOP.out.mono ?_); rintro e w5 ⟨gl, A5, c5, xs5, ok, rfl, ha, hld, hs, hok, hf, hx⟩; have HA := Aside0.mk (show LogAt w5 ok gd gl (anewD 40 2 (anewD 40 1 (newD 82) []) []) 40 2 (sumS []) from ha); have n1 := Aside0.mk (show LogD 82 _ (anewD 40 2 (anewD 40 1 (newD 82) []) []) 40 2 [] from hld); have HS := Aside0.mk hs; clear HLD HD HB ha hld hs hok hf hx HOP HMK HSZ HNW; have HLD := n1; clear n1)
  generalize anewD 40 2 (anewD 40 1 (newD 82) []) [] = D2 at HLD HA
  have n1 := Aside0.mk (show LogD 82 1000 D2 40 2 [] from HLD.out.le (by decide))
  clear HLD
  have HLD := n1
  clear n1
  go_loopg [12] (n0 + 1) (fun kq v12 w6 => ∃ i : Nat, v12 = .int .i64 (i : Int) ∧ Aside0 (i ≤ n0 ∧ n0 < kq + i) ∧ Aside0 (∀ j r, j < i → l[j]? = some r → r.length ≤ 300) ∧ w6 = w5)
  case atStart => exact ⟨0, rfl, ⟨by omega, by omega⟩, ⟨fun j r h => absurd h (Nat.not_lt_zero _)⟩, rfl⟩
  case round =>
    obtain ⟨i, rfl, HI, H3, rfl⟩ := hrel
    have hn8 := HN8.out
    by_cases hlt : i < n0
    · have t1 : decide ((i : Int) < (n0 : Int)) = true := decide_eq_true (by omega)
      have t2 : decide (i < n0) = true := decide_eq_true hlt
      have t3 : (i : Int) < (n0 : Int) := by omega
      have t4 : (0 : Int) ≤ (i : Int) := by omega
      have hwi : IntKind.i64.wrap ((i : Int) + 1) = ((i + 1 : Nat) : Int) := by rw [IntKind.wrap_i64]; omega
      have hil : i < l.length := by have := HLN.out; omega
      obtain ⟨ad, Ax, cx, eA, hx, hcx, hCx⟩ := at_rows (Kd.C_below HC.out HS.out.below) i hlt _ (List.getElem?_eq_getElem hil)
      cases eA
      obtain ⟨nx, hnx⟩ : ∃ nx, l[i].length = nx := ⟨_, rfl⟩
      rw [hnx] at hx
      have HLT := Aside0.mk hlt
      by_cases h3 : 300 < nx
      · have u1 : decide ((300 : Int) < (nx : Int)) = true := decide_eq_true (by omega)
        have u2 : decide (300 < nx) = true := decide_eq_true h3
        clear hlt hil hcx hCx hnx h3
        go_wp2
        go_ret
        exact ⟨rfl, HS.out.below⟩
      · have u1 : decide ((300 : Int) < (nx : Int)) = false := decide_eq_false (by omega)
        have u2 : decide (300 < nx) = false := decide_eq_false h3
        have H3N := Aside0.mk (show ∀ j r, j < i + 1 → l[j]? = some r → r.length ≤ 300 from fun j r hj hr => by
          rcases Nat.lt_or_ge j i with c | c
          · exact H3.out j r c hr
          · obtain rfl : j = i := by omega
            rw [List.getElem?_eq_getElem hil] at hr
            obtain rfl := Option.some.inj hr
            omega)
        clear hlt hil hcx hCx hnx h3
        go_wp2
        go_roundg (gk - 1)
        case measure => have := HI.out; omega
        case rel => exact ⟨i + 1, by first | rfl | go_num, ⟨by have := HLT.out; omega, by have := HI.out; omega⟩, H3N, rfl⟩
    · have t1 : decide ((i : Int) < (n0 : Int)) = false := decide_eq_false (by omega)
      have t2 : decide (i < n0) = false := decide_eq_false hlt
      have t3 : ¬ (i : Int) < (n0 : Int) := by omega
      have HA3 := Aside0.mk (show ∀ r, r ∈ l → r.length ≤ 300 from fun r hr => by
        obtain ⟨j, hj, rfl⟩ := List.getElem_of_mem hr
        exact H3.out j _ (by have := HLN.out; have := HI.out; omega) (List.getElem?_eq_getElem hj))
      obtain ⟨xl, hxl, hel⟩ := rows_shallow HC.out
      have HXL := Aside0.mk (And.intro hxl hel)
      clear hlt H3 HI hxl hel hn8
      go_upto_region 17 with (fail)
      generalize wr = w5 at *
      go_loopg [9, 13] 5 (fun kq v9 v13 w6 => ∃ (i gl G m : Nat) (D : Dat) (recs : List (List Int)) (ok : Nat → Prop), v13 = .int .i64 (i : Int) ∧ v9 = .pointer (some ⟨gl, 0, none⟩) ∧ Aside0 (i ≤ r4 + 1 ∧ r4 < kq + i ∧ G = 2 + 2 * i ∧ m ≤ 1000 + 200 * i) ∧ Aside0 (LogAt w6 ok gd gl D 40 G (sumS recs)) ∧ Aside0 (LogD 82 m D 40 G recs) ∧ Aside0 (Lst w w6 ok))
      case atStart => exact ⟨0, gl, 2, 1000, D2, [], ok, rfl, rfl, ⟨by omega, by have := HR4.out; omega, by omega, by omega⟩, HA, HLD, HS⟩
      case round =>
        clear HA HLD HS
        obtain ⟨i, gl, G, m, D, recs, ok, rfl, rfl, HI, HA, HLD, HS⟩ := hrel
        have hr4 := HR4.out
        by_cases hlt : i ≤ r4
        · have t1 : decide ((i : Int) ≤ (r4 : Int)) = true := decide_eq_true (by omega)
          have t2 : decide (i ≤ r4) = true := decide_eq_true hlt
          have t3 : (i : Int) ≤ (r4 : Int) := by omega
          have hwi : IntKind.i64.wrap ((i : Int) + 1) = ((i + 1 : Nat) : Int) := by rw [IntKind.wrap_i64]; omega
          obtain ⟨k, hk⟩ : ∃ k, min i n0 = k := ⟨_, rfl⟩
          have hmi : (if (n0 : Int) < (i : Int) then (n0 : Int) else (i : Int)) = (k : Int) := by split <;> omega
          have hmi2 : (if n0 < i then (n0 : Int) else (i : Int)) = (k : Int) := by split <;> omega
          have hkn : k ≤ n0 := by omega
          obtain ⟨nk, hnk⟩ : ∃ nk, n0 - k = nk := ⟨_, rfl⟩
          obtain ⟨Ak, hAk⟩ : ∃ Ak, (if c0 = k then A0 else A0.map (·.add (k * 1))) = Ak := ⟨_, rfl⟩
          obtain ⟨ck, hck⟩ : ∃ ck, c0 - k = ck := ⟨_, rfl⟩
          have hcut := cutRows A0 n0 c0 k hkn
          rw [hnk, hAk, hck] at hcut
          have hlk : (l.drop k).length = nk := by rw [List.length_drop, HLN.out, hnk]
          have hkc : nk ≤ ck := by have := HC0.out; omega
          have HCK := Aside0.mk (show ∀ W, Below w.heap.size w W → Kd.C (Kd.slice 5 (Kd.int .u8)) W Ak nk (l.drop k) from fun W hb => by
            have h := Kd.C_drop (m := k) (c := c0) (show Kd.C (Kd.slice 5 (Kd.int .u8)) W A0 l.length l by rw [HLN.out]; exact Kd.C_below HC.out hb) (by rw [HLN.out]; exact hkn) (by rw [HLN.out]; exact HC0.out)
            rw [hlk] at h
            rw [← hAk]
            exact h)
          have HXK := Aside0.mk (show ∀ W, Below w.heap.size w W → Kd.C kQ W Ak nk (xl.drop k) ∧ Each (RowC W) (xl.drop k) (l.drop k) from fun W hb => by
            have hxl : xl.length = n0 := HXL.out.1.1
            have h := Kd.C_drop (m := k) (c := c0) (show Kd.C kQ W A0 xl.length xl by rw [hxl]; exact Kd.C_below HXL.out.1 hb) (by rw [hxl]; exact hkn) (by rw [hxl]; exact HC0.out)
            rw [show (xl.drop k).length = nk by rw [List.length_drop, hxl, hnk]] at h
            rw [← hAk]
            exact ⟨h, each_drop (HXL.out.2.imp (fun x y h => h.below hb)) k⟩)
          have HRK := Aside0.mk (show Recs (l.drop k) from fun r hr => ⟨HLW.out r (List.mem_of_mem_drop hr), Nat.le_trans (HA3.out r (List.mem_of_mem_drop hr)) (by decide)⟩)
          have HSK := Aside0.mk (show sumS (l.drop k) ≤ 24 from by
            have h := sum300 (l.drop k) (fun r hr => HA3.out r (List.mem_of_mem_drop hr))
            rw [hlk] at h
            have := HN8.out
            omega)
          have HLK := Aside0.mk hlk
          have HNK := Aside0.mk (show nk ≤ 8 by have := HN8.out; omega)
          obtain ⟨g1, hg1⟩ : ∃ g1, G + 1 = g1 := ⟨_, rfl⟩
          obtain ⟨g2, hg2⟩ : ∃ g2, G + 2 = g2 := ⟨_, rfl⟩
          have hGl : G ≤ 10 := by have := HI.out; omega
          have x1 : IntKind.u32.wrap ((G : Int) + 1) = (g1 : Int) := by rw [u32_wrap]; omega
          have x2 : IntKind.u32.wrap ((G : Int) + 2) = (g2 : Int) := by rw [u32_wrap]; omega
          have x3 : ((G : Int) + 1) % 4294967296 = (g1 : Int) := by omega
          have x4 : ((G : Int) + 2) % 4294967296 = (g2 : Int) := by omega
          have HGM := Aside0.mk (show G < mark ∧ G + 1 < mark by unfold mark; omega)
          have HML := Aside0.mk (show m ≤ 10000 by have := HI.out; omega)
          have HGG := Aside0.mk (show g1 ≤ 11 by omega)
          have HAN := Aside0.mk (Anew_gen 82 m ok gd gl D 40 G (sumS recs) Ak ck (l.drop k) wr HA.out HS.out.hi (by decide) (by omega) (by decide) (by have := HML.out; omega) HLD.out.good (fun w' hf => by rw [hlk]; exact HCK.out w' (HS.out.fr hf).below) (by rw [hlk]; exact hkc) (fun r hr => (HRK.out r hr).2) (by have := HNK.out; rw [hlk]; omega))
          rw [hlk, hg1] at HAN
          have HLD1 := Aside0.mk (HLD.out.anew HGM.out.1 (recs2 := l.drop k) (by have := HSK.out; omega) HRK.out)
          rw [hg1] at HLD1
          have HG12 := Aside0.mk (And.intro hg1 hg2)
          have HLT := Aside0.mk hlt
          generalize hD1 : anewD 40 g1 D (l.drop k) = D1 at HAN HLD1
          have HAPP := Aside0.mk (fun W (ha : LogAt W ok gd gl D1 40 g1 (sumS (l.drop k))) (hs : Lst w W ok) => show Calls Tryd.prog 13 #[.pointer (some ⟨gl, 0, none⟩), .slice (some ⟨W.heap.size, 0, none⟩) 1 1] (W.alloc (.cells #[.int .u8 (more : Int)] 5)) _ from append_l w (W.alloc (.cells #[.int .u8 (more : Int)] 5)) 82 (m + 40 + sumS (l.drop k) + 1) ok gd gl D1 40 g1 (l.drop k) (some ⟨W.heap.size, 0, none⟩) 1 1 [(more : Int)] (ha.below (below_alloc (Below.refl _ _) _)) (hs.step (below_alloc (Below.refl _ _) _)) HLD1.out (by decide) (by have := HGG.out; omega) (by decide) (by have := HSK.out; have := HML.out; omega) (show Kd.C (Kd.int .u8) _ _ 1 [(more : Int)] from rowC (lit_row W [(more : Int)] (by show 1 ≤ 1000000; decide))) (fun x hx => by rw [List.mem_singleton.1 hx]; have := HMW.out; omega) (Nat.le_refl _) (by decide) (by have := HSK.out; show sumS (l.drop k) + 1 ≤ 40; omega))
          clear hlt hk hkn hnk hAk hck hlk hkc hg1 hg2 hGl hD1
          go_upto_region 21 with (go_at_call 16; (refine (Gen _ gl gd 40 G _ HA.out.box).mono ?_); rintro e wz ⟨rfl, hww⟩; subst hww)
          go_upto_region 23 with (first | (go_at_call 15; (refine HAN.out.mono ?_); rintro e w7 ⟨hh, hf⟩; rcases hh with ⟨hlt, _⟩ | ⟨_, he, hla⟩; exact absurd HSK.out (by omega); subst he; have n0 := Aside0.mk hla; have n1 := Aside0.mk (HS.out.fr hf); clear HA HS HLD hla hf HAN; have HA := n0; have HS := n1; clear n0 n1) | (go_at_call 16; (refine (Gen _ gl gd 40 g1 _ HA.out.box).mono ?_); rintro e wz ⟨rfl, hww⟩; subst hww) | (go_at_call 13; (refine (HAPP.out w7 HA.out HS.out).mono ?_); rintro e w8 ⟨rfl, ha, hld, hs, hf⟩; clear HA HS HLD1 HAPP; have HA := Aside0.mk ha; have HLD := Aside0.mk hld; have HS := Aside0.mk hs; clear ha hld hs hf))
          have hg12 : g1 + 1 = g2 := by have := HG12.out; omega
          obtain ⟨nl, hnl⟩ : ∃ nl, (l.drop k ++ [[(more : Int)]]).length = nl := ⟨_, rfl⟩
          have hnl2 : nl = nk + 1 := by rw [← hnl, List.length_append, HLK.out]; rfl
          have HM3 := Aside0.mk (show m + 40 + sumS (l.drop k) + 1 + chN (4 + 1) + 40 + sumS (l.drop k ++ [[(more : Int)]]) + 1 ≤ m + 200 ∧ m + 40 + sumS (l.drop k) + 1 + chN (4 + 1) ≤ 800000 from by
            have h1 := HSK.out
            have h2 := sumS_snoc (l.drop k) [(more : Int)]
            have h3 : chN (4 + [(more : Int)].length) = 1 := by rw [List.length_singleton]; decide
            have h4 : chN (4 + 1) = 1 := by decide
            have := HML.out
            omega)
          have HOP := Aside0.mk (open_l GA w w8 82 _ ok gd _ 40 g1 (l.drop k ++ [[(more : Int)]]) HA.out.dev HS.out HLD.out (by decide) (by decide) (by decide) HM3.out.2 (Glob.below HG.out HS.out.below) (by have := HGG.out; omega))
          rw [hg12, hnl] at HOP
          have HNL := Aside0.mk (And.intro hnl hnl2)
          have HRE := Aside0.mk (show ∀ r, r ∈ l.drop k ++ [[(more : Int)]] → wfb r from fun r hr => (HLD.out.log.good r hr).1)
          generalize (putD 40 g1 (sumS (l.drop k)) D1 [(more : Int)]).flush = D3 at HOP HLD HA
          generalize hD4 : anewD 40 g2 D3 (l.drop k ++ [[(more : Int)]]) = D4 at HOP
          clear hD4 hg12 hnl hnl2
          go_upto_region 24 with (go_at_call 11; (refine HOP.out.mono ?_); rintro e w9 ⟨gl2, A9, c9, xs9, ok2, rfl, ha, hld, hs, hok, hf, hx⟩; clear HA HLD HS HOP; have HA := Aside0.mk ha; have HLD := Aside0.mk (hld.le HM3.out.1); have HS := Aside0.mk hs; have HX := Aside0.mk hx; clear ha hld hs hok hf hx)
          go_wp2_with (first
            | (go_at_call 16; (refine (Gen _ gl2 gd 40 g2 _ HA.out.box).mono ?_); rintro e wz ⟨rfl, hww⟩; subst hww)
            | ((with_reducible refine gate_dst (N := 120) rfl ?_); (try (refine gate_guard (by rfl) ?_; dsimp only)); refine Kd.R_lit kQ w9.heap.size 35 ?hg (N := 120) ?hd (w0 := w9) (xs := ([] : List Rx)) (inner := []) (ok := fun _ => True) (okp := fun _ => True) ?hr ?hp (fun _ hk => hk) trivial (Below.refl _ _) (Nat.le_refl _) (by simp) ?_; (case hd => rfl); (case hg => rfl); (case hr => first | (go_simp; done) | (go_simp; rfl)); (case hp => exact (Reps.none _ _)); intro v1 wq1 ho hb hg_ hnew_; clear hg_ hnew_; have HO1 := Aside0.mk ho; have HB1 := Aside0.mk hb; clear ho hb)
            | ((with_reducible refine gate_builtin (b := .append) (xs := #[.tmp 120, .tmp 123]) rfl ?_); (try (refine gate_guard (by rfl) ?_; dsimp only)); at_builtin; refine Kd.R_append_rows kQ (w0 := w9) w9.heap.size rfl (.tmp 120) (.tmp 123) 31 35 (.slice none 0 0) 24 rfl Tryd.underlying31 infoB rfl (by decide) (by omega) v1 ([] : List Rx) (xl.drop k) _ _ _ (fun _ => True) (fun _ => some 0 ≠ v1.ownBlock ∧ False) rfl rfl ?aO ?aR (fun _ _ h => h) (fun _ h => h.2.elim) ?aF ?aB ?aS ?aL ?_; (case aR => exact (HXK.out _ (below_step HS.out.below HB1.out)).1); (case aB => exact HB1.out); (case aF => exact fun _ _ => trivial); (case aO => exact HO1.out); (case aS => exact HB1.out.size); (case aL => have := HNK.out; simp only [List.length_nil]; omega); intro v2 wq2 ho hb hg hat; have HO2 := Aside0.mk ho; have HB2 := Aside0.mk hb; clear ho hb hg hat)
            | ((with_reducible refine gate_builtin (b := .append) (xs := #[.tmp 124, .tmp 127]) rfl ?_); go_loud ((try (refine gate_guard (by rfl) ?_; dsimp only)); at_builtin; refine Kd.R_append kQ (w0 := w9) (W := wq2.alloc (.cells #[.int .u8 (more : Int)] 5)) w9.heap.size rfl (.tmp 124) (.tmp 127) 31 35 (.slice none 0 0) 24 rfl Tryd.underlying31 infoB rfl (by decide) (by omega) v2 ([] ++ xl.drop k) ((some ⟨wq2.heap.size, 0, none⟩, 1, 1) : Rx) [.slice (some ⟨wq2.heap.size, 0, none⟩) 1 1] (fun _ => True) (fun _ => False) rfl (by first | (go_simp; done) | (go_simp; rfl)) ?aP (fun _ hk => hk.elim) ?aF ?aO ?aB ?aS ?aL ?_; (case aP => exact rfl); (case aB => exact below_alloc HB2.out _); (case aF => exact fun _ _ => trivial); (case aO => exact Kd.R_below HO2.out (below_alloc (Below.refl _ _) _)); (case aS => exact (below_alloc HB2.out _).size); (case aL => have h1 := (HXK.out _ HS.out.below).1.1; have := HNK.out; rw [List.nil_append, h1]; omega); intro v3 wq3 ho hb hg hat; have h2 := Kd.R_below HO2.out (below_alloc (Below.refl wq2.heap.size wq2) (.cells #[.int .u8 (more : Int)] 5)); have hku := keepU_grown hg (fun k hk => fun _ => Kd.R_typed h2 k hk); have h3 := (R_rowK (lit_row wq2 [(more : Int)] (by show 1 ≤ 1000000; decide))).move hku; have HO3 := Aside0.mk ho; have HB3 := Aside0.mk hb; have HE3 := Aside0.mk ((HXK.out _ (below_step HS.out.below hb)).2.snoc (show RowC wq3 ((some ⟨wq2.heap.size, 0, none⟩, 1, 1) : Rx) [(more : Int)] from ⟨rfl, Nat.le_refl _, h3.C⟩)); obtain ⟨A3, c3, hv3⟩ := Kd.R_slice ho; have hlen : (([] : List Rx) ++ xl.drop k ++ [((some ⟨wq2.heap.size, 0, none⟩, 1, 1) : Rx)]).length = nl := (by have h1 := (HXK.out _ HS.out.below).1.1; rw [HNL.out.2, List.nil_append, List.length_append, h1]; rfl); rw [hlen] at hv3; clear hlen; subst hv3; clear ho hb hg hat h2 hku h3))
            | (go_at_call 14; (refine (same_ _ _ _ _ _ _ (l.drop k ++ [[(more : Int)]]) (l.drop k ++ [[(more : Int)]]) _ (by have h := (HX.out.step HB3.out).C; obtain ⟨Au, cu, e1, _, h2⟩ := h; rw [HNL.out.1] at e1 h2; cases e1; exact h2) (by have h := rows_deep (Kd.R_reads' HO3.out).2.2 HE3.out; have hlen : (([] : List Rx) ++ xl.drop k ++ [((some ⟨wq2.heap.size, 0, none⟩, 1, 1) : Rx)]).length = nl := (by have h1 := (HXK.out _ HS.out.below).1.1; rw [HNL.out.2, List.nil_append, List.length_append, h1]; rfl); rw [hlen] at h; exact h) HRE.out HRE.out (by have := HNL.out.2; have := HNK.out; omega)).mono ?_); rintro e w10 ⟨he, hb⟩; rw [decide_eq_true rfl] at he; subst he; have n0 := Aside0.mk ((HA.out.below HB3.out).below hb); have n1 := Aside0.mk ((HS.out.step HB3.out).step hb); clear HA HS hb HX HO3 HE3 HB3; have HA := n0; have HS := n1; clear n0 n1))
          go_roundg (gk - 1)
          case measure => have := HI.out; have := HLT.out; omega
          case rel => exact ⟨i + 1, gl2, g2, m + 200, D4, _, ok2, by first | rfl | go_num, rfl, ⟨by have := HLT.out; omega, by have := HI.out; omega, by have := HI.out; have := HG12.out; omega, by have := HI.out; omega⟩, HA, HLD, HS⟩
        · have t1 : decide ((i : Int) ≤ (r4 : Int)) = false := decide_eq_false (by omega)
          have t2 : decide (i ≤ r4) = false := decide_eq_false hlt
          have t3 : ¬ (i : Int) ≤ (r4 : Int) := by omega
          clear hlt
          go_wp2
          go_ret
          exact ⟨rfl, HS.out.below⟩
end Go.Proofs.YtokmildjniploaaDoor.PLog
