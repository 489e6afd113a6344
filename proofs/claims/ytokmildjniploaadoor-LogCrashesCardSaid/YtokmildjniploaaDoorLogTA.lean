/- LogCrashes: the walk. LogCrashes' call, as the row wants it. Conditions: none. -/
import Derived.Test.YtokmildjniploaaDoorLogT
namespace Go.Proofs.YtokmildjniploaaDoor.PLog
open Go.RowKit Go.Proofs.YtokmildjniploaaDoorW.PrintWords Go.Proofs.YtokmildjniploaaDoorW.PrintLast Go.Proofs.YtokmildjniploaaDoorW.PrintMore Go.Proofs.YtokmildjniploaaDoor.BGLog Go.Proofs.YtokmildjniploaaDoor.MStr
open Go.Extern.Stop Go.Stop Go.Extern
set_option linter.unusedVariables false
set_option linter.unusedSimpArgs false
def okD (o : S46) : Prop := wfb o.f1 ∧ (∀ r, r ∈ o.f2 → wfb r) ∧ wfb o.f3
def firstR : List Int := [102, 105, 114, 115, 116]
theorem first_wf : Recs [firstR] := fun r hr => by
  rw [List.mem_singleton.1 hr]
  exact ⟨fun x hx => by unfold firstR at hx; simp only [List.mem_cons, List.not_mem_nil, or_false] at hx; omega, by decide⟩
theorem first_sum : sumS [firstR] = 1 := by decide
/-- What is known at the loop's head. -/
def St (W : World) (ok : Nat → Prop) (gd gl nb m n G : Nat) (D : Dat) (hv ot : List (List Int)) : Prop := (LogAt W ok gd gl D n G (sumS hv) ∧ Live nb m D n G hv) ∨ (D.left = 0 ∧ DevAt W ok gd D ∧ After nb m D n G (fun X => X = hv ∨ X = ot))
theorem St.after {W : World} {ok : Nat → Prop} {gd gl nb m n G : Nat} {D : Dat} {hv ot : List (List Int)} (h : St W ok gd gl nb m n G D hv ot) : DevAt W ok gd D ∧ After nb m D n G (fun X => X = hv ∨ X = ot) :=
  h.elim (fun h => ⟨h.1.dev, h.2.cold.after.imp (Nat.le_refl _) (Nat.le_refl _) (fun _ h => .inl h)⟩) (fun h => ⟨h.2.1, h.2.2⟩)
theorem fin18 {w0 W W1 : World} {ok : Nat → Prop} {gd gl area G used bh bo : Nat} {D : Dat} {hv ot nx : List (List Int)} {vh vo v : Value} {xh xo xs : List Rx} (hA : LogAt W ok gd gl D area G used) (hs : Lst w0 W ok) (hX : HeldV w0 W bh ok vh xh hv) (hO : HeldV w0 W bo ok vo xo ot) (hb : Below W.heap.size W W1) (ho : Kd.R kQ 35 W1 W.heap.size (fun _ => True) v xs) (he : Each (RowV w0 W1) xs nx) :
    ∃ (okC : Nat → Prop) (xs2 : List Rx) (b2 : Nat), LogAt W1 okC gd gl D area G used ∧ Lst w0 W1 okC ∧ HeldV w0 W1 bh okC vh xh hv ∧ HeldV w0 W1 bo okC vo xo ot ∧ HeldV w0 W1 b2 okC v xs2 nx := by
  obtain ⟨okC, h1, h2, h3, h4⟩ := fresh_step hA hs hb ho he
  exact ⟨okC, xs, _, h2, h3, (hX.step hb).okTo h1, (hO.step hb).okTo h1, h4⟩
def DeedC (W : World) (ok : Nat → Prop) (gd gl nb m : Nat) (D : Dat) (area G : Nat) (hv nx : List (List Int)) (v : Value) : Prop :=
  (v = .int .i64 6 ∧ LogAt W ok gd gl D area G (sumS hv)) ∨
   (v = .int .i64 0 ∧ ∃ D' G', G' ≤ G + 1 ∧ ((D'.left ≠ 0 ∧ LogAt W ok gd gl D' area G' (sumS nx) ∧ Live nb (m + 60) D' area G' nx) ∨ (D'.left = 0 ∧ DevAt W ok gd D' ∧ After nb (m + 60) D' area G' (fun X => X = hv ∨ X = nx))))
theorem deed_v {w0 w w' : World} {ok : Nat → Prop} {gd gl nb m : Nat} {D : Dat} {area G : Nat} {hv nx : List (List Int)} {e : Ending} (h : Deed w0 w w' ok gd gl nb m D area G hv nx e) : ∃ v, e = .returned v ∧ DeedC w' ok gd gl nb m D area G hv nx v ∧ Lst w0 w' ok ∧ Fr ok logT w w' := by
  obtain ⟨h1, h2, h3⟩ := h
  rcases h1 with ⟨rfl, h1⟩ | ⟨rfl, h1⟩
  · exact ⟨_, rfl, .inl ⟨rfl, h1⟩, h2, h3⟩
  · exact ⟨_, rfl, .inr ⟨rfl, h1⟩, h2, h3⟩
theorem Held.CC {w : World} {B : Nat} {ok : Nat → Prop} {A : Option Addr} {n c : Nat} {xs : List Rx} {R : List (List Int)} (h : Held w B ok (.slice A n c) xs R) : Kd.C (Kd.slice 5 (Kd.int .u8)) w A n R := by
  obtain ⟨A', c', e, _, h2⟩ := h.C
  cases e
  exact h2
theorem HeldV.CC {w0 w : World} {B : Nat} {ok : Nat → Prop} {A : Option Addr} {n c : Nat} {xs : List Rx} {R : List (List Int)} (h : HeldV w0 w B ok (.slice A n c) xs R) (hb : Below w0.heap.size w0 w) : Kd.C (Kd.slice 5 (Kd.int .u8)) w A n R := by
  obtain ⟨A', c', e, _, h2⟩ := h.C hb
  cases e
  exact h2
theorem tmod8 (x : Int) : -8 < Int.tmod x 8 ∧ Int.tmod x 8 < 8 := ⟨Int.lt_tmod_of_pos x (by decide), Int.tmod_lt_of_pos x (by decide)⟩
def crash18.T : Bool × List (List Nat × List Nat) := (true, [([], []), ([], []), ([0, 1], [0, 1]), ([], []), ([3], [3]), ([4], [4]), ([2, 5, 2], [2, 5]), ([6, 6, 0, 1, 2, 3, 4, 5, 6], [6])])
def crash18.B : List Nat := [0, 0, 3, 0, 8, 24, 63, 127]
theorem crash18.tab : rtab .any (opsOf Tryd.f6 18) = crash18.T := by kernel_rfl
theorem crash18.bits : waitsOk crash18.T.2 crash18.B = true := by kernel_rfl
set_option maxHeartbeats 32000000 in
set_option maxRecDepth 100000 in
theorem crash_yes (GA : Nat → Addr) (a : Nat) (A1 : Option Addr) (c1 : Nat) (l : List S46) (st : Nat) (A3 : Option Addr) (n3 c3 : Nat) (keep : List Int) (tn at1 : Int) (ag : Nat) (A7 : Option Addr) (n7 c7 : Nat) (more : List Int) (tn2 at2 : Int) (w : World) (hG : Glob GA w) (ha : a < 256) (hst : st < 65536) (hag : ag < 256)
    (hC1 : Kd.C k46 w A1 l.length l) (hc1 : l.length ≤ c1) (hok : ∀ o, o ∈ l → okD o) (HLI : Aside0 (∀ w' : World, Kd.C k46 w' A1 l.length l → Calls Tryd.prog 17 #[.slice A1 l.length c1] w' fun e w'' => e = .returned (.bool true) ∧ Drawn0 w' w'')) (HLO : Aside0 (l.length ≤ 20 ∧ ∀ x, x ∈ l → lightO x))
    (hC3 : Kd.C (Kd.int .u8) w A3 n3 keep) (hc3 : n3 ≤ c3) (hk3 : wfb keep) (hl3 : n3 ≤ 40) (hC7 : Kd.C (Kd.int .u8) w A7 n7 more) (hc7 : n7 ≤ c7) (hk7 : wfb more) (hl7 : n7 ≤ 40) :
    Calls Tryd.prog 6 #[.int .u8 (a : Int), .slice A1 l.length c1, .int .u16 (st : Int), .slice A3 n3 c3, .int .i64 tn, .int .i64 at1, .int .u8 (ag : Int), .slice A7 n7 c7, .int .i64 tn2, .int .i64 at2] w fun e w' => e = .returned (.bool true) ∧ Below w.heap.size w w' := by
  have HG := Aside0.mk hG
  have HC1 := Aside0.mk hC1
  have HOK := Aside0.mk hok
  have HC3 := Aside0.mk (And.intro hC3 (And.intro hc3 hk3))
  have HC7 := Aside0.mk (And.intro hC7 (And.intro hc7 hk7))
  have HC10 := Aside0.mk hc1
  have d3 : decide ((40 : Int) < (n3 : Int)) = false := decide_eq_false (by omega)
  have d3n : decide (40 < n3) = false := decide_eq_false (by omega)
  have d7 : decide ((40 : Int) < (n7 : Int)) = false := decide_eq_false (by omega)
  have d7n : decide (40 < n7) = false := decide_eq_false (by omega)
  have HL37 := Aside0.mk (And.intro hl3 hl7)
  obtain ⟨r, hr⟩ : ∃ r, a % 20 = r := ⟨_, rfl⟩
  have hr1 : (a : Int).tmod 20 = (r : Int) := by rw [← hr]; rfl
  have hrl : r < 20 := by omega
  obtain ⟨n, hn⟩ : ∃ n, 6 + r = n := ⟨_, rfl⟩
  obtain ⟨nb, hnb⟩ : ∃ nb, 2 + 2 * n = nb := ⟨_, rfl⟩
  have hnl : 6 ≤ n ∧ n ≤ 25 := by omega
  have w1 : IntKind.u8.wrap (r : Int) = (r : Int) := by simp [IntKind.wrap, IntKind.bits, IntKind.signed]; omega
  have w1' : (r : Int) % 256 = (r : Int) := by omega
  have w2 : IntKind.i64.wrap (r : Int) = (r : Int) := by rw [IntKind.wrap_i64]; omega
  have w3 : IntKind.i64.wrap (6 + (r : Int)) = (n : Int) := by rw [IntKind.wrap_i64]; omega
  have HNB := Aside0.mk hnb
  have HNL := Aside0.mk hnl
  have hmy : mayB (newD nb) (n : Int) = true := decide_eq_true ⟨by omega, by omega, by show (2 : Int) + 2 * (n : Int) ≤ ((List.replicate nb z128).length : Int); rw [List.length_replicate]; omega⟩
  have HSZ := Aside0.mk (fun W => SizeN n (by omega) W)
  rw [hnb] at HSZ
  have HNW := Aside0.mk (fun W => New nb W (by omega) (by omega))
  have HMY := Aside0.mk hmy
  obtain ⟨sk, hsk⟩ : ∃ sk, st % 400 = sk := ⟨_, rfl⟩
  have hs1 : (st : Int).tmod 400 = (sk : Int) := by rw [← hsk]; rfl
  have hskl : sk < 400 := by omega
  have w4 : IntKind.u16.wrap (sk : Int) = (sk : Int) := by simp [IntKind.wrap, IntKind.bits, IntKind.signed]; omega
  have w4' : (sk : Int) % 65536 = (sk : Int) := by omega
  have w5 : IntKind.i64.wrap (sk : Int) = (sk : Int) := by rw [IntKind.wrap_i64]; omega
  obtain ⟨gk2, hgk2⟩ : ∃ gk2, ag % 60 = gk2 := ⟨_, rfl⟩
  have hg1 : (ag : Int).tmod 60 = (gk2 : Int) := by rw [← hgk2]; rfl
  have hgl : gk2 < 60 := by omega
  have w6 : IntKind.u8.wrap (gk2 : Int) = (gk2 : Int) := by simp [IntKind.wrap, IntKind.bits, IntKind.signed]; omega
  have w6' : (gk2 : Int) % 256 = (gk2 : Int) := by omega
  have w7 : IntKind.i64.wrap (gk2 : Int) = (gk2 : Int) := by rw [IntKind.wrap_i64]; omega
  have HSK := Aside0.mk (And.intro hskl hgl)
  clear hr hrl hn hnb hnl hmy hG hC1 hok hC3 hc3 hk3 hl3 hC7 hc7 hk7 hl7 hc1 ha hst hag hsk hskl hgk2 hgl
  have hcst := fun (w : World) (C : Array Value) (n c : Nat) => x_const (P := Tryd.prog) 35 5 Tryd.underlying35 Tryd.underlying5 w C n c
  go_enter Tryd.func6, Tryd.ntmps6
  go_upto_region 7 with (first | (go_at_call 7; (refine (begun GA _ HG.out).mono ?_); rintro e w1 ⟨rfl, hb⟩; have HB := Aside0.mk hb; clear hb) | (go_at_call 17; (refine (HLI.out _ (Kd.C_below HC1.out HB.out)).mono ?_); rintro e w1a ⟨rfl, hdd⟩; have n0 := Aside0.mk (below_step HB.out hdd.below); clear HB hdd; have HB := n0; clear n0) | (go_at_call 9; (refine (HSZ.out _).mono ?_); rintro e w1b ⟨rfl, hdd⟩; have n0 := Aside0.mk (below_step HB.out hdd.below); clear HB hdd; have HB := n0; clear n0) | (go_at_call 8; (refine (HNW.out _).mono ?_); rintro e w2 ⟨gd, rfl, hd, hb⟩; have HD := Aside0.mk (hd.mono (fun k hk => show w.heap.size ≤ k from Nat.le_trans HB.out.size hk)); have n0 := Aside0.mk (below_step HB.out hb); clear HB hd hb; have HB := n0; clear n0))
  obtain ⟨wa, hwa⟩ : ∃ wa, w2.alloc (.cells #[.int .u8 102, .int .u8 105, .int .u8 114, .int .u8 115, .int .u8 116] 5 (5, 6)) = wa := ⟨_, rfl⟩
  obtain ⟨wb, hwb⟩ : ∃ wb, wa.alloc (.cells #[.slice (some ⟨w2.heap.size, 0, none⟩) 5 5] 35) = wb := ⟨_, rfl⟩
  have hA1 : Below w2.heap.size w2 wa := by rw [← hwa]; exact below_alloc (Below.refl _ _) _
  have hA2 : wa.heap[w2.heap.size]? = some (.cells #[.int .u8 102, .int .u8 105, .int .u8 114, .int .u8 115, .int .u8 116] 5 (5, 6)) := by rw [← hwa]; exact heap_alloc_new _ _
  have hA3 : Kd.C (Kd.int .u8) wa (some ⟨w2.heap.size, 0, none⟩) 5 firstR := by rw [← hwa]; exact x_clit w2 5 (5, 6) firstR (by decide)
  have hA4 : wa.heap.size = w2.heap.size + 1 := by rw [← hwa, World.size_alloc]
  have hB1 : Below wa.heap.size wa wb := by rw [← hwb]; exact below_alloc (Below.refl _ _) _
  have hB2 : wb.heap[w2.heap.size + 1]? = some (.cells #[.slice (some ⟨w2.heap.size, 0, none⟩) 5 5] 35 (0, 0)) := by rw [← hwb, ← hA4]; exact heap_alloc_new _ _
  have hB4 : wb.heap.size = w2.heap.size + 2 := by rw [← hwb, World.size_alloc, hA4]
  obtain ⟨ok1, hok1⟩ : ∃ ok1 : Nat → Prop, ok1 = fun k => (w.heap.size ≤ k ∧ k < w2.heap.size) ∨ w2.heap.size + 2 ≤ k := ⟨_, rfl⟩
  have HO1 := Aside0.mk (show ∀ k, ok1 k → (w.heap.size ≤ k ∧ k < w2.heap.size) ∨ w2.heap.size + 2 ≤ k from fun k h => by rw [hok1] at h; exact h)
  have HO2 := Aside0.mk (show ∀ k, w2.heap.size + 2 ≤ k → ok1 k from fun k h => by rw [hok1]; exact .inr h)
  have hd1 : DevAt wb ok1 gd (newD nb) := ((HD.out.bound.mono (fun k hk => by rw [hok1]; exact .inl hk)).below hA1).below hB1
  have HMK := Aside0.mk (show Calls Tryd.prog 10 #[.pointer (some ⟨gd, 0, none⟩), .int .i64 (n : Int), .slice (some ⟨w2.heap.size + 1, 0, none⟩) 1 1] wb (fun e w' => e = .returned (.int .i64 0) ∧ DevAt w' ok1 gd (anewD n 1 (newD nb) [firstR]) ∧ Fr ok1 logT wb w') from Make_ nb 0 ok1 gd (newD nb) n (some ⟨w2.heap.size + 1, 0, none⟩) 1 [firstR] wb hd1 (fun k hk => HO2.out k (by omega)) HMY.out (by have := HNB.out; have := HNL.out; omega) (by decide) (good_new nb)
    (fun w' hf => one_C ((hf.block _ (by omega) (fun h => by have := HO1.out _ h; omega)).trans hB2) rfl (Nat.le_refl _) (fr_C hf ((hB1.block _ (by omega)).trans hA2) (Kd.C_below hA3 hB1))) (Nat.le_refl _) (fun r hr => (first_wf r hr).2) (by decide) (by rw [first_sum]; have := HNL.out; omega))
  have HBW := Aside0.mk (below_step (below_step HB.out hA1) hB1)
  have HS0 := Aside0.mk (show Lst w wb ok1 from ⟨fun k hk => (HO1.out k hk).elim (fun h => h.1) (fun h => by have := HB.out.size; omega), fun k hk => HO2.out k (by omega), HBW.out⟩)
  clear hok1 hA1 hA2 hA3 hB1 hB2 hd1 HD HB hA4 hB4 HO1 HO2
  have HW := Aside0.mk (And.intro hwa hwb)
  clear hwb hwa
  have HFL := Aside0.mk (first_live (nb := nb) (area := n) (recs := [firstR]) (by have := HNB.out; omega) (by have := HNL.out; omega) (by rw [first_sum]; have := HNL.out; omega) first_wf)
  go_upto_region 9 with (go_at_call 10; (try rw [HW.out.1]); (try rw [HW.out.2]); (refine HMK.out.mono ?_); rintro e w3 ⟨rfl, hd, hf⟩; have HD := Aside0.mk hd; have HS := Aside0.mk (HS0.out.fr hf); clear hd hf HMK HS0 HBW)
  have HOP := Aside0.mk (open_l GA w w3 nb _ ok1 gd (anewD n 1 (newD nb) [firstR]) n 1 [firstR] HD.out HS.out HFL.out.1 (by have := HNL.out; omega) (by have := HNL.out; omega) (by have := HNL.out; have := HNB.out; omega) (by have := HNL.out; rw [first_sum]; omega) (Glob.below HG.out HS.out.below) (by decide))
  go_upto_region 13 with (go_at_call 11; (refine HOP.out.mono ?_); rintro e w5 ⟨gl, A5, c5, xs5, ok, rfl, ha, _, hs, hok, hf, hx⟩; have HA := Aside0.mk (show LogAt w5 ok gd gl (anewD n 2 (anewD n 1 (newD nb) [firstR]) [firstR]) n 2 (sumS [firstR]) from ha); clear HS HD; have HS := Aside0.mk hs; have HX := Aside0.mk (show HeldV w w5 w3.heap.size ok (.slice A5 1 c5) xs5 [firstR] from hx.asV); clear ha hs hok hf hx HOP)
  have HLV := Aside0.mk (HFL.out.2.le (show n + sumS [firstR] + 1 + n + sumS [firstR] + 1 ≤ 1000 by have := HNL.out; rw [first_sum]; omega))
  clear HFL HW
  generalize anewD n 2 (anewD n 1 (newD nb) [firstR]) [firstR] = D2 at HA HLV
  have HST := Aside0.mk (stop_c w w5 nb 1000 ok gd D2 n 2 [firstR] (sk : Int) HA.out.dev HS.out HLV.out.cold (by have := HSK.out; omega))
  go_upto_region 15 with (go_at_call 18; (refine HST.out.mono ?_); rintro e w6 ⟨rfl, hcd, hd, hs, hf⟩; have n0 := Aside0.mk (HA.out.step_dev hd hf); have n1 := Aside0.mk (HX.out.fr HS.out (frL hf)); clear HA HS HX; have HA := n0; have HS := Aside0.mk hs; have HX := n1; clear n0 n1 hcd hd hs hf HST)
  go_loopg [25, 27, 28] (l.length + 1) (fun kq v25 v27 v28 w7 => ∃ (i m G : Nat) (D : Dat) (hv ot : List (List Int)) (xh xo : List Rx) (bh bo : Nat) (ok : Nat → Prop), v28 = .int .i64 (i : Int) ∧ Aside0 (i ≤ l.length ∧ l.length < kq + i ∧ m ≤ 1000 + 60 * i ∧ G ≤ 2 + i ∧ hv.length ≤ 5 + i ∧ ot.length ≤ 6 + i) ∧ Aside0 (St w7 ok gd gl nb m n G D hv ot) ∧ Aside0 (Lst w w7 ok) ∧ Aside0 (HeldV w w7 bh ok v25 xh hv) ∧ Aside0 (HeldV w w7 bo ok v27 xo ot) ∧ Aside0 (Recs hv ∧ Recs ot))
  case atStart => exact ⟨0, 1000, 2, D2.stop (sk : Int), [firstR], [firstR], xs5, xs5, _, _, ok, rfl, ⟨by omega, by omega, by omega, by omega, by decide, by decide⟩, ⟨.inl ⟨HA.out, HLV.out.stop _ (by have := HSK.out; omega)⟩⟩, HS, HX, HX, ⟨first_wf, first_wf⟩⟩
  case round =>
    clear HA HS HX HLV
    obtain ⟨i, m, G, D, hv, ot, xh, xo, bh, bo, ok, rfl, HI, HST, HS, HX, HO, HRW⟩ := hrel
    generalize gk = gk0 at *
    generalize wr = wr0 at *
    have hl20 := HLO.out.1
    obtain ⟨bb, hbb⟩ : ∃ bb : Bool, bb = decide (i < l.length ∧ D.left ≠ 0) := ⟨_, rfl⟩
    have HBO := Aside0.mk hbb
    clear hbb
    go_upto_region 15 with (fail)
    go_cut [98] from 90 to 134 (fun v98 wx => v98 = .bool bb ∧ wx = wr0)
    case first =>
      have HDV := Aside0.mk HST.out.after.1
      by_cases hlt : i < l.length
      · have t1 : decide ((i : Int) < (l.length : Int)) = true := decide_eq_true (by omega)
        have t2 : decide (i < l.length) = true := decide_eq_true hlt
        have t3 : (i : Int) < (l.length : Int) := by omega
        by_cases hz : D.left = 0
        · have HZ := Aside0.mk (show (D.left == 0) = true from beq_iff_eq.mpr hz)
          have HE := Aside0.mk (show bb = false from HBO.out.trans (decide_eq_false (fun h => h.2 hz)))
          clear hlt hz
          go_wp2_with (go_at_call 19; (refine (Stopped ok gd D _ HDV.out).mono ?_); rintro e wz ⟨he, hww⟩; rw [HZ.out] at he; subst he; subst hww)
          go_meet
          exact ⟨by rw [HE.out], rfl⟩
        · have HZ := Aside0.mk (show (D.left == 0) = false from beq_eq_false_iff_ne.mpr hz)
          have HE := Aside0.mk (show bb = true from HBO.out.trans (decide_eq_true ⟨hlt, hz⟩))
          clear hlt hz
          go_wp2_with (go_at_call 19; (refine (Stopped ok gd D _ HDV.out).mono ?_); rintro e wz ⟨he, hww⟩; rw [HZ.out] at he; subst he; subst hww)
          go_meet
          exact ⟨by rw [HE.out], rfl⟩
      · have t1 : decide ((i : Int) < (l.length : Int)) = false := decide_eq_false (by omega)
        have t2 : decide (i < l.length) = false := decide_eq_false hlt
        have t3 : ¬ (i : Int) < (l.length : Int) := by omega
        have HE := Aside0.mk (show bb = false from HBO.out.trans (decide_eq_false (fun h => hlt h.1)))
        clear hlt
        go_wp2
        go_meet
        exact ⟨by rw [HE.out], rfl⟩
    case rest =>
    obtain ⟨rfl, hwc⟩ := hcut
    replace hwc := hwc.symm
    subst hwc
    by_cases hrun : i < l.length ∧ D.left ≠ 0
    · obtain rfl : bb = true := HBO.out.trans (decide_eq_true hrun)
      obtain ⟨hlt, hzl⟩ := hrun
      have HLL := Aside0.mk (HST.out.elim (fun h => h) (fun h => absurd h.1 hzl))
      have HA := Aside0.mk HLL.out.1
      have HLV := Aside0.mk HLL.out.2
      clear HST HLL
      have t1 : decide ((i : Int) < (l.length : Int)) = true := decide_eq_true (by omega)
      have t2 : decide (i < l.length) = true := decide_eq_true hlt
      have t3 : (i : Int) < (l.length : Int) := by omega
      have hwi : IntKind.i64.wrap ((i : Int) + 1) = ((i + 1 : Nat) : Int) := by rw [IntKind.wrap_i64]; omega
      obtain ⟨ad, A1, k1, A2, k2, A3, k3, e0, z0, z1, z2, z3, z4, z5, q1, g1, q2, g2, q3, g3⟩ := at_T46 HC1.out (i : Int) (by omega) (by omega)
      cases e0
      replace z0 := (HS.out.below.cell (World.block_lt_of_cell? w _ z0)).trans z0
      replace z1 := (HS.out.below.cell (World.block_lt_of_cell? w _ z1)).trans z1
      replace z2 := (HS.out.below.cell (World.block_lt_of_cell? w _ z2)).trans z2
      replace z3 := (HS.out.below.cell (World.block_lt_of_cell? w _ z3)).trans z3
      replace z4 := (HS.out.below.cell (World.block_lt_of_cell? w _ z4)).trans z4
      replace z5 := (HS.out.below.cell (World.block_lt_of_cell? w _ z5)).trans z5
      rw [Int.toNat_natCast] at z0 z1 z2 z3 z4 z5
      have hmem : rd_T46 l (i : Int) ∈ l := by unfold rd_T46; rw [Int.toNat_natCast, List.getD_eq_getElem?_getD, List.getElem?_eq_getElem hlt]; exact List.getElem_mem _
      have HLT := Aside0.mk hlt
      have HLI1 := Aside0.mk (HLO.out.2 _ hmem)
      have HOKD := Aside0.mk (HOK.out _ hmem)
      generalize rd_T46 l (i : Int) = o at *
      obtain ⟨o0, B, L, K, o4, o5⟩ := o
      dsimp only [okD, lightO] at z0 z1 z2 z3 z4 z5 q1 g1 q2 g2 q3 g3 HLI1 HOKD
      have HRB := Aside0.mk (show RowC w ((A1, B.length, k1) : Rx) B from ⟨rfl, q1, g1⟩)
      have HLC := Aside0.mk (And.intro q2 g2)
      obtain ⟨nB, hnB⟩ : ∃ nB, B.length = nB := ⟨_, rfl⟩
      obtain ⟨nL, hnL⟩ : ∃ nL, L.length = nL := ⟨_, rfl⟩
      obtain ⟨nK, hnK⟩ : ∃ nK, K.length = nK := ⟨_, rfl⟩
      rw [hnB] at z1 HRB HLI1
      rw [hnL] at z2 HLC HLI1
      rw [hnK] at z3 HLI1
      have HXL := Aside0.mk (show xh.length ≤ 25 by have h1 := HX.out.each.1; have := HI.out; omega)
      obtain ⟨Ah, ch, rfl, hch, hQh⟩ := HX.out.Q
      have HNBL := Aside0.mk (And.intro hnB hnL)
      clear q1 g1 q2 g2 q3 g3 hmem hlt hzl hnB hnL hnK hl20
      go_upto_region 18 with (fail)
      clear z0 z1 z2 z3 z4 z5
      have HBX := Aside0.mk (heap_alloc_new wr0 (.cells #[.int .i64 o0, .slice A1 nB k1, .slice A2 nL k2, .slice A3 nK k3, .int .i64 o4, .int .i64 o5] 46))
      have hal := below_alloc (Below.refl wr0.heap.size wr0) (.cells #[.int .i64 o0, .slice A1 nB k1, .slice A2 nL k2, .slice A3 nK k3, .int .i64 o4, .int .i64 o5] 46)
      have n0 := Aside0.mk (HA.out.below hal)
      have n1 := Aside0.mk (HS.out.step hal)
      have n2 := Aside0.mk (HX.out.step hal)
      have n3 := Aside0.mk (HO.out.step hal)
      have HQH := Aside0.mk (Kd.C_below hQh hal)
      clear HA HS HX HO hal hQh
      have HA := n0
      have HS := n1
      have HX := n2
      have HO := n3
      clear n0 n1 n2 n3
      generalize wr0.alloc (.cells #[.int .i64 o0, .slice A1 nB k1, .slice A2 nL k2, .slice A3 nK k3, .int .i64 o4, .int .i64 o5] 46) = w8 at HA HS HX HO HBX HQH ⊢
      generalize wr0.heap.size = ob at HBX ⊢
      have HSC := Aside0.mk (show ∀ W, Below w8.heap.size w8 W → W.cell? ⟨ob, 1, none⟩ = some (.slice A1 nB k1) from fun W hb => (hb.cell (World.block_lt_of_cell? w8 _ (blk_cell HBX.out 1))).trans (blk_cell HBX.out 1))
      go_cut [30] from 90 to 134 (fun v30 wx => ∃ (okC : Nat → Prop) (xs2 : List Rx) (b2 : Nat), Aside0 (LogAt wx okC gd gl D n G (sumS hv)) ∧ Aside0 (Lst w wx okC) ∧ Aside0 (HeldV w wx bh okC (.slice Ah xh.length ch) xh hv) ∧ Aside0 (HeldV w wx bo okC u27 xo ot) ∧ Aside0 (HeldV w wx b2 okC v30 xs2 (hv ++ [B])) ∧ Aside0 (wx.heap[ob]? = some (.cells #[.int .i64 o0, .slice A1 nB k1, .slice A2 nL k2, .slice A3 nK k3, .int .i64 o4, .int .i64 o5] 46 (0, 0))))
      case first =>
        refine start_ (n := 8) (S := fun w' => w'.cell? ⟨ob, 1, none⟩ = some (.slice A1 nB k1)) (ds := []) #[false, false, false, false, false, false, false, false] (by kernel_rfl) rfl rfl (blk_cell HBX.out 1) (fun hHeld => ?_)
        refine with_tabW crash18.tab crash18.bits (fun HT_ HW_ => ?_)
        have HB0 := Aside0.mk (below_drew (Below.refl w8.heap.size w8))
        generalize w8.drew = wq0 at HB0 hHeld ⊢
        refine pure_ (i := 1) (N := (some 106)) (v := ?_) (a' := ?_) #[false, true, false, false, false, false, false, false] rfl rfl (any_of HT_.out (by kernel_rfl)) (fun _ _ _ h => h) (Or.inl ⟨by rfl, ?_⟩) ?_ ?_
        rotate_left
        · intro w'
          go_simp
          with_reducible rfl
        rotate_left
        · simp only [Act.put, List.setIfInBounds_toArray, List.set_cons_zero, List.set_cons_succ, i64_w, i32_w]
          rfl
        refine pure_ (i := 3) (N := (some 108)) (v := ?_) (a' := ?_) #[false, true, false, true, false, false, false, false] rfl rfl (any_of HT_.out (by kernel_rfl)) (fun _ _ _ h => h) (Or.inl ⟨by rfl, ?_⟩) ?_ ?_
        rotate_left
        · intro w'
          go_simp
          with_reducible rfl
        rotate_left
        · simp only [Act.put, List.setIfInBounds_toArray, List.set_cons_zero, List.set_cons_succ, i64_w, i32_w]
          rfl
        refine take_ (i := 4) (N := (some 109)) (v := ?_) (a' := ?_) #[false, true, false, true, true, false, false, false] rfl rfl (take_ofW HT_.out HW_.out (by kernel_rfl)) (fun _ _ _ h => h) (Or.inl ⟨by rfl, ?_⟩) (by exact hHeld) ?_ ?_
        rotate_left
        · intro w' hw'
          go_simp
          with_reducible rfl
        rotate_left
        · simp only [Act.put, List.setIfInBounds_toArray, List.set_cons_zero, List.set_cons_succ, i64_w, i32_w]
          rfl
        refine two_ (i := 0) (j := 5) (Ni := (some 105)) (Nj := (some 110)) #[true, true, false, true, true, false, false, false] #[false, true, false, true, true, true, false, false] rfl rfl rfl rfl (two_of HT_.out (by kernel_rfl)) (by decide) (by decide) (fun Kq hKq => ?_) (fun Kq hKq => ?_)
        · skip
          refine Kd.R_lit_step kQ (w0 := w8) w8.heap.size 35 (by rfl) (N := 105) ?hd (xs := ([] : List Rx)) (inner := []) (ok := fun _ => True) (okp := fun _ => True) ?hr ?hp (fun _ hk => hk) trivial HB0.out HB0.out.size (by simp) ?_
          (case hd => rfl)
          (case hr => first | (go_simp; done) | (go_simp; rfl))
          (case hp => exact (Reps.none _ _))
          intro v1 wq1 ho hb hg hat
          have HO1 := Aside0.mk ho
          have HB1 := Aside0.mk hb
          have HG1 := Aside0.mk hg
          have HT1 := Aside0.mk hat
          clear ho hb hg hat
          refine hKq.out _ _ (HSC.out _ HB1.out) (fun hHeld => ?_)
          clear hKq Kq
          refine norm_ (a' := ?_) ?_ ?_
          rotate_left
          · show Act.put _ (some 105) _ = _
            simp only [Act.put, List.setIfInBounds_toArray, List.set_cons_zero, List.set_cons_succ, i64_w, i32_w]
            rfl
          refine two_ (i := 2) (j := 5) (Ni := (some 107)) (Nj := (some 110)) #[true, true, true, true, true, false, false, false] #[true, true, false, true, true, true, false, false] rfl rfl rfl rfl (two_of HT_.out (by kernel_rfl)) (by decide) (by decide) (fun Kq hKq => ?_) (fun Kq hKq => ?_)
          · skip
            refine Kd.R_append_rows_step kQ (w0 := w8) w8.heap.size (by rfl) (.tmp 105) (.tmp 106) 31 35 (.slice none 0 0) 24 rfl Tryd.underlying31 infoB rfl (by decide) (by omega) v1 ([] : List Rx) xh Ah xh.length ch (fun _ => True) (fun _ => some 0 ≠ v1.ownBlock ∧ False) rfl rfl ?aO ?aR (fun _ _ h => h) (fun _ h => h.2.elim) ?aF ?aB ?aS ?aL ?_
            (case aR => exact Kd.C_below HQH.out HB1.out)
            (case aB => exact HB1.out)
            (case aF => exact fun _ _ => trivial)
            (case aO => exact HO1.out)
            (case aS => exact HB1.out.size)
            (case aL => have h1 := HXL.out; simp only [List.length_nil]; omega)
            intro v2 wq2 ho hb hg hat
            have HO2 := Aside0.mk ho
            have HB2 := Aside0.mk hb
            have HG2 := Aside0.mk hg
            have HT2 := Aside0.mk hat
            clear ho hb hg hat
            refine hKq.out _ _ (HSC.out _ HB2.out) (fun hHeld => ?_)
            clear hKq Kq
            refine norm_ (a' := ?_) ?_ ?_
            rotate_left
            · show Act.put _ (some 107) _ = _
              simp only [Act.put, List.setIfInBounds_toArray, List.set_cons_zero, List.set_cons_succ, i64_w, i32_w]
              rfl
            refine one_ (i := 5) (N := (some 110)) #[true, true, true, true, true, true, false, false] rfl rfl (one_of HT_.out (by kernel_rfl)) (by decide) (fun Kq hKq => ?_)
            refine event_step (v := .slice (some ⟨wq2.heap.size, 0, none⟩) 1 1) (w1 := wq2.alloc (.cells #[.slice A1 nB k1] 35)) (by rfl) (by first | (go_simp; done) | (go_simp; rfl)) ?_
            have HB3 := Aside0.mk (below_alloc HB2.out (.cells #[.slice A1 nB k1] 35))
            have HBB := Aside0.mk (heap_alloc_new wq2 (.cells #[.slice A1 nB k1] 35))
            have HBA := Aside0.mk (below_alloc (Below.refl wq2.heap.size wq2) (.cells #[.slice A1 nB k1] 35))
            generalize wq2.alloc (.cells #[.slice A1 nB k1] 35) = wq3 at HB3 HBB HBA ⊢
            generalize wq2.heap.size = bb at HBB ⊢
            refine hKq.out _ _ (HSC.out _ HB3.out) (fun hHeld => ?_)
            clear hKq Kq
            refine norm_ (a' := ?_) ?_ ?_
            rotate_left
            · show Act.put _ (some 110) _ = _
              simp only [Act.put, List.setIfInBounds_toArray, List.set_cons_zero, List.set_cons_succ, i64_w, i32_w]
              rfl
            refine one_ (i := 6) (N := (some 111)) #[true, true, true, true, true, true, true, false] rfl rfl (one_of HT_.out (by kernel_rfl)) (by decide) (fun Kq hKq => ?_)
            refine Kd.R_append_rows_step kQ (w0 := w8) w8.heap.size (by rfl) (.tmp 107) (.tmp 110) 31 35 (.slice none 0 0) 24 rfl Tryd.underlying31 infoB rfl (by decide) (by omega) v2 ([] ++ xh) [((A1, nB, k1) : Rx)] (some ⟨bb, 0, none⟩) 1 1 (fun _ => True) (fun _ => some 0 ≠ v2.ownBlock ∧ False) rfl rfl ?aO ?aR (fun _ _ h => h) (fun _ h => h.2.elim) ?aF ?aB ?aS ?aL ?_
            (case aR => exact box_Q HBB.out)
            (case aB => exact HB3.out)
            (case aF => exact fun _ _ => trivial)
            (case aO => exact Kd.R_below HO2.out HBA.out)
            (case aS => exact HB3.out.size)
            (case aL => have h1 := HXL.out; rw [List.nil_append]; omega)
            intro v3 wq4 ho hb hg hat
            have HO4 := Aside0.mk ho
            have HB4 := Aside0.mk hb
            have HG4 := Aside0.mk hg
            have HT4 := Aside0.mk hat
            clear ho hb hg hat
            refine hKq.out _ _ (HSC.out _ HB4.out) (fun hHeld => ?_)
            clear hKq Kq
            refine norm_ (a' := ?_) ?_ ?_
            rotate_left
            · show Act.put _ (some 111) _ = _
              simp only [Act.put, List.setIfInBounds_toArray, List.set_cons_zero, List.set_cons_succ, i64_w, i32_w]
              rfl
            refine pure_ (i := 7) (N := (some 30)) (v := ?_) (a' := ?_) #[true, true, true, true, true, true, true, true] rfl rfl (any_of HT_.out (by kernel_rfl)) (fun _ _ _ h => h) (Or.inl ⟨by rfl, ?_⟩) ?_ ?_
            rotate_left
            · intro w'
              go_simp
              with_reducible rfl
            rotate_left
            · simp only [Act.put, List.setIfInBounds_toArray, List.set_cons_zero, List.set_cons_succ, i64_w, i32_w]
              rfl
            refine done_ (done_of HT_.out (by kernel_rfl)) ?_
            obtain ⟨okC, xs2, b2, ha, hs, hx, ho, hn⟩ := fin18 HA.out HS.out HX.out HO.out HB4.out HO4.out ((((HX.out.each.imp (fun x y h => h.move (keepU_below HB4.out)))).snoc (show RowV w _ ((A1, nB, k1) : Rx) B from .inr HRB.out)))
            go_wp2_with fail
            go_meet
            exact ⟨okC, xs2, b2, ⟨ha⟩, ⟨hs⟩, ⟨hx⟩, ⟨ho⟩, ⟨hn⟩, ⟨(HB4.out.block ob (blk_lt HBX.out)).trans HBX.out⟩⟩
          · skip
            have HNE := Aside0.mk (show ∀ k, v1.ownBlock = some k → k ≠ wq1.heap.size from fun k hk => by have := Kd.R_lt HO1.out k hk; omega)
            refine event_step (v := .slice (some ⟨wq1.heap.size, 0, none⟩) 1 1) (w1 := wq1.alloc (.cells #[.slice A1 nB k1] 35)) (by rfl) (by first | (go_simp; done) | (go_simp; rfl)) ?_
            have HB2 := Aside0.mk (below_alloc HB1.out (.cells #[.slice A1 nB k1] 35))
            have HBB := Aside0.mk (heap_alloc_new wq1 (.cells #[.slice A1 nB k1] 35))
            have HBA := Aside0.mk (below_alloc (Below.refl wq1.heap.size wq1) (.cells #[.slice A1 nB k1] 35))
            generalize wq1.alloc (.cells #[.slice A1 nB k1] 35) = wq2 at HB2 HBB HBA ⊢
            generalize wq1.heap.size = bb at HBB HNE ⊢
            refine hKq.out _ _ (HSC.out _ HB2.out) (fun hHeld => ?_)
            clear hKq Kq
            refine norm_ (a' := ?_) ?_ ?_
            rotate_left
            · show Act.put _ (some 110) _ = _
              simp only [Act.put, List.setIfInBounds_toArray, List.set_cons_zero, List.set_cons_succ, i64_w, i32_w]
              rfl
            refine one_ (i := 2) (N := (some 107)) #[true, true, true, true, true, true, false, false] rfl rfl (one_of HT_.out (by kernel_rfl)) (by decide) (fun Kq hKq => ?_)
            refine Kd.R_append_rows_step kQ (w0 := w8) w8.heap.size (by rfl) (.tmp 105) (.tmp 106) 31 35 (.slice none 0 0) 24 rfl Tryd.underlying31 infoB rfl (by decide) (by omega) v1 ([] : List Rx) xh Ah xh.length ch (fun _ => True) (fun _ => some 0 ≠ v1.ownBlock ∧ False) rfl rfl ?aO ?aR (fun _ _ h => h) (fun _ h => h.2.elim) ?aF ?aB ?aS ?aL ?_
            (case aR => exact Kd.C_below HQH.out HB2.out)
            (case aB => exact HB2.out)
            (case aF => exact fun _ _ => trivial)
            (case aO => exact Kd.R_below HO1.out HBA.out)
            (case aS => exact HB2.out.size)
            (case aL => have h1 := HXL.out; simp only [List.length_nil]; omega)
            intro v2 wq3 ho hb hg hat
            have HO3 := Aside0.mk ho
            have HB3 := Aside0.mk hb
            have HG3 := Aside0.mk hg
            have HT3 := Aside0.mk hat
            clear ho hb hg hat
            have HBK := Aside0.mk ((HG3.out.block bb (blk_lt HBB.out) (fun e => HNE.out bb e.symm rfl)).trans HBB.out)
            refine hKq.out _ _ (HSC.out _ HB3.out) (fun hHeld => ?_)
            clear hKq Kq
            refine norm_ (a' := ?_) ?_ ?_
            rotate_left
            · show Act.put _ (some 107) _ = _
              simp only [Act.put, List.setIfInBounds_toArray, List.set_cons_zero, List.set_cons_succ, i64_w, i32_w]
              rfl
            refine one_ (i := 6) (N := (some 111)) #[true, true, true, true, true, true, true, false] rfl rfl (one_of HT_.out (by kernel_rfl)) (by decide) (fun Kq hKq => ?_)
            refine Kd.R_append_rows_step kQ (w0 := w8) w8.heap.size (by rfl) (.tmp 107) (.tmp 110) 31 35 (.slice none 0 0) 24 rfl Tryd.underlying31 infoB rfl (by decide) (by omega) v2 ([] ++ xh) [((A1, nB, k1) : Rx)] (some ⟨bb, 0, none⟩) 1 1 (fun _ => True) (fun _ => some 0 ≠ v2.ownBlock ∧ False) rfl rfl ?aO ?aR (fun _ _ h => h) (fun _ h => h.2.elim) ?aF ?aB ?aS ?aL ?_
            (case aR => exact box_Q HBK.out)
            (case aB => exact HB3.out)
            (case aF => exact fun _ _ => trivial)
            (case aO => exact HO3.out)
            (case aS => exact HB3.out.size)
            (case aL => have h1 := HXL.out; rw [List.nil_append]; omega)
            intro v3 wq4 ho hb hg hat
            have HO4 := Aside0.mk ho
            have HB4 := Aside0.mk hb
            have HG4 := Aside0.mk hg
            have HT4 := Aside0.mk hat
            clear ho hb hg hat
            refine hKq.out _ _ (HSC.out _ HB4.out) (fun hHeld => ?_)
            clear hKq Kq
            refine norm_ (a' := ?_) ?_ ?_
            rotate_left
            · show Act.put _ (some 111) _ = _
              simp only [Act.put, List.setIfInBounds_toArray, List.set_cons_zero, List.set_cons_succ, i64_w, i32_w]
              rfl
            refine pure_ (i := 7) (N := (some 30)) (v := ?_) (a' := ?_) #[true, true, true, true, true, true, true, true] rfl rfl (any_of HT_.out (by kernel_rfl)) (fun _ _ _ h => h) (Or.inl ⟨by rfl, ?_⟩) ?_ ?_
            rotate_left
            · intro w'
              go_simp
              with_reducible rfl
            rotate_left
            · simp only [Act.put, List.setIfInBounds_toArray, List.set_cons_zero, List.set_cons_succ, i64_w, i32_w]
              rfl
            refine done_ (done_of HT_.out (by kernel_rfl)) ?_
            obtain ⟨okC, xs2, b2, ha, hs, hx, ho, hn⟩ := fin18 HA.out HS.out HX.out HO.out HB4.out HO4.out ((((HX.out.each.imp (fun x y h => h.move (keepU_below HB4.out)))).snoc (show RowV w _ ((A1, nB, k1) : Rx) B from .inr HRB.out)))
            go_wp2_with fail
            go_meet
            exact ⟨okC, xs2, b2, ⟨ha⟩, ⟨hs⟩, ⟨hx⟩, ⟨ho⟩, ⟨hn⟩, ⟨(HB4.out.block ob (blk_lt HBX.out)).trans HBX.out⟩⟩
        · skip
          refine event_step (v := .slice (some ⟨wq0.heap.size, 0, none⟩) 1 1) (w1 := wq0.alloc (.cells #[.slice A1 nB k1] 35)) (by rfl) (by first | (go_simp; done) | (go_simp; rfl)) ?_
          have HB1 := Aside0.mk (below_alloc HB0.out (.cells #[.slice A1 nB k1] 35))
          have HBB := Aside0.mk (heap_alloc_new wq0 (.cells #[.slice A1 nB k1] 35))
          have HBA := Aside0.mk (below_alloc (Below.refl wq0.heap.size wq0) (.cells #[.slice A1 nB k1] 35))
          generalize wq0.alloc (.cells #[.slice A1 nB k1] 35) = wq1 at HB1 HBB HBA ⊢
          generalize wq0.heap.size = bb at HBB ⊢
          refine hKq.out _ _ (HSC.out _ HB1.out) (fun hHeld => ?_)
          clear hKq Kq
          refine norm_ (a' := ?_) ?_ ?_
          rotate_left
          · show Act.put _ (some 110) _ = _
            simp only [Act.put, List.setIfInBounds_toArray, List.set_cons_zero, List.set_cons_succ, i64_w, i32_w]
            rfl
          refine one_ (i := 0) (N := (some 105)) #[true, true, false, true, true, true, false, false] rfl rfl (one_of HT_.out (by kernel_rfl)) (by decide) (fun Kq hKq => ?_)
          refine Kd.R_lit_step kQ (w0 := w8) w8.heap.size 35 (by rfl) (N := 105) ?hd (xs := ([] : List Rx)) (inner := []) (ok := fun _ => True) (okp := fun _ => True) ?hr ?hp (fun _ hk => hk) trivial HB1.out HB1.out.size (by simp) ?_
          (case hd => rfl)
          (case hr => first | (go_simp; done) | (go_simp; rfl))
          (case hp => exact (Reps.none _ _))
          intro v1 wq2 ho hb hg hat
          have HO2 := Aside0.mk ho
          have HB2 := Aside0.mk hb
          have HG2 := Aside0.mk hg
          have HT2 := Aside0.mk hat
          clear ho hb hg hat
          refine hKq.out _ _ (HSC.out _ HB2.out) (fun hHeld => ?_)
          clear hKq Kq
          refine norm_ (a' := ?_) ?_ ?_
          rotate_left
          · show Act.put _ (some 105) _ = _
            simp only [Act.put, List.setIfInBounds_toArray, List.set_cons_zero, List.set_cons_succ, i64_w, i32_w]
            rfl
          refine one_ (i := 2) (N := (some 107)) #[true, true, true, true, true, true, false, false] rfl rfl (one_of HT_.out (by kernel_rfl)) (by decide) (fun Kq hKq => ?_)
          refine Kd.R_append_rows_step kQ (w0 := w8) w8.heap.size (by rfl) (.tmp 105) (.tmp 106) 31 35 (.slice none 0 0) 24 rfl Tryd.underlying31 infoB rfl (by decide) (by omega) v1 ([] : List Rx) xh Ah xh.length ch (fun _ => True) (fun _ => some 0 ≠ v1.ownBlock ∧ False) rfl rfl ?aO ?aR (fun _ _ h => h) (fun _ h => h.2.elim) ?aF ?aB ?aS ?aL ?_
          (case aR => exact Kd.C_below HQH.out HB2.out)
          (case aB => exact HB2.out)
          (case aF => exact fun _ _ => trivial)
          (case aO => exact HO2.out)
          (case aS => exact HB2.out.size)
          (case aL => have h1 := HXL.out; simp only [List.length_nil]; omega)
          intro v2 wq3 ho hb hg hat
          have HO3 := Aside0.mk ho
          have HB3 := Aside0.mk hb
          have HG3 := Aside0.mk hg
          have HT3 := Aside0.mk hat
          clear ho hb hg hat
          have HBJ := Aside0.mk ((HG2.out.block bb (blk_lt HBB.out) (by simp)).trans HBB.out)
          have HBK := Aside0.mk ((HG3.out.block bb (blk_lt HBJ.out) (fun e => by obtain ⟨b, e2, hle⟩ := HT2.out; rw [← e] at e2; obtain rfl := Option.some.inj e2; have := blk_lt HBB.out; omega)).trans HBJ.out)
          refine hKq.out _ _ (HSC.out _ HB3.out) (fun hHeld => ?_)
          clear hKq Kq
          refine norm_ (a' := ?_) ?_ ?_
          rotate_left
          · show Act.put _ (some 107) _ = _
            simp only [Act.put, List.setIfInBounds_toArray, List.set_cons_zero, List.set_cons_succ, i64_w, i32_w]
            rfl
          refine one_ (i := 6) (N := (some 111)) #[true, true, true, true, true, true, true, false] rfl rfl (one_of HT_.out (by kernel_rfl)) (by decide) (fun Kq hKq => ?_)
          refine Kd.R_append_rows_step kQ (w0 := w8) w8.heap.size (by rfl) (.tmp 107) (.tmp 110) 31 35 (.slice none 0 0) 24 rfl Tryd.underlying31 infoB rfl (by decide) (by omega) v2 ([] ++ xh) [((A1, nB, k1) : Rx)] (some ⟨bb, 0, none⟩) 1 1 (fun _ => True) (fun _ => some 0 ≠ v2.ownBlock ∧ False) rfl rfl ?aO ?aR (fun _ _ h => h) (fun _ h => h.2.elim) ?aF ?aB ?aS ?aL ?_
          (case aR => exact box_Q HBK.out)
          (case aB => exact HB3.out)
          (case aF => exact fun _ _ => trivial)
          (case aO => exact HO3.out)
          (case aS => exact HB3.out.size)
          (case aL => have h1 := HXL.out; rw [List.nil_append]; omega)
          intro v3 wq4 ho hb hg hat
          have HO4 := Aside0.mk ho
          have HB4 := Aside0.mk hb
          have HG4 := Aside0.mk hg
          have HT4 := Aside0.mk hat
          clear ho hb hg hat
          refine hKq.out _ _ (HSC.out _ HB4.out) (fun hHeld => ?_)
          clear hKq Kq
          refine norm_ (a' := ?_) ?_ ?_
          rotate_left
          · show Act.put _ (some 111) _ = _
            simp only [Act.put, List.setIfInBounds_toArray, List.set_cons_zero, List.set_cons_succ, i64_w, i32_w]
            rfl
          refine pure_ (i := 7) (N := (some 30)) (v := ?_) (a' := ?_) #[true, true, true, true, true, true, true, true] rfl rfl (any_of HT_.out (by kernel_rfl)) (fun _ _ _ h => h) (Or.inl ⟨by rfl, ?_⟩) ?_ ?_
          rotate_left
          · intro w'
            go_simp
            with_reducible rfl
          rotate_left
          · simp only [Act.put, List.setIfInBounds_toArray, List.set_cons_zero, List.set_cons_succ, i64_w, i32_w]
            rfl
          refine done_ (done_of HT_.out (by kernel_rfl)) ?_
          obtain ⟨okC, xs2, b2, ha, hs, hx, ho, hn⟩ := fin18 HA.out HS.out HX.out HO.out HB4.out HO4.out ((((HX.out.each.imp (fun x y h => h.move (keepU_below HB4.out)))).snoc (show RowV w _ ((A1, nB, k1) : Rx) B from .inr HRB.out)))
          go_wp2_with fail
          go_meet
          exact ⟨okC, xs2, b2, ⟨ha⟩, ⟨hs⟩, ⟨hx⟩, ⟨ho⟩, ⟨hn⟩, ⟨(HB4.out.block ob (blk_lt HBX.out)).trans HBX.out⟩⟩
      case rest =>
        clear HA HS HX HO HQH HSC HBX
        obtain ⟨okC, xs2, b2, HA, HS, HX, HO, HN, HBX⟩ := hcut
        obtain ⟨q8, hq8⟩ : ∃ q8, Int.tmod o0 8 = q8 := ⟨_, rfl⟩
        have hqb := tmod8 o0
        rw [hq8] at hqb
        have w8w : IntKind.i64.wrap q8 = q8 := by rw [IntKind.wrap_i64]; omega
        clear hqb
        have x0 := blk_cell HBX.out 0
        have x1 := blk_cell HBX.out 1
        have x2 := blk_cell HBX.out 2
        have HNM := Aside0.mk (show nb ≤ 1000000 ∧ m ≤ 700000 ∧ n ≤ 25 ∧ G ≤ 1000 by have := HNB.out; have := HNL.out; have := HI.out; have := HLO.out.1; omega)
        have HCB := Aside0.mk (show ∀ W, Below w.heap.size w W → Kd.C (Kd.int .u8) W A1 nB B ∧ nB ≤ k1 from fun W hb => ⟨Kd.C_below HRB.out.2.2 hb, HRB.out.2.1⟩)
        have HCL := Aside0.mk (show Kd.C (Kd.slice 5 (Kd.int .u8)) w A2 nL L ∧ nL ≤ k2 from ⟨HLC.out.2, HLC.out.1⟩)
        obtain ⟨xl, hxl, hel⟩ := rows_shallow HCL.out.1
        have HSL := Aside0.mk (And.intro hxl hel)
        clear hxl hel
        have HRL := Aside0.mk (show Recs L from fun r hr => ⟨HOKD.out.2.1 r hr, Nat.le_trans (HLI1.out.2.2.2 r hr) (by decide)⟩)
        go_upto_if 115 with (fail)
        go_cut [30, 31] from 90 to 134 (fun v30 v31 wx => ∃ (okE : Nat → Prop) (nx : List (List Int)) (xs3 : List Rx) (b3 : Nat), Aside0 (DeedC wx okE gd gl nb m D n G hv nx v31) ∧ Aside0 (Lst w wx okE) ∧ Aside0 (HeldV w wx bh okE (.slice Ah xh.length ch) xh hv) ∧ Aside0 (HeldV w wx bo okE u27 xo ot) ∧ Aside0 (HeldV w wx b3 okE v30 xs3 nx) ∧ Aside0 (Recs nx ∧ nx.length ≤ 6 + i))
        case first =>
          by_cases h5 : q8 = 5
          · subst h5
            go_wp2_with (first
              | ((with_reducible refine gate_dst (N := 116) rfl ?_); refine Kd.R_lit kQ wc.heap.size 35 ?hg (N := 116) ?hd (w0 := wc) (xs := ([] : List Rx)) (inner := []) (ok := fun _ => True) (okp := fun _ => True) ?hr ?hp (fun _ hk => hk) trivial (Below.refl _ _) (Nat.le_refl _) (by simp) ?_; (case hd => rfl); (case hg => rfl); (case hr => first | (go_simp; done) | (go_simp; rfl)); (case hp => exact (Reps.none _ _)); intro v1 wq1 ho hb hg_ hnew_; clear hg_ hnew_; have HO1 := Aside0.mk ho; have HB1 := Aside0.mk hb; clear x0 x1 x2; have x2 := (hb.cell (World.block_lt_of_cell? wc _ (blk_cell HBX.out 2))).trans (blk_cell HBX.out 2); clear ho hb)
              | ((with_reducible refine gate_builtin (b := .append) (xs := #[.tmp 116, .tmp 118]) rfl ?_); at_builtin; refine Kd.R_append_rows kQ (w0 := wc) wc.heap.size rfl (.tmp 116) (.tmp 118) 31 35 (.slice none 0 0) 24 rfl Tryd.underlying31 infoB rfl (by decide) (by omega) v1 ([] : List Rx) xl _ _ _ (fun _ => True) (fun _ => some 0 ≠ v1.ownBlock ∧ False) rfl rfl ?aO ?aR (fun _ _ h => h) (fun _ h => h.2.elim) ?aF ?aB ?aS ?aL ?_; (case aR => exact Kd.C_below HSL.out.1 (below_step HS.out.below HB1.out)); (case aB => exact HB1.out); (case aF => exact fun _ _ => trivial); (case aO => exact HO1.out); (case aS => exact HB1.out.size); (case aL => have := HLI1.out.2.1; simp only [List.length_nil]; omega); intro v2 wq2 ho hb hg hat; obtain ⟨okF, xs4, b4, ha, hs, hx, hoo, hn⟩ := fin18 HA.out HS.out HX.out HO.out hb ho (show Each (RowV w wq2) ([] ++ xl) L from HSL.out.2.imp (fun x y h => .inr h)); have hbx := (hb.block ob (blk_lt HBX.out)).trans HBX.out; clear x2 HA HS HX HO HN HBX ho hb hg hat; have HA := Aside0.mk ha; have HS := Aside0.mk hs; have HX := Aside0.mk hx; have HO := Aside0.mk hoo; have HN := Aside0.mk hn; have HBX := Aside0.mk hbx; have x2 := blk_cell hbx 2; clear ha hs hx hoo hn hbx)
              | (go_at_call 15; (refine (anew_c w _ nb m okF gd gl D n G hv L A2 nL k2 HA.out HS.out HLV.out HNM.out.2.2.1 HNM.out.2.2.2 HNM.out.1 HNM.out.2.1 (fun W hb => Kd.C_below HCL.out.1 hb) HCL.out.2 (by have := HLI1.out.2.1; omega) HRL.out).mono ?_); intro e w11 hdd; obtain ⟨v31, rfl, hdc, hs, hf⟩ := deed_v hdd; have n1 := Aside0.mk (HX.out.fr HS.out hf); have n2 := Aside0.mk (HO.out.fr HS.out hf); have n3 := Aside0.mk (HN.out.fr HS.out hf); clear x2 HA HS HX HO HN hdd hf; have HDC := Aside0.mk hdc; have HS := Aside0.mk hs; have HX := n1; have HO := n2; have HN := n3; clear hdc hs n1 n2 n3))
            go_meet
            exact ⟨okF, L, xs4, b4, HDC, HS, HX, HO, HN, ⟨HRL.out, by have h1 := HCL.out.1.1; have := HLI1.out.2.1; omega⟩⟩
          · have b5 : (q8 == 5) = false := beq_eq_false_iff_ne.mpr h5
            clear h5
            go_wp2_with (go_at_call 13; (refine (append_c w _ nb m okC gd gl D n G hv A1 nB k1 B HA.out HS.out HLV.out HNM.out.2.2.1 HNM.out.2.2.2 HNM.out.1 HNM.out.2.1 (HCB.out _ HS.out.below).1 HOKD.out.1 (HCB.out _ HS.out.below).2 (by have := HLI1.out.1; omega)).mono ?_); intro e w11 hdd; obtain ⟨v31, rfl, hdc, hs, hf⟩ := deed_v hdd; have n1 := Aside0.mk (HX.out.fr HS.out hf); have n2 := Aside0.mk (HO.out.fr HS.out hf); have n3 := Aside0.mk (HN.out.fr HS.out hf); clear x0 x1 x2 HA HS HX HO HN hdd hf; have HDC := Aside0.mk hdc; have HS := Aside0.mk hs; have HX := n1; have HO := n2; have HN := n3; clear hdc hs n1 n2 n3)
            go_meet
            exact ⟨okC, hv ++ [B], xs2, b2, HDC, HS, HX, HO, HN, ⟨HRW.out.1.snoc HOKD.out.1 (by have := HLI1.out.1; have := HNBL.out.1; omega), by rw [List.length_append]; have := HI.out; show hv.length + 1 ≤ _; omega⟩⟩
        case rest =>
          clear HA HS HX HO HN HBX HCB HCL HSL HRL x0 x1 x2
          obtain ⟨okE, nx, xs3, b3, HDC, HS, HX, HO, HN, HRN⟩ := hcut
          rcases HDC.out with ⟨rfl, hA⟩ | ⟨rfl, D', G', hG', hh⟩
          · have HA := Aside0.mk hA
            clear hA HDC
            go_wp2
            go_roundg (gk0 - 1)
            case measure => have := HI.out; have := HLT.out; omega
            case rel => exact ⟨i + 1, m, G, D, hv, ot, xh, xo, bh, bo, okE, by first | rfl | go_num, ⟨by have := HLT.out; omega, by have := HI.out; omega, by have := HI.out; omega, by have := HI.out; omega, by have := HI.out; omega, by have := HI.out; omega⟩, ⟨.inl ⟨HA.out, HLV.out⟩⟩, HS, HX, HO, HRW⟩
          · have HGG := Aside0.mk hG'
            rcases hh with ⟨hz, hA, hL⟩ | ⟨hz, hD, hAf⟩
            · have HZ := Aside0.mk (show (D'.left == 0) = false from beq_eq_false_iff_ne.mpr hz)
              have HA := Aside0.mk hA
              have HL := Aside0.mk hL
              clear HDC HLV hz hA hL hG'
              go_wp2_with (go_at_call 19; (refine (Stopped okE gd D' _ HA.out.dev).mono ?_); rintro e wz ⟨he, hww⟩; rw [HZ.out] at he; subst he; subst hww)
              go_roundg (gk0 - 1)
              case measure => have := HI.out; have := HLT.out; omega
              case rel => exact ⟨i + 1, m + 60, G', D', nx, nx, xs3, xs3, b3, b3, okE, by first | rfl | go_num, ⟨by have := HLT.out; omega, by have := HI.out; omega, by have := HI.out; omega, by have := HI.out; have := HGG.out; omega, by have := HRN.out.2; omega, by have := HRN.out.2; omega⟩, ⟨.inl ⟨HA.out, HL.out⟩⟩, HS, HN, HN, ⟨HRN.out.1, HRN.out.1⟩⟩
            · have HZ := Aside0.mk (show (D'.left == 0) = true from beq_iff_eq.mpr hz)
              have HD := Aside0.mk hD
              have HSF := Aside0.mk (show D'.left = 0 ∧ DevAt _ okE gd D' ∧ After nb (m + 60) D' n G' (fun X => X = hv ∨ X = nx) from ⟨hz, hD, hAf⟩)
              clear HDC HLV hz hD hAf hG'
              go_wp2_with (go_at_call 19; (refine (Stopped okE gd D' _ HD.out).mono ?_); rintro e wz ⟨he, hww⟩; rw [HZ.out] at he; subst he; subst hww)
              go_roundg (gk0 - 1)
              case measure => have := HI.out; have := HLT.out; omega
              case rel => exact ⟨i + 1, m + 60, G', D', hv, nx, xh, xs3, bh, b3, okE, by first | rfl | go_num, ⟨by have := HLT.out; omega, by have := HI.out; omega, by have := HI.out; omega, by have := HI.out; have := HGG.out; omega, by have := HI.out; omega, by have := HRN.out.2; omega⟩, ⟨.inr HSF.out⟩, HS, HX, HN, ⟨HRW.out.1, HRN.out.1⟩⟩
    · obtain rfl : bb = false := HBO.out.trans (decide_eq_false hrun)
      have HSF := Aside0.mk HST.out.after
      have HNM := Aside0.mk (show (0 < nb ∧ nb ≤ 1000000) ∧ m ≤ 2200 ∧ 1 ≤ n ∧ n ≤ 25 ∧ G ≤ 22 ∧ hv.length ≤ 25 ∧ ot.length ≤ 26 by have := HNB.out; have := HNL.out; have := HI.out; have := HLO.out.1; omega)
      obtain ⟨Ah, ch, rfl, hch, hCh⟩ := HX.out.C HS.out.below
      obtain ⟨Ao, co, rfl, hco, hCo⟩ := HO.out.C HS.out.below
      clear hch hco hCh hCo HST hrun HBO hl20
      go_upto_region 29 with (go_at_call 20; (refine (crash_c w _ nb m ok gd D n G _ A3 n3 c3 keep tn at1 HSF.out.1 HS.out HSF.out.2 HNM.out.1 (by have := HNM.out; omega) HC3.out.1 HC3.out.2.1 (by have := HL37.out; omega) HC3.out.2.2).mono ?_); rintro e w10 ⟨rfl, D1, G1, R1, hgq, hp1, hcd, hd, hs, hf⟩; have n1 := Aside0.mk (HX.out.fr HS.out hf); have n2 := Aside0.mk (HO.out.fr HS.out hf); clear HS HX HO HSF; have HS := Aside0.mk hs; have HX := n1; have HO := n2; have HCD := Aside0.mk hcd; have HD := Aside0.mk hd; have HP := Aside0.mk (show R1 = hv ∨ R1 = ot from hp1); have HG1 := Aside0.mk hgq; clear n1 n2 hs hcd hd hp1 hgq hf)
      go_upto_region 30 with (go_at_call 18; (refine (stop_c w _ nb m ok gd D1 n G1 R1 (gk2 : Int) HD.out HS.out HCD.out (by have := HSK.out; omega)).mono ?_); rintro e w11 ⟨rfl, hcd, hd, hs, hf⟩; have n1 := Aside0.mk (HX.out.fr HS.out (frL hf)); have n2 := Aside0.mk (HO.out.fr HS.out (frL hf)); clear HS HX HO HCD HD; have HS := Aside0.mk hs; have HX := n1; have HO := n2; have HCD := Aside0.mk hcd; have HD := Aside0.mk hd; clear n1 n2 hs hcd hd hf)
      go_upto_region 31 with (go_at_call 11; (refine (open_c GA w _ nb m ok gd (D1.stop (gk2 : Int)) n G1 R1 HD.out HS.out HCD.out (by have := HNM.out; omega) (by have := HNM.out; omega) (by have := HNM.out; have := HG1.out; omega) HNM.out.1.2 (by have := HNM.out; omega) (Glob.below HG.out HS.out.below)).mono ?_); rintro e w12 ⟨gl2, A5, c5, xs5b, ok2, D2b, rfl, haf, hd, hs, hok2, hf, _⟩; have n1 := Aside0.mk ((HX.out.fr HS.out hf).okTo hok2); have n2 := Aside0.mk ((HO.out.fr HS.out hf).okTo hok2); clear HS HX HO HCD HD; have HS := Aside0.mk hs; have HX := n1; have HO := n2; have HAF := Aside0.mk haf; have HD := Aside0.mk hd; clear n1 n2 hs haf hd hok2 hf)
      go_upto_region 32 with (go_at_call 20; (refine (crash_c w _ nb (m + 60) ok2 gd D2b n (G1 + 1) _ A7 n7 c7 more tn2 at2 HD.out HS.out HAF.out HNM.out.1 (by have := HNM.out; omega) HC7.out.1 HC7.out.2.1 (by have := HL37.out; omega) HC7.out.2.2).mono ?_); rintro e w13 ⟨rfl, D3, G3, R3, hgq, hp3, hcd, hd, hs, hf⟩; rw [show R3 = R1 from hp3] at hcd; have n1 := Aside0.mk (HX.out.fr HS.out hf); have n2 := Aside0.mk (HO.out.fr HS.out hf); clear HS HX HO HAF HD; have HS := Aside0.mk hs; have HX := n1; have HO := n2; have HCD := Aside0.mk hcd; have HD := Aside0.mk hd; have HG3 := Aside0.mk hgq; clear n1 n2 hs hcd hd hp3 hgq hf)
      go_upto_region 33 with (go_at_call 11; (refine (open_c GA w _ nb (m + 60) ok2 gd D3 n G3 R1 HD.out HS.out HCD.out (by have := HNM.out; omega) (by have := HNM.out; omega) (by have := HNM.out; have := HG1.out; have := HG3.out; omega) HNM.out.1.2 (by have := HNM.out; omega) (Glob.below HG.out HS.out.below)).mono ?_); rintro e w14 ⟨gl3, A6, c6, xs6, ok3, D4, rfl, haf, hd, hs, hok2, hf, hxn⟩; have n1 := Aside0.mk ((HX.out.fr HS.out hf).okTo hok2); have n2 := Aside0.mk ((HO.out.fr HS.out hf).okTo hok2); clear HS HX HO HCD HD; have HS := Aside0.mk hs; have HX := n1; have HO := n2; have HXN := Aside0.mk hxn; clear n1 n2 hs haf hd hok2 hf hxn)
      have HRR := Aside0.mk (show (∀ r, r ∈ R1 → wfb r) ∧ R1.length ≤ 1000000 by
        rcases HP.out with e | e
        · rw [e]; exact ⟨fun r hr => (HRW.out.1 r hr).1, by have := HNM.out; omega⟩
        · rw [e]; exact ⟨fun r hr => (HRW.out.2 r hr).1, by have := HNM.out; omega⟩)
      by_cases hq : R1 = hv
      · have HQ := Aside0.mk hq
        clear hq
        go_wp2_with (go_at_call 14; (refine (same_ A6 Ah c6 ch R1.length hv.length R1 hv _ HXN.out.CC (HX.out.CC HS.out.below) HRR.out.1 (fun r hr => (HRW.out.1 r hr).1) HRR.out.2).mono ?_); rintro e w15 ⟨he, hb⟩; rw [decide_eq_true HQ.out] at he; subst he; have n2 := Aside0.mk (HS.out.step hb); clear HS hb HX HXN HO; have HS := n2; clear n2)
        go_ret
        exact ⟨rfl, HS.out.below⟩
      · have HQ := Aside0.mk hq
        have HQ2 := Aside0.mk (HP.out.resolve_left hq)
        clear hq
        go_wp2_with (first
          | (go_at_call 14; (refine (same_ A6 Ah c6 ch R1.length hv.length R1 hv _ HXN.out.CC (HX.out.CC HS.out.below) HRR.out.1 (fun r hr => (HRW.out.1 r hr).1) HRR.out.2).mono ?_); rintro e w15 ⟨he, hb⟩; rw [decide_eq_false HQ.out] at he; subst he; have n1 := Aside0.mk (HXN.out.step hb); have n2 := Aside0.mk (HS.out.step hb); have n3 := Aside0.mk (HO.out.step hb); clear HS hb HX HXN HO; have HS := n2; have HXN := n1; have HO := n3; clear n1 n2 n3)
          | (go_at_call 14; (refine (same_ A6 Ao c6 co R1.length ot.length R1 ot _ HXN.out.CC (HO.out.CC HS.out.below) HRR.out.1 (fun r hr => (HRW.out.2 r hr).1) HRR.out.2).mono ?_); rintro e w16 ⟨he, hb⟩; rw [decide_eq_true HQ2.out] at he; subst he; have n2 := Aside0.mk (HS.out.step hb); clear HS hb HXN HO; have HS := n2; clear n2))
        go_ret
        exact ⟨rfl, HS.out.below⟩
end Go.Proofs.YtokmildjniploaaDoor.PLog
namespace Go.Proofs.YtokmildjniploaaDoor.PLog
open Go.RowKit Go.Proofs.YtokmildjniploaaDoorW.PrintWords Go.Proofs.YtokmildjniploaaDoorW.PrintLast Go.Proofs.YtokmildjniploaaDoorW.PrintMore Go.Proofs.YtokmildjniploaaDoor.BGLog
set_option linter.unusedVariables false
set_option linter.unusedSimpArgs false
set_option maxHeartbeats 8000000 in
set_option maxRecDepth 100000 in
/-- What is not light is let through. -/
theorem crash_no (GA : Nat → Addr) (v0 v2 v4 v5 v6 v8 v9 : Value) (A1 : Option Addr) (c1 : Nat) (l : List S46) (A3 : Option Addr) (n3 c3 : Nat) (A7 : Option Addr) (n7 c7 : Nat) (w : World) (hG : Glob GA w) (r : Bool)
    (hC1 : Kd.C k46 w A1 l.length l) (HLI : Aside0 (∀ w' : World, Kd.C k46 w' A1 l.length l → Calls Tryd.prog 17 #[.slice A1 l.length c1] w' fun e w'' => e = .returned (.bool r) ∧ Drawn0 w' w''))
    (hno : r = false ∨ 40 < n3 ∨ 40 < n7) :
    Calls Tryd.prog 6 #[v0, .slice A1 l.length c1, v2, .slice A3 n3 c3, v4, v5, v6, .slice A7 n7 c7, v8, v9] w fun e w' => e = .returned (.bool true) ∧ Below w.heap.size w w' := by
  have HG := Aside0.mk hG
  have HC1 := Aside0.mk hC1
  cases r with
  | false =>
    clear hG hC1 hno
    go_enter Tryd.func6, Tryd.ntmps6
    go_wp2_with (first | (go_at_call 7; (refine (begun GA _ HG.out).mono ?_); rintro e w1 ⟨rfl, hb⟩; have HB := Aside0.mk hb; clear hb) | (go_at_call 17; (refine (HLI.out _ (Kd.C_below HC1.out HB.out)).mono ?_); rintro e w1a ⟨rfl, hdd⟩; have n0 := Aside0.mk (below_step HB.out hdd.below); clear HB hdd; have HB := n0; clear n0))
    go_ret
    exact ⟨rfl, HB.out⟩
  | true =>
    by_cases h3 : 40 < n3
    · have d3 : decide ((40 : Int) < (n3 : Int)) = true := decide_eq_true (by omega)
      have d3n : decide (40 < n3) = true := decide_eq_true (by omega)
      clear hG hC1 hno h3
      go_enter Tryd.func6, Tryd.ntmps6
      go_wp2_with (first | (go_at_call 7; (refine (begun GA _ HG.out).mono ?_); rintro e w1 ⟨rfl, hb⟩; have HB := Aside0.mk hb; clear hb) | (go_at_call 17; (refine (HLI.out _ (Kd.C_below HC1.out HB.out)).mono ?_); rintro e w1a ⟨rfl, hdd⟩; have n0 := Aside0.mk (below_step HB.out hdd.below); clear HB hdd; have HB := n0; clear n0))
      go_ret
      exact ⟨rfl, HB.out⟩
    · have h7 : 40 < n7 := by
        rcases hno with h | h | h
        · cases h
        · exact absurd h h3
        · exact h
      have d3 : decide ((40 : Int) < (n3 : Int)) = false := decide_eq_false (by omega)
      have d3n : decide (40 < n3) = false := decide_eq_false (by omega)
      have d7 : decide ((40 : Int) < (n7 : Int)) = true := decide_eq_true (by omega)
      have d7n : decide (40 < n7) = true := decide_eq_true (by omega)
      clear hG hC1 hno h3 h7
      go_enter Tryd.func6, Tryd.ntmps6
      go_wp2_with (first | (go_at_call 7; (refine (begun GA _ HG.out).mono ?_); rintro e w1 ⟨rfl, hb⟩; have HB := Aside0.mk hb; clear hb) | (go_at_call 17; (refine (HLI.out _ (Kd.C_below HC1.out HB.out)).mono ?_); rintro e w1a ⟨rfl, hdd⟩; have n0 := Aside0.mk (below_step HB.out hdd.below); clear HB hdd; have HB := n0; clear n0))
      go_ret
      exact ⟨rfl, HB.out⟩
def isB (l : List Int) : Bool := l.all fun x => decide (0 ≤ x ∧ x < 256)
theorem isB_wf {l : List Int} (h : isB l = true) : wfb l := fun x hx => by
  have h3 := List.all_eq_true.1 h x hx
  rw [decide_eq_true_iff] at h3
  exact h3
theorem isB_of {l : List Int} (h : ∀ x, x ∈ l → 0 ≤ x ∧ x < 256) : isB l = true := List.all_eq_true.2 fun x hx => decide_eq_true (h x hx)
def rabbetlaw21_LogCrashes.f (a0 : Int) (l1 : List S46) (a2 : Int) (l3 : List Int) (a4 a5 a6 : Int) (l7 : List Int) (a8 a9 : Int) : Option Bool := if ((0 ≤ a0 ∧ a0 < 256) ∧ (0 ≤ a2 ∧ a2 < 65536) ∧ 0 ≤ a6 ∧ a6 < 256) ∧ isB l3 = true ∧ isB l7 = true ∧ ∀ o, o ∈ l1 → isB o.f1 = true ∧ (∀ r, r ∈ o.f2 → isB r = true) ∧ isB o.f3 = true then some true else none
theorem rabbetlaw21_LogCrashes.calls (GA : Nat → Addr) (a0 : Int) (A1 : Option Addr) (c1 : Nat) (l1 : List S46) (a2 : Int) (A3 : Option Addr) (c3 : Nat) (l3 : List Int) (a4 a5 a6 : Int) (A7 : Option Addr) (c7 : Nat) (l7 : List Int) (a8 a9 : Int) (r : Bool) (w : World) (hr1 : Kd.C k46 w A1 l1.length l1) (hc1 : l1.length ≤ c1) (hr3 : Kd.C (Kd.int .u8) w A3 l3.length l3) (hc3 : l3.length ≤ c3) (hr7 : Kd.C (Kd.int .u8) w A7 l7.length l7) (hc7 : l7.length ≤ c7) (hG : Glob GA w) (h : rabbetlaw21_LogCrashes.f a0 l1 a2 l3 a4 a5 a6 l7 a8 a9 = some r) :
    Calls Tryd.prog 6 #[.int .u8 a0, .slice A1 l1.length c1, .int .u16 a2, .slice A3 l3.length c3, .int .i64 a4, .int .i64 a5, .int .u8 a6, .slice A7 l7.length c7, .int .i64 a8, .int .i64 a9] w fun e w' => e = .returned (.bool r) ∧ Below w.heap.size w w' := by
  unfold rabbetlaw21_LogCrashes.f at h
  split at h
  · rename_i c
    obtain rfl := Option.some.inj h
    obtain ⟨⟨ha, hs, hg⟩, h3, h7, hl⟩ := c
    obtain ⟨a, rfl⟩ := Int.eq_ofNat_of_zero_le ha.1
    obtain ⟨st, rfl⟩ := Int.eq_ofNat_of_zero_le hs.1
    obtain ⟨ag, rfl⟩ := Int.eq_ofNat_of_zero_le hg.1
    obtain ⟨q, hq, hcall⟩ := light A1 c1 l1 w hr1 hc1
    by_cases hno : q = false ∨ 40 < l3.length ∨ 40 < l7.length
    · exact crash_no GA _ _ _ _ _ _ _ A1 c1 l1 A3 l3.length c3 A7 l7.length c7 w hG q hr1 ⟨hcall⟩ hno
    · obtain rfl : q = true := by
        cases q with
        | true => rfl
        | false => exact absurd (.inl rfl) hno
      exact crash_yes GA a A1 c1 l1 st A3 l3.length c3 l3 a4 a5 ag A7 l7.length c7 l7 a8 a9 w hG (by omega) (by omega) (by omega) hr1 hc1 (fun o ho => ⟨isB_wf (hl o ho).1, fun r hr => isB_wf ((hl o ho).2.1 r hr), isB_wf (hl o ho).2.2⟩) ⟨hcall⟩ ⟨hq rfl⟩ hr3 hc3 (isB_wf h3) (Nat.le_of_not_lt fun h => hno (.inr (.inl h))) hr7 hc7 (isB_wf h7) (Nat.le_of_not_lt fun h => hno (.inr (.inr h)))
  · cases h
end Go.Proofs.YtokmildjniploaaDoor.PLog
