/- log: bytes stay bytes; Log's begun. Conditions: none. -/
import Derived.Test.YtokmildjniploaaDoorLogW
import Derived.Test.YtokmildjniploaaDoorXB
namespace Go.Proofs.YtokmildjniploaaDoor.PLog
open Go.RowKit Go.Proofs.YtokmildjniploaaDoorW.PrintWords Go.Proofs.YtokmildjniploaaDoorW.PrintLast Go.Proofs.YtokmildjniploaaDoorW.PrintMore Go.Proofs.YtokmildjniploaaDoor.BGLog
open Go.Extern.Stop Go.Stop Go.Extern
set_option linter.unusedVariables false
set_option linter.unusedSimpArgs false
theorem z128_wf : wfb z128 := fun x hx => by unfold z128 at hx; rw [(List.mem_replicate.1 hx).2]; decide
theorem byt_new (n : Nat) : Byt (newD n).seen := fun r hr => by
  have : r = z128 := (List.mem_replicate.1 (show r ∈ List.replicate n z128 from hr)).2
  rw [this]; exact z128_wf
theorem byt_write {D : Dat} (h : Byt D.seen) (i : Int) (b : List Int) (hb : wfb b) : Byt (D.write i b).2.seen := by
  unfold Dat.write
  split
  · show Byt (if D.left = 0 then D else D.wrote i.toNat b).seen
    split
    · exact h
    · intro r hr
      rcases List.mem_or_eq_of_mem_set (show r ∈ D.seen.set i.toNat b from hr) with h1 | h1
      · exact h r h1
      · rw [h1]; exact hb
  · exact h
theorem byt_flush {D : Dat} (h : Byt D.seen) : Byt D.flush.seen := by rw [flush_seen]; exact h
theorem chB_wf {t : List Int} (h : wfb t) (i : Nat) : wfb (chB t i) := fun x hx => h x (List.mem_of_mem_drop (List.mem_of_mem_take hx))
theorem byt_putGo {t : List Int} (ht : wfb t) (area gen : Nat) (is : List Nat) : ∀ (u : Nat) (D : Dat), Byt D.seen → Byt (putGo area gen t u D is).seen := by
  induction is with
  | nil => intro u D h; exact h
  | cons i is ih => intro u D h; exact ih _ _ (byt_write h _ _ (putT_wf _ _ _ (chB_wf ht i)))
theorem textR_wf {rec : List Int} (h : wfb rec) : wfb (textR rec) := wfb_app (F4_wf _) h
theorem byt_putD {D : Dat} (h : Byt D.seen) {rec : List Int} (hr : wfb rec) (area gen u : Nat) : Byt (putD area gen u D rec).seen := byt_putGo (textR_wf hr) area gen _ u D h
theorem byt_blanks {D : Dat} (h : Byt D.seen) (area gen : Nat) : ∀ i, Byt (blanks area gen D i).seen
  | 0 => h
  | i + 1 => byt_write (byt_blanks h area gen i) _ _ z128_wf
theorem byt_putAll (area gen : Nat) (recs : List (List Int)) (hr : ∀ r, r ∈ recs → wfb r) : ∀ (u : Nat) (D : Dat), Byt D.seen → Byt (putAll area gen u D recs).seen := by
  induction recs with
  | nil => intro u D h; exact h
  | cons r rs ih => intro u D h; exact ih (fun x hx => hr x (List.mem_cons_of_mem _ hx)) _ _ (byt_putD h (hr r List.mem_cons_self) area gen u)
theorem byt_anew {D : Dat} (h : Byt D.seen) (area gen : Nat) (recs : List (List Int)) (hr : ∀ r, r ∈ recs → wfb r) : Byt (anewD area gen D recs).seen :=
  byt_flush (byt_write (byt_flush (byt_putAll area gen recs hr 0 _ (byt_flush (byt_blanks h area gen area)))) _ _ (putT_wf _ _ _ wfb_nil))
/-! ### rows that are held across a log's work -/
theorem rows_fr {W W' : World} {B : Nat} {okN : Nat → Prop} {v : Value} {xs : List Rx} (h : Kd.R kQ 35 W B (fun k => ¬ okN k) v xs) (hs : ∀ k, W.heap.size ≤ k → okN k) (hf : Fr okN logT W W') : Kd.R kQ 35 W' B (fun k => ¬ okN k) v xs :=
  Kd.R_move h (fun k hk => hf.block k (by rcases Nat.lt_or_ge k W.heap.size with h | h; exact h; exact absurd (hs k h) hk) hk)
theorem one_C {W : World} {b : Nat} {A : Option Addr} {n c : Nat} {x : List Int} {fr : Nat × Nat} (hb : W.heap[b]? = some (.cells #[.slice A n c] 35 fr)) (hn : x.length = n) (hc : n ≤ c) (hC : Kd.C (Kd.int .u8) W A n x) : Kd.C (Kd.slice 5 (Kd.int .u8)) W (some ⟨b, 0, none⟩) 1 [x] := by
  subst hn
  refine ⟨rfl, by decide, fun _ => ⟨_, rfl, fun j p hj => ?_⟩⟩
  match j, hj with
  | 0, hj =>
    obtain rfl := Option.some.inj hj
    refine ⟨[.slice A x.length c], rfl, ⟨A, c, rfl, hc, hC⟩, fun i u hu => ?_⟩
    match i, hu with
    | 0, hu =>
      rw [add_plain]
      have : W.cell? ⟨b, 0, none⟩ = some (.slice A x.length c) := by simp [World.cell?, hb]
      exact this.trans hu
theorem fr_C {W W' : World} {ok : Nat → Prop} {b : Nat} {cs : Array Value} {fr : Nat × Nat} {n : Nat} {l : List Int} (hf : Fr ok logT W W') (hb : W.heap[b]? = some (.cells cs 5 fr)) (h : Kd.C (Kd.int .u8) W (some ⟨b, 0, none⟩) n l) : Kd.C (Kd.int .u8) W' (some ⟨b, 0, none⟩) n l := by
  have he : W'.heap[b]? = W.heap[b]? := hf.typed _ _ _ _ hb (by decide)
  refine ⟨h.1, h.2.1, fun hp => ?_⟩
  obtain ⟨ad, e, hh⟩ := h.2.2 hp
  obtain rfl := Option.some.inj e
  refine ⟨_, rfl, fun j p hj => ?_⟩
  obtain ⟨cs, h1, h2, h3⟩ := hh j p hj
  refine ⟨cs, h1, h2, fun i u hu => (World.cell?_of_block ?_).trans (h3 i u hu)⟩
  have : ∀ q, ((⟨b, 0, none⟩ : Addr).add q).block = b := fun q => by unfold Addr.add; split <;> rfl
  rw [this]
  exact he
def bD1 : Dat := anewD 9 1 (newD 20) [[97]]
def bD2 : Dat := anewD 9 2 bD1 [[97]]
def bD3 : Dat := (putD 9 2 1 bD2 [98]).flush
set_option maxRecDepth 1000000 in
theorem bg1 : genTo bD1 2 = 1 ∧ openRecs bD1 9 1 = [[97]] ∧ sumS [[97]] = 1 ∧ mayB (newD 20) 9 = true ∧ mayB bD1 9 = true ∧ mayB bD3 9 = true := by decide +kernel
set_option maxRecDepth 1000000 in
theorem bg2 : genTo bD3 2 = 2 ∧ openRecs bD3 9 2 = [[97], [98]] := by decide +kernel
theorem wf97 : ∀ r, r ∈ [([97] : List Int)] → wfb r := fun r hr => by rw [List.mem_singleton.1 hr]; intro x hx; rw [List.mem_singleton.1 hx]; decide
theorem wf98 : wfb [98] := fun x hx => by rw [List.mem_singleton.1 hx]; decide
theorem good1 : Good 20 11 bD1 ∧ Byt bD1.seen := ⟨good_anew (good_new 20) 9 1 [[97]], byt_anew (byt_new 20) 9 1 _ wf97⟩
theorem good2 : Good 20 22 bD2 ∧ Byt bD2.seen := ⟨good_anew good1.1 9 2 [[97]], byt_anew good1.2 9 2 _ wf97⟩
theorem good3 : Good 20 23 bD3 ∧ Byt bD3.seen := ⟨good_flush (good_putD good2.1 9 2 1 [98]), byt_flush (byt_putD good2.2 wf98 9 2 1)⟩
theorem row1 {W : World} {A : Option Addr} {n : Nat} {xs : List Rx} {recs : List (List Int)} (h : Kd.C kQ W A n xs) (he : Each (RowX W) xs recs) (i : Nat) (r : List Int) (hr : recs[i]? = some r) : ∃ ad A1 c1, A = some ad ∧ W.cell? (ad.add i) = some (.slice A1 r.length c1) ∧ r.length ≤ c1 ∧ Kd.C (Kd.int .u8) W A1 r.length r :=
  at_rows (rows_C h he) i (by have := (rows_C h he).1; rcases Nat.lt_or_ge i recs.length with c | c; omega; rw [List.getElem?_eq_none c] at hr; cases hr) r hr
set_option maxHeartbeats 16000000 in
set_option maxRecDepth 100000 in
theorem begun (GA : Nat → Addr) (w : World) (hG : Glob GA w) : Calls Tryd.prog 7 #[] w fun e w' => e = .returned (.bool true) ∧ Below w.heap.size w w' := by
  have HG := Aside0.mk hG
  clear hG
  go_enter Tryd.func7, Tryd.ntmps7
  go_upto_region 2 with (go_at_call 8; (refine (New 20 _ (by decide) (by decide)).mono ?_); rintro e w1 ⟨gd, rfl, hd, hb⟩; have HD := Aside0.mk hd; have HB := Aside0.mk hb; clear hd hb)
  have hcst := fun (w : World) (C : Array Value) (n c : Nat) => x_const (P := Tryd.prog) 35 5 Tryd.underlying35 Tryd.underlying5 w C n c
  -- the first log's text
  obtain ⟨wa, hwa⟩ : ∃ wa, w1.alloc (.cells #[.int .u8 97] 5 (1, 2)) = wa := ⟨_, rfl⟩
  obtain ⟨wb, hwb⟩ : ∃ wb, wa.alloc (.cells #[.slice (some ⟨w1.heap.size, 0, none⟩) 1 1] 35) = wb := ⟨_, rfl⟩
  have hA1 : Below w1.heap.size w1 wa := by rw [← hwa]; exact below_alloc (Below.refl _ _) _
  have hA2 : wa.heap[w1.heap.size]? = some (.cells #[.int .u8 97] 5 (1, 2)) := by rw [← hwa]; exact heap_alloc_new _ _
  have hA3 : Kd.C (Kd.int .u8) wa (some ⟨w1.heap.size, 0, none⟩) 1 [97] := by rw [← hwa]; exact x_clit w1 5 (1, 2) [97] (by decide)
  have hA4 : wa.heap.size = w1.heap.size + 1 := by rw [← hwa, World.size_alloc]
  have hB1 : Below wa.heap.size wa wb := by rw [← hwb]; exact below_alloc (Below.refl _ _) _
  have hB2 : wb.heap[w1.heap.size + 1]? = some (.cells #[.slice (some ⟨w1.heap.size, 0, none⟩) 1 1] 35 (0, 0)) := by rw [← hwb, ← hA4]; exact heap_alloc_new _ _
  have hB4 : wb.heap.size = w1.heap.size + 2 := by rw [← hwb, World.size_alloc, hA4]
  obtain ⟨ok1, hok1⟩ : ∃ ok1 : Nat → Prop, ok1 = fun k => (w.heap.size ≤ k ∧ k < w1.heap.size) ∨ w1.heap.size + 2 ≤ k := ⟨_, rfl⟩
  have HO1 := Aside0.mk (show ∀ k, ok1 k → (w.heap.size ≤ k ∧ k < w1.heap.size) ∨ w1.heap.size + 2 ≤ k from fun k h => by rw [hok1] at h; exact h)
  have HO2 := Aside0.mk (show ∀ k, w1.heap.size + 2 ≤ k → ok1 k from fun k h => by rw [hok1]; exact .inr h)
  have hd1 : DevAt wb ok1 gd (newD 20) := ((HD.out.bound.mono (fun k hk => by rw [hok1]; exact .inl hk)).below hA1).below hB1
  have HMK := Aside0.mk (show Calls Tryd.prog 10 #[.pointer (some ⟨gd, 0, none⟩), .int .i64 9, .slice (some ⟨w1.heap.size + 1, 0, none⟩) 1 1] wb (fun e w' => e = .returned (.int .i64 0) ∧ DevAt w' ok1 gd bD1 ∧ Fr ok1 logT wb w') from Make_ 20 0 ok1 gd (newD 20) 9 (some ⟨w1.heap.size + 1, 0, none⟩) 1 [[97]] wb hd1 (fun k hk => HO2.out k (by omega)) bg1.2.2.2.1 (by decide) (by decide) (good_new 20)
    (fun w' hf => one_C ((hf.block _ (by omega) (fun h => by have := HO1.out _ h; omega)).trans hB2) rfl (Nat.le_refl _) (fr_C hf ((hB1.block _ (by omega)).trans hA2) (Kd.C_below hA3 hB1))) (Nat.le_refl _) (fun r hr => by rw [List.mem_singleton.1 hr]; decide) (by decide) (by rw [bg1.2.2.1]; decide))
  have HBW := Aside0.mk (below_step (below_step HB.out hA1) hB1)
  have HSZ := Aside0.mk (show w.heap.size ≤ w1.heap.size ∧ wb.heap.size = w1.heap.size + 2 from ⟨HB.out.size, hB4⟩)
  clear hok1 hA1 hA2 hA3 hB1 hB2 hd1 HD HB hA4 hB4
  have HW := Aside0.mk (And.intro hwa hwb)
  clear hwb hwa
  go_upto_region 4 with (go_at_call 10; (try rw [HW.out.1]); (try rw [HW.out.2]); (refine HMK.out.mono ?_); rintro e w3 ⟨rfl, hd, hf⟩; have HD := Aside0.mk hd; have HF := Aside0.mk hf; clear hd hf HMK)
  have HBB := Aside0.mk (show Below w.heap.size w w3 from HF.out.below HBW.out HBW.out.size (fun k hk => (HO1.out k hk).elim (fun h => h.1) (fun h => by have := HSZ.out.1; omega)))
  have hs3 := HF.out.size
  have hop := Open_ GA 20 11 ok1 gd bD1 9 w3 HD.out (fun k hk => HO2.out k (by have := HSZ.out.2; omega)) bg1.2.2.2.2.1 (by decide) (by decide) good1.1 good1.2 (Glob.below HG.out HBB.out) (by rw [bg1.1]; decide)
  rw [bg1.1, bg1.2.1] at hop
  have HOP := Aside0.mk (show Calls Tryd.prog 11 #[.pointer (some ⟨gd, 0, none⟩), .int .i64 9] w3 _ from hop)
  clear hop
  go_upto_region 7 with (go_at_call 11; (refine HOP.out.mono ?_); intro e w4 hh; rcases hh with ⟨h0, _⟩ | ⟨_, gl, A4, c4, xs4, okN, rfl, hl, ho1, ho2, hf, hx, he⟩; exact absurd h0 (by decide); have HL := Aside0.mk (show LogAt w4 okN gd gl bD2 9 2 1 from hl); have HN1 := Aside0.mk ho1; have HN2 := Aside0.mk ho2; have HX := Aside0.mk (show Kd.R kQ 35 w4 w3.heap.size (fun k => ¬ okN k) (.slice A4 1 c4) xs4 from hx); have HE := Aside0.mk he; have n0 := Aside0.mk (hf.below HBB.out HBB.out.size (fun k hk => (HO1.out k hk).elim (fun h => h.1) (fun h => by have := HSZ.out.1; omega))); clear HBB hl ho1 ho2 hf hx he HOP; have HBB := n0; clear n0)
  -- the second record
  obtain ⟨wc, hwc⟩ : ∃ wc, w4.alloc (.cells #[.int .u8 98] 5 (1, 2)) = wc := ⟨_, rfl⟩
  have hC1 : Below w4.heap.size w4 wc := by rw [← hwc]; exact below_alloc (Below.refl _ _) _
  have hC3 : Kd.C (Kd.int .u8) wc (some ⟨w4.heap.size, 0, none⟩) 1 [98] := by rw [← hwc]; exact x_clit w4 5 (1, 2) [98] (by decide)
  have hokw : ∀ k, okN k → w.heap.size ≤ k := fun k hk => (HO1.out k (HN1.out k hk)).elim (fun h => h.1) (fun h => by have := HSZ.out.1; omega)
  have HOW := Aside0.mk hokw
  have HAP := Aside0.mk (show Calls Tryd.prog 13 #[.pointer (some ⟨gl, 0, none⟩), .slice (some ⟨w4.heap.size, 0, none⟩) 1 1] wc (fun e w' => e = .returned (.int .i64 0) ∧ LogAt w' okN gd gl bD3 9 2 2 ∧ Fr okN logT wc w') from
    Append_ok 20 22 okN gd gl bD2 9 2 1 (some ⟨w4.heap.size, 0, none⟩) 1 1 [98] wc (HL.out.below hC1) (fun k hk => HN2.out k (Nat.le_trans hC1.size hk)) (by decide) (by decide) (by decide) (by decide) (by decide) good2.1 hC3 (Nat.le_refl _) (by decide) (by decide))
  have n0 := Aside0.mk (below_step HBB.out hC1)
  have n1 := Aside0.mk (Kd.R_below HX.out hC1)
  have n2 := Aside0.mk (HE.out.imp (fun x y h => h.move (keepU_below hC1)))
  have n3 := Aside0.mk (show ∀ k, wc.heap.size ≤ k → okN k from fun k hk => HN2.out k (Nat.le_trans hC1.size hk))
  clear HBB HX HE HN2 hC1 hC3 hokw HL
  have HBB := n0
  have HX := n1
  have HE := n2
  have HN2 := n3
  clear n0 n1 n2 n3
  have HWC := Aside0.mk hwc
  clear hwc
  go_upto_region 9 with (first | (go_at_call 13; (try rw [HWC.out]); (refine HAP.out.mono ?_); rintro e w5 ⟨rfl, hl, hf⟩; have HL := Aside0.mk hl; have n0 := Aside0.mk (hf.below HBB.out HBB.out.size HOW.out); have n1 := Aside0.mk (rows_fr HX.out HN2.out hf); have n2 := Aside0.mk (HE.out.imp (fun x y h => h.move (keepU_fr hf))); have n3 := Aside0.mk (show ∀ k, w5.heap.size ≤ k → okN k from fun k hk => HN2.out k (Nat.le_trans hf.size hk)); clear HBB HX HE HN2 hl hf HAP; have HBB := n0; have HX := n1; have HE := n2; have HN2 := n3; clear n0 n1 n2 n3) | (go_at_call 12; (refine (Room _ gl gd 9 2 2 HL.out.box (by decide) (by decide)).mono ?_); rintro e w6 ⟨rfl, hdd⟩; have hd := hdd.below; have m0 := Aside0.mk (HL.out.below hd); have n0 := Aside0.mk (below_step HBB.out hd); have n1 := Aside0.mk (Kd.R_below HX.out hd); have n2 := Aside0.mk (HE.out.imp (fun x y h => h.move (keepU_below hd))); have n3 := Aside0.mk (show ∀ k, w6.heap.size ≤ k → okN k from fun k hk => HN2.out k (Nat.le_trans hd.size hk)); clear HL HBB HX HE HN2 hd hdd; have HL := m0; have HBB := n0; have HX := n1; have HE := n2; have HN2 := n3; clear m0 n0 n1 n2 n3))
  have hop := Open_ GA 20 23 okN gd bD3 9 w6 HL.out.dev HN2.out bg1.2.2.2.2.2 (by decide) (by decide) good3.1 good3.2 (Glob.below HG.out HBB.out) (by rw [bg2.1]; decide)
  rw [bg2.1, bg2.2] at hop
  have HOP := Aside0.mk (show Calls Tryd.prog 11 #[.pointer (some ⟨gd, 0, none⟩), .int .i64 9] w6 _ from hop)
  clear hop
  go_upto_region 10 with (go_at_call 11; (refine HOP.out.mono ?_); intro e w7 hh; rcases hh with ⟨h0, _⟩ | ⟨_, gl2, A7, c7, xs7, okM, rfl, hl, ho1, ho2, hf, hx, he⟩; exact absurd h0 (by decide); have HL2 := Aside0.mk (show LogAt w7 okM gd gl2 (anewD 9 3 bD3 [[97], [98]]) 9 3 2 from hl); have HX2 := Aside0.mk (show Kd.R kQ 35 w7 w6.heap.size (fun k => ¬ okM k) (.slice A7 2 c7) xs7 from hx); have HE2 := Aside0.mk he; have n0 := Aside0.mk (hf.below HBB.out HBB.out.size HOW.out); have n1 := Aside0.mk (rows_fr HX.out HN2.out hf); have n2 := Aside0.mk (HE.out.imp (fun x y h => h.move (keepU_fr hf))); clear HL HBB HX HE HN2 hl ho1 ho2 hf hx he HOP; have HBB := n0; have HX := n1; have HE := n2; clear n0 n1 n2)
  obtain ⟨ad4, A8, c8, e4, hx4, hc8, hC8⟩ := row1 (Kd.R_reads' HX.out).2.2 HE.out 0 [97] rfl
  obtain ⟨ad7, A9, c9, e7, hx7, hc9, hC9⟩ := row1 (Kd.R_reads' HX2.out).2.2 HE2.out 1 [98] rfl
  cases e4
  cases e7
  rw [show ad4.add 0 = ad4 by simp [Addr.add]] at hx4
  rw [show ad7.add 1 = ⟨ad7.block, ad7.off + 1, none⟩ from rfl] at hx7
  have hcs8 := Kd.C_string (P := Tryd.prog) (src := 35) (e := 5) (dst := 9) (c := c8) Tryd.underlying35 Tryd.underlying5 Tryd.underlying9 hC8
  have hcs9 := Kd.C_string (P := Tryd.prog) (src := 35) (e := 5) (dst := 9) (c := c9) Tryd.underlying35 Tryd.underlying5 Tryd.underlying9 hC9
  rw [show strOfNums [97] = (⟨#[97]⟩ : ByteArray) from rfl] at hcs8
  rw [show strOfNums [98] = (⟨#[98]⟩ : ByteArray) from rfl] at hcs9
  rw [show ([97] : List Int).length = 1 from rfl] at hcs8 hx4
  rw [show ([98] : List Int).length = 1 from rfl] at hcs9 hx7
  clear hC8 hC9 hc8 hc9
  go_wp2_with (first | (go_at_call 16; (refine (Gen _ gl2 gd 9 3 2 HL2.out.box).mono ?_); rintro e wz ⟨rfl, hww⟩; subst hww) | (go_at_call 9; (refine (SizeN 9 (by decide) _).mono ?_); rintro e w9 ⟨rfl, hdd⟩; have n0 := Aside0.mk (below_step HBB.out hdd.below); clear HBB hdd; have HBB := n0; clear n0))
  go_ret
  exact ⟨rfl, HBB.out⟩
end Go.Proofs.YtokmildjniploaaDoor.PLog
