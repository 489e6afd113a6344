/- SpaceApart: what is taken does not meet: the walk. Conditions: none. -/
import Derived.Test.YtaoegbebeogkbaaDoorSpaceM
namespace Go.Proofs.YtaoegbebeogkbaaDoor.PSpace
open Go.RowKit Go.Proofs.YtaoegbebeogkbaaDoorW.PrintWords Go.Proofs.YtaoegbebeogkbaaDoorW.PrintLast Go.Proofs.YtaoegbebeogkbaaDoorW.PrintMore
open Go.Extern.Stop Go.Stop Go.Extern
set_option linter.unusedVariables false
set_option linter.unusedSimpArgs false
attribute [local go_sem high] eqA39
/-- What the law holds: the space, who owns which block, what it has. -/
def Ap (w : World) (B gs : Nat) (vs : Value) (L : List Bool) (go : Nat) (own : List Int) (vt : Value) (hv : List S39) : Prop :=
  Sp 62 w B gs vs 7 L ∧ w.heap[go]? = some (.cells (nums .i64 own).toArray 49 (0, 0)) ∧ B ≤ go ∧ Kd.Q k39 39 w B (fun _ => True) vt hv
section
variable {w w1 : World} {B gs go : Nat} {vs vt : Value} {L L2 : List Bool} {own : List Int} {hv : List S39}
theorem Ap.below (h : Ap w B gs vs L go own vt hv) (hb : Below w.heap.size w w1) : Ap w1 B gs vs L go own vt hv :=
  ⟨h.1.below hb, blk_below h.2.1 hb, h.2.2.1, Kd.Q_below h.2.2.2 hb⟩
theorem Ap.take (h : Ap w B gs vs L go own vt hv) (hs : Sp 62 w1 B gs vs 7 L2) (hg : w.grownBy w1 vs.ownBlock) : Ap w1 B gs vs L2 go own vt hv := by
  refine ⟨hs, blk_grown h.2.1 hg (Kd.R_ne h.1.2.2 h.2.1 (by decide)), h.2.2.1, ?_⟩
  cases e : vs.ownBlock with
  | none => exact Kd.Q_grown h.2.2.2 hg (fun k _ => by rw [e]; simp)
  | some k =>
    obtain ⟨cs, hc⟩ := Kd.R_typed h.1.2.2 k e
    exact Kd.Q_mono (Kd.Q_grown (Kd.Q_types h.2.2.2 hc (by decide)) hg (fun j hj => by rw [e]; exact fun he => hj.2 (Option.some.inj he))) (fun _ _ => trivial)
theorem Ap.put (h : Ap w B gs vs L go own vt hv) (m : Nat) (u : Int) : Ap (w.setCell ⟨go, m, none⟩ (.int .i64 u)) B gs vs L go (own.set m u) vt hv := by
  refine ⟨h.1.set (Kd.R_ne h.1.2.2 h.2.1 (by decide)) (blk_ne h.2.1 h.1.2.1 (by decide)) _, blk_put h.2.1 m _ ?_, h.2.2.1, Kd.Q_set h.2.2.2 h.2.1 (by decide) m _⟩
  rw [List.setIfInBounds_toArray]
  simp [nums, List.map_set]
theorem Ap.app {v1 : Value} {hv2 : List S39} (h : Ap w B gs vs L go own vt hv) (ho : Kd.Q k39 39 w1 B (fun _ => True) v1 hv2) (hg : w.grownBy w1 vt.ownBlock) : Ap w1 B gs vs L go own v1 hv2 := by
  refine ⟨h.1.grown hg (fun k hk e => ?_) (fun k hk e => ?_), blk_grown h.2.1 hg (Kd.Q_ne h.2.2.2 h.2.1 (by decide)), h.2.2.1, ho⟩
  · obtain ⟨cs, hc⟩ := Kd.R_typed h.1.2.2 k e.symm
    exact Kd.Q_ne h.2.2.2 hc (by decide) hk.symm
  · rw [e] at hk
    exact Kd.Q_ne h.2.2.2 h.1.2.1 (by decide) hk.symm
theorem Ap.own_at (h : Ap w B gs vs L go own vt hv) (m : Nat) (u : Int) (hm : own[m]? = some u) : w.cell? ⟨go, m, none⟩ = some (.int .i64 u) ∧ w.frozen? ⟨go, m, none⟩ = false :=
  ⟨(blk_cell h.2.1 m).trans (by simp [nums, hm]), blk_frozen h.2.1 m⟩
theorem Ap.keep (h : Ap w B gs vs L go own vt hv) {x : Nat} {cs : Array Value} (hb : w.heap[x]? = some (.cells cs 39 (0, 0))) (m : Nat) (u : Value) : (w.setCell ⟨go, m, none⟩ u).heap[x]? = some (.cells cs 39 (0, 0)) :=
  blk_far hb (blk_ne hb h.2.1 (by decide)) u
end
set_option maxHeartbeats 16000000 in
set_option maxRecDepth 100000 in
theorem apart_walk (GA : Nat → Addr) (A0 : Option Addr) (c0 : Nat) (l0 : List Int) (A1 : Option Addr) (c1 : Nat) (l1 : List Bool) (w : World) (hr0 : Kd.C (Kd.int .u8) w A0 l0.length l0) (hc0 : l0.length ≤ c0) (hr1 : Kd.C Kd.bool w A1 l1.length l1) (hc1 : l1.length ≤ c1) (hG : Glob GA w) (hok : ∀ x, x ∈ l0 → 0 ≤ x ∧ x < 256) :
    Calls Tryd.prog 8 #[.slice A0 l0.length c0, .slice A1 l1.length c1] w fun e w' => e = .returned (.bool true) ∧ Below w.heap.size w w' := by
  have HG := Aside0.mk hG
  have HR := Aside0.mk hr0
  have HR1 := Aside0.mk hr1
  have HOK := Aside0.mk hok
  clear hG hr0 hr1 hok
  by_cases h40 : 40 < l0.length
  · have d1 : decide ((40 : Int) < (l0.length : Int)) = true := decide_eq_true (by omega)
    have d2 : decide (40 < l0.length) = true := decide_eq_true h40
    have d3 : (40 : Int) < (l0.length : Int) := by omega
    go_enter Tryd.func8, Tryd.ntmps8
    go_wp2_with (go_at_call 17; (refine (begun GA _ HG.out).mono ?_); rintro e w1 ⟨rfl, hb⟩; have HB := Aside0.mk hb; clear hb)
    go_ret
    exact ⟨rfl, HB.out⟩
  have d1 : decide ((40 : Int) < (l0.length : Int)) = false := decide_eq_false (by omega)
  have d2 : decide (40 < l0.length) = false := decide_eq_false h40
  have d3 : ¬ (40 : Int) < (l0.length : Int) := by omega
  by_cases hbk : l1.length < l0.length
  · have d4 : decide ((l1.length : Int) < (l0.length : Int)) = true := decide_eq_true (by omega)
    have d5 : decide (l1.length < l0.length) = true := decide_eq_true hbk
    have d6 : (l1.length : Int) < (l0.length : Int) := by omega
    go_enter Tryd.func8, Tryd.ntmps8
    go_wp2_with (go_at_call 17; (refine (begun GA _ HG.out).mono ?_); rintro e w1 ⟨rfl, hb⟩; have HB := Aside0.mk hb; clear hb)
    go_ret
    exact ⟨rfl, HB.out⟩
  have d4 : decide ((l1.length : Int) < (l0.length : Int)) = false := decide_eq_false (by omega)
  have d5 : decide (l1.length < l0.length) = false := decide_eq_false hbk
  have d6 : ¬ (l1.length : Int) < (l0.length : Int) := by omega
  have HL := Aside0.mk (show l0.length ≤ 40 ∧ l0.length ≤ l1.length by omega)
  have hclamp : clampE 50 = 50 := by decide
  have hfrom : fromE 7 = 7 := by decide
  clear h40 hbk
  go_enter Tryd.func8, Tryd.ntmps8
  go_upto_region 9 with (first | (go_at_call 17; (refine (begun GA _ HG.out).mono ?_); rintro e w1 ⟨rfl, hb⟩; have HB1 := Aside0.mk hb; clear hb) | (go_at_call 18; (refine (New 50 7 _).mono ?_); rintro e w2 ⟨g, v, rfl, hs, hb⟩; rw [hclamp, hfrom] at hs; have HS := Aside0.mk (Sp.lower (show Sp 62 w2 w1.heap.size g v 7 (List.replicate 50 false) from hs) HB1.out.size); have HB := Aside0.mk (below_step HB1.out hb); clear hs hb hclamp))
  have HA := Aside0.mk (show Ap (w2.alloc (.cells (nums .i64 (List.replicate 60 0)).toArray 49)) w.heap.size g v (List.replicate 50 false) w2.heap.size (List.replicate 60 0) (.slice none 0 0) [] from ⟨HS.out.below (below_alloc (Below.refl _ _) _), heap_alloc_new w2 _, HB.out.size, Kd.Q_nil _ _ _ _ _⟩)
  have HB2 := Aside0.mk (below_alloc HB.out (.cells (nums .i64 (List.replicate 60 0)).toArray 49))
  go_loopg [7, 8] (l0.length + 1) (fun kq v7 v8 w3 => ∃ (i : Nat) (vt : Value) (L : List Bool) (own : List Int) (hv : List S39), v8 = .int .i64 (i : Int) ∧ v7 = vt ∧ Aside0 (i ≤ l0.length ∧ l0.length < kq + i) ∧ Aside0 (Ap w3 w.heap.size g v L w2.heap.size own vt hv) ∧ Aside0 (Inv L hv) ∧ Aside0 (Own own (Cov hv)) ∧ Aside0 (Below w.heap.size w w3))
  case atStart => exact ⟨0, _, _, _, [], rfl, rfl, ⟨Nat.zero_le _, by omega⟩, HA, ⟨inv_new⟩, ⟨own_new⟩, HB2⟩
  case round =>
    clear HS HB HB1 HA HB2
    obtain ⟨i, vt, L, own, hv, rfl, rfl, HI, HA, HV, HO, HB⟩ := hrel
    by_cases hlt : i < l0.length
    · have e1 : decide ((i : Int) < (l0.length : Int)) = true := decide_eq_true (by omega)
      have e2 : decide (i < l0.length) = true := decide_eq_true hlt
      have e3 : (i : Int) < (l0.length : Int) := by omega
      have e4 : (i : Int) < (l1.length : Int) := by have := HL.out; omega
      have e5 : decide (i < l1.length) = true := decide_eq_true (by omega)
      have hl40 := HL.out
      have hw1 : IntKind.i64.wrap ((i : Int) + 1) = ((i + 1 : Nat) : Int) := by rw [IntKind.wrap_i64]; omega
      obtain ⟨ad, e0, hx⟩ := Kd.at_int HR.out (i : Int) (by omega) (by omega)
      cases e0
      have HXL := Aside0.mk (World.block_lt_of_cell? w _ hx)
      obtain ⟨ad1, e01, hy⟩ := Kd.at_bool HR1.out (i : Int) (by omega) (by omega)
      cases e01
      have HY := Aside0.mk hy
      have HYL := Aside0.mk (World.block_lt_of_cell? w _ hy)
      clear hy
      rw [Int.toNat_natCast] at hx HY HYL HXL
      have hr : rd l0 (i : Int) = l0[i] := by simp [rd, List.getD_eq_getElem?_getD, List.getElem?_eq_getElem hlt]
      rw [hr] at hx
      have hb := HOK.out _ (List.getElem_mem hlt)
      generalize l0[i] = z at *
      obtain ⟨n, rfl⟩ := Int.eq_ofNat_of_zero_le hb.1
      have hm9 : Int.tmod (n : Int) 9 = ((n % 9 : Nat) : Int) := rfl
      obtain ⟨q, hq⟩ : ∃ q, n % 9 = q := ⟨_, rfl⟩
      rw [hq] at hm9
      have hq9 : q < 9 := by omega
      have hw8 : IntKind.u8.wrap (q : Int) = (q : Int) := by simp [IntKind.wrap, IntKind.bits, IntKind.signed]; omega
      have hw64 : IntKind.i64.wrap (q : Int) = (q : Int) := by rw [IntKind.wrap_i64]; omega
      have HQ9 := Aside0.mk hq9
      obtain ⟨⟨pa, pn, pb, L2⟩, hp⟩ : ∃ r, takeE 7 L (q : Int) = r := ⟨_, rfl⟩
      have HP := Aside0.mk hp
      have HX := Aside0.mk hx
      replace hx := (HB.out.cell HXL.out).trans HX.out
      have HLT := Aside0.mk hlt
      clear hp hq hq9 hr hb hlt hl40
      go_upto_region 12 with (go_at_call 25; (refine (Take GA w g v L 7 (q : Int) _ HG.out HB.out HA.out.1 (by decide) (by decide) (by have := HV.out.1; omega) (by omega) (by have := HQ9.out; omega)).mono ?_); rintro e w5 ⟨rfl, hs, hg⟩; rw [HP.out] at hs ⊢; have n0 := Aside0.mk (HA.out.take hs hg); have n1 := Aside0.mk (HA.out.1.stay HB.out hg); clear hx HA HB hs hg; have HA := n0; have HB := n1; clear n0 n1)
      have HE := Aside0.mk (heap_alloc_new w5 (.cells #[.int .i64 pa, .int .i64 pn] 39))
      have n0 := Aside0.mk (HA.out.below (below_alloc (Below.refl _ _) (.cells #[.int .i64 pa, .int .i64 pn] 39)))
      have n1 := Aside0.mk (below_alloc HB.out (.cells #[.int .i64 pa, .int .i64 pn] 39))
      clear HA HB
      have HA := n0
      have HB := n1
      clear n0 n1
      generalize w5.alloc (.cells #[.int .i64 pa, .int .i64 pn] 39) = w6 at HA HB HE ⊢
      generalize w5.heap.size = ge at HE ⊢
      obtain ⟨gko, rfl⟩ : ∃ go : Nat, go = gk := ⟨_, rfl⟩
      cases pb with
      | false =>
        have HV2 := Aside0.mk (show Inv L2 hv by rw [take_off HP.out]; exact HV.out)
        clear HV HP HE
        have HV := HV2
        clear HV2
        obtain ⟨At, ct, rfl, hct⟩ := Kd.Q_slice HA.out.2.2.2
        have hy := (HB.out.cell HYL.out).trans HY.out
        cases hbk : rdOf false l1 (i : Int) with
        | false =>
          rw [hbk] at hy
          clear hbk
          go_wp2
          go_roundg (gko - 1)
          case measure => have := HI.out; omega
          case rel => exact ⟨i + 1, _, _, _, _, by first | rfl | go_num, rfl, ⟨by have := HLT.out; omega, by have := HI.out; omega⟩, HA, HV, HO, HB⟩
        | true =>
          rw [hbk] at hy
          clear hbk
          by_cases hl : 0 < hv.length
          · have bl : decide (0 < hv.length) = true := decide_eq_true hl
            have bl2 : (0 : Int) < (hv.length : Int) := by omega
            obtain ⟨v2, hcut, hQ⟩ := tail_cut At hv.length ct hl
            obtain ⟨adt, et, t0, t1⟩ := at_T39 (Kd.Q_reads' HA.out.2.2.2).2.2 0 (by decide) (by omega)
            cases et
            rw [show adt.add (Int.toNat 0 * 2) = adt by simp [Addr.add]] at t0 t1
            have hd := head_drop hl
            generalize rd_T39 hv 0 = x at *
            obtain ⟨xa, xn⟩ := x
            dsimp only at t0 t1
            have HVX := Aside0.mk (show Inv L2 (⟨xa, xn⟩ :: List.drop 1 hv) from hd ▸ HV.out)
            have HOX := Aside0.mk (show Own own (Cov (⟨xa, xn⟩ :: List.drop 1 hv)) from hd ▸ HO.out)
            have HQ := Aside0.mk hQ
            obtain ⟨L3, hf1, hI3, hf2, _⟩ := inv_free HVX.out
            dsimp only at hf1 hf2
            have hR := HVX.out.2.1 _ List.mem_cons_self
            unfold okR at hR
            dsimp only at hR
            have HR3 := Aside0.mk hR
            have HF1 := Aside0.mk hf1
            have HF2 := Aside0.mk hf2
            have HI3 := Aside0.mk hI3
            clear hf1 hf2 hI3 hR hd HV HO hQ
            have HLD := Aside0.mk hl
            clear hl
            go_upto_region 25 with (fail)
            have HX2 := Aside0.mk (heap_alloc_new w6 (.cells #[.int .i64 xa, .int .i64 xn] 39))
            have n0 := Aside0.mk (HA.out.below (below_alloc (Below.refl _ _) (.cells #[.int .i64 xa, .int .i64 xn] 39)))
            have n1 := Aside0.mk (below_alloc HB.out (.cells #[.int .i64 xa, .int .i64 xn] 39))
            clear HA HB
            have HA := n0
            have HB := n1
            clear n0 n1
            generalize w6.alloc (.cells #[.int .i64 xa, .int .i64 xn] 39) = w8 at HA HB HX2 ⊢
            generalize w6.heap.size = gx at HX2 ⊢
            have n0 : Aside0 (Ap w8 w.heap.size g v L2 w2.heap.size own v2 (hv.drop 1)) := ⟨HA.out.1, HA.out.2.1, HA.out.2.2.1, HQ.out _ _ _ _ HA.out.2.2.2⟩
            clear HA HQ t0 t1 hcut
            have HA := n0
            clear n0
            have x0 := blk_cell HX2.out 0
            have x1 := blk_cell HX2.out 1
            go_upto_region 27 with (first | (go_at_call 22; (refine (Free GA w.heap.size g v L2 7 xa xn _ (Glob.below HG.out HB.out) HA.out.1 (by decide) (by have := HA.out.1; have := HVX.out.1; omega) (by have := HR3.out; omega) (by have := HR3.out; omega) (by have := HR3.out; omega) (by have := HR3.out; omega)).mono ?_); rintro e w9 ⟨rfl, hs, hg⟩; rw [HF1.out] at hs ⊢; have n0 := Aside0.mk (HA.out.take hs hg); have n1 := Aside0.mk (HA.out.1.stay HB.out hg); have n2 := Aside0.mk (HA.out.1.keep HX2.out (by decide) hg); clear HA HB HX2 hs hg x0 x1; have HA := n0; have HB := n1; have HX2 := n2; clear n0 n1 n2; have x0 := blk_cell HX2.out 0; have x1 := blk_cell HX2.out 1) | (go_at_call 22; (refine (Free GA w.heap.size g v L3 7 xa xn _ (Glob.below HG.out HB.out) HA.out.1 (by decide) (by have := HI3.out.1; omega) (by have := HR3.out; omega) (by have := HR3.out; omega) (by have := HR3.out; omega) (by have := HR3.out; omega)).mono ?_); rintro e w10 ⟨rfl, hs, hg⟩; rw [HF2.out] at hs ⊢; have n0 := Aside0.mk (HA.out.take hs hg); have n1 := Aside0.mk (HA.out.1.stay HB.out hg); have n2 := Aside0.mk (HA.out.1.keep HX2.out (by decide) hg); clear HA HB HX2 hs hg x0 x1; have HA := n0; have HB := n1; have HX2 := n2; clear n0 n1 n2; have x0 := blk_cell HX2.out 0; have x1 := blk_cell HX2.out 1))
            obtain ⟨px, hpx⟩ := Int.eq_ofNat_of_zero_le (show 0 ≤ xa by have := HR3.out; omega)
            obtain ⟨nx, hnx⟩ := Int.eq_ofNat_of_zero_le (show 0 ≤ xn by have := HR3.out; omega)
            subst hpx hnx
            have hR3 : 7 ≤ px ∧ 1 ≤ nx ∧ px + nx ≤ 57 := by have := HR3.out; omega
            have HR4 := Aside0.mk hR3
            have hwx : IntKind.i64.wrap ((px : Int) + (nx : Int)) = (px : Int) + (nx : Int) := by rw [IntKind.wrap_i64]; omega
            clear hR3
            go_wp2
            go_loopg [13] (nx + 1) (fun kq v13 w11 => ∃ (m : Nat) (own3 : List Int), v13 = .int .i64 (m : Int) ∧ Aside0 (px ≤ m ∧ m ≤ px + nx ∧ px + nx < kq + m) ∧ Aside0 (Ap w11 w.heap.size g v L3 w2.heap.size own3 v2 (hv.drop 1)) ∧ Aside0 (Own own3 (fun k => Cov (⟨(px : Int), (nx : Int)⟩ :: List.drop 1 hv) k ∧ ¬ ((px : Int) ≤ k ∧ k < (m : Int)))) ∧ Aside0 (w11.heap[gx]? = some (.cells #[.int .i64 (px : Int), .int .i64 (nx : Int)] 39 (0, 0))) ∧ Aside0 (Below w.heap.size w w11))
            case atStart => exact ⟨px, _, rfl, ⟨by omega, by omega, by omega⟩, HA, ⟨own_eq HOX.out (fun k => ⟨fun h => ⟨h, by omega⟩, fun h => h.1⟩)⟩, HX2, HB⟩
            case round =>
              clear HA HB HX2 x0 x1
              obtain ⟨m, own3, rfl, HM, HA, HO3, HX2, HB⟩ := hrel
              have x0 := blk_cell HX2.out 0
              have x1 := blk_cell HX2.out 1
              by_cases hm : m < px + nx
              · have g1 : decide ((m : Int) < (px : Int) + (nx : Int)) = true := decide_eq_true (by omega)
                have g2 : (m : Int) < (px : Int) + (nx : Int) := by omega
                have g3 : (m : Int) < 60 := by have := HR4.out; omega
                have g4 : decide (m < 60) = true := decide_eq_true (by omega)
                have hwm : IntKind.i64.wrap ((m : Int) + 1) = ((m + 1 : Nat) : Int) := by rw [IntKind.wrap_i64]; omega
                have fr := blk_frozen HA.out.2.1 m
                obtain ⟨z0, hz0⟩ : ∃ z0, own3[m]? = some z0 := ⟨_, List.getElem?_eq_getElem (by have := HO3.out.1; omega)⟩
                have cl := (HA.out.own_at m z0 hz0).1
                have HMM := Aside0.mk (And.intro hm g3)
                clear hm hz0
                go_wp2
                go_roundg (gk - 1)
                case measure => have := HM.out; omega
                case rel =>
                  have hmm := HMM.out
                  refine ⟨m + 1, _, by first | rfl | go_num, ⟨by have := HM.out; omega, by omega, by have := HM.out; omega⟩, ⟨HA.out.put m 0⟩, ⟨own_set HO3.out m 0 (by omega) ⟨fun h => absurd rfl h, fun h => (h.2 (by have := HM.out; omega)).elim⟩ (fun k hk => ?_)⟩, ⟨HA.out.keep HX2.out m _⟩, ⟨below_set HB.out HA.out.2.2.1⟩⟩
                  exact ⟨fun h => ⟨h.1, by have := h.2; omega⟩, fun h => ⟨h.1, by have := h.2; omega⟩⟩
              · have g1 : decide ((m : Int) < (px : Int) + (nx : Int)) = false := decide_eq_false (by omega)
                have g2 : ¬ (m : Int) < (px : Int) + (nx : Int) := by omega
                have hme : m = px + nx := by have := HM.out; omega
                have HOE := Aside0.mk (show Own own3 (Cov (List.drop 1 hv)) from own_eq HO3.out (fun k => by rw [hme, Int.natCast_add]; exact cov_rest HVX.out k))
                clear hm hme HO3
                go_wp2
                go_roundg (gko - 1)
                case measure => have := HI.out; omega
                case rel => exact ⟨i + 1, _, _, _, _, by first | rfl | go_num, rfl, ⟨by have := HLT.out; omega, by have := HI.out; omega⟩, HA, HI3, HOE, HB⟩
          · have bl : decide (0 < hv.length) = false := decide_eq_false hl
            have bl2 : ¬ (0 : Int) < (hv.length : Int) := by omega
            clear hl
            go_wp2
            go_roundg (gko - 1)
            case measure => have := HI.out; omega
            case rel => exact ⟨i + 1, _, _, _, _, by first | rfl | go_num, rfl, ⟨by have := HLT.out; omega, by have := HI.out; omega⟩, HA, HV, HO, HB⟩
      | true =>
        obtain ⟨hn, hR, hfree, hI⟩ := inv_take HV.out HP.out
        obtain ⟨At, ct, rfl, hct⟩ := Kd.Q_slice HA.out.2.2.2
        subst hn
        unfold okR at hR
        dsimp only at hR
        obtain ⟨p, hp⟩ := Int.eq_ofNat_of_zero_le (show 0 ≤ pa by omega)
        subst hp
        have HRR := Aside0.mk (show 7 ≤ p ∧ 1 ≤ q ∧ p + q ≤ 57 by omega)
        have HFR := Aside0.mk hfree
        have HIN := Aside0.mk hI
        have hq0 : (q = 0) = False := eq_false (by omega)
        have hq1 : decide ((q : Int) < 1) = false := decide_eq_false (by omega)
        have hq2 : decide (q < 1) = false := decide_eq_false (by omega)
        have hp1 : decide ((p : Int) < 7) = false := decide_eq_false (by omega)
        have hp2 : decide (p < 7) = false := decide_eq_false (by omega)
        have hpq : IntKind.i64.wrap ((p : Int) + (q : Int)) = (p : Int) + (q : Int) := by rw [IntKind.wrap_i64]; omega
        have hp3 : decide ((57 : Int) < (p : Int) + (q : Int)) = false := decide_eq_false (by omega)
        have hp4 : decide (57 < p + q) = false := decide_eq_false (by omega)
        clear hR hfree hI
        have hx := (HB.out.cell HXL.out).trans HX.out
        have x0 := blk_cell HE.out 0
        have x1 := blk_cell HE.out 1
        go_upto_region 13 with (fail)
        go_quiet (fail)
        have n0 := Aside0.mk (HA.out.below (pw_below_drewN (Below.refl _ _) nq))
        have n1 := Aside0.mk (pw_below_drewN HB.out nq)
        have n2 := Aside0.mk (blk_drewN HE.out nq)
        clear HA HB HE x0 x1 hx
        have HA := n0
        have HB := n1
        have HE := n2
        clear n0 n1 n2
        generalize w6.drewN nq = w7 at HA HB HE ⊢
        have x0 := blk_cell HE.out 0
        have x1 := blk_cell HE.out 1
        go_wp2
        go_loopg [11] (q + 1) (fun kq v11 w7 => ∃ (m : Nat) (own2 : List Int), v11 = .int .i64 (m : Int) ∧ Aside0 (p ≤ m ∧ m ≤ p + q ∧ p + q < kq + m) ∧ Aside0 (Ap w7 w.heap.size g v L2 w2.heap.size own2 (.slice At hv.length ct) hv) ∧ Aside0 (Own own2 (fun k => Cov hv k ∨ ((p : Int) ≤ k ∧ k < (m : Int)))) ∧ Aside0 (w7.heap[ge]? = some (.cells #[.int .i64 (p : Int), .int .i64 (q : Int)] 39 (0, 0))) ∧ Aside0 (Below w.heap.size w w7))
        case atStart => exact ⟨p, _, rfl, ⟨by omega, by omega, by omega⟩, HA, ⟨own_eq HO.out (fun k => ⟨.inl, fun h => h.elim id (fun h => by omega)⟩)⟩, HE, HB⟩
        case round =>
          clear HA HB HE x0 x1
          obtain ⟨m, own2, rfl, HM, HA, HO2, HE, HB⟩ := hrel
          have x0 := blk_cell HE.out 0
          have x1 := blk_cell HE.out 1
          by_cases hm : m < p + q
          · have g1 : decide ((m : Int) < (p : Int) + (q : Int)) = true := decide_eq_true (by omega)
            have g2 : (m : Int) < (p : Int) + (q : Int) := by omega
            have g3 : (m : Int) < 60 := by have := HRR.out; omega
            have g4 : decide (m < 60) = true := decide_eq_true (by omega)
            have hwm : IntKind.i64.wrap ((m : Int) + 1) = ((m + 1 : Nat) : Int) := by rw [IntKind.wrap_i64]; omega
            have fr := blk_frozen HA.out.2.1 m
            have hz := own_zero HO2.out m (by omega) (fun h => h.elim (HFR.out m (by have := HM.out; omega) g2) (fun h => by omega))
            have cl := (HA.out.own_at m 0 hz).1
            have HMM := Aside0.mk (And.intro hm g3)
            clear hm hz
            go_wp2
            go_roundg (gk - 1)
            case measure => have := HM.out; omega
            case rel =>
              have hmm := HMM.out
              refine ⟨m + 1, _, by first | rfl | go_num, ⟨by have := HM.out; omega, by omega, by have := HM.out; omega⟩, ⟨HA.out.put m _⟩, ⟨own_set HO2.out m _ (by omega) ⟨fun _ => .inr (by have := HM.out; omega), fun _ => by omega⟩ (fun k hk => ?_)⟩, ⟨HA.out.keep HE.out m _⟩, ⟨below_set HB.out HA.out.2.2.1⟩⟩
              exact ⟨fun h => h.imp_right (fun h => by omega), fun h => h.imp_right (fun h => by omega)⟩
          · have g1 : decide ((m : Int) < (p : Int) + (q : Int)) = false := decide_eq_false (by omega)
            have g2 : ¬ (m : Int) < (p : Int) + (q : Int) := by omega
            have hme : m = p + q := by have := HM.out; omega
            have HOE := Aside0.mk (show Own own2 (Cov (hv ++ [⟨(p : Int), (q : Int)⟩])) from own_eq HO2.out (fun k => by rw [cov_snoc, hme, Int.natCast_add]))
            have HLH := Aside0.mk (inv_len HIN.out)
            clear hm hme HO2 HO HV
            have HO := HOE
            have HV := HIN
            clear HOE
            go_upto_region 22 with ((with_reducible refine gate_builtin (b := .append) (xs := #[.tmp 96, .tmp 98]) rfl ?_); at_builtin; refine Kd.Q_append k39 (w0 := w) w.heap.size rfl (.tmp 96) (.tmp 98) 37 39 (.agg #[.int .i64 0, .int .i64 0]) 16 rfl Tryd.underlying37 info39 rfl (by decide) (by omega) (.slice At hv.length ct) hv (⟨(p : Int), (q : Int)⟩ : S39) [.int .i64 (p : Int), .int .i64 (q : Int)] (fun _ => True) (fun _ => False) rfl (by first | (go_simp; done) | (go_simp; rfl)) ?aP (fun _ hk => hk.elim) ?aF ?aO ?aB ?aS ?aL ?_; (case aP => exact k39_mkM _ _ _ (⟨(p : Int), (q : Int)⟩ : S39)); (case aB => exact HB.out); (case aF => exact fun _ _ => trivial); (case aO => exact HA.out.2.2.2); (case aS => exact HB.out.size); (case aL => have := HLH.out; rw [List.length_append] at this; omega); intro v1 w12 ho hb hg hat; have n0 := Aside0.mk (HA.out.app ho hg); have n1 := Aside0.mk hb; clear HA HB ho hb hg hat x0 x1 HE; have HA := n0; have HB := n1; clear n0 n1)
            obtain ⟨hv2, hhv⟩ : ∃ hv2, hv2 = hv ++ [⟨(p : Int), (q : Int)⟩] := ⟨_, rfl⟩
            rw [← hhv] at HA HO HV
            clear hhv HLH HIN
            obtain ⟨At, ct, rfl, hct⟩ := Kd.Q_slice HA.out.2.2.2
            have hy := (HB.out.cell HYL.out).trans HY.out
            cases hbk : rdOf false l1 (i : Int) with
            | false =>
              rw [hbk] at hy
              clear hbk
              go_wp2
              go_roundg (gko - 1)
              case measure => have := HI.out; omega
              case rel => exact ⟨i + 1, _, _, _, _, by first | rfl | go_num, rfl, ⟨by have := HLT.out; omega, by have := HI.out; omega⟩, HA, HV, HO, HB⟩
            | true =>
              rw [hbk] at hy
              clear hbk
              by_cases hl : 0 < hv2.length
              · have bl : decide (0 < hv2.length) = true := decide_eq_true hl
                have bl2 : (0 : Int) < (hv2.length : Int) := by omega
                obtain ⟨v2, hcut, hQ⟩ := tail_cut At hv2.length ct hl
                obtain ⟨adt, et, t0, t1⟩ := at_T39 (Kd.Q_reads' HA.out.2.2.2).2.2 0 (by decide) (by omega)
                cases et
                rw [show adt.add (Int.toNat 0 * 2) = adt by simp [Addr.add]] at t0 t1
                have hd := head_drop hl
                generalize rd_T39 hv2 0 = x at *
                obtain ⟨xa, xn⟩ := x
                dsimp only at t0 t1
                have HVX := Aside0.mk (show Inv L2 (⟨xa, xn⟩ :: List.drop 1 hv2) from hd ▸ HV.out)
                have HOX := Aside0.mk (show Own own2 (Cov (⟨xa, xn⟩ :: List.drop 1 hv2)) from hd ▸ HO.out)
                have HQ := Aside0.mk hQ
                obtain ⟨L3, hf1, hI3, hf2, _⟩ := inv_free HVX.out
                dsimp only at hf1 hf2
                have hR := HVX.out.2.1 _ List.mem_cons_self
                unfold okR at hR
                dsimp only at hR
                have HR3 := Aside0.mk hR
                have HF1 := Aside0.mk hf1
                have HF2 := Aside0.mk hf2
                have HI3 := Aside0.mk hI3
                clear hf1 hf2 hI3 hR hd HV HO hQ
                have HLD := Aside0.mk hl
                clear hl
                go_upto_region 25 with (fail)
                have HX2 := Aside0.mk (heap_alloc_new w12 (.cells #[.int .i64 xa, .int .i64 xn] 39))
                have n0 := Aside0.mk (HA.out.below (below_alloc (Below.refl _ _) (.cells #[.int .i64 xa, .int .i64 xn] 39)))
                have n1 := Aside0.mk (below_alloc HB.out (.cells #[.int .i64 xa, .int .i64 xn] 39))
                clear HA HB
                have HA := n0
                have HB := n1
                clear n0 n1
                generalize w12.alloc (.cells #[.int .i64 xa, .int .i64 xn] 39) = w8 at HA HB HX2 ⊢
                generalize w12.heap.size = gx at HX2 ⊢
                have n0 : Aside0 (Ap w8 w.heap.size g v L2 w2.heap.size own2 v2 (hv2.drop 1)) := ⟨HA.out.1, HA.out.2.1, HA.out.2.2.1, HQ.out _ _ _ _ HA.out.2.2.2⟩
                clear HA HQ t0 t1 hcut
                have HA := n0
                clear n0
                have x0 := blk_cell HX2.out 0
                have x1 := blk_cell HX2.out 1
                go_upto_region 27 with (first | (go_at_call 22; (refine (Free GA w.heap.size g v L2 7 xa xn _ (Glob.below HG.out HB.out) HA.out.1 (by decide) (by have := HA.out.1; have := HVX.out.1; omega) (by have := HR3.out; omega) (by have := HR3.out; omega) (by have := HR3.out; omega) (by have := HR3.out; omega)).mono ?_); rintro e w9 ⟨rfl, hs, hg⟩; rw [HF1.out] at hs ⊢; have n0 := Aside0.mk (HA.out.take hs hg); have n1 := Aside0.mk (HA.out.1.stay HB.out hg); have n2 := Aside0.mk (HA.out.1.keep HX2.out (by decide) hg); clear HA HB HX2 hs hg x0 x1; have HA := n0; have HB := n1; have HX2 := n2; clear n0 n1 n2; have x0 := blk_cell HX2.out 0; have x1 := blk_cell HX2.out 1) | (go_at_call 22; (refine (Free GA w.heap.size g v L3 7 xa xn _ (Glob.below HG.out HB.out) HA.out.1 (by decide) (by have := HI3.out.1; omega) (by have := HR3.out; omega) (by have := HR3.out; omega) (by have := HR3.out; omega) (by have := HR3.out; omega)).mono ?_); rintro e w10 ⟨rfl, hs, hg⟩; rw [HF2.out] at hs ⊢; have n0 := Aside0.mk (HA.out.take hs hg); have n1 := Aside0.mk (HA.out.1.stay HB.out hg); have n2 := Aside0.mk (HA.out.1.keep HX2.out (by decide) hg); clear HA HB HX2 hs hg x0 x1; have HA := n0; have HB := n1; have HX2 := n2; clear n0 n1 n2; have x0 := blk_cell HX2.out 0; have x1 := blk_cell HX2.out 1))
                obtain ⟨px, hpx⟩ := Int.eq_ofNat_of_zero_le (show 0 ≤ xa by have := HR3.out; omega)
                obtain ⟨nx, hnx⟩ := Int.eq_ofNat_of_zero_le (show 0 ≤ xn by have := HR3.out; omega)
                subst hpx hnx
                have hR3 : 7 ≤ px ∧ 1 ≤ nx ∧ px + nx ≤ 57 := by have := HR3.out; omega
                have HR4 := Aside0.mk hR3
                have hwx : IntKind.i64.wrap ((px : Int) + (nx : Int)) = (px : Int) + (nx : Int) := by rw [IntKind.wrap_i64]; omega
                clear hR3
                go_wp2
                go_loopg [13] (nx + 1) (fun kq v13 w11 => ∃ (m : Nat) (own3 : List Int), v13 = .int .i64 (m : Int) ∧ Aside0 (px ≤ m ∧ m ≤ px + nx ∧ px + nx < kq + m) ∧ Aside0 (Ap w11 w.heap.size g v L3 w2.heap.size own3 v2 (hv2.drop 1)) ∧ Aside0 (Own own3 (fun k => Cov (⟨(px : Int), (nx : Int)⟩ :: List.drop 1 hv2) k ∧ ¬ ((px : Int) ≤ k ∧ k < (m : Int)))) ∧ Aside0 (w11.heap[gx]? = some (.cells #[.int .i64 (px : Int), .int .i64 (nx : Int)] 39 (0, 0))) ∧ Aside0 (Below w.heap.size w w11))
                case atStart => exact ⟨px, _, rfl, ⟨by omega, by omega, by omega⟩, HA, ⟨own_eq HOX.out (fun k => ⟨fun h => ⟨h, by omega⟩, fun h => h.1⟩)⟩, HX2, HB⟩
                case round =>
                  clear HA HB HX2 x0 x1
                  obtain ⟨m, own3, rfl, HM, HA, HO3, HX2, HB⟩ := hrel
                  have x0 := blk_cell HX2.out 0
                  have x1 := blk_cell HX2.out 1
                  by_cases hm : m < px + nx
                  · have g1 : decide ((m : Int) < (px : Int) + (nx : Int)) = true := decide_eq_true (by omega)
                    have g2 : (m : Int) < (px : Int) + (nx : Int) := by omega
                    have g3 : (m : Int) < 60 := by have := HR4.out; omega
                    have g4 : decide (m < 60) = true := decide_eq_true (by omega)
                    have hwm : IntKind.i64.wrap ((m : Int) + 1) = ((m + 1 : Nat) : Int) := by rw [IntKind.wrap_i64]; omega
                    have fr := blk_frozen HA.out.2.1 m
                    obtain ⟨z0, hz0⟩ : ∃ z0, own3[m]? = some z0 := ⟨_, List.getElem?_eq_getElem (by have := HO3.out.1; omega)⟩
                    have cl := (HA.out.own_at m z0 hz0).1
                    have HMM := Aside0.mk (And.intro hm g3)
                    clear hm hz0
                    go_wp2
                    go_roundg (gk - 1)
                    case measure => have := HM.out; omega
                    case rel =>
                      have hmm := HMM.out
                      refine ⟨m + 1, _, by first | rfl | go_num, ⟨by have := HM.out; omega, by omega, by have := HM.out; omega⟩, ⟨HA.out.put m 0⟩, ⟨own_set HO3.out m 0 (by omega) ⟨fun h => absurd rfl h, fun h => (h.2 (by have := HM.out; omega)).elim⟩ (fun k hk => ?_)⟩, ⟨HA.out.keep HX2.out m _⟩, ⟨below_set HB.out HA.out.2.2.1⟩⟩
                      exact ⟨fun h => ⟨h.1, by have := h.2; omega⟩, fun h => ⟨h.1, by have := h.2; omega⟩⟩
                  · have g1 : decide ((m : Int) < (px : Int) + (nx : Int)) = false := decide_eq_false (by omega)
                    have g2 : ¬ (m : Int) < (px : Int) + (nx : Int) := by omega
                    have hme : m = px + nx := by have := HM.out; omega
                    have HOE := Aside0.mk (show Own own3 (Cov (List.drop 1 hv2)) from own_eq HO3.out (fun k => by rw [hme, Int.natCast_add]; exact cov_rest HVX.out k))
                    clear hm hme HO3
                    go_wp2
                    go_roundg (gko - 1)
                    case measure => have := HI.out; omega
                    case rel => exact ⟨i + 1, _, _, _, _, by first | rfl | go_num, rfl, ⟨by have := HLT.out; omega, by have := HI.out; omega⟩, HA, HI3, HOE, HB⟩
              · have bl : decide (0 < hv2.length) = false := decide_eq_false hl
                have bl2 : ¬ (0 : Int) < (hv2.length : Int) := by omega
                clear hl
                go_wp2
                go_roundg (gko - 1)
                case measure => have := HI.out; omega
                case rel => exact ⟨i + 1, _, _, _, _, by first | rfl | go_num, rfl, ⟨by have := HLT.out; omega, by have := HI.out; omega⟩, HA, HV, HO, HB⟩

    · have e1 : decide ((i : Int) < (l0.length : Int)) = false := decide_eq_false (by omega)
      have e2 : decide (i < l0.length) = false := decide_eq_false hlt
      have e3 : ¬ (i : Int) < (l0.length : Int) := by omega
      clear hlt HO
      obtain ⟨At, ct, rfl, hct⟩ := Kd.Q_slice HA.out.2.2.2
      have HLH := Aside0.mk (inv_len HV.out)
      have HTB := Aside0.mk (total_part HV.out.2.1)
      have HU := Aside0.mk (inv_used HV.out)
      have hu50 : usedE L ≤ 50 := by have := used_le L; have := HV.out.1; omega
      obtain ⟨T, hT⟩ : ∃ T, total hv = T := ⟨_, rfl⟩
      have HT := Aside0.mk hT
      have HT5 := Aside0.mk (show 0 ≤ T ∧ T ≤ 50 by have := HU.out; omega)
      clear hT hu50
      obtain ⟨gko, rfl⟩ : ∃ go : Nat, go = gk := ⟨_, rfl⟩
      obtain ⟨wl, hwl⟩ : ∃ wl, wl = wr := ⟨_, rfl⟩
      rw [← hwl]
      rw [← hwl] at HA HB
      clear hwl
      go_wp2
      go_loopg [14, 15] (hv.length + 1) (fun kq v14 v15 w4 => ∃ (j : Nat), v15 = .int .i64 (j : Int) ∧ v14 = .int .i64 (total (hv.take j)) ∧ w4 = wl ∧ Aside0 (j ≤ hv.length ∧ hv.length < kq + j))
      case atStart => exact ⟨0, rfl, rfl, rfl, ⟨by omega, by omega⟩⟩
      case round =>
        obtain ⟨j, rfl, rfl, hww, HJ⟩ := hrel
        subst hww
        by_cases hj : j < hv.length
        · have f1 : decide ((j : Int) < (hv.length : Int)) = true := decide_eq_true (by omega)
          have f2 : decide (j < hv.length) = true := decide_eq_true hj
          have f3 : (j : Int) < (hv.length : Int) := by omega
          have f4 : IntKind.i64.wrap ((j : Int) + 1) = ((j + 1 : Nat) : Int) := by have := HLH.out; rw [IntKind.wrap_i64]; omega
          obtain ⟨adt, et, t0, t1⟩ := at_T39 (Kd.Q_reads' HA.out.2.2.2).2.2 (j : Int) (by omega) (by omega)
          cases et
          rw [Int.toNat_natCast] at t0 t1
          have htt := total_take j hj
          rw [← rd_get j hj] at htt
          generalize rd_T39 hv (j : Int) = x at *
          obtain ⟨xa, xn⟩ := x
          dsimp only at t0 t1 htt
          have f5 : IntKind.i64.wrap (total (hv.take j) + xn) = total (hv.take (j + 1)) := by
            have h1 := HTB.out (j + 1)
            rw [← htt, IntKind.wrap_i64]
            have := HT5.out
            have := HT.out
            omega
          have HJJ := Aside0.mk hj
          clear htt hj
          obtain ⟨s1, hs1⟩ : ∃ s1, total (hv.take (j + 1)) = s1 := ⟨_, rfl⟩
          rw [hs1] at f5
          have HS1 := Aside0.mk hs1
          clear hs1
          generalize total (hv.take j) = s0 at *
          go_wp2
          go_roundg (gk - 1)
          case measure => have := HJ.out; omega
          case rel => exact ⟨j + 1, by first | rfl | go_num, by rw [HS1.out], rfl, ⟨by have := HJJ.out; omega, by have := HJ.out; omega⟩⟩
        · have f1 : decide ((j : Int) < (hv.length : Int)) = false := decide_eq_false (by omega)
          have f2 : decide (j < hv.length) = false := decide_eq_false hj
          have f3 : ¬ (j : Int) < (hv.length : Int) := by omega
          obtain rfl : j = hv.length := by have := HJ.out; omega
          rw [List.take_length, HT.out]
          have HUT := Aside0.mk (HU.out.trans HT.out)
          clear hj
          go_upto_region 38 with (go_at_call 27; (refine (Used w.heap.size g v L 7 _ HA.out.1 (by have := HV.out.1; omega)).mono ?_); rintro e w5 ⟨rfl, hb⟩; rw [HUT.out]; have n0 := Aside0.mk (HA.out.below hb); have n1 := Aside0.mk (below_step HB.out hb); clear HA HB hb; have HA := n0; have HB := n1; clear n0 n1)
          clear HU HUT HT HT5 HTB
          go_wp2
          go_loopg [16] (hv.length + 1) (fun kq v16 w6 => ∃ (j : Nat) (L3 : List Bool), v16 = .int .i64 (j : Int) ∧ Aside0 (j ≤ hv.length ∧ hv.length < kq + j) ∧ Aside0 (Ap w6 w.heap.size g v L3 w2.heap.size own (.slice At hv.length ct) hv) ∧ Aside0 (Inv L3 (hv.drop j)) ∧ Aside0 (Below w.heap.size w w6))
          case atStart => exact ⟨0, _, rfl, ⟨by omega, by omega⟩, HA, HV, HB⟩
          case round =>
            clear HA HV HB
            obtain ⟨j, L3, rfl, HJ2, HA, HV, HB⟩ := hrel
            by_cases hj : j < hv.length
            · have f1 : decide ((j : Int) < (hv.length : Int)) = true := decide_eq_true (by omega)
              have f2 : decide (j < hv.length) = true := decide_eq_true hj
              have f3 : (j : Int) < (hv.length : Int) := by omega
              have f4 : IntKind.i64.wrap ((j : Int) + 1) = ((j + 1 : Nat) : Int) := by have := HLH.out; rw [IntKind.wrap_i64]; omega
              obtain ⟨adt, et, t0, t1⟩ := at_T39 (Kd.Q_reads' HA.out.2.2.2).2.2 (j : Int) (by omega) (by omega)
              cases et
              rw [Int.toNat_natCast] at t0 t1
              have hvx := HV.out
              rw [rd_drop j hj] at hvx
              generalize rd_T39 hv (j : Int) = x at *
              obtain ⟨xa, xn⟩ := x
              dsimp only at t0 t1
              obtain ⟨L4, hf1, hI4, _, _⟩ := inv_free hvx
              dsimp only at hf1
              have hR := hvx.2.1 _ List.mem_cons_self
              unfold okR at hR
              dsimp only at hR
              have HR3 := Aside0.mk hR
              have HF1 := Aside0.mk hf1
              have HI4 := Aside0.mk hI4
              have HJJ := Aside0.mk hj
              clear hvx hR hf1 hI4 hj
              go_wp2_with (go_at_call 22; (refine (Free GA w.heap.size g v L3 7 xa xn _ (Glob.below HG.out HB.out) HA.out.1 (by decide) (by have := HV.out.1; omega) (by have := HR3.out; omega) (by have := HR3.out; omega) (by have := HR3.out; omega) (by have := HR3.out; omega)).mono ?_); rintro e w9 ⟨rfl, hs, hg⟩; rw [HF1.out] at hs ⊢; have n0 := Aside0.mk (HA.out.take hs hg); have n1 := Aside0.mk (HA.out.1.stay HB.out hg); clear HA HB hs hg t0 t1; have HA := n0; have HB := n1; clear n0 n1)
              go_roundg (gk - 1)
              case measure => have := HJ2.out; omega
              case rel => exact ⟨j + 1, L4, by first | rfl | go_num, ⟨by have := HJJ.out; omega, by have := HJ2.out; omega⟩, HA, HI4, HB⟩
            · have f1 : decide ((j : Int) < (hv.length : Int)) = false := decide_eq_false (by omega)
              have f2 : decide (j < hv.length) = false := decide_eq_false hj
              have f3 : ¬ (j : Int) < (hv.length : Int) := by omega
              have hvx := HV.out
              rw [List.drop_eq_nil_of_le (by omega)] at hvx
              obtain rfl := inv_nil hvx
              clear hvx hj
              go_upto_region 44 with (go_at_call 25; (refine (Take GA w g v (List.replicate 50 false) 7 50 _ HG.out HB.out HA.out.1 (by decide) (by decide) (by decide) (by decide) (by decide)).mono ?_); rintro e w9 ⟨rfl, hs, hg⟩; rw [inv_take_all.1] at hs ⊢; have n0 := Aside0.mk hs; have n1 := Aside0.mk (HA.out.1.stay HB.out hg); clear HA HB hs hg; have HS := n0; have HB := n1; clear n0 n1)
              have HE := Aside0.mk (heap_alloc_new w9 (.cells #[.int .i64 7, .int .i64 50] 39))
              have n0 := Aside0.mk (HS.out.below (below_alloc (Below.refl _ _) (.cells #[.int .i64 7, .int .i64 50] 39)))
              have n1 := Aside0.mk (below_alloc HB.out (.cells #[.int .i64 7, .int .i64 50] 39))
              clear HS HB
              have HS := n0
              have HB := n1
              clear n0 n1
              generalize w9.alloc (.cells #[.int .i64 7, .int .i64 50] 39) = w10 at HS HB HE ⊢
              generalize w9.heap.size = ge at HE ⊢
              have x0 := blk_cell HE.out 0
              have x1 := blk_cell HE.out 1
              go_wp2_with (go_at_call 27; (refine (Used w.heap.size g v (List.replicate 50 true) 7 _ HS.out (by decide)).mono ?_); rintro e w11 ⟨rfl, hb⟩; rw [inv_take_all.2]; have n1 := Aside0.mk (below_step HB.out hb); clear HS HB hb x0 x1 HE; have HB := n1; clear n1)
              go_ret
              exact ⟨rfl, HB.out⟩
end Go.Proofs.YtaoegbebeogkbaaDoor.PSpace
