/- dev: rows of blocks copied; what Flush, Copy and New do. Conditions: none. -/
import Derived.Test.YtokmildjniploaaDoorDevW
namespace Go.Proofs.YtokmildjniploaaDoor.PLog
open Go.RowKit Go.Proofs.YtokmildjniploaaDoorW.PrintWords Go.Proofs.YtokmildjniploaaDoorW.PrintLast Go.Proofs.YtokmildjniploaaDoorW.PrintMore
set_option linter.unusedVariables false
set_option linter.unusedSimpArgs false
theorem nil_eqi (P : Program) (w : World) (d : Nat) (t e : TypeId) (a : Option Addr) (l c : Nat) (h : P.underlying t = some (.slice e)) : (Op.equalIn (d + 1) t (.slice a l c) (.slice none 0 0)).run P w = .ok a.isNone w := by
  cases a <;> simp [Op.equalIn, run_underlying h]
theorem nil_eqn (P : Program) (w : World) (t e : TypeId) (a : Option Addr) (l c : Nat) (h : P.underlying t = some (.slice e)) : (binOp .eql t (.slice a l c) (.slice none 0 0)).run P w = .ok (.bool a.isNone) w := by
  have h2 : (Op.equal t (.slice a l c) (.slice none 0 0)).run P w = .ok a.isNone w := nil_eqi P w 9999 t e a l c h
  simp [binOp, h2]
set_option maxHeartbeats 4000000 in
set_option maxRecDepth 100000 in
theorem CloneB (A0 : Option Addr) (c0 : Nat) (l0 : List Bk) (w : World) (hr0 : Kd.C kB w A0 l0.length l0) (hc0 : l0.length ≤ c0) (hn : l0.length ≤ 1000000) :
    Calls Tryd.prog 21 #[.slice A0 l0.length c0] w fun e w' => ∃ v0_ : Value, e = .returned v0_ ∧ Kd.R kB 35 w' w.heap.size (fun _ => True) v0_ l0 ∧ Below w.heap.size w w' := by
  rcases A0 with _ | ad
  · have h0 : l0 = [] := by
      rcases Nat.eq_zero_or_pos l0.length with h0 | h0
      · exact List.eq_nil_of_length_eq_zero h0
      · obtain ⟨ad, h, _⟩ := hr0.2.2 h0
        cases h
    subst h0
    clear hr0 hn
    have heq := fun w => nil_eqn Tryd.prog w 31 35 none 0 c0 Tryd.underlying31
    go_enter Tryd.func21, Tryd.ntmps21
    go_wp2
    go_ret
    exact ⟨_, rfl, Kd.R_nil _ _ _ _ _, Below.refl _ _⟩
  · have HR0 := Aside0.mk hr0
    clear hr0
    have HN := Aside0.mk hn
    clear hn
    have heq := fun w => nil_eqn Tryd.prog w 31 35 (some ad) l0.length c0 Tryd.underlying31
    go_enter Tryd.func21, Tryd.ntmps21
    go_wp2_with (first
      | ((with_reducible refine gate_dst (N := 5) rfl ?_); refine Kd.R_lit kB _ 35 ?hg (N := 5) ?hd (xs := ([] : List Bk)) (inner := []) (ok := fun _ => True) (okp := fun _ => True) ?hr ?hp (fun _ hk => hk) trivial (Below.refl _ _) (Nat.le_refl _) (by simp) ?_; (case hd => rfl); (case hg => rfl); (case hr => first | (go_simp; done) | (go_simp; rfl)); (case hp => exact (Reps.none _ _)); intro v1 w1 ho hb hg_ hnew_; clear hg_ hnew_; have HO := Aside0.mk ho; have HB1 := Aside0.mk hb; clear ho hb)
      | ((with_reducible refine gate_builtin (b := .append) (xs := #[.tmp 5, .tmp 6]) rfl ?_); at_builtin; refine Kd.R_append_rows kB (w0 := w) w.heap.size rfl (.tmp 5) (.tmp 6) 31 35 (.slice none 0 0) 24 rfl Tryd.underlying31 infoB rfl (by decide) (by omega) v1 ([] : List Bk) l0 _ _ _ (fun _ => True) (fun _ => some 0 ≠ v1.ownBlock ∧ False) rfl rfl ?aO ?aR (fun _ _ h => h) (fun _ h => h.2.elim) ?aF ?aB ?aS ?aL ?_; (case aR => exact Kd.C_below HR0.out HB1.out); (case aB => exact HB1.out); (case aF => exact fun _ _ => trivial); (case aO => exact HO.out); (case aS => exact HB1.out.size); (case aL => have := HN.out; simp only [List.length_nil]; omega); intro v2 w2 ho hb hg hat; have HO2 := Aside0.mk ho; have HB2 := Aside0.mk hb; clear ho hb hg hat))
    go_ret
    exact ⟨_, rfl, HO2.out, HB2.out⟩
section
variable {W : World} {ok : Nat → Prop} {g : Nat} {cs : Array Value}
theorem RB_set {v : Value} {xs : List Bk} (h : Kd.R kB 35 W 0 ok v xs) (hb : W.heap[g]? = some (.cells cs 54 (0, 0))) (j : Nat) (u : Value) : Kd.R kB 35 (W.setCell ⟨g, j, none⟩ u) 0 ok v xs :=
  Kd.R_mono (Kd.R_far (p := ⟨g, j, none⟩) (Kd.R_types h hb (by rw [kB_E]; simp)) (fun k hk => hk.2) _) (fun _ hk => hk.1)
theorem RW_set {v : Value} {xs : List (Int × Bk)} (h : Kd.R kW 75 W 0 ok v xs) (hb : W.heap[g]? = some (.cells cs 54 (0, 0))) (j : Nat) (u : Value) : Kd.R kW 75 (W.setCell ⟨g, j, none⟩ u) 0 ok v xs :=
  Kd.R_mono (Kd.R_far (p := ⟨g, j, none⟩) (Kd.R_types h hb (by rw [kW_E]; simp)) (fun k hk => hk.2) _) (fun _ hk => hk.1)
theorem fr_set (hb : W.heap[g]? = some (.cells cs 54 (0, 0))) (hg : ok g) (j : Nat) (u : Value) : Fr ok devT W (W.setCell ⟨g, j, none⟩ u) :=
  Fr.set (p := ⟨g, j, none⟩) hb hg (by decide) u
end
def Dat.flush (D : Dat) : Dat := if D.left = 0 then D else { D with sure := D.seen, later := [] }
theorem DevRaw.flushed {W : World} {ok : Nat → Prop} {g : Nat} {D : Dat} {vs vu vl v2 : Value} {hs hu h2 : List Bk} {hl : List (Int × Bk)} {ls : List (List Int)} (h : DevRaw W ok g D vs vu vl hs hu hl) (hr : Kd.R kB 35 W 0 ok v2 h2) (hne : ∀ k, vs.ownBlock = some k → v2.ownBlock ≠ some k) (he : Each (Blk W) h2 ls) :
    DevRaw ((W.setCell ⟨g, 1, none⟩ v2).setCell ⟨g, 2, none⟩ (.slice none 0 0)) ok g { D with sure := ls, later := [] } vs v2 (.slice none 0 0) hs h2 [] ∧ Fr ok devT W ((W.setCell ⟨g, 1, none⟩ v2).setCell ⟨g, 2, none⟩ (.slice none 0 0)) := by
  have hb1 := blk_set h.blk 1 v2
  have hb2 := blk_set hb1 2 (.slice none 0 0)
  have hf := (fr_set (ok := ok) h.blk h.here 1 v2).trans (fr_set (ok := ok) hb1 h.here 2 (.slice none 0 0))
  have hbl : ∀ b l, Blk W b l → Blk ((W.setCell ⟨g, 1, none⟩ v2).setCell ⟨g, 2, none⟩ (.slice none 0 0)) b l := fun b l hb => hb.fr hf (by decide)
  exact ⟨⟨h.here, by simpa using hb2, RB_set (RB_set h.rs h.blk _ _) hb1 _ _, RB_set (RB_set hr h.blk _ _) hb1 _ _, Kd.R_nil _ _ _ _ _, hne, h.es.imp hbl, he.imp hbl, Each.nil⟩, hf⟩
theorem DevRaw.crashed {W : World} {ok : Nat → Prop} {g : Nat} {D : Dat} {vs vu vl v2 : Value} {hs hu h2 : List Bk} {hl : List (Int × Bk)} {ls : List (List Int)} (h : DevRaw W ok g D vs vu vl hs hu hl) (hr : Kd.R kB 35 W 0 ok v2 h2) (hne : ∀ k, v2.ownBlock = some k → vu.ownBlock ≠ some k) (he : Each (Blk W) h2 ls) :
    DevRaw (((W.setCell ⟨g, 0, none⟩ v2).setCell ⟨g, 2, none⟩ (.slice none 0 0)).setCell ⟨g, 4, none⟩ (.int .i64 (-1))) ok g { D with seen := ls, later := [], left := -1 } v2 vu (.slice none 0 0) h2 hu [] ∧ Fr ok devT W (((W.setCell ⟨g, 0, none⟩ v2).setCell ⟨g, 2, none⟩ (.slice none 0 0)).setCell ⟨g, 4, none⟩ (.int .i64 (-1))) := by
  have hb1 := blk_set h.blk 0 v2
  have hb2 := blk_set hb1 2 (.slice none 0 0)
  have hb3 := blk_set hb2 4 (.int .i64 (-1))
  have hf := ((fr_set (ok := ok) h.blk h.here 0 v2).trans (fr_set (ok := ok) hb1 h.here 2 (.slice none 0 0))).trans (fr_set (ok := ok) hb2 h.here 4 (.int .i64 (-1)))
  have hbl : ∀ b l, Blk W b l → Blk (((W.setCell ⟨g, 0, none⟩ v2).setCell ⟨g, 2, none⟩ (.slice none 0 0)).setCell ⟨g, 4, none⟩ (.int .i64 (-1))) b l := fun b l hb => hb.fr hf (by decide)
  exact ⟨⟨h.here, by simpa using hb3, RB_set (RB_set (RB_set hr h.blk _ _) hb1 _ _) hb2 _ _, RB_set (RB_set (RB_set h.ru h.blk _ _) hb1 _ _) hb2 _ _, Kd.R_nil _ _ _ _ _, hne, he.imp hbl, h.eu.imp hbl, Each.nil⟩, hf⟩
set_option maxHeartbeats 8000000 in
set_option maxRecDepth 100000 in
theorem Flush (ok : Nat → Prop) (g : Nat) (D : Dat) (w : World) (h : DevAt w ok g D) (hfr : ∀ k, w.heap.size ≤ k → ok k) (hsl : D.seen.length ≤ 1000000) :
    Calls Tryd.prog 28 #[.pointer (some ⟨g, 0, none⟩)] w fun e w' => e = .returned (.tuple #[]) ∧ DevAt w' ok g D.flush ∧ Fr ok devT w w' := by
  have HD := Aside0.mk h
  obtain ⟨vs, vu, vl, hs, hu, hl, hraw⟩ := h
  have x4 := blk_cell hraw.blk 4
  have x0 := blk_cell hraw.blk 0
  obtain ⟨A, c, rfl⟩ := Kd.R_slice hraw.rs
  have HRW := Aside0.mk hraw
  clear hraw
  by_cases hl0 : D.left = 0
  · rw [hl0] at x4
    have e : D.flush = D := by unfold Dat.flush; rw [if_pos hl0]
    rw [e]
    clear e hl0
    go_enter Tryd.func28, Tryd.ntmps28
    go_wp2
    go_end0
    exact ⟨rfl, HD.out, Fr.refl _ _ _⟩
  · have b1 : (D.left == 0) = false := beq_eq_false_iff_ne.mpr hl0
    have b2 : (D.left != 0) = true := bne_iff_ne.mpr hl0
    have e : D.flush = { D with sure := D.seen, later := [] } := by unfold Dat.flush; rw [if_neg hl0]
    rw [e]
    clear e hl0
    have y1 := blk_frozen HRW.out.blk 1
    have hln : hs.length ≤ 1000000 := by rw [HRW.out.es.1]; exact hsl
    go_enter Tryd.func28, Tryd.ntmps28
    go_wp2_with (go_at_call 21; (refine (CloneB A c hs _ (Kd.R_reads' HRW.out.rs).2.2 (Kd.R_reads' HRW.out.rs).2.1 hln).mono ?_); rintro e w1 ⟨v2, rfl, ho, hb⟩; obtain ⟨A2, c2, rfl⟩ := Kd.R_slice ho; have HNE := Aside0.mk (show ∀ k, (Value.slice A hs.length c).ownBlock = some k → (Value.slice A2 hs.length c2).ownBlock ≠ some k from fun k hk e => by have h1 := Kd.R_lt HRW.out.rs k hk; have h2 := Kd.R_base ho k e; omega); have n0 := Aside0.mk (HRW.out.below hb); have HO := Aside0.mk (Kd.R_mono (Kd.R_lower (Kd.R_bound ho) (Nat.zero_le _)) (fun k hk => hfr k hk.2.1)); have HB := Aside0.mk hb; clear HRW ho hb x0 x4 y1; have HRW := n0; clear n0; have z1 := blk_cell HRW.out.blk 1; have z2 := blk_cell HRW.out.blk 2; have u1 := blk_frozen HRW.out.blk 1; have u2 := blk_frozen HRW.out.blk 2)
    go_end0
    have n := HRW.out.flushed HO.out HNE.out HRW.out.es
    exact ⟨rfl, ⟨_, _, _, _, _, _, n.1⟩, (Fr.of_below HB.out).trans n.2⟩
end Go.Proofs.YtokmildjniploaaDoor.PLog
