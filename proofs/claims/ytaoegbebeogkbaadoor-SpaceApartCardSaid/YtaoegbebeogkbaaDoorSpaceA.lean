/- SpaceAll: which blocks are taken, in any run: the walk. Conditions: none. -/
import Derived.Test.YtaoegbebeogkbaaDoorSpaceF
namespace Go.Proofs.YtaoegbebeogkbaaDoor.PSpace
open Go.RowKit Go.Proofs.YtaoegbebeogkbaaDoorW.PrintWords Go.Proofs.YtaoegbebeogkbaaDoorW.PrintLast Go.Proofs.YtaoegbebeogkbaaDoorW.PrintMore
open Go.Extern.Stop Go.Stop Go.Extern
set_option linter.unusedVariables false
set_option linter.unusedSimpArgs false
attribute [local go_sem high] eqA39
theorem info39 : (Tryd.prog.info? 39).map (fun i => (i.zero, i.size, i.bytes)) = some (some (.agg #[.int .i64 0, .int .i64 0]), 2, 16) := by kernel_rfl
def okX (x : S39) : Prop := (-9223372036854775808 ≤ x.f0 ∧ x.f0 ≤ 9223372036854775807) ∧ (-9223372036854775808 ≤ x.f1 ∧ x.f1 ≤ 9223372036854775807)
def okD (x : S41) : Prop := (-9223372036854775808 ≤ x.f0 ∧ x.f0 ≤ 9223372036854775807) ∧ (-9223372036854775808 ≤ x.f1 ∧ x.f1 ≤ 9223372036854775807) ∧ okX x.f2
theorem take_ok {F k : Int} {L : List Bool} (h0 : 0 ≤ F) (h1 : F ≤ 4611686018427387904) (hl : L.length ≤ 1000000) (hk : -9223372036854775808 ≤ k ∧ k ≤ 9223372036854775807) : okX ⟨(takeE F L k).1, (takeE F L k).2.1⟩ := by
  unfold takeE takeI
  cases h : (List.range L.length).find? (takeP F L k) with
  | none => exact (show okX ⟨0, 0⟩ from ⟨⟨by decide, by decide⟩, by decide, by decide⟩)
  | some i =>
    have := List.mem_range.1 (List.mem_of_find?_eq_some h)
    exact ⟨⟨by show _ ≤ F + (i : Int); omega, by show F + (i : Int) ≤ _; omega⟩, hk⟩
theorem take_len (F k : Int) (L : List Bool) : (takeE F L k).2.2.2.length = L.length := by
  unfold takeE
  split
  · exact setE_length _ _ _ _ _
  · rfl
theorem Sp.away {T T' B B' g g' : Nat} {v v' : Value} {fr fr' : Int} {l l' : List Bool} {w w1 : World} (h : Sp T w B g v fr l) (h' : Sp T' w B' g' v' fr' l') (hT : T ≠ 4) (hne : ∀ k, v'.ownBlock = some k → v.ownBlock ≠ some k) (hg : w.grownBy w1 v'.ownBlock) : Sp T w1 B g v fr l :=
  h.grown hg (fun k hk e => hne k hk e.symm) (fun k hk e => by
    have := h'.own_ne h hT
    exact this (by rw [← e]; exact hk.symm))
theorem told_grown {w w1 : World} {B : Nat} {ok : Nat → Prop} {v v' : Value} {T g B' : Nat} {fr : Int} {l : List Bool} {xs : List S39} (h : Kd.R k39 39 w B ok v xs) (h' : Sp T w B' g v' fr l) (hg : w.grownBy w1 v'.ownBlock) : Kd.R k39 39 w1 B ok v xs :=
  Kd.R_over' h (Kd.R_typed h'.2.2) (by decide) hg
theorem Sp.told {T B g : Nat} {v vt : Value} {fr : Int} {l : List Bool} {w w1 : World} {ok : Nat → Prop} {xs : List S39} (h : Sp T w B g v fr l) (ht : Kd.R k39 39 w B ok vt xs) (hT : T ≠ 39) (hg : w.grownBy w1 vt.ownBlock) : Sp T w1 B g v fr l :=
  h.grown hg (fun k hk e => by
    obtain ⟨c1, h1⟩ := Kd.R_typed ht k hk
    obtain ⟨c2, h2⟩ := Kd.R_typed h.2.2 k e.symm
    rw [h1] at h2
    injection h2 with h2
    injection h2 with _ h2
    exact absurd h2 (by decide)) (fun k hk e => by
    obtain ⟨c1, h1⟩ := Kd.R_typed ht k hk
    have h2 := h.2.1
    rw [← e, h1] at h2
    injection h2 with h2
    injection h2 with _ h2
    exact hT h2.symm)
theorem told_set {w : World} {B : Nat} {ok : Nat → Prop} {v : Value} {xs : List S39} (h : Kd.R k39 39 w B ok v xs) {p : Addr} (hp : ∀ k, v.ownBlock = some k → k ≠ p.block) (u : Value) : Kd.R k39 39 (w.setCell p u) B ok v xs :=
  Kd.R_drop (Kd.R_far (Kd.R_far1 h rfl (fun e => hp _ e.symm rfl)) (fun k hk => hk.2) u)
theorem and63 (x : Int) : ∀ _ : Unit, ∃ y : Int, bits BinOp.and IntKind.i64 x 63 = y ∧ 0 ≤ y ∧ y ≤ 63 := fun _ => by
  refine ⟨_, rfl, ?_⟩
  have h : (BitVec.ofInt 64 x &&& BitVec.ofInt 64 63).toNat ≤ 63 := by
    rw [BitVec.toNat_and]
    exact Nat.and_le_right
  show 0 ≤ IntKind.i64.wrap ((BitVec.ofInt 64 x &&& BitVec.ofInt 64 63).toNat : Int) ∧ IntKind.i64.wrap ((BitVec.ofInt 64 x &&& BitVec.ofInt 64 63).toNat : Int) ≤ 63
  generalize (BitVec.ofInt 64 x &&& BitVec.ofInt 64 63).toNat = n at *
  rw [IntKind.wrap_i64]
  omega
theorem rem7 (x : Int) : ∀ _ : Unit, ∃ m q : Int, x.tmod 7 = m ∧ IntKind.i64.wrap (m + 7) = m + 7 ∧ (m + 7).tmod 7 = q ∧ -7 < m ∧ m < 7 ∧ 0 ≤ q ∧ q < 7 ∧ 0 ≤ m + 7 := fun _ => by
  refine ⟨_, _, rfl, ?_, rfl, ?_⟩
  · have h1 := Int.tmod_lt_of_pos x (b := 7) (by decide)
    have h2 := Int.lt_tmod_of_pos x (b := 7) (by decide)
    generalize x.tmod 7 = m at *
    rw [IntKind.wrap_i64]; omega
  · have h1 := Int.tmod_lt_of_pos x (b := 7) (by decide)
    have h2 := Int.lt_tmod_of_pos x (b := 7) (by decide)
    generalize x.tmod 7 = m at *
    have h3 := Int.tmod_lt_of_pos (m + 7) (b := 7) (by decide)
    have h4 := Int.tmod_nonneg 7 (show 0 ≤ m + 7 by omega)
    generalize (m + 7).tmod 7 = q at *
    omega
def all19.T : Bool × List (List Nat × List Nat) := (true, [([], []), ([], []), ([1], [1]), ([0, 2], [0, 2]), ([], []), ([], []), ([5], [5]), ([4, 6, 3], [4, 6]), ([3, 7], [3, 7])])
def all19.B : List Nat := [0, 0, 2, 7, 0, 0, 32, 127, 255]
theorem all19.tab : rtab .any (opsOf Tryd.f7 19) = all19.T := by kernel_rfl
theorem all19.bits : waitsOk all19.T.2 all19.B = true := by kernel_rfl
def all26.T : Bool × List (List Nat × List Nat) := (true, [([], []), ([], []), ([0, 1], [0, 1]), ([], []), ([], []), ([3, 4, 2], [3, 4]), ([2, 5], [2, 5])])
def all26.B : List Nat := [0, 0, 3, 0, 0, 31, 63]
theorem all26.tab : rtab .any (opsOf Tryd.f7 26) = all26.T := by kernel_rfl
theorem all26.bits : waitsOk all26.T.2 all26.B = true := by kernel_rfl
set_option maxHeartbeats 32000000 in
set_option maxRecDepth 100000 in
theorem all_walk (GA : Nat → Addr) (a0 a1 : Int) (A0 : Option Addr) (c0 : Nat) (l0 : List S41) (w : World) (hr0 : Kd.C k41 w A0 l0.length l0) (hc0 : l0.length ≤ c0) (hG : Glob GA w) (ha0 : -9223372036854775808 ≤ a0 ∧ a0 ≤ 9223372036854775807) (ha1 : -9223372036854775808 ≤ a1 ∧ a1 ≤ 9223372036854775807) (hok : ∀ x, x ∈ l0 → okD x) :
    Calls Tryd.prog 7 #[.int .i64 a0, .int .i64 a1, .slice A0 l0.length c0] w fun e w' => e = .returned (.bool true) ∧ Below w.heap.size w w' := by
  have HG := Aside0.mk hG
  have HR := Aside0.mk hr0
  have HOK := Aside0.mk hok
  have hmax := Kd.C_max hr0
  clear hG hr0 hok
  by_cases h40 : 40 < l0.length
  · have d1 : decide ((40 : Int) < (l0.length : Int)) = true := decide_eq_true (by omega)
    have d2 : decide (40 < l0.length) = true := decide_eq_true h40
    have d3 : (40 : Int) < (l0.length : Int) := by omega
    go_enter Tryd.func7, Tryd.ntmps7
    go_wp2_with (go_at_call 17; (refine (begun GA _ HG.out).mono ?_); rintro e w1 ⟨rfl, hb⟩; have HB := Aside0.mk hb; clear hb)
    go_ret
    exact ⟨rfl, HB.out⟩
  have d1 : decide ((40 : Int) < (l0.length : Int)) = false := decide_eq_false (by omega)
  have d2 : decide (40 < l0.length) = false := decide_eq_false h40
  have d3 : ¬ (40 : Int) < (l0.length : Int) := by omega
  by_cases h60 : (60 : Int) < a1
  · have d4 : decide ((60 : Int) < a1) = true := decide_eq_true h60
    go_enter Tryd.func7, Tryd.ntmps7
    go_wp2_with (go_at_call 17; (refine (begun GA _ HG.out).mono ?_); rintro e w1 ⟨rfl, hb⟩; have HB := Aside0.mk hb; clear hb)
    go_ret
    exact ⟨rfl, HB.out⟩
  have d4 : decide ((60 : Int) < a1) = false := decide_eq_false h60
  by_cases hfr : (1099511627776 : Int) < a0
  · have d5 : decide ((1099511627776 : Int) < a0) = true := decide_eq_true hfr
    go_enter Tryd.func7, Tryd.ntmps7
    go_wp2_with (go_at_call 17; (refine (begun GA _ HG.out).mono ?_); rintro e w1 ⟨rfl, hb⟩; have HB := Aside0.mk hb; clear hb)
    go_ret
    exact ⟨rfl, HB.out⟩
  have d5 : decide ((1099511627776 : Int) < a0) = false := decide_eq_false hfr
  obtain ⟨F, hF⟩ : ∃ F, fromE a0 = F := ⟨_, rfl⟩
  obtain ⟨M, hM⟩ : ∃ M, clampE a1 = M := ⟨_, rfl⟩
  have HFB := Aside0.mk (show 0 ≤ F ∧ F ≤ 1099511627776 by rw [← hF]; unfold fromE; split <;> omega)
  have HM := Aside0.mk (show M ≤ 4000 by rw [← hM]; unfold clampE; split <;> (try split) <;> omega)
  have HL0 := Aside0.mk (show l0.length ≤ 40 by omega)
  have HFE := Aside0.mk (And.intro hF hM)
  clear hF hM h40 h60 hfr hmax ha0 ha1
  go_enter Tryd.func7, Tryd.ntmps7
  go_wp2_with (first | (go_at_call 17; (refine (begun GA _ HG.out).mono ?_); rintro e w1 ⟨rfl, hb⟩; have HB1 := Aside0.mk hb; clear hb) | (go_at_call 18; (refine (New a1 a0 _).mono ?_); rintro e w2 ⟨gs, vs, rfl, hs, hb⟩; rw [HFE.out.1, HFE.out.2] at hs; have HS := Aside0.mk (Sp.lower hs HB1.out.size); have HB := Aside0.mk (below_step HB1.out hb); have HB2 := HB; clear hs hb) | (go_at_call 19; (refine (RefNew a1 a0 _).mono ?_); rintro e w3 ⟨gr, vr, rfl, hs, hb⟩; rw [HFE.out.1, HFE.out.2] at hs; have HN := Aside0.mk (show ∀ k, vs.ownBlock = some k → vr.ownBlock ≠ some k from fun k hk e => by have h1 := HS.out.own_lt k hk; have h2 := hs.own_ge k e; omega); have HF := Aside0.mk (Sp.lower hs HB2.out.size); have n0 := Aside0.mk (HS.out.below hb); have n1 := Aside0.mk (below_step HB.out hb); clear HS HB hs hb HB2; have HS := n0; have HB := n1; clear n0 n1))
  go_loopg [7, 9, 10] (l0.length + 1) (fun kq v7 v9 v10 w3 => ∃ (i : Nat) (gs : Nat) (vs vt : Value) (L : List Bool) (told : List S39), v10 = .int .i64 (i : Int) ∧ v7 = .pointer (some ⟨gs, 0, none⟩) ∧ v9 = vt ∧ Aside0 (i ≤ l0.length ∧ l0.length < kq + i) ∧ Aside0 (Sp 62 w3 w.heap.size gs vs F L) ∧ Aside0 (Sp 64 w3 w.heap.size gr vr F L) ∧ Aside0 (∀ k, vs.ownBlock = some k → vr.ownBlock ≠ some k) ∧ Aside0 (Kd.R k39 39 w3 w.heap.size (fun _ => True) vt told) ∧ Aside0 (∀ x, x ∈ told → okX x) ∧ Aside0 (L.length ≤ 4000 ∧ told.length ≤ i) ∧ Aside0 (Below w.heap.size w w3))
  case atStart => exact ⟨0, gs, vs, _, _, [], rfl, rfl, rfl, ⟨Nat.zero_le _, by omega⟩, HS, HF, HN, ⟨Kd.R_nil _ _ _ _ _⟩, ⟨fun x hx => by cases hx⟩, ⟨by rw [List.length_replicate]; exact HM.out, Nat.zero_le _⟩, HB⟩
  case round =>
    clear HS HF HN HB HB1
    obtain ⟨i, gs, vs, vt, L, told, rfl, rfl, rfl, HI, HS, HF, HN, HT, HTO, HL, HB⟩ := hrel
    by_cases hlt : i < l0.length
    · have e1 : decide ((i : Int) < (l0.length : Int)) = true := decide_eq_true (by omega)
      have e2 : decide (i < l0.length) = true := decide_eq_true hlt
      have e3 : (i : Int) < (l0.length : Int) := by omega
      have hl40 := HL0.out
      have hw1 : IntKind.i64.wrap ((i : Int) + 1) = ((i + 1 : Nat) : Int) := by rw [IntKind.wrap_i64]; omega
      obtain ⟨ad, e0, hx0, hx1, hx2, hx3⟩ := at_T41 HR.out (i : Int) (by omega) (by omega)
      cases e0
      replace hx0 := (HB.out.cell (World.block_lt_of_cell? w _ hx0)).trans hx0
      replace hx1 := (HB.out.cell (World.block_lt_of_cell? w _ hx1)).trans hx1
      replace hx2 := (HB.out.cell (World.block_lt_of_cell? w _ hx2)).trans hx2
      replace hx3 := (HB.out.cell (World.block_lt_of_cell? w _ hx3)).trans hx3
      rw [Int.toNat_natCast] at hx0 hx1 hx2 hx3
      have HO := Aside0.mk (HOK.out (rd_T41 l0 (i : Int)) (by unfold rd_T41; rw [Int.toNat_natCast, List.getD_eq_getElem?_getD, List.getElem?_eq_getElem hlt]; exact List.getElem_mem _))
      generalize rd_T41 l0 (i : Int) = o at *
      obtain ⟨o0, o1, oat, on⟩ := o
      dsimp only at hx0 hx1 hx2 hx3
      obtain ⟨m, q, hm, hwm, hq, hmm1, hmm2, hq0, hq7, hm7⟩ := rem7 o0 ()
      have HLT := Aside0.mk hlt
      have HVT := Kd.R_slice HT.out
      obtain ⟨At, ct, rfl⟩ := HVT
      clear hl40 hlt
      go_upto_region 11 with (fail)
      have HE := Aside0.mk (heap_alloc_new wr (.cells #[.int .i64 o0, .int .i64 o1, .int .i64 oat, .int .i64 on] 41))
      have n0 := Aside0.mk (HS.out.below (below_alloc (Below.refl _ _) (.cells #[.int .i64 o0, .int .i64 o1, .int .i64 oat, .int .i64 on] 41)))
      have n1 := Aside0.mk (HF.out.below (below_alloc (Below.refl _ _) (.cells #[.int .i64 o0, .int .i64 o1, .int .i64 oat, .int .i64 on] 41)))
      have n2 := Aside0.mk (Kd.R_alloc HT.out (.cells #[.int .i64 o0, .int .i64 o1, .int .i64 oat, .int .i64 on] 41))
      have n3 := Aside0.mk (below_alloc HB.out (.cells #[.int .i64 o0, .int .i64 o1, .int .i64 oat, .int .i64 on] 41))
      clear HS HF HT HB 
      have HS := n0
      have HF := n1
      have HT := n2
      have HB := n3
      clear n0 n1 n2 n3
      clear hx0 hx1 hx2 hx3
      generalize wr.alloc (.cells #[.int .i64 o0, .int .i64 o1, .int .i64 oat, .int .i64 on] 41) = w4 at HS HF HT HB HE ⊢
      generalize wr.heap.size = ge at HE ⊢
      have x0 := blk_cell HE.out 0
      have x1 := blk_cell HE.out 1
      have x2 := blk_cell HE.out 2
      have x3 := blk_cell HE.out 3
      have hbnd := HFB.out
      by_cases h3 : q = 3
      · subst h3
        go_upto_region 19 with (fail)
        refine start_ (n := 9) (S := fun w' => w'.cell? ⟨ge, 2, none⟩ = some (.int .i64 oat) ∧ w'.cell? ⟨ge, 3, none⟩ = some (.int .i64 on)) (ds := []) #[false, false, false, false, false, false, false, false, false] (by kernel_rfl) rfl rfl ⟨by first | exact x2 | exact x0, by first | exact x3 | exact x1⟩ (fun hHeld => ?_)
        refine with_tabW all19.tab all19.bits (fun HT_ HW_ => ?_)
        have n0 := Aside0.mk (HS.out.below (below_drew (Below.refl _ _)))
        have n1 := Aside0.mk (HF.out.below (below_drew (Below.refl _ _)))
        have n2 := Aside0.mk (Kd.R_drew HT.out)
        have n3 := Aside0.mk (below_drew1 HB.out)
        have mHE := Aside0.mk (blk_drew HE.out)
        clear HS HF HT HB HE
        have HS := n0
        have HF := n1
        have HT := n2
        have HB := n3
        have HE := mHE
        clear n0 n1 n2 n3 mHE
        generalize w4.drew = w5 at HS HF HT HB HE hHeld ⊢
        obtain ⟨⟨rb, L2⟩, hr⟩ : ∃ r, setE F L oat on true = r := ⟨_, rfl⟩
        have hL2 : L2.length = L.length := by have := setE_length F L oat on true; rw [hr] at this; exact this
        have HRR := Aside0.mk hr
        have HL2 := Aside0.mk hL2
        clear hr hL2
        refine pure_ (i := 0) (N := (some 84)) (v := ?_) (a' := ?_) #[true, false, false, false, false, false, false, false, false] rfl rfl (any_of HT_.out (by kernel_rfl)) (fun _ _ _ h => h) (Or.inl ⟨by rfl, ?_⟩) ?_ ?_
        rotate_left
        · intro w'
          go_simp
          with_reducible rfl
        rotate_left
        · simp only [Act.put, List.setIfInBounds_toArray, List.set_cons_zero, List.set_cons_succ, i64_w, i32_w]
          rfl
        refine pure_ (i := 1) (N := (some 85)) (v := ?_) (a' := ?_) #[true, true, false, false, false, false, false, false, false] rfl rfl (any_of HT_.out (by kernel_rfl)) (fun _ _ _ h => h) (Or.inl ⟨by rfl, ?_⟩) ?_ ?_
        rotate_left
        · intro w'
          go_simp
          with_reducible rfl
        rotate_left
        · simp only [Act.put, List.setIfInBounds_toArray, List.set_cons_zero, List.set_cons_succ, i64_w, i32_w]
          rfl
        refine pure_ (i := 4) (N := (some 88)) (v := ?_) (a' := ?_) #[true, true, false, false, true, false, false, false, false] rfl rfl (any_of HT_.out (by kernel_rfl)) (fun _ _ _ h => h) (Or.inl ⟨by rfl, ?_⟩) ?_ ?_
        rotate_left
        · intro w'
          go_simp
          with_reducible rfl
        rotate_left
        · simp only [Act.put, List.setIfInBounds_toArray, List.set_cons_zero, List.set_cons_succ, i64_w, i32_w]
          rfl
        refine pure_ (i := 5) (N := (some 89)) (v := ?_) (a' := ?_) #[true, true, false, false, true, true, false, false, false] rfl rfl (any_of HT_.out (by kernel_rfl)) (fun _ _ _ h => h) (Or.inl ⟨by rfl, ?_⟩) ?_ ?_
        rotate_left
        · intro w'
          go_simp
          with_reducible rfl
        rotate_left
        · simp only [Act.put, List.setIfInBounds_toArray, List.set_cons_zero, List.set_cons_succ, i64_w, i32_w]
          rfl
        refine take_ (i := 2) (N := (some 86)) (v := ?_) (a' := ?_) #[true, true, true, false, true, true, false, false, false] rfl rfl (take_ofW HT_.out HW_.out (by kernel_rfl)) (fun _ _ _ h => h) (Or.inl ⟨by rfl, ?_⟩) (by exact hHeld) ?_ ?_
        rotate_left
        · intro w' hw'
          go_simp
          with_reducible rfl
        rotate_left
        · simp only [Act.put, List.setIfInBounds_toArray, List.set_cons_zero, List.set_cons_succ, i64_w, i32_w]
          rfl
        refine take_ (i := 6) (N := (some 90)) (v := ?_) (a' := ?_) #[true, true, true, false, true, true, true, false, false] rfl rfl (take_ofW HT_.out HW_.out (by kernel_rfl)) (fun _ _ _ h => h) (Or.inl ⟨by rfl, ?_⟩) (by exact hHeld) ?_ ?_
        rotate_left
        · intro w' hw'
          go_simp
          with_reducible rfl
        rotate_left
        · simp only [Act.put, List.setIfInBounds_toArray, List.set_cons_zero, List.set_cons_succ, i64_w, i32_w]
          rfl
        refine one_ (i := 3) (N := (some 87)) #[true, true, true, true, true, true, true, false, false] rfl rfl (one_of HT_.out (by kernel_rfl)) (by decide) (fun Kq hKq => ?_)
        refine call_ (f := 20) (args := #[.pointer (some ⟨gs, 0, none⟩), .agg #[.int .i64 oat, .int .i64 on]]) (by rfl) rfl (by go_simp) ?_
        refine (Mark GA w.heap.size gs vs L F oat on _ (Glob.below HG.out HB.out) HS.out HFB.out.1 (by have := HL.out.1; omega) HO.out.2.2.1.1 HO.out.2.2.1.2 HO.out.2.2.2.1 HO.out.2.2.2.2).mono ?_
        rintro e w6 ⟨rfl, hs, hg⟩
        rw [HRR.out] at hs ⊢
        refine ⟨_, rfl, ?_⟩
        have n0 := Aside0.mk hs; have n1 := Aside0.mk (HF.out.away HS.out (by decide) HN.out hg); have n2 := Aside0.mk (told_grown HT.out HS.out hg); have n3 := Aside0.mk (HS.out.stay HB.out hg); have mHE := Aside0.mk (HS.out.keep HE.out (by decide) hg); clear HS HF HT HB HE hs hg ; have HS := n0; have HF := n1; have HT := n2; have HB := n3; have HE := mHE; clear n0 n1 n2 n3 mHE
        refine hKq.out _ _ ⟨blk_cell HE.out 2, blk_cell HE.out 3⟩ (fun hHeld => ?_)
        clear hKq Kq
        refine norm_ (a' := ?_) ?_ ?_
        rotate_left
        · show Act.put _ (some 87) _ = _
          simp only [Act.put, List.setIfInBounds_toArray, List.set_cons_zero, List.set_cons_succ, i64_w, i32_w]
          rfl
        refine one_ (i := 7) (N := (some 91)) #[true, true, true, true, true, true, true, true, false] rfl rfl (one_of HT_.out (by kernel_rfl)) (by decide) (fun Kq hKq => ?_)
        refine call_ (f := 21) (args := #[.pointer (some ⟨gr, 0, none⟩), .agg #[.int .i64 oat, .int .i64 on]]) (by rfl) rfl (by go_simp) ?_
        refine (RefMark w.heap.size gr vr L F oat on _ HF.out HFB.out.1 (by have := HL.out.1; omega) HO.out.2.2.1.1 HO.out.2.2.1.2 HO.out.2.2.2.1 HO.out.2.2.2.2).mono ?_
        rintro e w7 ⟨rfl, hs, hg⟩
        rw [HRR.out] at hs ⊢
        refine ⟨_, rfl, ?_⟩
        have n0 := Aside0.mk (HS.out.away HF.out (by decide) (fun k hk e => HN.out k e hk) hg); have n1 := Aside0.mk hs; have n2 := Aside0.mk (told_grown HT.out HF.out hg); have n3 := Aside0.mk (HF.out.stay HB.out hg); have mHE := Aside0.mk (HF.out.keep HE.out (by decide) hg); clear HS HF HT HB HE hs hg ; have HS := n0; have HF := n1; have HT := n2; have HB := n3; have HE := mHE; clear n0 n1 n2 n3 mHE
        refine hKq.out _ _ ⟨blk_cell HE.out 2, blk_cell HE.out 3⟩ (fun hHeld => ?_)
        clear hKq Kq
        refine norm_ (a' := ?_) ?_ ?_
        rotate_left
        · show Act.put _ (some 91) _ = _
          simp only [Act.put, List.setIfInBounds_toArray, List.set_cons_zero, List.set_cons_succ, i64_w, i32_w]
          rfl
        refine pure_ (i := 8) (N := (some 92)) (v := ?_) (a' := ?_) #[true, true, true, true, true, true, true, true, true] rfl rfl (any_of HT_.out (by kernel_rfl)) (fun _ _ _ h => h) (Or.inl ⟨by rfl, ?_⟩) ?_ ?_
        rotate_left
        · intro w'
          go_simp
          with_reducible rfl
        rotate_left
        · simp only [Act.put, List.setIfInBounds_toArray, List.set_cons_zero, List.set_cons_succ, i64_w, i32_w]
          rfl
        refine done_ (done_of HT_.out (by kernel_rfl)) ?_
        go_wp2_with (first | (go_at_call 27; (refine (Used w.heap.size gs vs L2 F _ HS.out (by have := HL.out.1; have := HL2.out; omega)).mono ?_); rintro e w20 ⟨rfl, hb⟩; have n0 := Aside0.mk (HS.out.below hb); have n1 := Aside0.mk (HF.out.below hb); have n2 := Aside0.mk (Kd.R_below HT.out hb); have n3 := Aside0.mk (below_step HB.out hb); clear HS HF HT HB hb; have HS := n0; have HF := n1; have HT := n2; have HB := n3; clear n0 n1 n2 n3) | (go_at_call 28; (refine (RefUsed w.heap.size gr vr L2 F _ HF.out (by have := HL.out.1; have := HL2.out; omega)).mono ?_); rintro e w21 ⟨rfl, hb⟩; have n0 := Aside0.mk (HS.out.below hb); have n1 := Aside0.mk (HF.out.below hb); have n2 := Aside0.mk (Kd.R_below HT.out hb); have n3 := Aside0.mk (below_step HB.out hb); clear HS HF HT HB hb; have HS := n0; have HF := n1; have HT := n2; have HB := n3; clear n0 n1 n2 n3))
        go_roundg (gk - 1)
        case measure => have := HI.out; omega
        case rel => exact ⟨i + 1, gs, vs, _, _, _, by first | rfl | go_num, rfl, rfl, ⟨by have := HLT.out; omega, by have := HI.out; omega⟩, HS, HF, HN, HT, HTO, ⟨by have := HL.out.1; have := HL2.out; omega, by have := HL.out.2; omega⟩, HB⟩
      have b3 : (q == 3) = false := beq_eq_false_iff_ne.mpr h3
      by_cases h4 : q = 4
      · subst h4
        clear h3 b3
        go_upto_region 24 with (fail)
        have HX := Aside0.mk (heap_alloc_new w4 (.cells #[.int .i64 oat, .int .i64 on] 39))
        have HGX := Aside0.mk (show (∀ k, (Value.slice At told.length ct).ownBlock = some k → k ≠ w4.heap.size) ∧ w.heap.size ≤ w4.heap.size from ⟨fun k hk => by have := Kd.R_lt HT.out k hk; omega, HB.out.size⟩)
        have n0 := Aside0.mk (HS.out.below (below_alloc (Below.refl _ _) (.cells #[.int .i64 oat, .int .i64 on] 39)))
        have n1 := Aside0.mk (HF.out.below (below_alloc (Below.refl _ _) (.cells #[.int .i64 oat, .int .i64 on] 39)))
        have n2 := Aside0.mk (Kd.R_alloc HT.out (.cells #[.int .i64 oat, .int .i64 on] 39))
        have n3 := Aside0.mk (below_alloc HB.out (.cells #[.int .i64 oat, .int .i64 on] 39))
        have mHE := Aside0.mk ((Below.heap_alloc w4 (.cells #[.int .i64 oat, .int .i64 on] 39) _ (blk_lt HE.out)).trans HE.out)
        clear HS HF HT HB HE
        have HS := n0
        have HF := n1
        have HT := n2
        have HB := n3
        have HE := mHE
        clear n0 n1 n2 n3 mHE
        clear x0 x1 x2 x3
        generalize w4.alloc (.cells #[.int .i64 oat, .int .i64 on] 39) = w8 at HS HF HT HB HX HE ⊢
        generalize w4.heap.size = gx at HX HGX ⊢
        have y0 := blk_cell HE.out 0
        have y1 := blk_cell HE.out 1
        have b5 : (m == 5) = false := beq_eq_false_iff_ne.mpr (fun e => by rw [e] at hq; exact absurd hq (by decide))
        go_upto_region 26 with (fail)
        clear y0 y1
        have x0 := blk_cell HX.out 0
        have x1 := blk_cell HX.out 1
        refine start_ (n := 7) (S := fun w' => w'.cell? ⟨gx, 0, none⟩ = some (.int .i64 oat) ∧ w'.cell? ⟨gx, 1, none⟩ = some (.int .i64 on)) (ds := []) #[false, false, false, false, false, false, false] (by kernel_rfl) rfl rfl ⟨by first | exact x2 | exact x0, by first | exact x3 | exact x1⟩ (fun hHeld => ?_)
        refine with_tabW all26.tab all26.bits (fun HT_ HW_ => ?_)
        have n0 := Aside0.mk (HS.out.below (below_drew (Below.refl _ _)))
        have n1 := Aside0.mk (HF.out.below (below_drew (Below.refl _ _)))
        have n2 := Aside0.mk (Kd.R_drew HT.out)
        have n3 := Aside0.mk (below_drew1 HB.out)
        have mHX := Aside0.mk (blk_drew HX.out)
        clear HS HF HT HB HX
        have HS := n0
        have HF := n1
        have HT := n2
        have HB := n3
        have HX := mHX
        clear n0 n1 n2 n3 mHX
        generalize w8.drew = w5 at HS HF HT HB HX hHeld ⊢
        obtain ⟨⟨rb, L2⟩, hr⟩ : ∃ r, setE F L oat on false = r := ⟨_, rfl⟩
        have hL2 : L2.length = L.length := by have := setE_length F L oat on false; rw [hr] at this; exact this
        have HRR := Aside0.mk hr
        have HL2 := Aside0.mk hL2
        clear hr hL2
        refine pure_ (i := 0) (N := (some 116)) (v := ?_) (a' := ?_) #[true, false, false, false, false, false, false] rfl rfl (any_of HT_.out (by kernel_rfl)) (fun _ _ _ h => h) (Or.inl ⟨by rfl, ?_⟩) ?_ ?_
        rotate_left
        · intro w'
          go_simp
          with_reducible rfl
        rotate_left
        · simp only [Act.put, List.setIfInBounds_toArray, List.set_cons_zero, List.set_cons_succ, i64_w, i32_w]
          rfl
        refine pure_ (i := 3) (N := (some 119)) (v := ?_) (a' := ?_) #[true, false, false, true, false, false, false] rfl rfl (any_of HT_.out (by kernel_rfl)) (fun _ _ _ h => h) (Or.inl ⟨by rfl, ?_⟩) ?_ ?_
        rotate_left
        · intro w'
          go_simp
          with_reducible rfl
        rotate_left
        · simp only [Act.put, List.setIfInBounds_toArray, List.set_cons_zero, List.set_cons_succ, i64_w, i32_w]
          rfl
        refine take_ (i := 1) (N := (some 117)) (v := ?_) (a' := ?_) #[true, true, false, true, false, false, false] rfl rfl (take_ofW HT_.out HW_.out (by kernel_rfl)) (fun _ _ _ h => h) (Or.inl ⟨by rfl, ?_⟩) (by exact hHeld) ?_ ?_
        rotate_left
        · intro w' hw'
          go_simp
          with_reducible rfl
        rotate_left
        · simp only [Act.put, List.setIfInBounds_toArray, List.set_cons_zero, List.set_cons_succ, i64_w, i32_w]
          rfl
        refine take_ (i := 4) (N := (some 120)) (v := ?_) (a' := ?_) #[true, true, false, true, true, false, false] rfl rfl (take_ofW HT_.out HW_.out (by kernel_rfl)) (fun _ _ _ h => h) (Or.inl ⟨by rfl, ?_⟩) (by exact hHeld) ?_ ?_
        rotate_left
        · intro w' hw'
          go_simp
          with_reducible rfl
        rotate_left
        · simp only [Act.put, List.setIfInBounds_toArray, List.set_cons_zero, List.set_cons_succ, i64_w, i32_w]
          rfl
        refine one_ (i := 2) (N := (some 118)) #[true, true, true, true, true, false, false] rfl rfl (one_of HT_.out (by kernel_rfl)) (by decide) (fun Kq hKq => ?_)
        refine call_ (f := 22) (args := #[.pointer (some ⟨gs, 0, none⟩), .agg #[.int .i64 oat, .int .i64 on]]) (by rfl) rfl (by go_simp) ?_
        refine (Free GA w.heap.size gs vs L F oat on _ (Glob.below HG.out HB.out) HS.out HFB.out.1 (by have := HL.out.1; omega) HO.out.2.2.1.1 HO.out.2.2.1.2 HO.out.2.2.2.1 HO.out.2.2.2.2).mono ?_
        rintro e w6 ⟨rfl, hs, hg⟩
        rw [HRR.out] at hs ⊢
        refine ⟨_, rfl, ?_⟩
        have n0 := Aside0.mk hs; have n1 := Aside0.mk (HF.out.away HS.out (by decide) HN.out hg); have n2 := Aside0.mk (told_grown HT.out HS.out hg); have n3 := Aside0.mk (HS.out.stay HB.out hg); have mHX := Aside0.mk (HS.out.keep HX.out (by decide) hg); clear HS HF HT HB HX hs hg ; have HS := n0; have HF := n1; have HT := n2; have HB := n3; have HX := mHX; clear n0 n1 n2 n3 mHX
        refine hKq.out _ _ ⟨blk_cell HX.out 0, blk_cell HX.out 1⟩ (fun hHeld => ?_)
        clear hKq Kq
        refine norm_ (a' := ?_) ?_ ?_
        rotate_left
        · show Act.put _ (some 118) _ = _
          simp only [Act.put, List.setIfInBounds_toArray, List.set_cons_zero, List.set_cons_succ, i64_w, i32_w]
          rfl
        refine one_ (i := 5) (N := (some 121)) #[true, true, true, true, true, true, false] rfl rfl (one_of HT_.out (by kernel_rfl)) (by decide) (fun Kq hKq => ?_)
        refine call_ (f := 23) (args := #[.pointer (some ⟨gr, 0, none⟩), .agg #[.int .i64 oat, .int .i64 on]]) (by rfl) rfl (by go_simp) ?_
        refine (RefFree w.heap.size gr vr L F oat on _ HF.out HFB.out.1 (by have := HL.out.1; omega) HO.out.2.2.1.1 HO.out.2.2.1.2 HO.out.2.2.2.1 HO.out.2.2.2.2).mono ?_
        rintro e w7 ⟨rfl, hs, hg⟩
        rw [HRR.out] at hs ⊢
        refine ⟨_, rfl, ?_⟩
        have n0 := Aside0.mk (HS.out.away HF.out (by decide) (fun k hk e => HN.out k e hk) hg); have n1 := Aside0.mk hs; have n2 := Aside0.mk (told_grown HT.out HF.out hg); have n3 := Aside0.mk (HF.out.stay HB.out hg); have mHX := Aside0.mk (HF.out.keep HX.out (by decide) hg); clear HS HF HT HB HX hs hg ; have HS := n0; have HF := n1; have HT := n2; have HB := n3; have HX := mHX; clear n0 n1 n2 n3 mHX
        refine hKq.out _ _ ⟨blk_cell HX.out 0, blk_cell HX.out 1⟩ (fun hHeld => ?_)
        clear hKq Kq
        refine norm_ (a' := ?_) ?_ ?_
        rotate_left
        · show Act.put _ (some 121) _ = _
          simp only [Act.put, List.setIfInBounds_toArray, List.set_cons_zero, List.set_cons_succ, i64_w, i32_w]
          rfl
        refine pure_ (i := 6) (N := (some 122)) (v := ?_) (a' := ?_) #[true, true, true, true, true, true, true] rfl rfl (any_of HT_.out (by kernel_rfl)) (fun _ _ _ h => h) (Or.inl ⟨by rfl, ?_⟩) ?_ ?_
        rotate_left
        · intro w'
          go_simp
          with_reducible rfl
        rotate_left
        · simp only [Act.put, List.setIfInBounds_toArray, List.set_cons_zero, List.set_cons_succ, i64_w, i32_w]
          rfl
        refine done_ (done_of HT_.out (by kernel_rfl)) ?_
        go_wp2_with (first | (go_at_call 27; (refine (Used w.heap.size gs vs L2 F _ HS.out (by have := HL.out.1; have := HL2.out; omega)).mono ?_); rintro e w20 ⟨rfl, hb⟩; have n0 := Aside0.mk (HS.out.below hb); have n1 := Aside0.mk (HF.out.below hb); have n2 := Aside0.mk (Kd.R_below HT.out hb); have n3 := Aside0.mk (below_step HB.out hb); clear HS HF HT HB hb; have HS := n0; have HF := n1; have HT := n2; have HB := n3; clear n0 n1 n2 n3) | (go_at_call 28; (refine (RefUsed w.heap.size gr vr L2 F _ HF.out (by have := HL.out.1; have := HL2.out; omega)).mono ?_); rintro e w21 ⟨rfl, hb⟩; have n0 := Aside0.mk (HS.out.below hb); have n1 := Aside0.mk (HF.out.below hb); have n2 := Aside0.mk (Kd.R_below HT.out hb); have n3 := Aside0.mk (below_step HB.out hb); clear HS HF HT HB hb; have HS := n0; have HF := n1; have HT := n2; have HB := n3; clear n0 n1 n2 n3))
        go_roundg (gk - 1)
        case measure => have := HI.out; omega
        case rel => exact ⟨i + 1, gs, vs, _, _, _, by first | rfl | go_num, rfl, rfl, ⟨by have := HLT.out; omega, by have := HI.out; omega⟩, HS, HF, HN, HT, HTO, ⟨by have := HL.out.1; have := HL2.out; omega, by have := HL.out.2; omega⟩, HB⟩
      have b4 : (q == 4) = false := beq_eq_false_iff_ne.mpr h4
      by_cases h5 : q = 5
      · subst h5
        clear h3 b3 h4 b4
        go_upto_region 24 with (fail)
        have HX := Aside0.mk (heap_alloc_new w4 (.cells #[.int .i64 oat, .int .i64 on] 39))
        have HGX := Aside0.mk (show (∀ k, (Value.slice At told.length ct).ownBlock = some k → k ≠ w4.heap.size) ∧ w.heap.size ≤ w4.heap.size from ⟨fun k hk => by have := Kd.R_lt HT.out k hk; omega, HB.out.size⟩)
        have n0 := Aside0.mk (HS.out.below (below_alloc (Below.refl _ _) (.cells #[.int .i64 oat, .int .i64 on] 39)))
        have n1 := Aside0.mk (HF.out.below (below_alloc (Below.refl _ _) (.cells #[.int .i64 oat, .int .i64 on] 39)))
        have n2 := Aside0.mk (Kd.R_alloc HT.out (.cells #[.int .i64 oat, .int .i64 on] 39))
        have n3 := Aside0.mk (below_alloc HB.out (.cells #[.int .i64 oat, .int .i64 on] 39))
        have mHE := Aside0.mk ((Below.heap_alloc w4 (.cells #[.int .i64 oat, .int .i64 on] 39) _ (blk_lt HE.out)).trans HE.out)
        clear HS HF HT HB HE
        have HS := n0
        have HF := n1
        have HT := n2
        have HB := n3
        have HE := mHE
        clear n0 n1 n2 n3 mHE
        clear x0 x1 x2 x3
        generalize w4.alloc (.cells #[.int .i64 oat, .int .i64 on] 39) = w8 at HS HF HT HB HX HE ⊢
        generalize w4.heap.size = gx at HX HGX ⊢
        have y0 := blk_cell HE.out 0
        have y1 := blk_cell HE.out 1
        by_cases hm5 : m = 5
        · have b5 : (m == 5) = true := beq_iff_eq.mpr hm5
          clear hm5
          by_cases hl : 0 < told.length
          · have bl : decide (0 < told.length) = true := decide_eq_true hl
            have bl2 : (0 : Int) < (told.length : Int) := by omega
            have hlen1 : (0 : Int) < (told.length : Int) := by omega
            have hlen2 : ((told.length : Int) = 0) = False := eq_false (by omega)
            have hlen3 := HL.out.2
            obtain ⟨y, hy, hy0, hy1⟩ := and63 o1 ()
            obtain ⟨z, hz, hz0, hz1⟩ : ∃ z : Nat, y.tmod (told.length : Int) = (z : Int) ∧ z < told.length ∧ 0 ≤ z := by
              have h1 := Int.tmod_nonneg (told.length : Int) hy0
              have h2 := Int.tmod_lt_of_pos y hlen1
              exact ⟨(y.tmod (told.length : Int)).toNat, by omega, by omega, by omega⟩
            have hz2 : (z : Int) < (told.length : Int) := by omega
            have hz3 : decide (z < told.length) = true := decide_eq_true hz0
            obtain ⟨adt, et, t0, t1⟩ := at_T39 (Kd.R_reads' HT.out).2.2 (z : Int) (by omega) (by omega)
            cases et
            rw [Int.toNat_natCast] at t0 t1
            have HZO := Aside0.mk (HTO.out (rd_T39 told (z : Int)) (by unfold rd_T39; rw [Int.toNat_natCast, List.getD_eq_getElem?_getD, List.getElem?_eq_getElem hz0]; exact List.getElem_mem _))
            generalize rd_T39 told (z : Int) = p at *
            obtain ⟨pa, pn⟩ := p
            dsimp only at t0 t1
            have f0 := blk_frozen HX.out 0
            have f1 := blk_frozen HX.out 1
            have g0 := blk_cell HX.out 0
            have g1 := blk_cell HX.out 1
            clear hz0 hz1 hy0 hy1 hlen3
            go_upto_region 26 with (fail)
            have hs1 := Kd.R_ne HS.out.2.2 HX.out (by decide)
            have hs2 := blk_ne HX.out HS.out.2.1 (by decide)
            have hf1 := Kd.R_ne HF.out.2.2 HX.out (by decide)
            have hf2 := blk_ne HX.out HF.out.2.1 (by decide)
            have n0 := Aside0.mk ((HS.out.set (p := ⟨gx, 0, none⟩) hs1 hs2 (.int .i64 pa)).set (p := ⟨gx, 1, none⟩) hs1 hs2 (.int .i64 pn))
            have n1 := Aside0.mk ((HF.out.set (p := ⟨gx, 0, none⟩) hf1 hf2 (.int .i64 pa)).set (p := ⟨gx, 1, none⟩) hf1 hf2 (.int .i64 pn))
            have n2 := Aside0.mk (told_set (told_set HT.out (p := ⟨gx, 0, none⟩) HGX.out.1 (.int .i64 pa)) (p := ⟨gx, 1, none⟩) HGX.out.1 (.int .i64 pn))
            have n3 := Aside0.mk (below_set (j := 1) (v := .int .i64 pn) (below_set (j := 0) (v := .int .i64 pa) HB.out HGX.out.2) HGX.out.2)
            have n4 := Aside0.mk (blk_set (blk_set HX.out 0 (.int .i64 pa)) 1 (.int .i64 pn))
            clear HS HF HT HB HX HE y0 y1 f0 f1 g0 g1 t0 t1 hs1 hs2 hf1 hf2 hz hz2 hz3 hy hlen1 hlen2 bl bl2
            have HS := n0
            have HF := n1
            have HT := n2
            have HB := n3
            have HX := Aside0.mk (show _ = some (Obj.cells #[.int .i64 pa, .int .i64 pn] 39) from n4.out)
            clear n0 n1 n2 n3 n4
            generalize (w8.setCell ⟨gx, 0, none⟩ (.int .i64 pa)).setCell ⟨gx, 1, none⟩ (.int .i64 pn) = w9 at HS HF HT HB HX ⊢
            have x0 := blk_cell HX.out 0
            have x1 := blk_cell HX.out 1
            refine start_ (n := 7) (S := fun w' => w'.cell? ⟨gx, 0, none⟩ = some (.int .i64 pa) ∧ w'.cell? ⟨gx, 1, none⟩ = some (.int .i64 pn)) (ds := []) #[false, false, false, false, false, false, false] (by kernel_rfl) rfl rfl ⟨by first | exact x2 | exact x0, by first | exact x3 | exact x1⟩ (fun hHeld => ?_)
            refine with_tabW all26.tab all26.bits (fun HT_ HW_ => ?_)
            have n0 := Aside0.mk (HS.out.below (below_drew (Below.refl _ _)))
            have n1 := Aside0.mk (HF.out.below (below_drew (Below.refl _ _)))
            have n2 := Aside0.mk (Kd.R_drew HT.out)
            have n3 := Aside0.mk (below_drew1 HB.out)
            have mHX := Aside0.mk (blk_drew HX.out)
            clear HS HF HT HB HX
            have HS := n0
            have HF := n1
            have HT := n2
            have HB := n3
            have HX := mHX
            clear n0 n1 n2 n3 mHX
            generalize w9.drew = w5 at HS HF HT HB HX hHeld ⊢
            obtain ⟨⟨rb, L2⟩, hr⟩ : ∃ r, setE F L pa pn false = r := ⟨_, rfl⟩
            have hL2 : L2.length = L.length := by have := setE_length F L pa pn false; rw [hr] at this; exact this
            have HRR := Aside0.mk hr
            have HL2 := Aside0.mk hL2
            clear hr hL2
            refine pure_ (i := 0) (N := (some 116)) (v := ?_) (a' := ?_) #[true, false, false, false, false, false, false] rfl rfl (any_of HT_.out (by kernel_rfl)) (fun _ _ _ h => h) (Or.inl ⟨by rfl, ?_⟩) ?_ ?_
            rotate_left
            · intro w'
              go_simp
              with_reducible rfl
            rotate_left
            · simp only [Act.put, List.setIfInBounds_toArray, List.set_cons_zero, List.set_cons_succ, i64_w, i32_w]
              rfl
            refine pure_ (i := 3) (N := (some 119)) (v := ?_) (a' := ?_) #[true, false, false, true, false, false, false] rfl rfl (any_of HT_.out (by kernel_rfl)) (fun _ _ _ h => h) (Or.inl ⟨by rfl, ?_⟩) ?_ ?_
            rotate_left
            · intro w'
              go_simp
              with_reducible rfl
            rotate_left
            · simp only [Act.put, List.setIfInBounds_toArray, List.set_cons_zero, List.set_cons_succ, i64_w, i32_w]
              rfl
            refine take_ (i := 1) (N := (some 117)) (v := ?_) (a' := ?_) #[true, true, false, true, false, false, false] rfl rfl (take_ofW HT_.out HW_.out (by kernel_rfl)) (fun _ _ _ h => h) (Or.inl ⟨by rfl, ?_⟩) (by exact hHeld) ?_ ?_
            rotate_left
            · intro w' hw'
              go_simp
              with_reducible rfl
            rotate_left
            · simp only [Act.put, List.setIfInBounds_toArray, List.set_cons_zero, List.set_cons_succ, i64_w, i32_w]
              rfl
            refine take_ (i := 4) (N := (some 120)) (v := ?_) (a' := ?_) #[true, true, false, true, true, false, false] rfl rfl (take_ofW HT_.out HW_.out (by kernel_rfl)) (fun _ _ _ h => h) (Or.inl ⟨by rfl, ?_⟩) (by exact hHeld) ?_ ?_
            rotate_left
            · intro w' hw'
              go_simp
              with_reducible rfl
            rotate_left
            · simp only [Act.put, List.setIfInBounds_toArray, List.set_cons_zero, List.set_cons_succ, i64_w, i32_w]
              rfl
            refine one_ (i := 2) (N := (some 118)) #[true, true, true, true, true, false, false] rfl rfl (one_of HT_.out (by kernel_rfl)) (by decide) (fun Kq hKq => ?_)
            refine call_ (f := 22) (args := #[.pointer (some ⟨gs, 0, none⟩), .agg #[.int .i64 pa, .int .i64 pn]]) (by rfl) rfl (by go_simp) ?_
            refine (Free GA w.heap.size gs vs L F pa pn _ (Glob.below HG.out HB.out) HS.out HFB.out.1 (by have := HL.out.1; omega) HZO.out.1.1 HZO.out.1.2 HZO.out.2.1 HZO.out.2.2).mono ?_
            rintro e w6 ⟨rfl, hs, hg⟩
            rw [HRR.out] at hs ⊢
            refine ⟨_, rfl, ?_⟩
            have n0 := Aside0.mk hs; have n1 := Aside0.mk (HF.out.away HS.out (by decide) HN.out hg); have n2 := Aside0.mk (told_grown HT.out HS.out hg); have n3 := Aside0.mk (HS.out.stay HB.out hg); have mHX := Aside0.mk (HS.out.keep HX.out (by decide) hg); clear HS HF HT HB HX hs hg ; have HS := n0; have HF := n1; have HT := n2; have HB := n3; have HX := mHX; clear n0 n1 n2 n3 mHX
            refine hKq.out _ _ ⟨blk_cell HX.out 0, blk_cell HX.out 1⟩ (fun hHeld => ?_)
            clear hKq Kq
            refine norm_ (a' := ?_) ?_ ?_
            rotate_left
            · show Act.put _ (some 118) _ = _
              simp only [Act.put, List.setIfInBounds_toArray, List.set_cons_zero, List.set_cons_succ, i64_w, i32_w]
              rfl
            refine one_ (i := 5) (N := (some 121)) #[true, true, true, true, true, true, false] rfl rfl (one_of HT_.out (by kernel_rfl)) (by decide) (fun Kq hKq => ?_)
            refine call_ (f := 23) (args := #[.pointer (some ⟨gr, 0, none⟩), .agg #[.int .i64 pa, .int .i64 pn]]) (by rfl) rfl (by go_simp) ?_
            refine (RefFree w.heap.size gr vr L F pa pn _ HF.out HFB.out.1 (by have := HL.out.1; omega) HZO.out.1.1 HZO.out.1.2 HZO.out.2.1 HZO.out.2.2).mono ?_
            rintro e w7 ⟨rfl, hs, hg⟩
            rw [HRR.out] at hs ⊢
            refine ⟨_, rfl, ?_⟩
            have n0 := Aside0.mk (HS.out.away HF.out (by decide) (fun k hk e => HN.out k e hk) hg); have n1 := Aside0.mk hs; have n2 := Aside0.mk (told_grown HT.out HF.out hg); have n3 := Aside0.mk (HF.out.stay HB.out hg); have mHX := Aside0.mk (HF.out.keep HX.out (by decide) hg); clear HS HF HT HB HX hs hg ; have HS := n0; have HF := n1; have HT := n2; have HB := n3; have HX := mHX; clear n0 n1 n2 n3 mHX
            refine hKq.out _ _ ⟨blk_cell HX.out 0, blk_cell HX.out 1⟩ (fun hHeld => ?_)
            clear hKq Kq
            refine norm_ (a' := ?_) ?_ ?_
            rotate_left
            · show Act.put _ (some 121) _ = _
              simp only [Act.put, List.setIfInBounds_toArray, List.set_cons_zero, List.set_cons_succ, i64_w, i32_w]
              rfl
            refine pure_ (i := 6) (N := (some 122)) (v := ?_) (a' := ?_) #[true, true, true, true, true, true, true] rfl rfl (any_of HT_.out (by kernel_rfl)) (fun _ _ _ h => h) (Or.inl ⟨by rfl, ?_⟩) ?_ ?_
            rotate_left
            · intro w'
              go_simp
              with_reducible rfl
            rotate_left
            · simp only [Act.put, List.setIfInBounds_toArray, List.set_cons_zero, List.set_cons_succ, i64_w, i32_w]
              rfl
            refine done_ (done_of HT_.out (by kernel_rfl)) ?_
            go_wp2_with (first | (go_at_call 27; (refine (Used w.heap.size gs vs L2 F _ HS.out (by have := HL.out.1; have := HL2.out; omega)).mono ?_); rintro e w20 ⟨rfl, hb⟩; have n0 := Aside0.mk (HS.out.below hb); have n1 := Aside0.mk (HF.out.below hb); have n2 := Aside0.mk (Kd.R_below HT.out hb); have n3 := Aside0.mk (below_step HB.out hb); clear HS HF HT HB hb; have HS := n0; have HF := n1; have HT := n2; have HB := n3; clear n0 n1 n2 n3) | (go_at_call 28; (refine (RefUsed w.heap.size gr vr L2 F _ HF.out (by have := HL.out.1; have := HL2.out; omega)).mono ?_); rintro e w21 ⟨rfl, hb⟩; have n0 := Aside0.mk (HS.out.below hb); have n1 := Aside0.mk (HF.out.below hb); have n2 := Aside0.mk (Kd.R_below HT.out hb); have n3 := Aside0.mk (below_step HB.out hb); clear HS HF HT HB hb; have HS := n0; have HF := n1; have HT := n2; have HB := n3; clear n0 n1 n2 n3))
            go_roundg (gk - 1)
            case measure => have := HI.out; omega
            case rel => exact ⟨i + 1, gs, vs, _, _, _, by first | rfl | go_num, rfl, rfl, ⟨by have := HLT.out; omega, by have := HI.out; omega⟩, HS, HF, HN, HT, HTO, ⟨by have := HL.out.1; have := HL2.out; omega, by have := HL.out.2; omega⟩, HB⟩
          · have bl : decide (0 < told.length) = false := decide_eq_false hl
            have bl2 : ¬ (0 : Int) < (told.length : Int) := by omega
            clear hl
            go_upto_region 26 with (fail)
            clear y0 y1
            have x0 := blk_cell HX.out 0
            have x1 := blk_cell HX.out 1
            refine start_ (n := 7) (S := fun w' => w'.cell? ⟨gx, 0, none⟩ = some (.int .i64 oat) ∧ w'.cell? ⟨gx, 1, none⟩ = some (.int .i64 on)) (ds := []) #[false, false, false, false, false, false, false] (by kernel_rfl) rfl rfl ⟨by first | exact x2 | exact x0, by first | exact x3 | exact x1⟩ (fun hHeld => ?_)
            refine with_tabW all26.tab all26.bits (fun HT_ HW_ => ?_)
            have n0 := Aside0.mk (HS.out.below (below_drew (Below.refl _ _)))
            have n1 := Aside0.mk (HF.out.below (below_drew (Below.refl _ _)))
            have n2 := Aside0.mk (Kd.R_drew HT.out)
            have n3 := Aside0.mk (below_drew1 HB.out)
            have mHX := Aside0.mk (blk_drew HX.out)
            clear HS HF HT HB HX
            have HS := n0
            have HF := n1
            have HT := n2
            have HB := n3
            have HX := mHX
            clear n0 n1 n2 n3 mHX
            generalize w8.drew = w5 at HS HF HT HB HX hHeld ⊢
            obtain ⟨⟨rb, L2⟩, hr⟩ : ∃ r, setE F L oat on false = r := ⟨_, rfl⟩
            have hL2 : L2.length = L.length := by have := setE_length F L oat on false; rw [hr] at this; exact this
            have HRR := Aside0.mk hr
            have HL2 := Aside0.mk hL2
            clear hr hL2
            refine pure_ (i := 0) (N := (some 116)) (v := ?_) (a' := ?_) #[true, false, false, false, false, false, false] rfl rfl (any_of HT_.out (by kernel_rfl)) (fun _ _ _ h => h) (Or.inl ⟨by rfl, ?_⟩) ?_ ?_
            rotate_left
            · intro w'
              go_simp
              with_reducible rfl
            rotate_left
            · simp only [Act.put, List.setIfInBounds_toArray, List.set_cons_zero, List.set_cons_succ, i64_w, i32_w]
              rfl
            refine pure_ (i := 3) (N := (some 119)) (v := ?_) (a' := ?_) #[true, false, false, true, false, false, false] rfl rfl (any_of HT_.out (by kernel_rfl)) (fun _ _ _ h => h) (Or.inl ⟨by rfl, ?_⟩) ?_ ?_
            rotate_left
            · intro w'
              go_simp
              with_reducible rfl
            rotate_left
            · simp only [Act.put, List.setIfInBounds_toArray, List.set_cons_zero, List.set_cons_succ, i64_w, i32_w]
              rfl
            refine take_ (i := 1) (N := (some 117)) (v := ?_) (a' := ?_) #[true, true, false, true, false, false, false] rfl rfl (take_ofW HT_.out HW_.out (by kernel_rfl)) (fun _ _ _ h => h) (Or.inl ⟨by rfl, ?_⟩) (by exact hHeld) ?_ ?_
            rotate_left
            · intro w' hw'
              go_simp
              with_reducible rfl
            rotate_left
            · simp only [Act.put, List.setIfInBounds_toArray, List.set_cons_zero, List.set_cons_succ, i64_w, i32_w]
              rfl
            refine take_ (i := 4) (N := (some 120)) (v := ?_) (a' := ?_) #[true, true, false, true, true, false, false] rfl rfl (take_ofW HT_.out HW_.out (by kernel_rfl)) (fun _ _ _ h => h) (Or.inl ⟨by rfl, ?_⟩) (by exact hHeld) ?_ ?_
            rotate_left
            · intro w' hw'
              go_simp
              with_reducible rfl
            rotate_left
            · simp only [Act.put, List.setIfInBounds_toArray, List.set_cons_zero, List.set_cons_succ, i64_w, i32_w]
              rfl
            refine one_ (i := 2) (N := (some 118)) #[true, true, true, true, true, false, false] rfl rfl (one_of HT_.out (by kernel_rfl)) (by decide) (fun Kq hKq => ?_)
            refine call_ (f := 22) (args := #[.pointer (some ⟨gs, 0, none⟩), .agg #[.int .i64 oat, .int .i64 on]]) (by rfl) rfl (by go_simp) ?_
            refine (Free GA w.heap.size gs vs L F oat on _ (Glob.below HG.out HB.out) HS.out HFB.out.1 (by have := HL.out.1; omega) HO.out.2.2.1.1 HO.out.2.2.1.2 HO.out.2.2.2.1 HO.out.2.2.2.2).mono ?_
            rintro e w6 ⟨rfl, hs, hg⟩
            rw [HRR.out] at hs ⊢
            refine ⟨_, rfl, ?_⟩
            have n0 := Aside0.mk hs; have n1 := Aside0.mk (HF.out.away HS.out (by decide) HN.out hg); have n2 := Aside0.mk (told_grown HT.out HS.out hg); have n3 := Aside0.mk (HS.out.stay HB.out hg); have mHX := Aside0.mk (HS.out.keep HX.out (by decide) hg); clear HS HF HT HB HX hs hg ; have HS := n0; have HF := n1; have HT := n2; have HB := n3; have HX := mHX; clear n0 n1 n2 n3 mHX
            refine hKq.out _ _ ⟨blk_cell HX.out 0, blk_cell HX.out 1⟩ (fun hHeld => ?_)
            clear hKq Kq
            refine norm_ (a' := ?_) ?_ ?_
            rotate_left
            · show Act.put _ (some 118) _ = _
              simp only [Act.put, List.setIfInBounds_toArray, List.set_cons_zero, List.set_cons_succ, i64_w, i32_w]
              rfl
            refine one_ (i := 5) (N := (some 121)) #[true, true, true, true, true, true, false] rfl rfl (one_of HT_.out (by kernel_rfl)) (by decide) (fun Kq hKq => ?_)
            refine call_ (f := 23) (args := #[.pointer (some ⟨gr, 0, none⟩), .agg #[.int .i64 oat, .int .i64 on]]) (by rfl) rfl (by go_simp) ?_
            refine (RefFree w.heap.size gr vr L F oat on _ HF.out HFB.out.1 (by have := HL.out.1; omega) HO.out.2.2.1.1 HO.out.2.2.1.2 HO.out.2.2.2.1 HO.out.2.2.2.2).mono ?_
            rintro e w7 ⟨rfl, hs, hg⟩
            rw [HRR.out] at hs ⊢
            refine ⟨_, rfl, ?_⟩
            have n0 := Aside0.mk (HS.out.away HF.out (by decide) (fun k hk e => HN.out k e hk) hg); have n1 := Aside0.mk hs; have n2 := Aside0.mk (told_grown HT.out HF.out hg); have n3 := Aside0.mk (HF.out.stay HB.out hg); have mHX := Aside0.mk (HF.out.keep HX.out (by decide) hg); clear HS HF HT HB HX hs hg ; have HS := n0; have HF := n1; have HT := n2; have HB := n3; have HX := mHX; clear n0 n1 n2 n3 mHX
            refine hKq.out _ _ ⟨blk_cell HX.out 0, blk_cell HX.out 1⟩ (fun hHeld => ?_)
            clear hKq Kq
            refine norm_ (a' := ?_) ?_ ?_
            rotate_left
            · show Act.put _ (some 121) _ = _
              simp only [Act.put, List.setIfInBounds_toArray, List.set_cons_zero, List.set_cons_succ, i64_w, i32_w]
              rfl
            refine pure_ (i := 6) (N := (some 122)) (v := ?_) (a' := ?_) #[true, true, true, true, true, true, true] rfl rfl (any_of HT_.out (by kernel_rfl)) (fun _ _ _ h => h) (Or.inl ⟨by rfl, ?_⟩) ?_ ?_
            rotate_left
            · intro w'
              go_simp
              with_reducible rfl
            rotate_left
            · simp only [Act.put, List.setIfInBounds_toArray, List.set_cons_zero, List.set_cons_succ, i64_w, i32_w]
              rfl
            refine done_ (done_of HT_.out (by kernel_rfl)) ?_
            go_wp2_with (first | (go_at_call 27; (refine (Used w.heap.size gs vs L2 F _ HS.out (by have := HL.out.1; have := HL2.out; omega)).mono ?_); rintro e w20 ⟨rfl, hb⟩; have n0 := Aside0.mk (HS.out.below hb); have n1 := Aside0.mk (HF.out.below hb); have n2 := Aside0.mk (Kd.R_below HT.out hb); have n3 := Aside0.mk (below_step HB.out hb); clear HS HF HT HB hb; have HS := n0; have HF := n1; have HT := n2; have HB := n3; clear n0 n1 n2 n3) | (go_at_call 28; (refine (RefUsed w.heap.size gr vr L2 F _ HF.out (by have := HL.out.1; have := HL2.out; omega)).mono ?_); rintro e w21 ⟨rfl, hb⟩; have n0 := Aside0.mk (HS.out.below hb); have n1 := Aside0.mk (HF.out.below hb); have n2 := Aside0.mk (Kd.R_below HT.out hb); have n3 := Aside0.mk (below_step HB.out hb); clear HS HF HT HB hb; have HS := n0; have HF := n1; have HT := n2; have HB := n3; clear n0 n1 n2 n3))
            go_roundg (gk - 1)
            case measure => have := HI.out; omega
            case rel => exact ⟨i + 1, gs, vs, _, _, _, by first | rfl | go_num, rfl, rfl, ⟨by have := HLT.out; omega, by have := HI.out; omega⟩, HS, HF, HN, HT, HTO, ⟨by have := HL.out.1; have := HL2.out; omega, by have := HL.out.2; omega⟩, HB⟩
        · have b5 : (m == 5) = false := beq_eq_false_iff_ne.mpr hm5
          clear hm5
          go_upto_region 26 with (fail)
          clear y0 y1
          have x0 := blk_cell HX.out 0
          have x1 := blk_cell HX.out 1
          refine start_ (n := 7) (S := fun w' => w'.cell? ⟨gx, 0, none⟩ = some (.int .i64 oat) ∧ w'.cell? ⟨gx, 1, none⟩ = some (.int .i64 on)) (ds := []) #[false, false, false, false, false, false, false] (by kernel_rfl) rfl rfl ⟨by first | exact x2 | exact x0, by first | exact x3 | exact x1⟩ (fun hHeld => ?_)
          refine with_tabW all26.tab all26.bits (fun HT_ HW_ => ?_)
          have n0 := Aside0.mk (HS.out.below (below_drew (Below.refl _ _)))
          have n1 := Aside0.mk (HF.out.below (below_drew (Below.refl _ _)))
          have n2 := Aside0.mk (Kd.R_drew HT.out)
          have n3 := Aside0.mk (below_drew1 HB.out)
          have mHX := Aside0.mk (blk_drew HX.out)
          clear HS HF HT HB HX
          have HS := n0
          have HF := n1
          have HT := n2
          have HB := n3
          have HX := mHX
          clear n0 n1 n2 n3 mHX
          generalize w8.drew = w5 at HS HF HT HB HX hHeld ⊢
          obtain ⟨⟨rb, L2⟩, hr⟩ : ∃ r, setE F L oat on false = r := ⟨_, rfl⟩
          have hL2 : L2.length = L.length := by have := setE_length F L oat on false; rw [hr] at this; exact this
          have HRR := Aside0.mk hr
          have HL2 := Aside0.mk hL2
          clear hr hL2
          refine pure_ (i := 0) (N := (some 116)) (v := ?_) (a' := ?_) #[true, false, false, false, false, false, false] rfl rfl (any_of HT_.out (by kernel_rfl)) (fun _ _ _ h => h) (Or.inl ⟨by rfl, ?_⟩) ?_ ?_
          rotate_left
          · intro w'
            go_simp
            with_reducible rfl
          rotate_left
          · simp only [Act.put, List.setIfInBounds_toArray, List.set_cons_zero, List.set_cons_succ, i64_w, i32_w]
            rfl
          refine pure_ (i := 3) (N := (some 119)) (v := ?_) (a' := ?_) #[true, false, false, true, false, false, false] rfl rfl (any_of HT_.out (by kernel_rfl)) (fun _ _ _ h => h) (Or.inl ⟨by rfl, ?_⟩) ?_ ?_
          rotate_left
          · intro w'
            go_simp
            with_reducible rfl
          rotate_left
          · simp only [Act.put, List.setIfInBounds_toArray, List.set_cons_zero, List.set_cons_succ, i64_w, i32_w]
            rfl
          refine take_ (i := 1) (N := (some 117)) (v := ?_) (a' := ?_) #[true, true, false, true, false, false, false] rfl rfl (take_ofW HT_.out HW_.out (by kernel_rfl)) (fun _ _ _ h => h) (Or.inl ⟨by rfl, ?_⟩) (by exact hHeld) ?_ ?_
          rotate_left
          · intro w' hw'
            go_simp
            with_reducible rfl
          rotate_left
          · simp only [Act.put, List.setIfInBounds_toArray, List.set_cons_zero, List.set_cons_succ, i64_w, i32_w]
            rfl
          refine take_ (i := 4) (N := (some 120)) (v := ?_) (a' := ?_) #[true, true, false, true, true, false, false] rfl rfl (take_ofW HT_.out HW_.out (by kernel_rfl)) (fun _ _ _ h => h) (Or.inl ⟨by rfl, ?_⟩) (by exact hHeld) ?_ ?_
          rotate_left
          · intro w' hw'
            go_simp
            with_reducible rfl
          rotate_left
          · simp only [Act.put, List.setIfInBounds_toArray, List.set_cons_zero, List.set_cons_succ, i64_w, i32_w]
            rfl
          refine one_ (i := 2) (N := (some 118)) #[true, true, true, true, true, false, false] rfl rfl (one_of HT_.out (by kernel_rfl)) (by decide) (fun Kq hKq => ?_)
          refine call_ (f := 22) (args := #[.pointer (some ⟨gs, 0, none⟩), .agg #[.int .i64 oat, .int .i64 on]]) (by rfl) rfl (by go_simp) ?_
          refine (Free GA w.heap.size gs vs L F oat on _ (Glob.below HG.out HB.out) HS.out HFB.out.1 (by have := HL.out.1; omega) HO.out.2.2.1.1 HO.out.2.2.1.2 HO.out.2.2.2.1 HO.out.2.2.2.2).mono ?_
          rintro e w6 ⟨rfl, hs, hg⟩
          rw [HRR.out] at hs ⊢
          refine ⟨_, rfl, ?_⟩
          have n0 := Aside0.mk hs; have n1 := Aside0.mk (HF.out.away HS.out (by decide) HN.out hg); have n2 := Aside0.mk (told_grown HT.out HS.out hg); have n3 := Aside0.mk (HS.out.stay HB.out hg); have mHX := Aside0.mk (HS.out.keep HX.out (by decide) hg); clear HS HF HT HB HX hs hg ; have HS := n0; have HF := n1; have HT := n2; have HB := n3; have HX := mHX; clear n0 n1 n2 n3 mHX
          refine hKq.out _ _ ⟨blk_cell HX.out 0, blk_cell HX.out 1⟩ (fun hHeld => ?_)
          clear hKq Kq
          refine norm_ (a' := ?_) ?_ ?_
          rotate_left
          · show Act.put _ (some 118) _ = _
            simp only [Act.put, List.setIfInBounds_toArray, List.set_cons_zero, List.set_cons_succ, i64_w, i32_w]
            rfl
          refine one_ (i := 5) (N := (some 121)) #[true, true, true, true, true, true, false] rfl rfl (one_of HT_.out (by kernel_rfl)) (by decide) (fun Kq hKq => ?_)
          refine call_ (f := 23) (args := #[.pointer (some ⟨gr, 0, none⟩), .agg #[.int .i64 oat, .int .i64 on]]) (by rfl) rfl (by go_simp) ?_
          refine (RefFree w.heap.size gr vr L F oat on _ HF.out HFB.out.1 (by have := HL.out.1; omega) HO.out.2.2.1.1 HO.out.2.2.1.2 HO.out.2.2.2.1 HO.out.2.2.2.2).mono ?_
          rintro e w7 ⟨rfl, hs, hg⟩
          rw [HRR.out] at hs ⊢
          refine ⟨_, rfl, ?_⟩
          have n0 := Aside0.mk (HS.out.away HF.out (by decide) (fun k hk e => HN.out k e hk) hg); have n1 := Aside0.mk hs; have n2 := Aside0.mk (told_grown HT.out HF.out hg); have n3 := Aside0.mk (HF.out.stay HB.out hg); have mHX := Aside0.mk (HF.out.keep HX.out (by decide) hg); clear HS HF HT HB HX hs hg ; have HS := n0; have HF := n1; have HT := n2; have HB := n3; have HX := mHX; clear n0 n1 n2 n3 mHX
          refine hKq.out _ _ ⟨blk_cell HX.out 0, blk_cell HX.out 1⟩ (fun hHeld => ?_)
          clear hKq Kq
          refine norm_ (a' := ?_) ?_ ?_
          rotate_left
          · show Act.put _ (some 121) _ = _
            simp only [Act.put, List.setIfInBounds_toArray, List.set_cons_zero, List.set_cons_succ, i64_w, i32_w]
            rfl
          refine pure_ (i := 6) (N := (some 122)) (v := ?_) (a' := ?_) #[true, true, true, true, true, true, true] rfl rfl (any_of HT_.out (by kernel_rfl)) (fun _ _ _ h => h) (Or.inl ⟨by rfl, ?_⟩) ?_ ?_
          rotate_left
          · intro w'
            go_simp
            with_reducible rfl
          rotate_left
          · simp only [Act.put, List.setIfInBounds_toArray, List.set_cons_zero, List.set_cons_succ, i64_w, i32_w]
            rfl
          refine done_ (done_of HT_.out (by kernel_rfl)) ?_
          go_wp2_with (first | (go_at_call 27; (refine (Used w.heap.size gs vs L2 F _ HS.out (by have := HL.out.1; have := HL2.out; omega)).mono ?_); rintro e w20 ⟨rfl, hb⟩; have n0 := Aside0.mk (HS.out.below hb); have n1 := Aside0.mk (HF.out.below hb); have n2 := Aside0.mk (Kd.R_below HT.out hb); have n3 := Aside0.mk (below_step HB.out hb); clear HS HF HT HB hb; have HS := n0; have HF := n1; have HT := n2; have HB := n3; clear n0 n1 n2 n3) | (go_at_call 28; (refine (RefUsed w.heap.size gr vr L2 F _ HF.out (by have := HL.out.1; have := HL2.out; omega)).mono ?_); rintro e w21 ⟨rfl, hb⟩; have n0 := Aside0.mk (HS.out.below hb); have n1 := Aside0.mk (HF.out.below hb); have n2 := Aside0.mk (Kd.R_below HT.out hb); have n3 := Aside0.mk (below_step HB.out hb); clear HS HF HT HB hb; have HS := n0; have HF := n1; have HT := n2; have HB := n3; clear n0 n1 n2 n3))
          go_roundg (gk - 1)
          case measure => have := HI.out; omega
          case rel => exact ⟨i + 1, gs, vs, _, _, _, by first | rfl | go_num, rfl, rfl, ⟨by have := HLT.out; omega, by have := HI.out; omega⟩, HS, HF, HN, HT, HTO, ⟨by have := HL.out.1; have := HL2.out; omega, by have := HL.out.2; omega⟩, HB⟩
      have b5 : (q == 5) = false := beq_eq_false_iff_ne.mpr h5
      by_cases h6 : q = 6
      · subst h6
        clear h3 b3 h4 b4 h5 b5
        go_upto_region 32 with (first | (go_at_call 24; (refine (Copy w.heap.size gs vs L F _ HS.out (by have := HL.out.1; omega)).mono ?_); rintro e w8 ⟨gs2, vs2, rfl, hs, hb⟩; have HN2 := Aside0.mk (show ∀ k, vs2.ownBlock = some k → vr.ownBlock ≠ some k from fun k hk e => by have h1 := hs.own_ge k hk; have h2 := HF.out.own_lt k e; omega); have HN3 := Aside0.mk (show ∀ k, vs.ownBlock = some k → vs2.ownBlock ≠ some k from fun k hk e => by have h1 := hs.own_ge k e; have h2 := HS.out.own_lt k hk; omega); have HC := Aside0.mk (Sp.lower hs HB.out.size); have n0 := Aside0.mk (HS.out.below hb); have n1 := Aside0.mk (HF.out.below hb); have n2 := Aside0.mk (Kd.R_below HT.out hb); have n3 := Aside0.mk (below_step HB.out hb); clear HS HF HT HB hs hb x0 x1 x2 x3; have HS := n0; have HF := n1; have HT := n2; have HB := n3; clear n0 n1 n2 n3) | (go_at_call 25; (refine (Take GA w gs vs L F 1 _ HG.out HB.out HS.out HFB.out.1 (by have := HFB.out; omega) (by have := HL.out.1; omega) (by decide) (by decide)).mono ?_); rintro e w9 ⟨rfl, hs, hg⟩; have n0 := Aside0.mk (HC.out.away HS.out (by decide) HN3.out hg); have n1 := Aside0.mk (HF.out.away HS.out (by decide) HN.out hg); have n2 := Aside0.mk (told_grown HT.out HS.out hg); have n3 := Aside0.mk (HS.out.stay HB.out hg); clear HS HF HT HB HC HN HN3 hs hg; have HS := n0; have HF := n1; have HT := n2; have HB := n3; have HN := HN2; clear n0 n1 n2 n3 HN2))
        go_wp2_with (first | (go_at_call 27; (refine (Used w.heap.size gs2 vs2 L F _ HS.out (by have := HL.out.1; omega)).mono ?_); rintro e w20 ⟨rfl, hb⟩; have n0 := Aside0.mk (HS.out.below hb); have n1 := Aside0.mk (HF.out.below hb); have n2 := Aside0.mk (Kd.R_below HT.out hb); have n3 := Aside0.mk (below_step HB.out hb); clear HS HF HT HB hb; have HS := n0; have HF := n1; have HT := n2; have HB := n3; clear n0 n1 n2 n3) | (go_at_call 28; (refine (RefUsed w.heap.size gr vr L F _ HF.out (by have := HL.out.1; omega)).mono ?_); rintro e w21 ⟨rfl, hb⟩; have n0 := Aside0.mk (HS.out.below hb); have n1 := Aside0.mk (HF.out.below hb); have n2 := Aside0.mk (Kd.R_below HT.out hb); have n3 := Aside0.mk (below_step HB.out hb); clear HS HF HT HB hb; have HS := n0; have HF := n1; have HT := n2; have HB := n3; clear n0 n1 n2 n3))
        go_roundg (gk - 1)
        case measure => have := HI.out; omega
        case rel => exact ⟨i + 1, gs2, vs2, _, _, _, by first | rfl | go_num, rfl, rfl, ⟨by have := HLT.out; omega, by have := HI.out; omega⟩, HS, HF, HN, HT, HTO, ⟨by have := HL.out.1; omega, by have := HL.out.2; omega⟩, HB⟩
      have b6 : (q == 6) = false := beq_eq_false_iff_ne.mpr h6
      clear h3 h4 h5 h6
      obtain ⟨⟨pa, pn, pb, L2⟩, hp⟩ : ∃ r, takeE F L o1 = r := ⟨_, rfl⟩
      have hL2 := take_len F o1 L
      have hpo := take_ok (F := F) (k := o1) (L := L) HFB.out.1 (by have := HFB.out; omega) (by have := HL.out.1; omega) ⟨HO.out.2.1.1, HO.out.2.1.2⟩
      rw [hp] at hL2 hpo
      dsimp only at hL2 hpo
      have HL2 := Aside0.mk hL2
      have HPO := Aside0.mk hpo
      have HPP := Aside0.mk hp
      clear hp hL2 hpo
      go_upto_region 13 with (go_at_call 25; (refine (Take GA w gs vs L F o1 _ HG.out HB.out HS.out HFB.out.1 (by have := HFB.out; omega) (by have := HL.out.1; omega) HO.out.2.1.1 HO.out.2.1.2).mono ?_); rintro e w8 ⟨rfl, hs, hg⟩; rw [HPP.out] at hs ⊢; have n0 := Aside0.mk hs; have n1 := Aside0.mk (HF.out.away HS.out (by decide) HN.out hg); have n2 := Aside0.mk (told_grown HT.out HS.out hg); have n3 := Aside0.mk (HS.out.stay HB.out hg); have mHE := Aside0.mk (HS.out.keep HE.out (by decide) hg); clear HS HF HT HB HE hs hg x0 x1 x2 x3; have HS := n0; have HF := n1; have HT := n2; have HB := n3; have HE := mHE; clear n0 n1 n2 n3 mHE)
      have HX := Aside0.mk (heap_alloc_new w8 (.cells #[.int .i64 pa, .int .i64 pn] 39))
      have n0 := Aside0.mk (HS.out.below (below_alloc (Below.refl _ _) (.cells #[.int .i64 pa, .int .i64 pn] 39)))
      have n1 := Aside0.mk (HF.out.below (below_alloc (Below.refl _ _) (.cells #[.int .i64 pa, .int .i64 pn] 39)))
      have n2 := Aside0.mk (Kd.R_alloc HT.out (.cells #[.int .i64 pa, .int .i64 pn] 39))
      have n3 := Aside0.mk (below_alloc HB.out (.cells #[.int .i64 pa, .int .i64 pn] 39))
      have mHE := Aside0.mk ((Below.heap_alloc w8 (.cells #[.int .i64 pa, .int .i64 pn] 39) _ (blk_lt HE.out)).trans HE.out)
      clear HS HF HT HB HE
      have HS := n0
      have HF := n1
      have HT := n2
      have HB := n3
      have HE := mHE
      clear n0 n1 n2 n3 mHE
      generalize w8.alloc (.cells #[.int .i64 pa, .int .i64 pn] 39) = w9 at HS HF HT HB HX HE ⊢
      generalize w8.heap.size = gx at HX ⊢
      have x1 := blk_cell HE.out 1
      go_upto_region 14 with (go_at_call 26; (refine (RefTake w.heap.size gr vr L F o1 _ HF.out HFB.out.1 (by have := HFB.out; omega) (by have := HL.out.1; omega) HO.out.2.1.1 HO.out.2.1.2).mono ?_); rintro e w10 ⟨rfl, hs, hg⟩; rw [HPP.out] at hs ⊢; have n0 := Aside0.mk (HS.out.away HF.out (by decide) (fun k hk e => HN.out k e hk) hg); have n1 := Aside0.mk hs; have n2 := Aside0.mk (told_grown HT.out HF.out hg); have n3 := Aside0.mk (HF.out.stay HB.out hg); have mHX := Aside0.mk (HF.out.keep HX.out (by decide) hg); clear HS HF HT HB HX hs hg x1 HE; have HS := n0; have HF := n1; have HT := n2; have HB := n3; have HX := mHX; clear n0 n1 n2 n3 mHX)
      have HY := Aside0.mk (heap_alloc_new w10 (.cells #[.int .i64 pa, .int .i64 pn] 39))
      have n0 := Aside0.mk (HS.out.below (below_alloc (Below.refl _ _) (.cells #[.int .i64 pa, .int .i64 pn] 39)))
      have n1 := Aside0.mk (HF.out.below (below_alloc (Below.refl _ _) (.cells #[.int .i64 pa, .int .i64 pn] 39)))
      have n2 := Aside0.mk (Kd.R_alloc HT.out (.cells #[.int .i64 pa, .int .i64 pn] 39))
      have n3 := Aside0.mk (below_alloc HB.out (.cells #[.int .i64 pa, .int .i64 pn] 39))
      have mHX := Aside0.mk ((Below.heap_alloc w10 (.cells #[.int .i64 pa, .int .i64 pn] 39) _ (blk_lt HX.out)).trans HX.out)
      clear HS HF HT HB HX
      have HS := n0
      have HF := n1
      have HT := n2
      have HB := n3
      have HX := mHX
      clear n0 n1 n2 n3 mHX
      generalize w10.alloc (.cells #[.int .i64 pa, .int .i64 pn] 39) = w11 at HS HF HT HB HX HY ⊢
      generalize w10.heap.size = gy at HY ⊢
      have x0 := blk_cell HX.out 0
      have x1 := blk_cell HX.out 1
      have y0 := blk_cell HY.out 0
      have y1 := blk_cell HY.out 1
      cases pb with
      | false =>
        go_wp2_with (first | (go_at_call 27; (refine (Used w.heap.size gs vs L2 F _ HS.out (by have := HL.out.1; have := HL2.out; omega)).mono ?_); rintro e w20 ⟨rfl, hb⟩; have n0 := Aside0.mk (HS.out.below hb); have n1 := Aside0.mk (HF.out.below hb); have n2 := Aside0.mk (Kd.R_below HT.out hb); have n3 := Aside0.mk (below_step HB.out hb); clear HS HF HT HB hb; have HS := n0; have HF := n1; have HT := n2; have HB := n3; clear n0 n1 n2 n3) | (go_at_call 28; (refine (RefUsed w.heap.size gr vr L2 F _ HF.out (by have := HL.out.1; have := HL2.out; omega)).mono ?_); rintro e w21 ⟨rfl, hb⟩; have n0 := Aside0.mk (HS.out.below hb); have n1 := Aside0.mk (HF.out.below hb); have n2 := Aside0.mk (Kd.R_below HT.out hb); have n3 := Aside0.mk (below_step HB.out hb); clear HS HF HT HB hb; have HS := n0; have HF := n1; have HT := n2; have HB := n3; clear n0 n1 n2 n3))
        go_roundg (gk - 1)
        case measure => have := HI.out; omega
        case rel => exact ⟨i + 1, gs, vs, _, _, _, by first | rfl | go_num, rfl, rfl, ⟨by have := HLT.out; omega, by have := HI.out; omega⟩, HS, HF, HN, HT, HTO, ⟨by have := HL.out.1; have := HL2.out; omega, by have := HL.out.2; omega⟩, HB⟩
      | true =>
        go_upto_region 32 with ((with_reducible refine gate_builtin (b := .append) (xs := #[.tmp 78, .tmp 80]) rfl ?_); at_builtin; refine Kd.R_append k39 (w0 := w) w.heap.size rfl (.tmp 78) (.tmp 80) 37 39 (.agg #[.int .i64 0, .int .i64 0]) 16 rfl Tryd.underlying37 info39 rfl (by decide) (by omega) (.slice At told.length ct) told (⟨pa, pn⟩ : S39) [.int .i64 pa, .int .i64 pn] (fun _ => True) (fun _ => False) rfl (by first | (go_simp; done) | (go_simp; rfl)) ?aP (fun _ hk => hk.elim) ?aF ?aO ?aB ?aS ?aL ?_; (case aP => exact k39_mkM _ _ _ (⟨pa, pn⟩ : S39)); (case aB => exact HB.out); (case aF => exact fun _ _ => trivial); (case aO => exact HT.out); (case aS => exact HB.out.size); (case aL => have := HL.out.2; have := HLT.out; have := HL0.out; omega); intro v1 w12 ho hb hg hat; have n0 := Aside0.mk (HS.out.told HT.out (by decide) hg); have n1 := Aside0.mk (HF.out.told HT.out (by decide) hg); have n2 := Aside0.mk ho; have n3 := Aside0.mk hb; clear HS HF HT HB ho hb hg hat x0 x1 y0 y1; have HS := n0; have HF := n1; have HT := n2; have HB := n3; clear n0 n1 n2 n3)
        go_wp2_with (first | (go_at_call 27; (refine (Used w.heap.size gs vs L2 F _ HS.out (by have := HL.out.1; have := HL2.out; omega)).mono ?_); rintro e w20 ⟨rfl, hb⟩; have n0 := Aside0.mk (HS.out.below hb); have n1 := Aside0.mk (HF.out.below hb); have n2 := Aside0.mk (Kd.R_below HT.out hb); have n3 := Aside0.mk (below_step HB.out hb); clear HS HF HT HB hb; have HS := n0; have HF := n1; have HT := n2; have HB := n3; clear n0 n1 n2 n3) | (go_at_call 28; (refine (RefUsed w.heap.size gr vr L2 F _ HF.out (by have := HL.out.1; have := HL2.out; omega)).mono ?_); rintro e w21 ⟨rfl, hb⟩; have n0 := Aside0.mk (HS.out.below hb); have n1 := Aside0.mk (HF.out.below hb); have n2 := Aside0.mk (Kd.R_below HT.out hb); have n3 := Aside0.mk (below_step HB.out hb); clear HS HF HT HB hb; have HS := n0; have HF := n1; have HT := n2; have HB := n3; clear n0 n1 n2 n3))
        go_roundg (gk - 1)
        case measure => have := HI.out; omega
        case rel => exact ⟨i + 1, gs, vs, _, _, _, by first | rfl | go_num, rfl, rfl, ⟨by have := HLT.out; omega, by have := HI.out; omega⟩, HS, HF, HN, HT, ⟨fun x hx => (List.mem_append.1 hx).elim (HTO.out x) (fun h => by rw [List.mem_singleton] at h; rw [h]; exact HPO.out)⟩, ⟨by have := HL.out.1; have := HL2.out; omega, by have := HL.out.2; rw [List.length_append, List.length_singleton]; omega⟩, HB⟩
    · have e1 : decide ((i : Int) < (l0.length : Int)) = false := decide_eq_false (by omega)
      have e2 : decide (i < l0.length) = false := decide_eq_false hlt
      have e3 : ¬ (i : Int) < (l0.length : Int) := by omega
      clear hlt
      go_wp2_with (first | (go_at_call 25; (refine (Take_nil GA 1 _).mono ?_); rintro e w5 ⟨rfl, hb⟩; have HB5 := Aside0.mk (below_alloc (below_step HB.out hb) (.cells #[.int .i64 0, .int .i64 0] 39)); clear hb) | (go_at_call 20; (refine (Mark_nil GA 1 1 _ (Glob.below HG.out HB5.out)).mono ?_); rintro e w6 ⟨rfl, hb⟩; have HB6 := Aside0.mk (below_step HB5.out hb); clear hb) | (go_at_call 22; (refine (Free_nil GA 1 1 _ (Glob.below HG.out HB6.out)).mono ?_); rintro e w7 ⟨rfl, hb⟩; have HB7 := Aside0.mk (below_step HB6.out hb); clear hb) | (go_at_call 27; (refine (Used_nil GA _).mono ?_); rintro e w8 ⟨rfl, hb⟩; have HB8 := Aside0.mk (below_step HB7.out hb); clear hb) | (go_at_call 24; (refine (Copy_nil GA _).mono ?_); rintro e w9 ⟨rfl, hb⟩; have HB9 := Aside0.mk (below_step HB8.out hb); clear hb))
      go_ret
      exact ⟨rfl, HB9.out⟩
end Go.Proofs.YtaoegbebeogkbaaDoor.PSpace
