/- dev: what New and Copy do. Conditions: none. -/
import Derived.Test.YtokmildjniploaaDoorDevX
namespace Go.Proofs.YtokmildjniploaaDoor.PLog
open Go.RowKit Go.Proofs.YtokmildjniploaaDoorW.PrintWords Go.Proofs.YtokmildjniploaaDoorW.PrintLast Go.Proofs.YtokmildjniploaaDoorW.PrintMore
set_option linter.unusedVariables false
set_option linter.unusedSimpArgs false
def z128 : List Int := List.replicate 128 0
theorem made_bytes (n : Nat) : madeCells #[Value.int .u8 0] n = (nums .u8 (List.replicate n 0)).toArray := by
  apply Array.ext'
  apply List.ext_getElem
  · simp [nums, madeCells]
  · intro i h1 h2
    simp [nums, madeCells, Nat.mod_one]
theorem mk128 : ∀ W : World, (Instr.makeSlice 35 (.int .i64 128) (.int .i64 128)).run Tryd.prog W = .ok (.slice (some ⟨W.heap.size, 0, none⟩) 128 128) (W.alloc (.cells (nums .u8 z128).toArray 5)) := fun W => by
  obtain ⟨i0, hi0, hz⟩ := Option.map_eq_some_iff.1 bytes_Clone.info
  simp only [Prod.mk.injEq] at hz
  have := run_make (P := Tryd.prog) W 35 5 i0 _ Tryd.underlying35 hi0 hz.1 .i64 .i64 ((128 : Nat) : Int) ((128 : Nat) : Int) (by omega) (by omega) (by rw [hz.2.2]; omega) (by omega)
  rw [hz.2.1, Int.toNat_natCast, Nat.mul_one] at this
  exact this.trans (congrArg (fun cs => Result.ok (Value.slice (some ⟨W.heap.size, 0, none⟩) 128 128) (W.alloc (.cells cs 5))) (made_bytes 128))
theorem blk_zero (W : World) : Blk (W.alloc (.cells (nums .u8 z128).toArray 5)) (W.heap.size, 128) z128 := by
  have h := own_lit W 0 5 .u8 z128 (Nat.zero_le _) (by unfold z128; rw [List.length_replicate]; omega)
  exact Kd.R_of_own (enc := Value.int .u8) (h1 := fun _ => rfl) (e := 5) (xs := z128) (ok := fun _ => True) h (fun _ _ => trivial)
/-- The row of what is seen has grown. -/
theorem DevRaw.set_row {W W1 : World} {ok : Nat → Prop} {g : Nat} {D : Dat} {vs vl vs' : Value} {hs hu hs' : List Bk} {hl : List (Int × Bk)} {ls : List (List Int)} (h : DevRaw W ok g D vs (.slice none 0 0) vl hs hu hl) (hu0 : hu = []) (hg : W.grownBy W1 vs.ownBlock) (hr : Kd.R kB 35 W1 0 ok vs' hs') (he : Each (Blk W1) hs' ls) :
    DevRaw (W1.setCell ⟨g, 0, none⟩ vs') ok g { D with seen := ls } vs' (.slice none 0 0) vl hs' hu hl ∧ Fr ok devT W (W1.setCell ⟨g, 0, none⟩ vs') := by
  have hf0 : Fr ok [35] W W1 := Fr.grown hg (fun k hk => ⟨h.rs.1 k hk, fun _ => by
    obtain ⟨cs, hc⟩ := Kd.R_typed h.rs k hk
    exact ⟨cs, _, _, hc, by simp⟩⟩)
  have hb1 : W1.heap[g]? = some (.cells #[vs, .slice none 0 0, vl, .int .i64 D.writes, .int .i64 D.left] 54 (0, 0)) := blk_grown h.blk hg (Kd.R_ne h.rs h.blk (by decide))
  have hf1 : Fr ok devT W1 (W1.setCell ⟨g, 0, none⟩ vs') := fr_set hb1 h.here 0 vs'
  have hbl : ∀ b l, Blk W b l → Blk (W1.setCell ⟨g, 0, none⟩ vs') b l := fun b l hb => (hb.fr hf0 (by decide)).fr hf1 (by decide)
  have hty : ∀ k, vs.ownBlock = some k → ∃ cells, W.heap[k]? = some (.cells cells 35 (0, 0)) := Kd.R_typed h.rs
  refine ⟨⟨h.here, by simpa using blk_set hb1 0 vs', RB_set hr hb1 _ _, ?_, RW_set (Kd.R_over' h.rl hty (by rw [kW_E]; simp) hg) hb1 _ _, fun k hk => by simp [Value.ownBlock], he.imp (fun b l hb => hb.fr hf1 (by decide)), h.eu.imp hbl, h.el.imp (fun x y hp => ⟨hp.1, hbl _ _ hp.2⟩)⟩, (hf0.mono (fun _ h => h) (by decide)).trans hf1⟩
  rw [hu0]
  exact Kd.R_nil _ _ _ _ _
theorem new_no (n : Int) (w : World) (h : ¬ (1 ≤ n ∧ n ≤ 4000)) :
    Calls Tryd.prog 8 #[.int .i64 n] w fun e w' => e = .returned (.tuple #[.pointer none, .bool false]) ∧ w = w' := by
  have HX := Aside0.mk h
  clear h
  by_cases h1 : n < 1
  · have d1 : decide (n < 1) = true := decide_eq_true h1
    go_enter Tryd.func8, Tryd.ntmps8
    go_wp2
    go_ret2
    exact ⟨rfl, rfl⟩
  · have d1 : decide (n < 1) = false := decide_eq_false h1
    have h2 : 4000 < n := by have := HX.out; omega
    have d2 : decide (4000 < n) = true := decide_eq_true h2
    go_enter Tryd.func8, Tryd.ntmps8
    go_wp2
    go_ret2
    exact ⟨rfl, rfl⟩
def newD (n : Nat) : Dat := { seen := List.replicate n z128, sure := List.replicate n z128, later := [], writes := 0, left := -1 }
def new6.T : Bool × List (List Nat × List Nat) := (true, [([], []), ([], []), ([1], [1]), ([2], [2]), ([3], [3]), ([], []), ([5], [5]), ([4, 6], [4, 6]), ([0, 0, 1, 2, 3, 4, 5, 6, 7], [0]), ([8, 0, 1, 2, 3, 4, 5, 6, 7], [8]), ([9, 7, 7, 0, 1, 2, 3, 4, 5, 6, 7], [7, 9])])
def new6.B : List Nat := [0, 0, 2, 6, 14, 0, 32, 126, 255, 511, 1023]
theorem new6.tab : rtab .any (opsOf Tryd.f8 6) = new6.T := by kernel_rfl
theorem new6.bits : waitsOk new6.T.2 new6.B = true := by kernel_rfl
set_option maxHeartbeats 16000000 in
set_option maxRecDepth 100000 in
theorem New (n : Nat) (w : World) (hn1 : 1 ≤ n) (hn2 : n ≤ 4000) :
    Calls Tryd.prog 8 #[.int .i64 (n : Int)] w fun e w' => ∃ g, e = .returned (.tuple #[.pointer (some ⟨g, 0, none⟩), .bool true]) ∧ DevAt w' (fun k => w.heap.size ≤ k) g (newD n) ∧ Below w.heap.size w w' := by
  have d1 : decide ((n : Int) < 1) = false := decide_eq_false (by omega)
  have d1n : decide (n < 1) = false := decide_eq_false (by omega)
  have d2 : decide ((4000 : Int) < (n : Int)) = false := decide_eq_false (by omega)
  have d2n : decide (4000 < n) = false := decide_eq_false (by omega)
  have hmk := mk128
  go_enter Tryd.func8, Tryd.ntmps8
  go_wp2
  go_loopg [14] (n + 1) (fun kq v14 w2 => ∃ (i : Nat) (vs : Value) (hs : List Bk), v14 = .int .i64 (i : Int) ∧ Aside0 (i ≤ n ∧ n < kq + i) ∧ Aside0 (DevRaw w2 (fun k => w.heap.size ≤ k) w.heap.size { seen := List.replicate i z128, sure := [], later := [], writes := 0, left := -1 } vs (.slice none 0 0) (.slice none 0 0) hs [] []) ∧ Aside0 (Below w.heap.size w w2))
  case atStart => exact ⟨0, _, [], rfl, ⟨by omega, by omega⟩, ⟨⟨Nat.le_refl _, heap_alloc_new _ _, Kd.R_nil _ _ _ _ _, Kd.R_nil _ _ _ _ _, Kd.R_nil _ _ _ _ _, fun k hk => by simp [Value.ownBlock] at hk, Each.nil, Each.nil, Each.nil⟩⟩, ⟨below_alloc (Below.refl _ _) _⟩⟩
  case round =>
    obtain ⟨i, vs, hs, rfl, HI, HRW, HB⟩ := hrel
    by_cases hlt : i < n
    · have e1 : decide ((i : Int) < (n : Int)) = true := decide_eq_true (by omega)
      have e2 : decide (i < n) = true := decide_eq_true hlt
      have e3 : (i : Int) < (n : Int) := by omega
      have hw1 : IntKind.i64.wrap ((i : Int) + 1) = ((i + 1 : Nat) : Int) := by rw [IntKind.wrap_i64]; omega
      have HLT := Aside0.mk hlt
      clear hlt
      go_upto_region 6 with (fail)
      refine start_ (n := 11) (S := fun w' => w'.cell? ⟨w.heap.size, 0, none⟩ = some vs) (ds := [10]) #[false, false, false, false, false, false, false, false, false, false, false] (by kernel_rfl) rfl rfl (blk_cell HRW.out.blk 0) (fun hHeld => ?_)
      refine with_tabW new6.tab new6.bits (fun HT_ HW_ => ?_)
      have n0 := Aside0.mk (HRW.out.below (below_drew (Below.refl _ _)))
      have n1 := Aside0.mk (below_drew1 HB.out)
      clear HRW HB
      have HRW := n0
      have HB := n1
      clear n0 n1
      generalize wr.drew = w3 at HRW HB hHeld ⊢
      refine pure_ (i := 0) (N := (some 16)) (v := ?_) (a' := ?_) #[true, false, false, false, false, false, false, false, false, false, false] rfl rfl (any_of HT_.out (by kernel_rfl)) (fun _ _ _ h => h) (Or.inl ⟨by rfl, ?_⟩) ?_ ?_
      rotate_left
      · intro w'
        go_simp
        with_reducible rfl
      rotate_left
      · simp only [Act.put, List.setIfInBounds_toArray, List.set_cons_zero, List.set_cons_succ, i64_w, i32_w]
        rfl
      refine pure_ (i := 1) (N := (some 17)) (v := ?_) (a' := ?_) #[true, true, false, false, false, false, false, false, false, false, false] rfl rfl (any_of HT_.out (by kernel_rfl)) (fun _ _ _ h => h) (Or.inl ⟨by rfl, ?_⟩) ?_ ?_
      rotate_left
      · intro w'
        go_simp
        with_reducible rfl
      rotate_left
      · simp only [Act.put, List.setIfInBounds_toArray, List.set_cons_zero, List.set_cons_succ, i64_w, i32_w]
        rfl
      refine pure_ (i := 2) (N := (some 18)) (v := ?_) (a' := ?_) #[true, true, true, false, false, false, false, false, false, false, false] rfl rfl (any_of HT_.out (by kernel_rfl)) (fun _ _ _ h => h) (Or.inl ⟨by rfl, ?_⟩) ?_ ?_
      rotate_left
      · intro w'
        go_simp
        with_reducible rfl
      rotate_left
      · simp only [Act.put, List.setIfInBounds_toArray, List.set_cons_zero, List.set_cons_succ, i64_w, i32_w]
        rfl
      refine pure_ (i := 3) (N := (some 19)) (v := ?_) (a' := ?_) #[true, true, true, true, false, false, false, false, false, false, false] rfl rfl (any_of HT_.out (by kernel_rfl)) (fun _ _ _ h => h) (Or.inl ⟨by rfl, ?_⟩) ?_ ?_
      rotate_left
      · intro w'
        go_simp
        with_reducible rfl
      rotate_left
      · simp only [Act.put, List.setIfInBounds_toArray, List.set_cons_zero, List.set_cons_succ, i64_w, i32_w]
        rfl
      refine take_ (i := 4) (N := (some 20)) (v := ?_) (a' := ?_) #[true, true, true, true, true, false, false, false, false, false, false] rfl rfl (take_ofW HT_.out HW_.out (by kernel_rfl)) (fun _ _ _ h => h) (Or.inl ⟨by rfl, ?_⟩) (by exact hHeld) ?_ ?_
      rotate_left
      · intro w' hw'
        go_simp
        with_reducible rfl
      rotate_left
      · simp only [Act.put, List.setIfInBounds_toArray, List.set_cons_zero, List.set_cons_succ, i64_w, i32_w]
        rfl
      refine one_ (i := 5) (N := (some 21)) #[true, true, true, true, true, true, false, false, false, false, false] rfl rfl (one_of HT_.out (by kernel_rfl)) (by decide) (fun Kq hKq => ?_)
      refine event_step (v := .slice (some ⟨w3.heap.size, 0, none⟩) 128 128) (w1 := w3.alloc (.cells (nums .u8 z128).toArray 5)) (by rfl) (by first | (go_simp; done) | (go_simp; rfl)) ?_
      have hal := below_alloc (Below.refl w3.heap.size w3) (.cells (nums .u8 z128).toArray 5)
      have HZ := Aside0.mk (blk_zero w3)
      have n0 := Aside0.mk (HRW.out.below hal)
      have n1 := Aside0.mk (below_step HB.out hal)
      have HAL := Aside0.mk hal
      clear HRW HB hal
      have HRW := n0
      have HB := n1
      clear n0 n1
      generalize w3.alloc (.cells (nums .u8 z128).toArray 5) = w4 at HRW HB HZ HAL ⊢
      generalize w3.heap.size = zb at HZ HAL ⊢
      refine hKq.out _ _ (blk_cell HRW.out.blk 0) (fun hHeld => ?_)
      clear hKq Kq
      refine norm_ (a' := ?_) ?_ ?_
      rotate_left
      · show Act.put _ (some 21) _ = _
        simp only [Act.put, List.setIfInBounds_toArray, List.set_cons_zero, List.set_cons_succ, i64_w, i32_w]
        rfl
      refine one_ (i := 6) (N := (some 22)) #[true, true, true, true, true, true, true, false, false, false, false] rfl rfl (one_of HT_.out (by kernel_rfl)) (by decide) (fun Kq hKq => ?_)
      refine event_step (v := .slice (some ⟨w4.heap.size, 0, none⟩) 1 1) (w1 := w4.alloc (.cells #[.slice (some ⟨zb, 0, none⟩) 128 128] 35)) (by rfl) (by first | (go_simp; done) | (go_simp; rfl)) ?_
      have hal2 := below_alloc (Below.refl w4.heap.size w4) (.cells #[.slice (some ⟨zb, 0, none⟩) 128 128] 35)
      have HAL2 := Aside0.mk hal2
      clear hal2
      refine hKq.out _ _ ((HAL2.out.cell (World.block_lt_of_cell? _ _ hHeld)).trans hHeld) (fun hHeld => ?_)
      clear hKq Kq
      refine norm_ (a' := ?_) ?_ ?_
      rotate_left
      · show Act.put _ (some 22) _ = _
        simp only [Act.put, List.setIfInBounds_toArray, List.set_cons_zero, List.set_cons_succ, i64_w, i32_w]
        rfl
      refine one_ (i := 7) (N := (some 23)) #[true, true, true, true, true, true, true, true, false, false, false] rfl rfl (one_of HT_.out (by kernel_rfl)) (by decide) (fun Kq hKq => ?_)
      refine Kd.R_append_step kB (w0 := w4) 0 (by rfl) (.tmp 20) (.tmp 22) 31 35 (.slice none 0 0) 24 rfl Tryd.underlying31 infoB rfl (by decide) (by omega) vs hs ((zb, 128) : Bk) [.slice (some ⟨zb, 0, none⟩) 128 128] (fun k => w.heap.size ≤ k) (fun _ => False) rfl rfl ?aP (fun _ hk => hk.elim) ?aF ?aO ?aB ?aS ?aL ?_
      (case aP => exact rfl)
      (case aF => exact fun k hk => Nat.le_trans HB.out.size hk)
      (case aO => exact HRW.out.rs)
      (case aB => exact Below.refl _ _)
      (case aS => exact Nat.zero_le _)
      (case aL => have h1 := HRW.out.es.1; rw [List.length_replicate] at h1; have := HLT.out; omega)
      intro v1 w5 ho hb hg hat
      obtain ⟨A1, c1, rfl⟩ := Kd.R_slice ho
      have hgc := Kd.R_ne HRW.out.rs HRW.out.blk (by decide)
      have hg2 := blk_grown HRW.out.blk hg hgc
      have HO := Aside0.mk ho
      have HG := Aside0.mk hg
      have HG2 := Aside0.mk hg2
      clear ho hb hg hat hgc hg2
      refine hKq.out _ _ (blk_cell HG2.out 0) (fun hHeld => ?_)
      clear hKq Kq
      refine norm_ (a' := ?_) ?_ ?_
      rotate_left
      · show Act.put _ (some 23) _ = _
        simp only [Act.put, List.setIfInBounds_toArray, List.set_cons_zero, List.set_cons_succ, i64_w, i32_w]
        rfl
      have y0 := blk_cell HG2.out 0
      have z0 := blk_frozen HG2.out 0
      refine pure_ (i := 8) (N := (some 24)) (v := ?_) (a' := ?_) #[true, true, true, true, true, true, true, true, true, false, false] rfl rfl (any_of HT_.out (by kernel_rfl)) (fun _ _ _ h => h) (Or.inl ⟨by rfl, ?_⟩) ?_ ?_
      rotate_left
      · intro w'
        go_simp
        with_reducible rfl
      rotate_left
      · simp only [Act.put, List.setIfInBounds_toArray, List.set_cons_zero, List.set_cons_succ, i64_w, i32_w]
        rfl
      refine pure_ (i := 9) (N := (some 25)) (v := ?_) (a' := ?_) #[true, true, true, true, true, true, true, true, true, true, false] rfl rfl (any_of HT_.out (by kernel_rfl)) (fun _ _ _ h => h) (Or.inl ⟨by rfl, ?_⟩) ?_ ?_
      rotate_left
      · intro w'
        go_simp
        with_reducible rfl
      rotate_left
      · simp only [Act.put, List.setIfInBounds_toArray, List.set_cons_zero, List.set_cons_succ, i64_w, i32_w]
        rfl
      refine last_ (i := 10) (N := none) #[true, true, true, true, true, true, true, true, true, true, true] rfl rfl (one_of HT_.out (by kernel_rfl)) (by decide) (fun Kq hKq => ?_)
      refine skip_ (w1 := ?_) (by rfl) rfl ?_ ?_
      rotate_left
      · go_simp
        rfl
      refine hKq.out _ _ ?_
      clear hKq Kq
      refine done_ (done_of HT_.out (by kernel_rfl)) ?_
      have hbl5 : ∀ x y, Blk w4 x y → Blk w5 x y := fun x y hp => hp.fr (ok := fun k => w.heap.size ≤ k) (Ts := [35]) (Fr.grown HG.out (fun k hk => ⟨HRW.out.rs.1 k hk, fun _ => by
        obtain ⟨cs, hc⟩ := Kd.R_typed HRW.out.rs k hk
        exact ⟨cs, _, _, hc, by simp⟩⟩)) (by decide)
      have n := HRW.out.set_row rfl HG.out HO.out ((HRW.out.es.imp hbl5).snoc (x := ((zb, 128) : Bk)) (y := z128) (hbl5 _ _ HZ.out))
      have n1 := n.1
      have n2 := n.2.below HB.out HB.out.size (fun k hk => hk)
      rw [show List.replicate i z128 ++ [z128] = List.replicate (i + 1) z128 from List.replicate_succ'.symm] at n1
      rw [show (hs ++ [((zb, 128) : Bk)]).length = hs.length + 1 from by simp] at n1 n2
      clear HRW HB n
      have HRW := Aside0.mk n1
      have HB := Aside0.mk n2
      clear n1 n2 hbl5
      go_wp2
      go_roundg (gk - 1)
      case measure => have := HI.out; omega
      case rel => exact ⟨i + 1, _, _, by first | rfl | go_num, ⟨by have := HLT.out; omega, by have := HI.out; omega⟩, HRW, HB⟩
    · have e1 : decide ((i : Int) < (n : Int)) = false := decide_eq_false (by omega)
      have e2 : decide (i < n) = false := decide_eq_false hlt
      have e3 : ¬ (i : Int) < (n : Int) := by omega
      obtain rfl : i = n := by have := HI.out; omega
      clear hlt
      have x0 := blk_cell HRW.out.blk 0
      obtain ⟨A, c, rfl⟩ := Kd.R_slice HRW.out.rs
      have hln : hs.length ≤ 1000000 := by have h1 := HRW.out.es.1; rw [List.length_replicate] at h1; omega
      go_wp2_with (go_at_call 21; (refine (CloneB A c hs _ (Kd.R_reads' HRW.out.rs).2.2 (Kd.R_reads' HRW.out.rs).2.1 hln).mono ?_); rintro e w1 ⟨v2, rfl, ho, hb⟩; obtain ⟨A2, c2, rfl⟩ := Kd.R_slice ho; have HNE := Aside0.mk (show ∀ k, (Value.slice A hs.length c).ownBlock = some k → (Value.slice A2 hs.length c2).ownBlock ≠ some k from fun k hk e => by have h1 := Kd.R_lt HRW.out.rs k hk; have h2 := Kd.R_base ho k e; omega); have n0 := Aside0.mk (HRW.out.below hb); have HO := Aside0.mk (Kd.R_mono (ok' := fun k => w.heap.size ≤ k) (Kd.R_lower (Kd.R_bound ho) (Nat.zero_le _)) (fun k hk => Nat.le_trans HB.out.size hk.2.1)); have n1 := Aside0.mk (below_step HB.out hb); clear HRW HB ho hb x0; have HRW := n0; have HB := n1; clear n0 n1; have z1 := blk_cell HRW.out.blk 1; have u1 := blk_frozen HRW.out.blk 1)
      go_ret2
      refine ⟨_, rfl, ⟨_, _, _, _, _, _, ⟨HRW.out.here, by simpa [newD] using blk_set HRW.out.blk 1 (.slice A2 hs.length c2), RB_set HRW.out.rs HRW.out.blk 1 _, RB_set HO.out HRW.out.blk 1 _, Kd.R_nil _ _ _ _ _, HNE.out, HRW.out.es.imp ?_, HRW.out.es.imp ?_, Each.nil⟩⟩, below_set HB.out (Nat.le_refl _)⟩
      · exact fun b l hb => hb.fr (fr_set (ok := fun k => w.heap.size ≤ k) HRW.out.blk HRW.out.here 1 _) (by decide)
      · exact fun b l hb => hb.fr (fr_set (ok := fun k => w.heap.size ≤ k) HRW.out.blk HRW.out.here 1 _) (by decide)
end Go.Proofs.YtokmildjniploaaDoor.PLog
