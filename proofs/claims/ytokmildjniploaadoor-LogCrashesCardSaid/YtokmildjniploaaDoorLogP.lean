/- log: what put does. Conditions: none. -/
import Derived.Test.YtokmildjniploaaDoorLogK
namespace Go.Proofs.YtokmildjniploaaDoor.PLog
open Go.RowKit Go.Shelf Go.Proofs.YtokmildjniploaaDoorW.PrintWords Go.Proofs.YtokmildjniploaaDoorW.PrintLast Go.Proofs.YtokmildjniploaaDoorW.PrintMore Go.Proofs.YtokmildjniploaaDoor.BGLog
open Go.Extern.Stop Go.Stop Go.Extern
attribute [local go_sem] Oper.semAt_some
set_option linter.unusedVariables false
set_option linter.unusedSimpArgs false
section
variable {W W1 : World} {ok : Nat → Prop} {gd gl : Nat} {D : Dat} {area gen used : Nat}
/-- Its blocks are cells. -/
theorem DevAt.cells (h : DevAt W ok gd D) : DevAt W (fun k => ok k ∧ k < W.heap.size ∧ ∃ cs t, W.heap[k]? = some (Obj.cells cs t (0, 0))) gd D := by
  obtain ⟨vs, vu, vl, hs, hu, hl, h⟩ := h
  exact ⟨vs, vu, vl, hs, hu, hl, ⟨h.here, blk_lt h.blk, _, _, h.blk⟩, h.blk, Kd.R_mono (Kd.R_bound h.rs) (fun k hk => ⟨hk.1, hk.2.2.1, by obtain ⟨q, _, cs, hc⟩ := hk.2.2.2; exact ⟨cs, q, hc⟩⟩), Kd.R_mono (Kd.R_bound h.ru) (fun k hk => ⟨hk.1, hk.2.2.1, by obtain ⟨q, _, cs, hc⟩ := hk.2.2.2; exact ⟨cs, q, hc⟩⟩), Kd.R_mono (Kd.R_bound h.rl) (fun k hk => ⟨hk.1, hk.2.2.1, by obtain ⟨q, _, cs, hc⟩ := hk.2.2.2; exact ⟨cs, q, hc⟩⟩), h.ne, h.es, h.eu, h.el⟩
theorem LogAt.cells (h : LogAt W ok gd gl D area gen used) : LogAt W (fun k => ok k ∧ k < W.heap.size ∧ ∃ cs t, W.heap[k]? = some (Obj.cells cs t (0, 0))) gd gl D area gen used :=
  ⟨h.dev.cells, h.box, h.here, blk_lt h.box, _, _, h.box⟩
theorem LogAt.bound (h : LogAt W ok gd gl D area gen used) : LogAt W (fun k => ok k ∧ k < W.heap.size) gd gl D area gen used := h.cells.mono (fun k hk => ⟨hk.1, hk.2.1⟩)
/-- Behind what turns blocks that are no cells. -/
theorem LogAt.grownN {row : Option Nat} (h : LogAt W ok gd gl D area gen used) (hg : W.grownBy W1 row) (hr : ∀ r, row = some r → ∃ o : Obj, W.heap[r]? = some o ∧ o.isCells = false) : LogAt W1 ok gd gl D area gen used := by
  have hk : ∀ (k : Nat) (cs : Array Value) (t : TypeId), W.heap[k]? = some (Obj.cells cs t (0, 0)) → W1.heap[k]? = W.heap[k]? := fun k cs t hc => hg.block k (heap_lt' hc) (fun e => by
    obtain ⟨o, ho, hn⟩ := hr k e.symm
    rw [hc] at ho
    obtain rfl := Option.some.inj ho
    cases hn)
  exact ⟨h.dev.step (fun k cs t _ hc _ => hk k cs t hc) (fun k cs hc => hk k cs _ hc), (hk _ _ _ h.box).trans h.box, h.here⟩
end
theorem frGrown {ok : Nat → Prop} {Ts : List Nat} {w3 W W' : World} {row : Option Nat} (h : Fr ok Ts w3 W) (hg : W.grownBy W' row) (hr : ∀ r, row = some r → w3.heap.size ≤ r) : Fr ok Ts w3 W' := by
  have hk : ∀ k, k < w3.heap.size → W'.heap[k]? = W.heap[k]? := fun k hk => hg.block k (Nat.lt_of_lt_of_le hk h.size) (fun e => by have := hr k e.symm; omega)
  exact ⟨hg.os.trans h.os, hg.tape.trans h.tape, hg.output.trans h.output, Nat.le_trans h.size hg.size, fun k hl hn => (hk k hl).trans (h.block k hl hn), fun k cs t fr hc ht => (hk k (heap_lt' hc)).trans (h.typed k cs t fr hc ht)⟩
/-- The record's bytes, the chunk's bytes, what writing chunks makes of a device. -/
def textR (rec : List Int) : List Int := F4 (rec.length : Int) ++ rec
def chB (t : List Int) (i : Nat) : List Int := (t.drop (i * 110)).take (chL t.length i)
def putGo (area gen : Nat) (t : List Int) : Nat → Dat → List Nat → Dat
  | _, D, [] => D
  | u, D, i :: is => putGo area gen t (u + 1) (D.write ((atN area gen u : Nat) : Int) (putT gen u (chB t i))).2 is
theorem putGo_snoc (area gen : Nat) (t : List Int) (is : List Nat) : ∀ (u : Nat) (D : Dat) (i : Nat), putGo area gen t u D (is ++ [i]) = ((putGo area gen t u D is).write ((atN area gen (u + is.length) : Nat) : Int) (putT gen ((u + is.length : Nat) : Int) (chB t i))).2 := by
  induction is with
  | nil => intro u D i; rfl
  | cons j is ih =>
    intro u D i
    show putGo area gen t (u + 1) _ (is ++ [i]) = _
    rw [ih, show u + 1 + is.length = u + (j :: is).length by simp; omega]
    rfl
theorem putGo_good {nb m : Nat} (area gen : Nat) (t : List Int) (is : List Nat) : ∀ (u : Nat) (D : Dat), Good nb m D → Good nb (m + is.length) (putGo area gen t u D is) := by
  induction is generalizing m with
  | nil => intro u D h; exact h
  | cons j is ih =>
    intro u D h
    have := ih (u + 1) _ (good_write h ((atN area gen u : Nat) : Int) (putT gen u (chB t j)))
    rw [show m + (j :: is).length = m + 1 + is.length by simp; omega]
    exact this
def putD (area gen used : Nat) (D : Dat) (rec : List Int) : Dat := putGo area gen (textR rec) used D (List.range (chN (textR rec).length))
theorem textR_len (rec : List Int) : (textR rec).length = 4 + rec.length := by unfold textR; rw [List.length_append, F4_len]
theorem chB_len {t : List Int} {i : Nat} (h : i < chN t.length) : (chB t i).length = chL t.length i := by
  have := chL_pos h
  unfold chB
  rw [List.length_take, List.length_drop]
  omega
theorem chC {W : World} {b : Nat} {t : List Int} (hC : Kd.C (Kd.int .u8) W (some ⟨b, 0, none⟩) t.length t) {i : Nat} (hi : i < chN t.length) : Kd.C (Kd.int .u8) W (some ⟨b, i * 110, none⟩) (chL t.length i) (chB t i) := by
  have hp := chL_pos hi
  have h := Kd.C_mid (c := t.length + 1) (lo := i * 110) (hi := i * 110 + chL t.length i) hC (by omega) (by omega) (by omega)
  rw [if_neg (by omega)] at h
  have e : (t.take (i * 110 + chL t.length i)).drop (i * 110) = chB t i := by
    unfold chB
    rw [List.drop_take, Nat.add_sub_cancel_left]
  rw [e, chB_len hi] at h
  have e2 : (some (⟨b, 0, none⟩ : Addr)).map (·.add (i * 110 * (Kd.int .u8).sz)) = some ⟨b, i * 110, none⟩ := by
    show some (Addr.add ⟨b, 0, none⟩ (i * 110 * 1)) = _
    rw [Nat.mul_one]
    by_cases h0 : i * 110 = 0
    · rw [h0]; simp [Addr.add]
    · simp [Addr.add]
      intro hi0
      exact absurd hi0 h0
  rw [e2] at h
  exact h
def put5.T : Bool × List (List Nat × List Nat) := (true, [([], []), ([0], [0]), ([1], [1]), ([2], [2]), ([], []), ([4], [4]), ([5], [5]), ([6], [6]), ([7], [7]), ([], []), ([3, 8, 9], [3, 8, 9]), ([10], [10]), ([11], [11]), ([11], [11]), ([12, 10, 0, 1, 2, 3, 4, 5, 6, 7, 8, 9, 10, 11, 12], [12]), ([13, 14, 0, 1, 2, 3, 4, 5, 6, 7, 8, 9, 10, 11, 12, 13, 14], [13])])
def put5.B : List Nat := [0, 1, 3, 7, 0, 16, 48, 112, 240, 0, 1023, 2047, 4095, 4095, 8191, 32767]
theorem put5.tab : rtab .any (opsOf Tryd.f27 5) = put5.T := by kernel_rfl
theorem put5.bits : waitsOk put5.T.2 put5.B = true := by kernel_rfl
def put6.T : Bool × List (List Nat × List Nat) := (true, [([], []), ([0], [0]), ([1], [1]), ([2], [2]), ([], []), ([], []), ([5], [5]), ([6], [6]), ([7], [7]), ([], []), ([9], [9]), ([10], [10]), ([11], [11]), ([4, 8, 12], [4, 8, 12]), ([], []), ([3, 13, 14, 13], [3, 13, 14])])
def put6.B : List Nat := [0, 1, 3, 7, 0, 0, 32, 96, 224, 0, 512, 1536, 3584, 8176, 0, 32767]
theorem put6.tab : rtab .any (opsOf Tryd.f27 6) = put6.T := by kernel_rfl
theorem put6.bits : waitsOk put6.T.2 put6.B = true := by kernel_rfl
set_option maxHeartbeats 16000000 in
set_option maxRecDepth 100000 in
theorem put_ (nb m : Nat) (ok : Nat → Prop) (gd gl : Nat) (D : Dat) (area gen used : Nat) (A : Option Addr) (n c : Nat) (rec : List Int) (w : World) (h : LogAt w ok gd gl D area gen used) (hfr : ∀ k, w.heap.size ≤ k → ok k) (ha : area ≤ 1000) (hg : gen < 4294967296) (hu : used ≤ 10000) (hnb : nb ≤ 1000000) (hmb : m ≤ 900000) (hGD : Good nb m D) (hC : Kd.C (Kd.int .u8) w A n rec) (hc : n ≤ c) (hn : n ≤ 65536) :
    Calls Tryd.prog 27 #[.pointer (some ⟨gl, 0, none⟩), .slice A n c] w fun e w' => e = .returned (.tuple #[]) ∧ LogAt w' ok gd gl (putD area gen used D rec) area gen (used + chN (4 + n)) ∧ Fr ok logT w w' := by
  have hl : rec.length = n := hC.1
  subst hl
  have HC := Aside0.mk hC
  have HL0 := Aside0.mk h.bound
  have HFR := Aside0.mk hfr
  have HGD := Aside0.mk hGD
  have HB := Aside0.mk (Below.refl w.heap.size w)
  obtain ⟨t, ht⟩ : ∃ t, textR rec = t := ⟨_, rfl⟩
  have htl : t.length = 4 + rec.length := by rw [← ht, textR_len]
  have HT := Aside0.mk ht
  have htx : F4 (rec.length : Int) ++ rec = t := by rw [← ht]; rfl
  have HTX := Aside0.mk htx
  have hPD : putD area gen used D rec = putGo area gen t used D (List.range (chN (4 + rec.length))) := by unfold putD; rw [ht, htl]
  rw [hPD]
  have hwn : IntKind.u32.wrap (rec.length : Int) = (rec.length : Int) := by rw [u32_wrap]; omega
  have hwn2 : (rec.length : Int) % 4294967296 = (rec.length : Int) := by omega
  have HN := Aside0.mk hn
  have HF4 := Aside0.mk (show [((rec.length : Int) / 16777216), ((rec.length : Int) / 65536) % 256, ((rec.length : Int) / 256) % 256, (rec.length : Int) % 256] = F4 (rec.length : Int) from by unfold F4; congr 1; omega)
  have HTL := Aside0.mk htl
  clear h hC hfr hGD ht htx hPD hn htl
  refine callsIn_wide.1 (callsIn_of_wp_marks (n := 5) Tryd.func27 rfl trivial ?_ rfl)
  refine wpIn_wide.2 ?_
  simp only [Tryd.ntmps27, List.size_toArray, List.length_cons, List.length_nil, Nat.reduceAdd, Nat.reduceSub, Array.replicate_succ, Array.replicate_zero, List.push_toArray, List.append_toArray, List.nil_append, List.cons_append]
  go_upto_region 2 with (fail)
  have HLB := Aside0.mk (heap_alloc_new w (.cells #[.pointer (some ⟨gl, 0, none⟩)] 30))
  have n0 := Aside0.mk (below_alloc HB.out (.cells #[.pointer (some ⟨gl, 0, none⟩)] 30))
  clear HB
  have HB := n0
  clear n0
  generalize w.alloc (.cells #[.pointer (some ⟨gl, 0, none⟩)] 30) = wa at HLB HB ⊢
  generalize hLb : w.heap.size = Lb at HLB ⊢
  go_upto_region 3 with (first
    | ((with_reducible refine gate_dst (N := 23) rfl ?_); refine Kd.R_lit (Kd.int .u8) _ 5 ?hg (N := 23) ?hd (xs := [((rec.length : Int) / 16777216), ((rec.length : Int) / 65536) % 256, ((rec.length : Int) / 256) % 256, (rec.length : Int) % 256]) (inner := [.int .u8 ((rec.length : Int) / 16777216), .int .u8 (((rec.length : Int) / 65536) % 256), .int .u8 (((rec.length : Int) / 256) % 256), .int .u8 ((rec.length : Int) % 256)]) (ok := fun _ => True) (okp := fun _ => True) ?hr ?hp (fun _ hk => hk) trivial (Below.refl wa.heap.size wa) (Nat.le_refl _) (by simp) ?_; (case hd => rfl); (case hg => rfl); (case hr => first | (go_simp; done) | (go_simp; rfl)); (case hp => exact (Reps.one (show Kd.M (Kd.int .u8) _ _ _ ((rec.length : Int) / 16777216) [.int .u8 ((rec.length : Int) / 16777216)] from rfl) (Reps.one (show Kd.M (Kd.int .u8) _ _ _ (((rec.length : Int) / 65536) % 256) [.int .u8 (((rec.length : Int) / 65536) % 256)] from rfl) (Reps.one (show Kd.M (Kd.int .u8) _ _ _ (((rec.length : Int) / 256) % 256) [.int .u8 (((rec.length : Int) / 256) % 256)] from rfl) (Reps.one (show Kd.M (Kd.int .u8) _ _ _ ((rec.length : Int) % 256) [.int .u8 ((rec.length : Int) % 256)] from rfl) (Reps.none _ _)))))); intro v1 w1 ho hb hg_ hnew_; clear hg_ hnew_; rw [HF4.out] at ho; have HO := Aside0.mk ho; have HB1 := Aside0.mk hb; clear ho hb)
    | ((with_reducible refine gate_builtin (b := .append) (xs := #[.tmp 23, .tmp 24]) rfl ?_); at_builtin; refine Kd.R_append_rows (Kd.int .u8) (w0 := wa) wa.heap.size rfl (.tmp 23) (.tmp 24) 35 5 (.int .u8 0) 1 rfl Tryd.underlying35 bytes_Clone.info rfl (by decide) (by omega) v1 (F4 (rec.length : Int)) rec _ _ _ (fun _ => True) (fun _ => some 0 ≠ v1.ownBlock ∧ False) rfl rfl ?aO ?aR (fun _ _ h => h) (fun _ h => h.2.elim) ?aF ?aB ?aS ?aL ?_; (case aR => exact Kd.C_below (Kd.C_below HC.out HB.out) HB1.out); (case aB => exact HB1.out); (case aF => exact fun _ _ => trivial); (case aO => exact HO.out); (case aS => exact HB1.out.size); (case aL => have := HN.out; rw [F4_len]; omega); intro v2 w2 ho hb hg hat; rw [HTX.out] at ho; have HO2 := Aside0.mk ho; have HB2 := Aside0.mk hb; clear ho hb hg hat))
  obtain ⟨tb, tc, rfl, _, _, _⟩ := Kd.R_form HO2.out (by rw [HTL.out]; omega)
  have htc : t.length ≤ tc := (Kd.R_reads' HO2.out).2.1
  have HL2 := Aside0.mk ((HL0.out.below HB.out).below (Below.mono HB2.out (Nat.le_refl _)))
  have HBW := Aside0.mk (below_step HB.out HB2.out)
  have HLB2 := Aside0.mk (blk_below HLB.out HB2.out)
  clear HL0 HB HLB HB2 HO
  have hlw : Lb < w2.heap.size := blk_lt HLB2.out
  go_wp2_with (go_at_call 42; (refine (callsIn_wide.1 (chunk_in 0 (some ⟨tb, 0, none⟩) t.length tc _)).mono ?_); rintro e w3 ⟨rfl, rfl⟩)
  obtain ⟨w3, hw3⟩ : ∃ w3, (w2.alloc (.cells #[.slice (some ⟨tb, 0, none⟩) t.length tc] 35)).alloc (.cells #[.int .i64 110] 3) = w3 := ⟨_, rfl⟩
  have hb1 := below_alloc (Below.refl w2.heap.size w2) (.cells #[.slice (some ⟨tb, 0, none⟩) t.length tc] 35)
  have hb2 := below_step hb1 (below_alloc (Below.refl (w2.alloc (.cells #[.slice (some ⟨tb, 0, none⟩) t.length tc] 35)).heap.size (w2.alloc (.cells #[.slice (some ⟨tb, 0, none⟩) t.length tc] 35))) (.cells #[.int .i64 110] 3))
  have hbs := blk_below (heap_alloc_new w2 (.cells #[.slice (some ⟨tb, 0, none⟩) t.length tc] 35)) (below_alloc (Below.refl (w2.alloc (.cells #[.slice (some ⟨tb, 0, none⟩) t.length tc] 35)).heap.size (w2.alloc (.cells #[.slice (some ⟨tb, 0, none⟩) t.length tc] 35))) (.cells #[.int .i64 110] 3))
  have hbn := heap_alloc_new (w2.alloc (.cells #[.slice (some ⟨tb, 0, none⟩) t.length tc] 35)) (.cells #[.int .i64 110] 3)
  rw [World.size_alloc] at hbn
  rw [hw3] at hb2 hbs hbn ⊢
  have HBW3 := Aside0.mk (below_step HBW.out hb2)
  have HL3 := Aside0.mk (HL2.out.below hb2)
  have HT3 := Aside0.mk (Kd.R_below HO2.out hb2)
  have HLB3 := Aside0.mk (blk_below HLB2.out hb2)
  have hws : w.heap.size ≤ w2.heap.size := HBW.out.size
  obtain ⟨Bs, hBs⟩ : ∃ Bs, w2.heap.size = Bs := ⟨_, rfl⟩
  rw [hBs] at hbs hbn hws hlw ⊢
  have hs3 : Bs + 1 < w3.heap.size := blk_lt hbn
  clear hb1 hb2 hw3 HL2 HO2 HLB2 HBW hBs
  have HBS := Aside0.mk hbs
  have HBN := Aside0.mk hbn
  clear hbs hbn
  obtain ⟨okP, hokP⟩ : ∃ okP : Nat → Prop, okP = fun k => (ok k ∧ k < w.heap.size) ∨ w3.heap.size ≤ k := ⟨_, rfl⟩
  have HOP1 := Aside0.mk (show ∀ k, okP k → (ok k ∧ k < w.heap.size) ∨ w3.heap.size ≤ k from fun k hk => by rw [hokP] at hk; exact hk)
  have HOP2 := Aside0.mk (show ∀ k, ((ok k ∧ k < w.heap.size) ∨ w3.heap.size ≤ k) → okP k from fun k hk => by rw [hokP]; exact hk)
  clear hokP
  refine wpIn_wide.1 (wpIn_rangeFunc_ownG (n := 5) (F := Fence.wide) rfl (by decide) (gf := 48) (lb := #[.pointer (some ⟨Bs, 0, none⟩), .pointer (some ⟨Bs + 1, 0, none⟩)]) rfl trivial (enters_of Tryd.func48 (by kernel_rfl) rfl)
    (chunk_stops (5 - 1) Bs (Bs + 1) tb t.length tc (by decide) (by have := HN.out; have := HTL.out; omega) htc w3 (blk_cell HBS.out 0) (blk_cell HBN.out 0)) (fun h k => Kp2.trans h k)
    (fun W l o o' hl _ _ _ => ⟨World.putObj_heap_other (fun e => by omega), World.putObj_heap_other (fun e => by omega)⟩) (Below.refl _ _) (fun _ => rfl)
    (fun (pre : List (CI t.length)) W => LogAt W okP gd gl (putGo area gen t used D (pre.map (·.1))) area gen (used + pre.length) ∧ Fr okP logT w3 W)
    (fun _ _ _ => False)
    (fun s W W' row hs hg hr => ⟨hs.1.grownN hg (fun r e => (hr r e).2), frGrown hs.2 hg (fun r e => (hr r e).1)⟩)
    (fun _ _ _ _ _ h _ _ => h)
    ⟨HL3.out.mono (fun k hk => HOP2.out k (.inl hk)), Fr.refl _ _ _⟩
    ?a1 ?assign ?body ?done ?stop)
  case assign =>
    intro l x W K hK
    gi_wp2
    exact hK
  case stop =>
    rintro D2 c2 pre W _ _ h _
    exact h.elim
  case done =>
    rintro D2 xs W hD hS ⟨hL, hF⟩ hK
    have HL := Aside0.mk hL
    have HF := Aside0.mk hF
    have HS := Aside0.mk hS
    clear hL hF hS
    go_wp2
    have hxs : xs.length = chN t.length := by have := congrArg List.length HS.out; rw [List.length_map, List.length_range] at this; exact this
    have hfin : LogAt W ok gd gl (putGo area gen t used D (List.range (chN (4 + rec.length)))) area gen (used + chN (4 + rec.length)) := by
      have h := HL.out.mono (ok2 := ok) (fun k hk => (HOP1.out k hk).elim (fun h => h.1) (fun h => HFR.out k (Nat.le_trans HBW3.out.size h)))
      rw [HS.out, hxs, HTL.out] at h
      exact h
    have hfr2 : Fr ok logT w W := (Fr.of_below HBW3.out).trans (HF.out.mono (fun k hk => (HOP1.out k hk).elim (fun h => h.1) (fun h => HFR.out k (Nat.le_trans HBW3.out.size h))) (fun _ h => h))
    have hg := grownBy_putObj' W D2 (.deferred none)
    have hgr : ∀ r, (some D2 : Option Nat) = some r → ∃ o : Obj, W.heap[r]? = some o ∧ o.isCells = false := fun r e => by cases e; exact ⟨_, hK, rfl⟩
    refine ⟨by simp, .inl ⟨_, _, rfl, run_takeDeferred hK, ?_⟩⟩
    exact ⟨_, results_none rfl _ _ _, rfl, hfin.grownN hg hgr, frGrown hfr2 hg (fun r e => by cases e; exact Nat.le_trans HBW3.out.size hD)⟩
  case body =>
    rintro l pre x W ⟨hL, hF⟩ hlen
    obtain ⟨ok2, hok2⟩ : ∃ ok2 : Nat → Prop, ok2 = fun k => (okP k ∧ k < W.heap.size ∧ ∃ cs t, W.heap[k]? = some (Obj.cells cs t (0, 0))) ∨ W.heap.size ≤ k := ⟨_, rfl⟩
    have HO1 := Aside0.mk (show ∀ k, ok2 k → (okP k ∧ k < W.heap.size ∧ ∃ cs t, W.heap[k]? = some (Obj.cells cs t (0, 0))) ∨ W.heap.size ≤ k from fun k hk => by rw [hok2] at hk; exact hk)
    have HO2 := Aside0.mk (show ∀ k, W.heap.size ≤ k → ok2 k from fun k hk => by rw [hok2]; exact .inr hk)
    have HL := Aside0.mk (hL.cells.mono (ok2 := ok2) (fun k hk => by rw [hok2]; exact .inl hk))
    have HF0 := Aside0.mk hF
    have HF := Aside0.mk (Fr.refl ok2 logT W)
    have HLB := Aside0.mk ((hF.typed _ _ _ _ HLB3.out (by decide)).trans HLB3.out)
    have HTX2 := Aside0.mk (row_frL HT3.out hF)
    have hpl : (pre.map (fun y : CI t.length => y.1)).length = pre.length := List.length_map _
    obtain ⟨DD, hDD⟩ : ∃ DD, putGo area gen t used D (pre.map (fun y : CI t.length => y.1)) = DD := ⟨_, rfl⟩
    have hgd := putGo_good area gen t (pre.map (fun y : CI t.length => y.1)) used D HGD.out
    rw [hpl, hDD] at hgd
    obtain ⟨u, hu2⟩ : ∃ u, used + pre.length = u := ⟨_, rfl⟩
    have hch : chN t.length ≤ 600 := by have := HTL.out; have := HN.out; unfold chN; omega
    have HSN := Aside0.mk (show putGo area gen t used D ((pre ++ [x]).map (fun y : CI t.length => y.1)) = (DD.write ((atN area gen u : Nat) : Int) (putT gen u (chB t x.1))).2 ∧ used + (pre ++ [x]).length = u + 1 from by
      rw [List.map_append, ← hu2, ← hDD]
      refine ⟨?_, by rw [List.length_append]; rfl⟩
      have := putGo_snoc area gen t (pre.map (fun y : CI t.length => y.1)) used D x.1
      rw [hpl] at this
      exact this)
    have HUB := Aside0.mk (show u ≤ 20000 by omega)
    have HGD2 := Aside0.mk hgd
    rw [hDD, hu2] at HL
    have hwu : IntKind.u32.wrap (u : Int) = (u : Int) := by rw [u32_wrap]; omega
    have hwu2 : (u : Int) % 4294967296 = (u : Int) := by omega
    have hw1 : IntKind.i64.wrap ((u : Int) + 1) = ((u + 1 : Nat) : Int) := by rw [IntKind.wrap_i64]; omega
    have HPM := Aside0.mk (show m + pre.length ≤ 1000000 by omega)
    have HCHX := Aside0.mk x.2
    clear hL hF hok2 hpl hDD hgd hlen hch hu2
    obtain ⟨x, hx⟩ := x
    dsimp only at HSN HCHX
    have hchx : chV tb t.length x = .slice (some ⟨tb, x * 110, none⟩) (chL t.length x) (chL t.length x) := rfl
    dsimp only
    rw [hchx]
    clear hchx
    gi_wp2
    have HCX := Aside0.mk (show ∀ W1, Below W.heap.size W W1 → Kd.C (Kd.int .u8) W1 (some ⟨tb, x * 110, none⟩) (chL t.length x) (chB t x) from fun W1 hb => Kd.C_below (chC (Kd.R_reads' HTX2.out).2.2 hx) hb)
    have HB5 := Aside0.mk (Below.refl W.heap.size W)
    have hcl := (chL_pos hx).2.2.2
    obtain ⟨cl, hcle⟩ : ∃ cl, chL t.length x = cl := ⟨_, rfl⟩
    rw [hcle] at hcl HCX ⊢
    have HCL := Aside0.mk (show (chB t x).length ≤ 110 by rw [chB_len hx, hcle]; exact hcl)
    clear hcle
    generalize chB t x = cb at HSN HCX HCL
    refine startIn_ (m := 16) (S := fun w' => w'.cell? ⟨Lb, 0, none⟩ = some (.pointer (some ⟨gl, 0, none⟩)) ∧ w'.cell? ⟨gl, 2, none⟩ = some (.int .u32 (gen : Int)) ∧ w'.cell? ⟨gl, 3, none⟩ = some (.int .i64 (u : Int))) (ds := []) #[false, false, false, false, false, false, false, false, false, false, false, false, false, false, false, false] (by kernel_rfl) rfl rfl (by kernel_rfl) (fun h => by obtain ⟨_, _, h⟩ := h; exact h) ⟨blk_cell HLB.out 0, blk_cell HL.out.box 2, blk_cell HL.out.box 3⟩ (fun hHeld => ?_)
    refine with_tabW put5.tab put5.bits (fun HT_ HW_ => ?_)
    have n0 := Aside0.mk (HL.out.below (below_drew (Below.refl _ _)))
    have n1 := Aside0.mk HF.out.drew
    have n2 := Aside0.mk (blk_drew HLB.out)
    have n3 := Aside0.mk (below_drew1 HB5.out)
    clear HL HF HLB HB5
    have HL := n0
    have HF := n1
    have HLB := n2
    have HB5 := n3
    clear n0 n1 n2 n3
    generalize W.drew = W1 at HL HF HLB HB5 hHeld ⊢
    refine take_ (i := 0) (N := (some 30)) (v := ?_) (a' := ?_) #[true, false, false, false, false, false, false, false, false, false, false, false, false, false, false, false] rfl rfl (take_ofW HT_.out HW_.out (by kernel_rfl)) (fun _ _ _ h => h) (Or.inl ⟨by rfl, ?_⟩) (by exact hHeld) ?_ ?_
    rotate_left
    · intro w' hw'
      go_simp
      with_reducible rfl
    rotate_left
    · simp only [Act.put, List.setIfInBounds_toArray, List.set_cons_zero, List.set_cons_succ, i64_w, i32_w]
      rfl
    refine take_ (i := 4) (N := (some 34)) (v := ?_) (a' := ?_) #[true, false, false, false, true, false, false, false, false, false, false, false, false, false, false, false] rfl rfl (take_ofW HT_.out HW_.out (by kernel_rfl)) (fun _ _ _ h => h) (Or.inl ⟨by rfl, ?_⟩) (by exact hHeld) ?_ ?_
    rotate_left
    · intro w' hw'
      go_simp
      with_reducible rfl
    rotate_left
    · simp only [Act.put, List.setIfInBounds_toArray, List.set_cons_zero, List.set_cons_succ, i64_w, i32_w]
      rfl
    refine pure_ (i := 1) (N := (some 31)) (v := ?_) (a' := ?_) #[true, true, false, false, true, false, false, false, false, false, false, false, false, false, false, false] rfl rfl (any_of HT_.out (by kernel_rfl)) (fun _ _ _ h => h) (Or.inl ⟨by rfl, ?_⟩) ?_ ?_
    rotate_left
    · intro w'
      go_simp
      with_reducible rfl
    rotate_left
    · simp only [Act.put, List.setIfInBounds_toArray, List.set_cons_zero, List.set_cons_succ, i64_w, i32_w]
      rfl
    refine pure_ (i := 2) (N := (some 32)) (v := ?_) (a' := ?_) #[true, true, true, false, true, false, false, false, false, false, false, false, false, false, false, false] rfl rfl (any_of HT_.out (by kernel_rfl)) (fun _ _ _ h => h) (Or.inl ⟨by rfl, ?_⟩) ?_ ?_
    rotate_left
    · intro w'
      go_simp
      with_reducible rfl
    rotate_left
    · simp only [Act.put, List.setIfInBounds_toArray, List.set_cons_zero, List.set_cons_succ, i64_w, i32_w]
      rfl
    refine pure_ (i := 5) (N := (some 35)) (v := ?_) (a' := ?_) #[true, true, true, false, true, true, false, false, false, false, false, false, false, false, false, false] rfl rfl (any_of HT_.out (by kernel_rfl)) (fun _ _ _ h => h) (Or.inl ⟨by rfl, ?_⟩) ?_ ?_
    rotate_left
    · intro w'
      go_simp
      with_reducible rfl
    rotate_left
    · simp only [Act.put, List.setIfInBounds_toArray, List.set_cons_zero, List.set_cons_succ, i64_w, i32_w]
      rfl
    refine pure_ (i := 6) (N := (some 36)) (v := ?_) (a' := ?_) #[true, true, true, false, true, true, true, false, false, false, false, false, false, false, false, false] rfl rfl (any_of HT_.out (by kernel_rfl)) (fun _ _ _ h => h) (Or.inl ⟨by rfl, ?_⟩) ?_ ?_
    rotate_left
    · intro w'
      go_simp
      with_reducible rfl
    rotate_left
    · simp only [Act.put, List.setIfInBounds_toArray, List.set_cons_zero, List.set_cons_succ, i64_w, i32_w]
      rfl
    refine take_ (i := 3) (N := (some 33)) (v := ?_) (a' := ?_) #[true, true, true, true, true, true, true, false, false, false, false, false, false, false, false, false] rfl rfl (take_ofW HT_.out HW_.out (by kernel_rfl)) (fun _ _ _ h => h) (Or.inl ⟨by rfl, ?_⟩) (by exact hHeld) ?_ ?_
    rotate_left
    · intro w' hw'
      go_simp
      with_reducible rfl
    rotate_left
    · simp only [Act.put, List.setIfInBounds_toArray, List.set_cons_zero, List.set_cons_succ, i64_w, i32_w]
      rfl
    refine take_ (i := 7) (N := (some 37)) (v := ?_) (a' := ?_) #[true, true, true, true, true, true, true, true, false, false, false, false, false, false, false, false] rfl rfl (take_ofW HT_.out HW_.out (by kernel_rfl)) (fun _ _ _ h => h) (Or.inl ⟨by rfl, ?_⟩) (by exact hHeld) ?_ ?_
    rotate_left
    · intro w' hw'
      go_simp
      with_reducible rfl
    rotate_left
    · simp only [Act.put, List.setIfInBounds_toArray, List.set_cons_zero, List.set_cons_succ, i64_w, i32_w]
      rfl
    refine pure_ (i := 8) (N := (some 38)) (v := ?_) (a' := ?_) #[true, true, true, true, true, true, true, true, true, false, false, false, false, false, false, false] rfl rfl (any_of HT_.out (by kernel_rfl)) (fun _ _ _ h => h) (Or.inl ⟨by rfl, ?_⟩) ?_ ?_
    rotate_left
    · intro w'
      go_simp
      with_reducible rfl
    rotate_left
    · simp only [Act.put, List.setIfInBounds_toArray, List.set_cons_zero, List.set_cons_succ, i64_w, i32_w]
      rfl
    refine pure_ (i := 9) (N := (some 39)) (v := ?_) (a' := ?_) #[true, true, true, true, true, true, true, true, true, true, false, false, false, false, false, false] rfl rfl (any_of HT_.out (by kernel_rfl)) (fun _ _ _ h => h) (Or.inl ⟨by rfl, ?_⟩) ?_ ?_
    rotate_left
    · intro w'
      go_simp
      with_reducible rfl
    rotate_left
    · simp only [Act.put, List.setIfInBounds_toArray, List.set_cons_zero, List.set_cons_succ, i64_w, i32_w]
      rfl
    refine one_ (i := 10) (N := (some 40)) #[true, true, true, true, true, true, true, true, true, true, true, false, false, false, false, false] rfl rfl (one_of HT_.out (by kernel_rfl)) (by decide) (fun Kq hKq => ?_)
    refine call_ (f := 33) (args := #[.int .u32 (gen : Int), .int .u32 (u : Int), .slice (some ⟨tb, x * 110, none⟩) cl cl]) (by rfl) rfl (by go_simp) ?_
    refine (tagPut gen u (some ⟨tb, x * 110, none⟩) cl cl cb _ (HCX.out _ HB5.out) (Nat.le_refl _) hcl).mono ?_
    rintro e W2 ⟨Ab, cbk, rfl, hcbk, hR, hb⟩
    refine ⟨_, rfl, ?_⟩
    have HR := Aside0.mk hR
    clear HB5 HCX
    have n0 := Aside0.mk (HL.out.below hb)
    have n1 := Aside0.mk (HF.out.trans (Fr.of_below hb))
    have n2 := Aside0.mk (blk_below HLB.out hb)
    clear HL HF HLB hb hR
    have HL := n0
    have HF := n1
    have HLB := n2
    clear n0 n1 n2
    refine hKq.out _ _ ⟨blk_cell HLB.out 0, blk_cell HL.out.box 2, blk_cell HL.out.box 3⟩ (fun hHeld => ?_)
    clear hKq Kq
    refine norm_ (a' := ?_) ?_ ?_
    rotate_left
    · show Act.put _ (some 40) _ = _
      simp only [Act.put, List.setIfInBounds_toArray, List.set_cons_zero, List.set_cons_succ, i64_w, i32_w]
      rfl
    refine pure_ (i := 11) (N := (some 29)) (v := ?_) (a' := ?_) #[true, true, true, true, true, true, true, true, true, true, true, true, false, false, false, false] rfl rfl (any_of HT_.out (by kernel_rfl)) (fun _ _ _ h => h) (Or.inl ⟨by rfl, ?_⟩) ?_ ?_
    rotate_left
    · intro w'
      go_simp
      with_reducible rfl
    rotate_left
    · simp only [Act.put, List.setIfInBounds_toArray, List.set_cons_zero, List.set_cons_succ, i64_w, i32_w]
      rfl
    refine pure_ (i := 12) (N := (some 41)) (v := ?_) (a' := ?_) #[true, true, true, true, true, true, true, true, true, true, true, true, true, false, false, false] rfl rfl (any_of HT_.out (by kernel_rfl)) (fun _ _ _ h => h) (Or.inl ⟨by rfl, ?_⟩) ?_ ?_
    rotate_left
    · intro w'
      go_simp
      with_reducible rfl
    rotate_left
    · simp only [Act.put, List.setIfInBounds_toArray, List.set_cons_zero, List.set_cons_succ, i64_w, i32_w]
      rfl
    refine pure_ (i := 13) (N := (some 42)) (v := ?_) (a' := ?_) #[true, true, true, true, true, true, true, true, true, true, true, true, true, true, false, false] rfl rfl (any_of HT_.out (by kernel_rfl)) (fun _ _ _ h => h) (Or.inl ⟨by rfl, ?_⟩) ?_ ?_
    rotate_left
    · intro w'
      go_simp
      with_reducible rfl
    rotate_left
    · simp only [Act.put, List.setIfInBounds_toArray, List.set_cons_zero, List.set_cons_succ, i64_w, i32_w]
      rfl
    refine pure_ (i := 14) (N := (some 7)) (v := ?_) (a' := ?_) #[true, true, true, true, true, true, true, true, true, true, true, true, true, true, true, false] rfl rfl (any_of HT_.out (by kernel_rfl)) (fun _ _ _ h => h) (Or.inl ⟨by rfl, ?_⟩) ?_ ?_
    rotate_left
    · intro w'
      go_simp
      with_reducible rfl
    rotate_left
    · simp only [Act.put, List.setIfInBounds_toArray, List.set_cons_zero, List.set_cons_succ, i64_w, i32_w]
      rfl
    refine pure_ (i := 15) (N := (some 8)) (v := ?_) (a' := ?_) #[true, true, true, true, true, true, true, true, true, true, true, true, true, true, true, true] rfl rfl (any_of HT_.out (by kernel_rfl)) (fun _ _ _ h => h) (Or.inl ⟨by rfl, ?_⟩) ?_ ?_
    rotate_left
    · intro w'
      go_simp
      with_reducible rfl
    rotate_left
    · simp only [Act.put, List.setIfInBounds_toArray, List.set_cons_zero, List.set_cons_succ, i64_w, i32_w]
      rfl
    refine done_ (done_of HT_.out (by kernel_rfl)) ?_
    gi_wp2
    refine startIn_ (m := 16) (S := fun w' => w'.cell? ⟨Lb, 0, none⟩ = some (.pointer (some ⟨gl, 0, none⟩)) ∧ w'.cell? ⟨gl, 0, none⟩ = some (.pointer (some ⟨gd, 0, none⟩)) ∧ w'.cell? ⟨gl, 2, none⟩ = some (.int .u32 (gen : Int)) ∧ w'.cell? ⟨gl, 3, none⟩ = some (.int .i64 (u : Int))) (ds := []) #[false, false, false, false, false, false, false, false, false, false, false, false, false, false, false, false] (by kernel_rfl) rfl rfl (by kernel_rfl) (fun h => by obtain ⟨_, _, h⟩ := h; exact h) ⟨blk_cell HLB.out 0, blk_cell HL.out.box 0, blk_cell HL.out.box 2, blk_cell HL.out.box 3⟩ (fun hHeld => ?_)
    refine with_tabW put6.tab put6.bits (fun HT_ HW_ => ?_)
    have n0 := Aside0.mk (HL.out.below (below_drew (Below.refl _ _)))
    have n1 := Aside0.mk HF.out.drew
    have n2 := Aside0.mk (blk_drew HLB.out)
    have n3 := Aside0.mk (Kd.R_drew HR.out)
    clear HL HF HLB HR
    have HL := n0
    have HF := n1
    have HLB := n2
    have HR := n3
    clear n0 n1 n2 n3
    generalize W2.drew = W3 at HL HF HLB HR hHeld ⊢
    refine take_ (i := 0) (N := (some 43)) (v := ?_) (a' := ?_) #[true, false, false, false, false, false, false, false, false, false, false, false, false, false, false, false] rfl rfl (take_ofW HT_.out HW_.out (by kernel_rfl)) (fun _ _ _ h => h) (Or.inl ⟨by rfl, ?_⟩) (by exact hHeld) ?_ ?_
    rotate_left
    · intro w' hw'
      go_simp
      with_reducible rfl
    rotate_left
    · simp only [Act.put, List.setIfInBounds_toArray, List.set_cons_zero, List.set_cons_succ, i64_w, i32_w]
      rfl
    refine take_ (i := 4) (N := (some 47)) (v := ?_) (a' := ?_) #[true, false, false, false, true, false, false, false, false, false, false, false, false, false, false, false] rfl rfl (take_ofW HT_.out HW_.out (by kernel_rfl)) (fun _ _ _ h => h) (Or.inl ⟨by rfl, ?_⟩) (by exact hHeld) ?_ ?_
    rotate_left
    · intro w' hw'
      go_simp
      with_reducible rfl
    rotate_left
    · simp only [Act.put, List.setIfInBounds_toArray, List.set_cons_zero, List.set_cons_succ, i64_w, i32_w]
      rfl
    refine take_ (i := 5) (N := (some 48)) (v := ?_) (a' := ?_) #[true, false, false, false, true, true, false, false, false, false, false, false, false, false, false, false] rfl rfl (take_ofW HT_.out HW_.out (by kernel_rfl)) (fun _ _ _ h => h) (Or.inl ⟨by rfl, ?_⟩) (by exact hHeld) ?_ ?_
    rotate_left
    · intro w' hw'
      go_simp
      with_reducible rfl
    rotate_left
    · simp only [Act.put, List.setIfInBounds_toArray, List.set_cons_zero, List.set_cons_succ, i64_w, i32_w]
      rfl
    refine take_ (i := 9) (N := (some 52)) (v := ?_) (a' := ?_) #[true, false, false, false, true, true, false, false, false, true, false, false, false, false, false, false] rfl rfl (take_ofW HT_.out HW_.out (by kernel_rfl)) (fun _ _ _ h => h) (Or.inl ⟨by rfl, ?_⟩) (by exact hHeld) ?_ ?_
    rotate_left
    · intro w' hw'
      go_simp
      with_reducible rfl
    rotate_left
    · simp only [Act.put, List.setIfInBounds_toArray, List.set_cons_zero, List.set_cons_succ, i64_w, i32_w]
      rfl
    refine pure_ (i := 1) (N := (some 44)) (v := ?_) (a' := ?_) #[true, true, false, false, true, true, false, false, false, true, false, false, false, false, false, false] rfl rfl (any_of HT_.out (by kernel_rfl)) (fun _ _ _ h => h) (Or.inl ⟨by rfl, ?_⟩) ?_ ?_
    rotate_left
    · intro w'
      go_simp
      with_reducible rfl
    rotate_left
    · simp only [Act.put, List.setIfInBounds_toArray, List.set_cons_zero, List.set_cons_succ, i64_w, i32_w]
      rfl
    refine pure_ (i := 2) (N := (some 45)) (v := ?_) (a' := ?_) #[true, true, true, false, true, true, false, false, false, true, false, false, false, false, false, false] rfl rfl (any_of HT_.out (by kernel_rfl)) (fun _ _ _ h => h) (Or.inl ⟨by rfl, ?_⟩) ?_ ?_
    rotate_left
    · intro w'
      go_simp
      with_reducible rfl
    rotate_left
    · simp only [Act.put, List.setIfInBounds_toArray, List.set_cons_zero, List.set_cons_succ, i64_w, i32_w]
      rfl
    refine pure_ (i := 6) (N := (some 49)) (v := ?_) (a' := ?_) #[true, true, true, false, true, true, true, false, false, true, false, false, false, false, false, false] rfl rfl (any_of HT_.out (by kernel_rfl)) (fun _ _ _ h => h) (Or.inl ⟨by rfl, ?_⟩) ?_ ?_
    rotate_left
    · intro w'
      go_simp
      with_reducible rfl
    rotate_left
    · simp only [Act.put, List.setIfInBounds_toArray, List.set_cons_zero, List.set_cons_succ, i64_w, i32_w]
      rfl
    refine pure_ (i := 7) (N := (some 50)) (v := ?_) (a' := ?_) #[true, true, true, false, true, true, true, true, false, true, false, false, false, false, false, false] rfl rfl (any_of HT_.out (by kernel_rfl)) (fun _ _ _ h => h) (Or.inl ⟨by rfl, ?_⟩) ?_ ?_
    rotate_left
    · intro w'
      go_simp
      with_reducible rfl
    rotate_left
    · simp only [Act.put, List.setIfInBounds_toArray, List.set_cons_zero, List.set_cons_succ, i64_w, i32_w]
      rfl
    refine pure_ (i := 10) (N := (some 53)) (v := ?_) (a' := ?_) #[true, true, true, false, true, true, true, true, false, true, true, false, false, false, false, false] rfl rfl (any_of HT_.out (by kernel_rfl)) (fun _ _ _ h => h) (Or.inl ⟨by rfl, ?_⟩) ?_ ?_
    rotate_left
    · intro w'
      go_simp
      with_reducible rfl
    rotate_left
    · simp only [Act.put, List.setIfInBounds_toArray, List.set_cons_zero, List.set_cons_succ, i64_w, i32_w]
      rfl
    refine pure_ (i := 11) (N := (some 54)) (v := ?_) (a' := ?_) #[true, true, true, false, true, true, true, true, false, true, true, true, false, false, false, false] rfl rfl (any_of HT_.out (by kernel_rfl)) (fun _ _ _ h => h) (Or.inl ⟨by rfl, ?_⟩) ?_ ?_
    rotate_left
    · intro w'
      go_simp
      with_reducible rfl
    rotate_left
    · simp only [Act.put, List.setIfInBounds_toArray, List.set_cons_zero, List.set_cons_succ, i64_w, i32_w]
      rfl
    refine take_ (i := 3) (N := (some 46)) (v := ?_) (a' := ?_) #[true, true, true, true, true, true, true, true, false, true, true, true, false, false, false, false] rfl rfl (take_ofW HT_.out HW_.out (by kernel_rfl)) (fun _ _ _ h => h) (Or.inl ⟨by rfl, ?_⟩) (by exact hHeld) ?_ ?_
    rotate_left
    · intro w' hw'
      go_simp
      with_reducible rfl
    rotate_left
    · simp only [Act.put, List.setIfInBounds_toArray, List.set_cons_zero, List.set_cons_succ, i64_w, i32_w]
      rfl
    refine take_ (i := 8) (N := (some 51)) (v := ?_) (a' := ?_) #[true, true, true, true, true, true, true, true, true, true, true, true, false, false, false, false] rfl rfl (take_ofW HT_.out HW_.out (by kernel_rfl)) (fun _ _ _ h => h) (Or.inl ⟨by rfl, ?_⟩) (by exact hHeld) ?_ ?_
    rotate_left
    · intro w' hw'
      go_simp
      with_reducible rfl
    rotate_left
    · simp only [Act.put, List.setIfInBounds_toArray, List.set_cons_zero, List.set_cons_succ, i64_w, i32_w]
      rfl
    refine take_ (i := 12) (N := (some 55)) (v := ?_) (a' := ?_) #[true, true, true, true, true, true, true, true, true, true, true, true, true, false, false, false] rfl rfl (take_ofW HT_.out HW_.out (by kernel_rfl)) (fun _ _ _ h => h) (Or.inl ⟨by rfl, ?_⟩) (by exact hHeld) ?_ ?_
    rotate_left
    · intro w' hw'
      go_simp
      with_reducible rfl
    rotate_left
    · simp only [Act.put, List.setIfInBounds_toArray, List.set_cons_zero, List.set_cons_succ, i64_w, i32_w]
      rfl
    refine pure_ (i := 14) (N := (some 57)) (v := ?_) (a' := ?_) #[true, true, true, true, true, true, true, true, true, true, true, true, true, false, true, false] rfl rfl (any_of HT_.out (by kernel_rfl)) (fun _ _ _ h => h) (Or.inl ⟨by rfl, ?_⟩) ?_ ?_
    rotate_left
    · intro w'
      go_simp
      with_reducible rfl
    rotate_left
    · simp only [Act.put, List.setIfInBounds_toArray, List.set_cons_zero, List.set_cons_succ, i64_w, i32_w]
      rfl
    refine one_ (i := 13) (N := (some 56)) #[true, true, true, true, true, true, true, true, true, true, true, true, true, true, true, false] rfl rfl (one_of HT_.out (by kernel_rfl)) (by decide) (fun Kq hKq => ?_)
    refine call_ (f := 32) (args := #[.pointer (some ⟨gl, 0, none⟩), .int .u32 (gen : Int), .int .i64 (u : Int)]) (by rfl) rfl (by go_simp) ?_
    refine (At W3 gl gd area gen u gen u HL.out.box ha (by have := HUB.out; omega) hg).mono ?_
    rintro e W4 ⟨rfl, hww⟩
    subst hww
    refine ⟨_, rfl, ?_⟩
    refine hKq.out _ _ hHeld (fun hHeld => ?_)
    clear hKq Kq
    refine norm_ (a' := ?_) ?_ ?_
    rotate_left
    · show Act.put _ (some 56) _ = _
      simp only [Act.put, List.setIfInBounds_toArray, List.set_cons_zero, List.set_cons_succ, i64_w, i32_w]
      rfl
    refine one_ (i := 15) (N := (some 58)) #[true, true, true, true, true, true, true, true, true, true, true, true, true, true, true, true] rfl rfl (one_of HT_.out (by kernel_rfl)) (by decide) (fun Kq hKq => ?_)
    refine call_ (f := 31) (args := #[.pointer (some ⟨gd, 0, none⟩), .int .i64 ((atN area gen u : Nat) : Int), .slice Ab 128 cbk]) (by rfl) rfl (by go_simp) ?_
    refine (Write ok2 gd DD ((atN area gen u : Nat) : Int) Ab 128 cbk (putT gen u cb) W3 HL.out.dev (fun k hk => HO2.out k (Nat.le_trans HF.out.size hk)) (by have := HGD2.out.seen; omega) (by have := HGD2.out.later; have := HPM.out; omega) ⟨by have := HGD2.out.l0; omega, HGD2.out.l1⟩ ⟨HGD2.out.w0, by have := HGD2.out.w1; have := HPM.out; omega⟩ (fun w' hf => rowC (row_fr HR.out hf (by decide))) hcbk).mono ?_
    rintro e W5 ⟨rfl, hd, hf⟩
    refine ⟨_, rfl, ?_⟩
    have n0 := Aside0.mk (HL.out.step_dev hd hf)
    have n1 := Aside0.mk (HF.out.trans (frL hf))
    have n2 := Aside0.mk ((hf.typed _ _ _ _ HLB.out (by decide)).trans HLB.out)
    clear HL HF HLB HR hd hf
    have HL := n0
    have HF := n1
    have HLB := n2
    clear n0 n1 n2
    refine hKq.out _ _ ⟨blk_cell HLB.out 0, blk_cell HL.out.box 0, blk_cell HL.out.box 2, blk_cell HL.out.box 3⟩ (fun hHeld => ?_)
    clear hKq Kq
    refine norm_ (a' := ?_) ?_ ?_
    rotate_left
    · show Act.put _ (some 58) _ = _
      simp only [Act.put, List.setIfInBounds_toArray, List.set_cons_zero, List.set_cons_succ, i64_w, i32_w]
      rfl
    refine done_ (done_of HT_.out (by kernel_rfl)) ?_
    have y0 := blk_cell HLB.out 0
    have y3 := blk_cell HL.out.box 3
    have z3 := blk_frozen HL.out.box 3
    gi_wp2
    have n := HL.out.set_used (u + 1)
    have hFE := HF.out.trans n.2
    have hno : ∀ k, ok2 k → (k < W.heap.size → okP k ∧ ∃ cs t, W.heap[k]? = some (Obj.cells cs t (0, 0))) := fun k hk hlt => (HO1.out k hk).elim (fun h => ⟨h.1, h.2.2⟩) (fun h => by omega)
    have hmo : ∀ k, ok2 k → okP k := fun k hk => (HO1.out k hk).elim (fun h => h.1) (fun h => HOP2.out k (.inr (Nat.le_trans HF0.out.size h)))
    have hsz := HF0.out.size
    have hbx : ∀ k, k < w3.heap.size → w.heap.size ≤ k → ¬ ok2 k := fun k h1 h2 h3 => by
      have h4 := (hno k h3 (by omega)).1
      rcases HOP1.out k h4 with h5 | h5 <;> omega
    refine ⟨⟨hFE.size, fun k o hB hk ho => (hFE.block k (Array.getElem?_eq_some_iff.1 hk).1 (fun h => ?_)).trans hk⟩, ⟨hFE.block Bs (by omega) (hbx Bs (by omega) hws), hFE.block (Bs + 1) (by omega) (hbx (Bs + 1) hs3 (by omega))⟩, ?_, HF0.out.trans (hFE.mono hmo (fun _ h => h))⟩
    · obtain ⟨_, cs, t, hc⟩ := hno k h (Array.getElem?_eq_some_iff.1 hk).1
      rw [hk] at hc
      obtain rfl := Option.some.inj hc
      cases ho
    · rw [HSN.out.1, HSN.out.2]
      exact n.1.mono hmo
end Go.Proofs.YtokmildjniploaaDoor.PLog
