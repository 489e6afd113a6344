-- Written by xprint.py (a program of this project) out of the translation. Not trusted: Lean checks it.
import Derived.Test.YtaoegbebeogkbaaDoorPTagAllx0
namespace Go.Proofs.YtaoegbebeogkbaaDoor.PTagAll
open Go.RowKit Go.Proofs.YtaoegbebeogkbaaDoorW.PrintWords Go.Proofs.YtaoegbebeogkbaaDoorW.PrintLast Go.Proofs.YtaoegbebeogkbaaDoorW.PrintMore
attribute [local go_sem] max2_int min2_int max_two min_two max_three min_three max_four min_four   -- for this text's walks alone
set_option linter.unusedVariables false
set_option linter.unusedSimpArgs false

/-! ### rabbetlaw0_Handed: function 11 -/
/-- Five known bytes stand in the room behind the row. -/
def Spare (w : World) (v : Value) (n : Nat) : Prop := ∃ g cap, v = .slice (some ⟨g, 0, none⟩) n cap ∧ n + 5 ≤ cap ∧ ∀ i, i < 5 → w.cell? ⟨g, n + i, none⟩ = some (.int .u8 ((161 + i : Nat) : Int))
theorem Spare.move {w w1 : World} {v : Value} {n : Nat} (h : Spare w v n) (hm : ∀ k, v.ownBlock = some k → w1.heap[k]? = w.heap[k]?) : Spare w1 v n := by
  obtain ⟨g, cap, rfl, hc, hh⟩ := h
  refine ⟨g, cap, rfl, hc, fun i hi => ?_⟩
  rw [← hh i hi]
  have := hm g rfl
  unfold World.cell?
  rw [this]
def Kd.H {α : Type} (d : Kd α) (e : Nat) (w : World) (base : Nat) (ok : Nat → Prop) (v : Value) (xs : List α) : Prop := d.R e w base ok v xs ∧ Spare w v xs.length
section
variable {α : Type} {d : Kd α} {e e' : Nat} {w w1 W : World} {base base' : Nat} {ok ok' : Nat → Prop} {v u : Value} {xs : List α}
theorem Kd.H_R (h : Kd.H d e w base ok v xs) : d.R e w base ok v xs := h.1
theorem Kd.H_spare (h : Kd.H d e w base ok v xs) : Spare w v xs.length := h.2
theorem Kd.H_mono (h : Kd.H d e w base ok v xs) (hok : ∀ k, ok k → ok' k) : Kd.H d e w base ok' v xs := ⟨Kd.R_mono h.1 hok, h.2⟩
theorem Kd.H_lower (h : Kd.H d e w base ok v xs) (hb : base' ≤ base) : Kd.H d e w base' ok v xs := ⟨Kd.R_lower h.1 hb, h.2⟩
theorem Kd.H_lt (h : Kd.H d e w base ok v xs) : ∀ k, v.ownBlock = some k → k < w.heap.size := Kd.R_lt h.1
theorem Kd.H_base (h : Kd.H d e w base ok v xs) : ∀ k, v.ownBlock = some k → base ≤ k := Kd.R_base h.1
theorem Kd.H_typed (h : Kd.H d e w base ok v xs) : ∀ k, v.ownBlock = some k → ∃ cells, w.heap[k]? = some (.cells cells e (0, 0)) := Kd.R_typed h.1
theorem Kd.H_reads' {A : Option Addr} {n c : Nat} (h : Kd.H d e w base ok (.slice A n c) xs) : n = xs.length ∧ n ≤ c ∧ d.C w A xs.length xs := Kd.R_reads' h.1
theorem Kd.H_form (h : Kd.H d e w base ok v xs) (hp : 0 < xs.length) : ∃ g cap, v = .slice (some ⟨g, 0, none⟩) xs.length cap ∧ base ≤ g ∧ g < w.heap.size ∧ ∃ cells, w.heap[g]? = some (.cells cells e (0, 0)) := Kd.R_form h.1 hp
theorem Kd.H_slice (h : Kd.H d e w base ok v xs) : ∃ A c, v = .slice A xs.length c := Kd.R_slice h.1
theorem Kd.H_below (h : Kd.H d e w base ok v xs) (hb : Below w.heap.size w w1) : Kd.H d e w1 base ok v xs := ⟨Kd.R_below h.1 hb, h.2.move (fun k hk => hb.block k (Kd.R_lt h.1 k hk))⟩
theorem Kd.H_alloc (h : Kd.H d e w base ok v xs) (o : Obj) : Kd.H d e (w.alloc o) base ok v xs := Kd.H_below h (below_alloc (Below.refl _ _) o)
theorem Kd.H_drewN (h : Kd.H d e w base ok v xs) (m : Nat) : Kd.H d e (w.drewN m) base ok v xs := Kd.H_below h (pw_below_drewN (Below.refl _ _) m)
theorem Kd.H_drew (h : Kd.H d e w base ok v xs) : Kd.H d e w.drew base ok v xs := Kd.H_below h (below_drew (Below.refl _ _))
theorem Kd.H_grown (h : Kd.H d e w base ok v xs) {row : Option Nat} (hg : w.grownBy w1 row) (hok : ∀ k, ok k → some k ≠ row) : Kd.H d e w1 base ok v xs :=
  ⟨Kd.R_grown h.1 hg hok, h.2.move (fun k hk => hg.block k (Kd.R_lt h.1 k hk) (hok k (h.1.1 k hk)))⟩
theorem Kd.H_far (h : Kd.H d e w base ok v xs) {p : Addr} (hok : ∀ k, ok k → k ≠ p.block) (x : Value) : Kd.H d e (w.setCell p x) base ok v xs :=
  ⟨Kd.R_far h.1 hok x, h.2.move (fun k hk => Below.heap_setCell w p x k (hok k (h.1.1 k hk)))⟩
theorem Kd.H_elder' (hu : Kd.H d e W base ok u xs) (hbase : ∀ k, v.ownBlock = some k → W.heap.size ≤ k) (hb : Below W.heap.size W w1) : Kd.H d e w1 base (fun k => ok k ∧ some k ≠ v.ownBlock) u xs :=
  ⟨Kd.R_elder' hu.1 hbase hb, hu.2.move (fun k hk => hb.block k (Kd.R_lt hu.1 k hk))⟩
theorem Kd.H_old (hu : Kd.H d e W base ok u xs) (hb : Below W.heap.size W w1) : Kd.H d e w1 base (fun k => ok k ∧ k < W.heap.size) u xs :=
  ⟨Kd.R_old hu.1 hb, hu.2.move (fun k hk => hb.block k (Kd.R_lt hu.1 k hk))⟩
theorem Kd.H_told {N : Nat} (h : Kd.H d e w1 base (fun k => ok k ∧ k < N) u xs) (hbase : ∀ k, v.ownBlock = some k → N ≤ k) : Kd.H d e w1 base (fun k => (ok k ∧ some k ≠ v.ownBlock) ∧ k < N) u xs := ⟨Kd.R_told h.1 hbase, h.2⟩
theorem Kd.H_apart' (h : Kd.H d e W base ok u xs) (hty : ∀ k, v.ownBlock = some k → ∃ cells, W.heap[k]? = some (.cells cells e' (0, 0))) (ht : ∀ q, q ∈ e :: d.E → q ≠ e') : Kd.H d e W base (fun k => ok k ∧ some k ≠ v.ownBlock) u xs := ⟨Kd.R_apart' h.1 hty ht, h.2⟩
theorem Kd.H_apart_nil (h : Kd.H d e w base ok u xs) : Kd.H d e w base (fun k => ok k ∧ some k ≠ (Value.slice none 0 0).ownBlock) u xs := ⟨Kd.R_apart_nil h.1, h.2⟩
theorem Kd.H_after {v1 : Value} (h : Kd.H d e W base (fun k => ok k ∧ some k ≠ v.ownBlock) u xs) (hg : W.grownBy w1 v.ownBlock) (hat : v1.ownBlock = v.ownBlock ∨ ∃ b, v1.ownBlock = some b ∧ W.heap.size ≤ b) : Kd.H d e w1 base (fun k => ok k ∧ some k ≠ v1.ownBlock) u xs :=
  ⟨Kd.R_after h.1 hg hat, h.2.move (fun k hk => hg.block k (Kd.R_lt h.1 k hk) (h.1.1 k hk).2)⟩
theorem Kd.H_over' (h : Kd.H d e W base ok u xs) (hty : ∀ k, v.ownBlock = some k → ∃ cells, W.heap[k]? = some (.cells cells e' (0, 0))) (ht : ∀ q, q ∈ e :: d.E → q ≠ e') (hg : W.grownBy w1 v.ownBlock) : Kd.H d e w1 base ok u xs :=
  ⟨Kd.R_over' h.1 hty ht hg, h.2.move (fun k hk => hg.block k (Kd.R_lt h.1 k hk) (((Kd.R_apart' h.1 hty ht).1 k hk).2))⟩
theorem Kd.H_types (h : Kd.H d e w base ok v xs) {g t : Nat} {cells : Array Value} (hb : w.heap[g]? = some (.cells cells t (0, 0))) (ht : ∀ q, q ∈ e :: d.E → q ≠ t) : Kd.H d e w base (fun k => ok k ∧ k ≠ g) v xs := ⟨Kd.R_types h.1 hb ht, h.2⟩
theorem Kd.H_ne (h : Kd.H d e w base ok v xs) {g t : Nat} {cells : Array Value} (hb : w.heap[g]? = some (.cells cells t (0, 0))) (ht : e ≠ t) : some g ≠ v.ownBlock := Kd.R_ne h.1 hb ht
end
/-- Nothing that was there has changed, and the five bytes stand behind the row. -/
structure BelowS (w W : World) (v : Value) (n : Nat) : Prop where
  b : Below w.heap.size w W
  s : Spare W v n
section
variable {w W w2 : World} {v : Value} {n : Nat}
theorem spare_below (h : Spare W v n) (hb : Below W.heap.size W w2) : Spare w2 v n := by
  obtain ⟨g, cap, rfl, hc, hh⟩ := h
  exact ⟨g, cap, rfl, hc, fun i hi => (hb.cell (World.block_lt_of_cell? W _ (hh i hi))).trans (hh i hi)⟩
theorem belowS_step (h : BelowS w W v n) (k : Below W.heap.size W w2) : BelowS w w2 v n := ⟨below_step h.b k, spare_below h.s k⟩
theorem belowS_alloc (h : BelowS w W v n) (o : Obj) : BelowS w (W.alloc o) v n := belowS_step h (below_alloc (Below.refl _ _) o)
theorem belowS_drewN (h : BelowS w W v n) (m : Nat) : BelowS w (W.drewN m) v n := belowS_step h (pw_below_drewN (Below.refl _ _) m)
theorem belowS_drew1 (h : BelowS w W v n) : BelowS w W.drew v n := belowS_step h (below_drew (Below.refl _ _))
theorem belowS_size (h : BelowS w W v n) : w.heap.size ≤ W.heap.size := h.b.size
theorem belowS_spare (h : BelowS w W v n) : Spare W v n := h.s
/-- The same of two rows. -/
structure BelowT (w W : World) (v : Value) (n : Nat) (v2 : Value) (n2 : Nat) : Prop where
  s1 : BelowS w W v n
  s2 : Spare W v2 n2
theorem BelowT.b {v2 : Value} {n2 : Nat} (h : BelowT w W v n v2 n2) : Below w.heap.size w W := h.s1.b
theorem belowT_step {v2 : Value} {n2 : Nat} (h : BelowT w W v n v2 n2) (k : Below W.heap.size W w2) : BelowT w w2 v n v2 n2 := ⟨belowS_step h.s1 k, spare_below h.s2 k⟩
theorem belowT_alloc {v2 : Value} {n2 : Nat} (h : BelowT w W v n v2 n2) (o : Obj) : BelowT w (W.alloc o) v n v2 n2 := belowT_step h (below_alloc (Below.refl _ _) o)
theorem belowT_drewN {v2 : Value} {n2 : Nat} (h : BelowT w W v n v2 n2) (m : Nat) : BelowT w (W.drewN m) v n v2 n2 := belowT_step h (pw_below_drewN (Below.refl _ _) m)
theorem belowT_drew1 {v2 : Value} {n2 : Nat} (h : BelowT w W v n v2 n2) : BelowT w W.drew v n v2 n2 := belowT_step h (below_drew (Below.refl _ _))
theorem belowT_size {v2 : Value} {n2 : Nat} (h : BelowT w W v n v2 n2) : w.heap.size ≤ W.heap.size := h.b.size
theorem belowT_spare {v2 : Value} {n2 : Nat} (h : BelowT w W v n v2 n2) : Spare W v n := h.s1.s
theorem belowT_spare2 {v2 : Value} {n2 : Nat} (h : BelowT w W v n v2 n2) : Spare W v2 n2 := h.s2
end
def rabbetlaw0_Handed.f (l0 : List Int) : Option (List Int) := if l0.length ≤ 1000000 then (some l0) else none
theorem rabbetlaw0_Handed.info : (Tryd.prog.info? 5).map (fun i => (i.zero, i.size, i.bytes)) = some (some (.int .u8 0), 1, 1) := by kernel_rfl
theorem rabbetlaw0_Handed.make (n : Nat) (hn : n ≤ 1000000) (W : World) : (Instr.makeSlice 23 (.int .i64 (n : Int)) (.int .i64 ((n : Int) + 5))).run Tryd.prog W = .ok (.slice (some ⟨W.heap.size, 0, none⟩) n (n + 5)) (W.alloc (.cells (madeCells #[.int .u8 0] (n + 5)) 5)) := by
  obtain ⟨i, hi, hz⟩ := Option.map_eq_some_iff.1 rabbetlaw0_Handed.info
  simp only [Prod.mk.injEq] at hz
  obtain ⟨hz0, hz1, hz2⟩ := hz
  have := run_make (P := Tryd.prog) W 23 5 i (.int .u8 0) Tryd.underlying23 hi hz0 .i64 .i64 (n : Int) ((n : Int) + 5) (by omega) (by omega) (by rw [hz2]; omega) (by omega)
  rw [hz1, Nat.mul_one, Int.toNat_natCast, show ((n : Int) + 5).toNat = n + 5 by omega] at this
  exact this
theorem rabbetlaw0_Handed.fill (l : List Int) (n i : Nat) (hi : i < n) (hl : l.length = n) : (l.take i ++ List.replicate (n + 5 - i) 0).set i (rd l (i : Int)) = l.take (i + 1) ++ List.replicate (n + 5 - (i + 1)) 0 := by
  have h1 : (l.take i).length = i := by rw [List.length_take]; omega
  rw [List.set_append_right _ _ (by omega), h1, Nat.sub_self, show n + 5 - i = (n + 5 - (i + 1)) + 1 by omega, List.replicate_succ, List.set_cons_zero]
  rw [List.take_succ_eq_append_getElem (by omega), List.append_assoc]
  congr 1
  simp [rd, List.getD_eq_getElem?_getD, List.getElem?_eq_getElem (show i < l.length by omega)]
def rabbetlaw0_Handed.tail (i : Nat) : List Int := (List.range 5).map fun j => if j < i then ((161 + j : Nat) : Int) else 0
theorem rabbetlaw0_Handed.mark (l : List Int) (n i : Nat) (hi : i < 5) (hl : l.length = n) : (l ++ rabbetlaw0_Handed.tail i).set (n + i) ((161 + i : Nat) : Int) = l ++ rabbetlaw0_Handed.tail (i + 1) := by
  rw [List.set_append_right _ _ (by omega), hl, Nat.add_sub_cancel_left]
  congr 1
  have : i = 0 ∨ i = 1 ∨ i = 2 ∨ i = 3 ∨ i = 4 := by omega
  rcases this with rfl | rfl | rfl | rfl | rfl <;> rfl
theorem rabbetlaw0_Handed.relen {w : World} {base n m : Nat} {e : TypeId} {v : Value} {xs : List Value} (h : n = m) (ho : w.ownsRow base e 1 v n xs) : w.ownsRow base e 1 v m xs := h ▸ ho
theorem rabbetlaw0_Handed.rd_tail (l : List Int) (i : Nat) (hi : i < 5) : rd (l ++ rabbetlaw0_Handed.tail 5) ((l.length + i : Nat) : Int) = ((161 + i : Nat) : Int) := by
  unfold rd
  rw [Int.toNat_natCast, List.getD_eq_getElem?_getD, List.getElem?_append_right (by omega), Nat.add_sub_cancel_left]
  have : i = 0 ∨ i = 1 ∨ i = 2 ∨ i = 3 ∨ i = 4 := by omega
  rcases this with rfl | rfl | rfl | rfl | rfl <;> rfl
theorem rabbetlaw0_Handed.cut (A : Option Addr) (n c : Nat) (hc : n + 5 ≤ c := by omega) : ∀ W : World, (Instr.slice 23 (.slice A n c) none (some (.int .i64 ((n : Int) + 5))) none).run Tryd.prog W = .ok (.slice A (n + 5) c) W := by
  intro W
  obtain ⟨i0, hi0, hz⟩ := Option.map_eq_some_iff.1 rabbetlaw0_Handed.info
  simp only [Prod.mk.injEq] at hz
  have hel : Tryd.prog.elem 23 = 5 := by simp [Program.elem, Tryd.underlying23]
  have hu : Tryd.prog.underlying 23 = some (.slice (Tryd.prog.elem 23)) := by rw [hel]; exact Tryd.underlying23
  rw [run_slice_h W 23 A n c hu .i64 ((n : Int) + 5) (by omega) (by omega), hel]
  simp [sizeOf, typeInfo, hi0, hz.2.1, sliced, Result.andThen]
  refine ⟨fun _ => ?_, by omega⟩
  cases A <;> simp [Addr.add_zero']
set_option maxHeartbeats 4000000 in
set_option maxRecDepth 100000 in
theorem rabbetlaw0_Handed.calls (A0 : Option Addr) (c0 : Nat) (l0 : List Int) (r : List Int) (w : World) (hr0 : Kd.C (Kd.int .u8) w A0 l0.length l0) (hc0 : l0.length ≤ c0) (h : rabbetlaw0_Handed.f l0 = some r) :
    Calls Tryd.prog 11 #[.slice A0 l0.length c0] w fun e w' => ∃ v0_ : Value, e = .returned v0_ ∧ Kd.H (Kd.int .u8) 5 w' w.heap.size (fun _ => True) v0_ r ∧ Below w.heap.size w w' := by
  have hn : l0.length ≤ 1000000 := by
    unfold rabbetlaw0_Handed.f at h
    by_cases c : l0.length ≤ 1000000
    · exact c
    · rw [if_neg c] at h; cases h
  have hr : r = l0 := by unfold rabbetlaw0_Handed.f at h; rw [if_pos hn] at h; exact (Option.some.inj h).symm
  clear h
  have HR := Aside0.mk hr
  clear hr
  have HR0 := Aside0.mk hr0
  clear hr0
  have mk := rabbetlaw0_Handed.make l0.length hn
  have mz : madeCells #[.int .u8 0] (l0.length + 5) = (nums .u8 (l0.take 0 ++ List.replicate (l0.length + 5 - 0) 0)).toArray := by
    apply Array.ext'
    simp only [List.take_zero, List.nil_append, Nat.sub_zero]
    apply List.ext_getElem
    · simp [nums, madeCells]
    · intro i h1 h2
      simp [nums, madeCells, Nat.mod_one]
  have MZ := Aside0.mk mz
  clear mz
  go_enter Tryd.func11, Tryd.ntmps11
  go_wp2
  go_loopg [4] (l0.length + 1) (fun kq v4 w' => ∃ i : Nat, v4 = .int .i64 (i : Int) ∧ Aside0 (i ≤ l0.length ∧ l0.length < kq + i) ∧ Aside0 (w'.ownsRow w.heap.size 5 1 (.slice (some ⟨w.heap.size, 0, none⟩) (l0.length + 5) (l0.length + 5)) (l0.length + 5) (nums .u8 (l0.take i ++ List.replicate (l0.length + 5 - i) 0))) ∧ Aside0 (Below w.heap.size w w'))
  case atStart =>
    refine ⟨0, rfl, ⟨Nat.zero_le _, by omega⟩, ⟨?_⟩, ⟨(Below.refl _ _).alloc (Nat.le_refl _) _⟩⟩
    rw [MZ.out]
    have z := own_lit w w.heap.size 5 .u8 (List.replicate (l0.length + 5) 0) (Nat.le_refl _) (by simp; omega)
    rw [List.length_replicate] at z
    simp only [List.take_zero, List.nil_append, Nat.sub_zero]
    exact z
  case round =>
    obtain ⟨i, rfl, HI, HO, HB⟩ := hrel
    have hi1 := HI.out.1
    by_cases hlt : i < l0.length
    · obtain ⟨ad, e0, hx⟩ := Kd.at_int HR0.out (i : Int) (by omega) (by omega)
      cases e0
      replace hx := (HB.out.cell (World.block_lt_of_cell? w _ hx)).trans hx
      rw [Int.toNat_natCast] at hx
      have hg := own_at HO.out (i : Int) (by omega) (by omega)
      obtain ⟨hg1, hg2⟩ := hg
      rw [Int.toNat_natCast] at hg1 hg2
      have hlt2 : (i : Int) < (l0.length : Int) := by omega
      have hd : decide (i < l0.length) = true := decide_eq_true hlt
      go_wp2
      go_roundg (l0.length - i)
      case measure => have := HI.out; omega
      case rel =>
        refine ⟨i + 1, by go_num, ⟨by omega, by omega⟩, ⟨?_⟩, ⟨?_⟩⟩
        · have := (own_store HO.out (i : Int) (rd l0 (i : Int))).1
          rw [Int.toNat_natCast, rabbetlaw0_Handed.fill l0 l0.length i hlt rfl] at this
          exact this
        · exact HB.out.setCell (Nat.le_refl _) _
    · have hie : i = l0.length := by omega
      have hd : decide (i < l0.length) = false := decide_eq_false hlt
      subst hie
      have HO2 := Aside0.mk (show World.ownsRow _ w.heap.size 5 1 (.slice (some ⟨w.heap.size, 0, none⟩) (l0.length + 5) (l0.length + 5)) (l0.length + 5) (nums .u8 (l0 ++ rabbetlaw0_Handed.tail 0)) from by
        have z := HO.out
        rw [List.take_length, show List.replicate (l0.length + 5 - l0.length) (0 : Int) = rabbetlaw0_Handed.tail 0 by rw [Nat.add_sub_cancel_left]; rfl] at z
        exact z)
      clear HO HI hi1
      have hcut := rabbetlaw0_Handed.cut (some ⟨w.heap.size, 0, none⟩) l0.length (l0.length + 5)
      go_wp2
      go_loopg [6] 6 (fun kq v6 w' => ∃ i : Nat, v6 = .int .i64 (i : Int) ∧ Aside0 (i ≤ 5 ∧ 5 < kq + i) ∧ Aside0 (w'.ownsRow w.heap.size 5 1 (.slice (some ⟨w.heap.size, 0, none⟩) (l0.length + 5) (l0.length + 5)) (l0.length + 5) (nums .u8 (l0 ++ rabbetlaw0_Handed.tail i))) ∧ Aside0 (Below w.heap.size w w'))
      case atStart => exact ⟨0, rfl, ⟨by omega, by omega⟩, HO2, HB⟩
      case round =>
        clear HO2 HB hd hlt hcut
        obtain ⟨i, rfl, HI, HO, HB⟩ := hrel
        have hi1 := HI.out.1
        by_cases hlt : i < 5
        · obtain ⟨hg1, hg2⟩ := own_at HO.out ((l0.length + i : Nat) : Int) (by omega) (by omega)
          rw [Int.toNat_natCast] at hg1 hg2
          have hd : decide ((i : Int) < 5) = true := decide_eq_true (by omega)
          have hlt3 : (i : Int) < 5 := by omega
          have hsum : IntKind.i64.wrap ((l0.length : Int) + (i : Int)) = ((l0.length + i : Nat) : Int) := by simp only [i64_w]; unfold wrap64; omega
          have hin : ((l0.length + i : Nat) : Int) < ((l0.length + 5 : Nat) : Int) := by omega
          have hin2 : decide (l0.length + i < l0.length + 5) = true := decide_eq_true (by omega)
          go_wp2
          go_roundg (5 - i)
          case measure => have := HI.out; omega
          case rel =>
            refine ⟨i + 1, by go_num, ⟨by omega, by have := HI.out; omega⟩, ⟨?_⟩, ⟨?_⟩⟩
            · have z := (own_store HO.out ((l0.length + i : Nat) : Int) ((161 + i : Nat) : Int)).1
              rw [Int.toNat_natCast, rabbetlaw0_Handed.mark l0 l0.length i hlt rfl, show ((161 + i : Nat) : Int) = 161 + (i : Int) by omega] at z
              exact z
            · exact HB.out.setCell (Nat.le_refl _) _
        · have hie : i = 5 := by omega
          subst hie
          go_wp2
          go_ret
          have hx : (l0 ++ rabbetlaw0_Handed.tail 5).length = l0.length + 5 := by rw [List.length_append]; rfl
          have hown := HO.out
          have hown2 := rabbetlaw0_Handed.relen hx.symm hown
          have hR := Kd.R_take (m := l0.length) (Kd.R_of_own (h1 := fun _ => rfl) (ok := fun _ => True) hown2 (fun _ _ => trivial)) (by rw [hx]; omega)
          rw [List.take_left] at hR
          rw [HR.out]
          refine ⟨_, rfl, ⟨hR, ⟨w.heap.size, l0.length + 5, rfl, Nat.le_refl _, fun i hi => ?_⟩⟩, HB.out⟩
          obtain ⟨hg1, _⟩ := own_at HO.out ((l0.length + i : Nat) : Int) (by omega) (by omega)
          rw [Int.toNat_natCast, rabbetlaw0_Handed.rd_tail l0 i hi] at hg1
          exact hg1

/-! ### rabbetref1_High: function 31 -/
def rabbetref1_High.l0 : Nat → Int → List Int → Int → Option (List Int)
  | 0, _, _, _ => none
  | k + 1, x0, x5, x6 => if x6 ≥ 0 then (if 0 ≤ x6 then (if x6 < (x5.length : Int) then (rabbetref1_High.l0 k (IntKind.u64.wrap (Int.tdiv x0 256)) (x5.set (x6 : Int).toNat ((Int.tmod x0 256) % 256)) (wrap64 (x6 - 1))) else (none)) else (none)) else (some x5)
def rabbetref1_High.f (k : Nat) (a0 : Int) (a1 : Int) : Option (List Int) := if 0 ≤ a1 then (if (a1 : Int).toNat ≤ 281474976710656 then (rabbetref1_High.l0 k a0 (List.replicate (a1 : Int).toNat 0) (wrap64 (a1 - 1))) else (none)) else (none)
theorem rabbetref1_High.mono_l : ∀ k, (∀ y0 y1 y2, LeO (rabbetref1_High.l0 k y0 y1 y2) (rabbetref1_High.l0 (k + 1) y0 y1 y2))
  | 0 => fun _ _ _ r h => by simp [rabbetref1_High.l0] at h
  | k + 1 => by
    have ih0 := rabbetref1_High.mono_l k
    · intro y0 y1 y2
      unfold rabbetref1_High.l0
      repeat' first
      | (with_reducible exact ih0 _ _ _)
      | (with_reducible exact LeO.refl _)
      | (with_reducible exact LeO.none _)
      | (with_reducible refine LeO.ite ?_ ?_)
      | (with_reducible refine LeO.bind ?_ (fun _ => ?_))
      | exact ih0 _ _ _
      | exact LeO.none _
      | refine LeO.ite ?_ ?_
      | refine LeO.bind ?_ (fun _ => ?_)
theorem rabbetref1_High.mono : ∀ a0 a1 k, LeO (rabbetref1_High.f k a0 a1) (rabbetref1_High.f (k + 1) a0 a1) := by
  intro a0 a1 k
  have ih0 := rabbetref1_High.mono_l k
  unfold rabbetref1_High.f
  repeat' first
      | (with_reducible exact ih0 _ _ _)
      | (with_reducible exact LeO.refl _)
      | (with_reducible exact LeO.none _)
      | (with_reducible refine LeO.ite ?_ ?_)
      | (with_reducible refine LeO.bind ?_ (fun _ => ?_))
      | exact ih0 _ _ _
      | exact LeO.none _
      | refine LeO.ite ?_ ?_
      | refine LeO.bind ?_ (fun _ => ?_)
set_option maxHeartbeats 8000000 in
set_option maxRecDepth 100000 in
theorem rabbetref1_High.calls (k : Nat) (a0 : Int) (a1 : Int) (r : List Int) (w : World) (h : rabbetref1_High.f k a0 a1 = some r) :
    Calls Tryd.prog 31 #[.int .u64 a0, .int .i64 a1] w fun e w' => ∃ v0_ : Value, e = .returned (v0_) ∧ Kd.R (Kd.int .u8) 5 w' w.heap.size (fun _ => True) v0_ r ∧ Below w.heap.size w w' := by
  have HB := Aside0.mk (Below.refl w.heap.size w)
  have H : (if 0 ≤ a1 then (if (a1 : Int).toNat ≤ 281474976710656 then (rabbetref1_High.l0 k a0 (List.replicate (a1 : Int).toNat 0) (wrap64 (a1 - 1))) else (none)) else (none)) = some r := h
  clear h
  by_cases c3 : 0 ≤ a1
  · rw [if_pos c3] at H
    have c3b0 := eq_true c3
    have c3b1 : decide (0 ≤ a1) = true := decide_eq_true c3
    clear c3
    by_cases c4 : (a1 : Int).toNat ≤ 281474976710656
    · rw [if_pos c4] at H
      have c4b0 := eq_true c4
      have c4b1 : decide ((a1 : Int).toNat ≤ 281474976710656) = true := decide_eq_true c4
      clear c4
      obtain ⟨y167, hy167⟩ : ∃ y_ : List Int, y_ = (List.replicate (a1 : Int).toNat 0) := ⟨_, rfl⟩
      replace H : (rabbetref1_High.l0 k a0 y167 (wrap64 (a1 - 1))) = some r := by first | (rw [hy167]; with_reducible exact H) | (have H2_ := (Option.bind_some _ _).symm.trans H; rw [hy167]; with_reducible exact H2_) | (have H2_ := (Option.bind_some _ _).symm.trans H; with_reducible exact H2_) | with_reducible exact H | (rw [hy167]; exact H) | exact H
      have Ny167 := Aside0.mk hy167
      clear hy167
      have H' := Aside0.mk H
      clear H
      go_enter Tryd.func31, Tryd.ntmps31
      go_wp2_with (first | ((with_reducible refine gate_dst (N := 8) rfl ?_); refine Kd.R_make (Kd.int .u8) _ 5 rfl (N := 8) rfl 23 _ _ rfl a1 rfl rfl Tryd.underlying23 (.int .u8 0) 1 info5 rfl (by decide) (by omega) 0 (ok := fun _ => True) (okp := fun _ => True) rfl (fun _ hk => hk) trivial (of_decide_eq_true (by first | (with_reducible assumption) | assumption)) (Nat.le_trans (Nat.mul_le_mul_right _ (of_decide_eq_true (by first | (with_reducible assumption) | assumption) : a1.toNat ≤ 281474976710656)) (by omega)) (Below.refl _ _) (Nat.le_refl _) ?_; intro v168 w5 ho6 hb hg_ hnew_; clear hg_ hnew_; (first | rw [← Ny167.out] at ho6 | (simp only [Int.reduceToNat] at ho6; rw [← Ny167.out] at ho6)); have n0_ := Aside0.mk (Kd.R_lower ho6 (below_size (by repeat (first | (with_reducible first | exact HB.out | apply below_alloc | apply pw_below_drewN | apply below_drew1) | exact HB.out)))); have n1_ := Aside0.mk (below_step (by repeat (first | (with_reducible first | exact HB.out | apply below_alloc | apply pw_below_drewN | apply below_drew1) | exact HB.out)) hb); clear HB; have HO169 := n0_; have HB := n1_; clear n0_ n1_; clear hb ho6))
      go_loopg [0, 6] k (fun kq v0 v6 w' => ∃ (x0_1 : Int) (x5_1 : List Int) (x6_1 : Int), v0 = .int .u64 x0_1 ∧ v6 = .int .i64 x6_1 ∧ Aside0 (rabbetref1_High.l0 kq x0_1 x5_1 x6_1 = some r) ∧ Aside0 (kq ≤ k) ∧ Aside0 (Kd.R (Kd.int .u8) 5 w' w.heap.size (fun _ => True) v168 x5_1) ∧ Aside0 (Below w.heap.size w w'))
      case atStart => exact ⟨(a0), (y167), (wrap64 (a1 - 1)), (by first | rfl | (simp; done) | (simp [*]; done)), (by first | rfl | (simp; done) | (simp [*]; done)), H', ⟨Nat.le_refl _⟩, ⟨by (with_reducible repeat (first | apply Kd.R_alloc | apply Kd.R_drewN | apply Kd.R_drew)); exact HO169.out⟩, ⟨by repeat (first | (with_reducible first | exact HB.out | apply below_alloc | apply pw_below_drewN | apply below_drew1) | exact HB.out)⟩⟩
      case round =>
        clear H'
        try clear p2
        try clear c3
        try clear c3b0
        try clear c3b1
        try clear c4
        try clear c4b0
        try clear c4b1
        try clear p6
        obtain ⟨x0_1, x5_1, x6_1, rfl, rfl, HA, HK1, HO_5, HB⟩ := hrel
        cases gk with
        | zero => exact absurd HA.out (by simp [rabbetref1_High.l0])
        | succ k1 =>
          have H := HA.out
          clear HA
          simp only [rabbetref1_High.l0] at H
          by_cases c7 : x6_1 ≥ 0
          · rw [if_pos c7] at H
            have c7b0 : decide (0 ≤ x6_1) = true := decide_eq_true c7
            clear c7
            by_cases c8 : 0 ≤ x6_1
            · rw [if_pos c8] at H
              have c8b0 : decide (0 ≤ x6_1) = true := decide_eq_true c8
              clear c8
              by_cases c9 : x6_1 < (x5_1.length : Int)
              · rw [if_pos c9] at H
                have c9b0 : decide (x6_1 < (x5_1.length : Int)) = true := decide_eq_true c9
                clear c9
                obtain ⟨y170, hy170⟩ : ∃ y_ : List Int, y_ = (x5_1.set (x6_1 : Int).toNat ((Int.tmod x0_1 256) % 256)) := ⟨_, rfl⟩
                replace H : (rabbetref1_High.l0 k1 (IntKind.u64.wrap (Int.tdiv x0_1 256)) y170 (wrap64 (x6_1 - 1))) = some r := by first | (rw [hy170]; with_reducible exact H) | (have H2_ := (Option.bind_some _ _).symm.trans H; rw [hy170]; with_reducible exact H2_) | (have H2_ := (Option.bind_some _ _).symm.trans H; with_reducible exact H2_) | with_reducible exact H | (rw [hy170]; exact H) | exact H
                have Ny170 := Aside0.mk hy170
                clear hy170
                have H' := Aside0.mk H
                clear H
                have p10 : 0 ≤ (x6_1 : Int) := of_decide_eq_true (by first | (with_reducible assumption) | assumption)
                have q10 : (x6_1 : Int) < ((x5_1.length : Int) : Int) := of_decide_eq_true (by first | (with_reducible assumption) | assumption)
                obtain ⟨go10, co10, eo10, gb10, gl10, cl10, HG10⟩ := Kd.R_form HO_5.out (by omega)
                (first | cases eo10 | (injection eo10 with ea_ en_ ec_; (first | subst ea_ | (injection ea_ with ea_; subst ea_)); subst ec_; clear en_))
                have GB10 := Aside0.mk gb10
                have GG10 := Aside0.mk HG10
                clear gb10 gl10 HG10
                obtain ⟨hx10_0, hf10_0⟩ := Kd.R_celln 0 HO_5.out (x6_1 : Int) p10 q10
                replace p10 := eq_true p10
                replace q10 := eq_true q10
                have HP11 := Kd.R_putg HO_5.out (x6_1 : Int) ((Int.tmod x0_1 256) % 256)
                go_wp2_with (first | ((with_reducible refine gate_store (t := 5) (p := 20) rfl ?_); refine store_event (t := 5) (p := 20) (v := ?vo_w12) (w1 := (wr.setCell ⟨go10, (x6_1 : Int).toNat, none⟩ (.int .u8 ((Int.tmod x0_1 256) % 256)))) ?hg ?ho ?hn ?hr ?_; (case ho => rfl); (case hg => rfl); (case hn => rfl); (case hr => first | (go_simp; done) | (go_simp; rfl)); intro w12 hw; have hg : wr.grownBy w12 (some go10) := (by rw [hw]; exact HP11.2); have hp_ : Kd.R (Kd.int .u8) 5 w12 w.heap.size (fun _ => True) (.slice (some ⟨go10, 0, none⟩) x5_1.length co10) y170 := (by rw [hw, Ny170.out]; exact HP11.1); clear HP11; have n0_ := Aside0.mk (hp_); have n1_ := Aside0.mk ((by rw [hw]; exact below_set (HB.out) GB10.out : Below w.heap.size w w12)); clear HO_5; clear HB; have HO_5 := n0_; have HB := n1_; clear n0_ n1_; clear hg hw hp_))
                go_roundg k1
                case measure => have := HK1.out; omega
                case rel => exact ⟨(IntKind.u64.wrap (Int.tdiv x0_1 256)), (y170), (wrap64 (x6_1 - 1)), (by first | rfl | (simp; done) | (simp [*]; done)), (by first | rfl | (simp; done) | (simp [*]; done)), H', ⟨by have := HK1.out; omega⟩, ⟨by (with_reducible repeat (first | apply Kd.R_alloc | apply Kd.R_drewN | apply Kd.R_drew)); exact HO_5.out⟩, ⟨by repeat (first | (with_reducible first | exact HB.out | apply below_alloc | apply pw_below_drewN | apply below_drew1) | exact HB.out)⟩⟩
              · rw [if_neg c9] at H
                exact absurd H (by simp)
            · rw [if_neg c8] at H
              exact absurd H (by simp)
          · rw [if_neg c7] at H
            have c7b0 : decide (0 ≤ x6_1) = false := decide_eq_false c7
            clear c7
            obtain rfl := Option.some.inj H
            go_wp2
            go_ret
            exact ⟨_, by first | rfl | (simp [errW_none, errW_some] <;> rfl) | (simp [*, errW_none, errW_some] <;> rfl), by (with_reducible repeat (first | apply Kd.R_alloc | apply Kd.R_drewN | apply Kd.R_drew)); exact HO_5.out, by repeat (first | (with_reducible first | exact HB.out | apply below_alloc | apply pw_below_drewN | apply below_drew1) | exact HB.out)⟩
    · rw [if_neg c4] at H
      exact absurd H (by simp)
  · rw [if_neg c3] at H
    exact absurd H (by simp)

/-! ### rabbetref18_PutTag: function 13 -/
def rabbetref18_PutTag.f (k : Nat) (a0 : Int) (a1 : Int) (l2 : List Int) : Option (List Int × Bool) := if (l2.length : Int) > 110 then (some (([] : List Int), false)) else ((rabbetref1_High.f k (IntKind.u64.wrap (a0)) 4).bind fun t171 => ((rabbetref1_High.f k (IntKind.u64.wrap (a1)) 4).bind fun t174 => (if t171.length + t174.length < 140737488355328 then ((some (t171 ++ t174 : List Int)).bind fun y177 => ((some (([] : List Int) : List Int)).bind fun y180 => (if y180.length + y177.length < 140737488355328 then ((some (y180 ++ y177 : List Int)).bind fun y183 => (if y183.length < 140737488355328 then ((some (y183 ++ [((l2.length : Int)) % 256] : List Int)).bind fun y186 => (if y186.length + l2.length < 140737488355328 then ((some (y186 ++ l2 : List Int)).bind fun y189 => (if 0 ≤ (wrap64 (120 - (y189.length : Int))) then (if y189.length + (wrap64 (120 - (y189.length : Int)) : Int).toNat < 140737488355328 then ((some (y189 ++ List.replicate (wrap64 (120 - (y189.length : Int)) : Int).toNat 0 : List Int)).bind fun y192 => (if y192.length + y177.length < 140737488355328 then (some ((y192 ++ y177), true)) else (none))) else (none)) else (none))) else (none))) else (none))) else (none)))) else (none))))
theorem rabbetref18_PutTag.mono : ∀ a0 a1 a2 k, LeO (rabbetref18_PutTag.f k a0 a1 a2) (rabbetref18_PutTag.f (k + 1) a0 a1 a2) := by
  intro a0 a1 a2 k
  unfold rabbetref18_PutTag.f
  repeat' first
      | (with_reducible exact rabbetref1_High.mono _ _ _)
      | (with_reducible exact LeO.refl _)
      | (with_reducible exact LeO.none _)
      | (with_reducible refine LeO.ite ?_ ?_)
      | (with_reducible refine LeO.bind ?_ (fun _ => ?_))
      | exact rabbetref1_High.mono _ _ _
      | exact LeO.none _
      | refine LeO.ite ?_ ?_
      | refine LeO.bind ?_ (fun _ => ?_)
set_option maxHeartbeats 8000000 in
set_option maxRecDepth 100000 in
theorem rabbetref18_PutTag.calls (k : Nat) (a0 : Int) (a1 : Int) (A2 : Option Addr) (c2 : Nat) (l2 : List Int) (r1 : List Int) (r2 : Bool) (w : World) (hr2 : Kd.C (Kd.int .u8) w A2 l2.length l2) (hc2 : l2.length ≤ c2) (h : rabbetref18_PutTag.f k a0 a1 l2 = some (r1, r2)) :
    Calls Tryd.prog 13 #[.int .u32 a0, .int .u32 a1, .slice A2 l2.length c2] w fun e w' => ∃ v0_ : Value, e = .returned (.tuple #[v0_, .bool r2]) ∧ Kd.R (Kd.int .u8) 5 w' w.heap.size (fun _ => True) v0_ r1 ∧ Below w.heap.size w w' := by
  have HR2 := Aside0.mk hr2
  have HC2 := Aside0.mk hc2
  clear hr2 hc2
  have HB := Aside0.mk (Below.refl w.heap.size w)
  have H : (if (l2.length : Int) > 110 then (some (([] : List Int), false)) else ((rabbetref1_High.f k (IntKind.u64.wrap (a0)) 4).bind fun t171 => ((rabbetref1_High.f k (IntKind.u64.wrap (a1)) 4).bind fun t174 => (if t171.length + t174.length < 140737488355328 then ((some (t171 ++ t174 : List Int)).bind fun y177 => ((some (([] : List Int) : List Int)).bind fun y180 => (if y180.length + y177.length < 140737488355328 then ((some (y180 ++ y177 : List Int)).bind fun y183 => (if y183.length < 140737488355328 then ((some (y183 ++ [((l2.length : Int)) % 256] : List Int)).bind fun y186 => (if y186.length + l2.length < 140737488355328 then ((some (y186 ++ l2 : List Int)).bind fun y189 => (if 0 ≤ (wrap64 (120 - (y189.length : Int))) then (if y189.length + (wrap64 (120 - (y189.length : Int)) : Int).toNat < 140737488355328 then ((some (y189 ++ List.replicate (wrap64 (120 - (y189.length : Int)) : Int).toNat 0 : List Int)).bind fun y192 => (if y192.length + y177.length < 140737488355328 then (some ((y192 ++ y177), true)) else (none))) else (none)) else (none))) else (none))) else (none))) else (none)))) else (none))))) = some (r1, r2) := h
  clear h
  by_cases c4 : (l2.length : Int) > 110
  · rw [if_pos c4] at H
    have c4b0 : decide (110 < (l2.length : Int)) = true := decide_eq_true c4
    have c4b1 : decide (110 < l2.length) = true := decide_eq_true (by omega)
    clear c4
    simp only [Option.some.injEq, Prod.mk.injEq] at H
    obtain ⟨rfl, rfl⟩ := H
    go_enter Tryd.func13, Tryd.ntmps13
    go_wp2
    go_ret2
    exact ⟨_, by first | rfl | (simp [errW_none, errW_some] <;> rfl) | (simp [*, errW_none, errW_some] <;> rfl), by first | exact Kd.R_nil _ _ _ _ _ | exact Kd.N_nil _ _ _ _ _ | exact Kd.V_nil _ _ _ _ _ | exact Kd.Q_nil _ _ _ _ _ | exact Kd.S_nil _ _ _ _ _, by repeat (first | (with_reducible first | exact HB.out | apply below_alloc | apply pw_below_drewN | apply below_drew1) | exact HB.out)⟩
  · rw [if_neg c4] at H
    have c4b0 : decide (110 < (l2.length : Int)) = false := decide_eq_false c4
    have c4b1 : decide (110 < l2.length) = false := decide_eq_false (by omega)
    clear c4
    replace H := Option.bind_eq_some_iff.mp H
    obtain ⟨t171, A50, H⟩ := H
    replace H : ((rabbetref1_High.f k (IntKind.u64.wrap (a1)) 4).bind fun t174 => (if t171.length + t174.length < 140737488355328 then ((some (t171 ++ t174 : List Int)).bind fun y177 => ((some (([] : List Int) : List Int)).bind fun y180 => (if y180.length + y177.length < 140737488355328 then ((some (y180 ++ y177 : List Int)).bind fun y183 => (if y183.length < 140737488355328 then ((some (y183 ++ [((l2.length : Int)) % 256] : List Int)).bind fun y186 => (if y186.length + l2.length < 140737488355328 then ((some (y186 ++ l2 : List Int)).bind fun y189 => (if 0 ≤ (wrap64 (120 - (y189.length : Int))) then (if y189.length + (wrap64 (120 - (y189.length : Int)) : Int).toNat < 140737488355328 then ((some (y189 ++ List.replicate (wrap64 (120 - (y189.length : Int)) : Int).toNat 0 : List Int)).bind fun y192 => (if y192.length + y177.length < 140737488355328 then (some ((y192 ++ y177), true)) else (none))) else (none)) else (none))) else (none))) else (none))) else (none)))) else (none))) = some (r1, r2) := H
    have A5 := Aside0.mk A50
    clear A50
    replace H := Option.bind_eq_some_iff.mp H
    obtain ⟨t174, A60, H⟩ := H
    replace H : (if t171.length + t174.length < 140737488355328 then ((some (t171 ++ t174 : List Int)).bind fun y177 => ((some (([] : List Int) : List Int)).bind fun y180 => (if y180.length + y177.length < 140737488355328 then ((some (y180 ++ y177 : List Int)).bind fun y183 => (if y183.length < 140737488355328 then ((some (y183 ++ [((l2.length : Int)) % 256] : List Int)).bind fun y186 => (if y186.length + l2.length < 140737488355328 then ((some (y186 ++ l2 : List Int)).bind fun y189 => (if 0 ≤ (wrap64 (120 - (y189.length : Int))) then (if y189.length + (wrap64 (120 - (y189.length : Int)) : Int).toNat < 140737488355328 then ((some (y189 ++ List.replicate (wrap64 (120 - (y189.length : Int)) : Int).toNat 0 : List Int)).bind fun y192 => (if y192.length + y177.length < 140737488355328 then (some ((y192 ++ y177), true)) else (none))) else (none)) else (none))) else (none))) else (none))) else (none)))) else (none)) = some (r1, r2) := H
    have A6 := Aside0.mk A60
    clear A60
    by_cases c7 : t171.length + t174.length < 140737488355328
    · rw [if_pos c7] at H
      have LMc7 := Aside0.mk c7
      clear c7
      obtain ⟨y177, hy177⟩ : ∃ y_ : List Int, y_ = (t171 ++ t174) := ⟨_, rfl⟩
      replace H : ((some (([] : List Int) : List Int)).bind fun y180 => (if y180.length + y177.length < 140737488355328 then ((some (y180 ++ y177 : List Int)).bind fun y183 => (if y183.length < 140737488355328 then ((some (y183 ++ [((l2.length : Int)) % 256] : List Int)).bind fun y186 => (if y186.length + l2.length < 140737488355328 then ((some (y186 ++ l2 : List Int)).bind fun y189 => (if 0 ≤ (wrap64 (120 - (y189.length : Int))) then (if y189.length + (wrap64 (120 - (y189.length : Int)) : Int).toNat < 140737488355328 then ((some (y189 ++ List.replicate (wrap64 (120 - (y189.length : Int)) : Int).toNat 0 : List Int)).bind fun y192 => (if y192.length + y177.length < 140737488355328 then (some ((y192 ++ y177), true)) else (none))) else (none)) else (none))) else (none))) else (none))) else (none))) = some (r1, r2) := by first | (rw [hy177]; with_reducible exact H) | (have H2_ := (Option.bind_some _ _).symm.trans H; rw [hy177]; with_reducible exact H2_) | (have H2_ := (Option.bind_some _ _).symm.trans H; with_reducible exact H2_) | with_reducible exact H | (rw [hy177]; exact H) | exact H
      have Ny177 := Aside0.mk hy177
      clear hy177
      obtain ⟨y180, hy180⟩ : ∃ y_ : List Int, y_ = (([] : List Int)) := ⟨_, rfl⟩
      replace H : (if y180.length + y177.length < 140737488355328 then ((some (y180 ++ y177 : List Int)).bind fun y183 => (if y183.length < 140737488355328 then ((some (y183 ++ [((l2.length : Int)) % 256] : List Int)).bind fun y186 => (if y186.length + l2.length < 140737488355328 then ((some (y186 ++ l2 : List Int)).bind fun y189 => (if 0 ≤ (wrap64 (120 - (y189.length : Int))) then (if y189.length + (wrap64 (120 - (y189.length : Int)) : Int).toNat < 140737488355328 then ((some (y189 ++ List.replicate (wrap64 (120 - (y189.length : Int)) : Int).toNat 0 : List Int)).bind fun y192 => (if y192.length + y177.length < 140737488355328 then (some ((y192 ++ y177), true)) else (none))) else (none)) else (none))) else (none))) else (none))) else (none)) = some (r1, r2) := by first | (rw [hy180]; with_reducible exact H) | (have H2_ := (Option.bind_some _ _).symm.trans H; rw [hy180]; with_reducible exact H2_) | (have H2_ := (Option.bind_some _ _).symm.trans H; with_reducible exact H2_) | with_reducible exact H | (rw [hy180]; exact H) | exact H
      have Ny180 := Aside0.mk hy180
      clear hy180
      by_cases c8 : y180.length + y177.length < 140737488355328
      · rw [if_pos c8] at H
        have LMc8 := Aside0.mk c8
        clear c8
        obtain ⟨y183, hy183⟩ : ∃ y_ : List Int, y_ = (y180 ++ y177) := ⟨_, rfl⟩
        replace H : (if y183.length < 140737488355328 then ((some (y183 ++ [((l2.length : Int)) % 256] : List Int)).bind fun y186 => (if y186.length + l2.length < 140737488355328 then ((some (y186 ++ l2 : List Int)).bind fun y189 => (if 0 ≤ (wrap64 (120 - (y189.length : Int))) then (if y189.length + (wrap64 (120 - (y189.length : Int)) : Int).toNat < 140737488355328 then ((some (y189 ++ List.replicate (wrap64 (120 - (y189.length : Int)) : Int).toNat 0 : List Int)).bind fun y192 => (if y192.length + y177.length < 140737488355328 then (some ((y192 ++ y177), true)) else (none))) else (none)) else (none))) else (none))) else (none)) = some (r1, r2) := by first | (rw [hy183]; with_reducible exact H) | (have H2_ := (Option.bind_some _ _).symm.trans H; rw [hy183]; with_reducible exact H2_) | (have H2_ := (Option.bind_some _ _).symm.trans H; with_reducible exact H2_) | with_reducible exact H | (rw [hy183]; exact H) | exact H
        have Ny183 := Aside0.mk hy183
        clear hy183
        by_cases c9 : y183.length < 140737488355328
        · rw [if_pos c9] at H
          have LMc9 := Aside0.mk c9
          clear c9
          obtain ⟨y186, hy186⟩ : ∃ y_ : List Int, y_ = (y183 ++ [((l2.length : Int)) % 256]) := ⟨_, rfl⟩
          replace H : (if y186.length + l2.length < 140737488355328 then ((some (y186 ++ l2 : List Int)).bind fun y189 => (if 0 ≤ (wrap64 (120 - (y189.length : Int))) then (if y189.length + (wrap64 (120 - (y189.length : Int)) : Int).toNat < 140737488355328 then ((some (y189 ++ List.replicate (wrap64 (120 - (y189.length : Int)) : Int).toNat 0 : List Int)).bind fun y192 => (if y192.length + y177.length < 140737488355328 then (some ((y192 ++ y177), true)) else (none))) else (none)) else (none))) else (none)) = some (r1, r2) := by first | (rw [hy186]; with_reducible exact H) | (have H2_ := (Option.bind_some _ _).symm.trans H; rw [hy186]; with_reducible exact H2_) | (have H2_ := (Option.bind_some _ _).symm.trans H; with_reducible exact H2_) | with_reducible exact H | (rw [hy186]; exact H) | exact H
          have Ny186 := Aside0.mk hy186
          clear hy186
          by_cases c10 : y186.length + l2.length < 140737488355328
          · rw [if_pos c10] at H
            have LMc10 := Aside0.mk c10
            clear c10
            obtain ⟨y189, hy189⟩ : ∃ y_ : List Int, y_ = (y186 ++ l2) := ⟨_, rfl⟩
            replace H : (if 0 ≤ (wrap64 (120 - (y189.length : Int))) then (if y189.length + (wrap64 (120 - (y189.length : Int)) : Int).toNat < 140737488355328 then ((some (y189 ++ List.replicate (wrap64 (120 - (y189.length : Int)) : Int).toNat 0 : List Int)).bind fun y192 => (if y192.length + y177.length < 140737488355328 then (some ((y192 ++ y177), true)) else (none))) else (none)) else (none)) = some (r1, r2) := by first | (rw [hy189]; with_reducible exact H) | (have H2_ := (Option.bind_some _ _).symm.trans H; rw [hy189]; with_reducible exact H2_) | (have H2_ := (Option.bind_some _ _).symm.trans H; with_reducible exact H2_) | with_reducible exact H | (rw [hy189]; exact H) | exact H
            have Ny189 := Aside0.mk hy189
            clear hy189
            obtain ⟨ji11, hji11⟩ : ∃ j_ : Int, (wrap64 (120 - (y189.length : Int))) = j_ := ⟨_, rfl⟩
            replace H : (if 0 ≤ (ji11) then (if y189.length + (ji11 : Int).toNat < 140737488355328 then ((some (y189 ++ List.replicate (ji11 : Int).toNat 0 : List Int)).bind fun y192 => (if y192.length + y177.length < 140737488355328 then (some ((y192 ++ y177), true)) else (none))) else (none)) else (none)) = some (r1, r2) := by first | (rw [hji11] at H; exact H) | (simp only [hji11] at H ⊢; exact H) | exact H
            (try rw [hji11] at A5)
            (try rw [hji11] at A6)
            have hji11w : (IntKind.i64.wrap (120 - (y189.length : Int))) = ji11 := (i64_w _).trans hji11
            by_cases c12 : 0 ≤ (ji11)
            · rw [if_pos c12] at H
              have c12b0 := eq_true c12
              have c12b1 : decide (0 ≤ (ji11)) = true := decide_eq_true c12
              clear c12
              by_cases c13 : y189.length + (ji11 : Int).toNat < 140737488355328
              · rw [if_pos c13] at H
                have LMc13 := Aside0.mk c13
                clear c13
                obtain ⟨y192, hy192⟩ : ∃ y_ : List Int, y_ = (y189 ++ List.replicate (ji11 : Int).toNat 0) := ⟨_, rfl⟩
                replace H : (if y192.length + y177.length < 140737488355328 then (some ((y192 ++ y177), true)) else (none)) = some (r1, r2) := by first | (rw [hy192]; with_reducible exact H) | (have H2_ := (Option.bind_some _ _).symm.trans H; rw [hy192]; with_reducible exact H2_) | (have H2_ := (Option.bind_some _ _).symm.trans H; with_reducible exact H2_) | with_reducible exact H | (rw [hy192]; exact H) | exact H
                have Ny192 := Aside0.mk hy192
                clear hy192
                by_cases c14 : y192.length + y177.length < 140737488355328
                · rw [if_pos c14] at H
                  have LMc14 := Aside0.mk c14
                  clear c14
                  obtain ⟨y195, hy195⟩ : ∃ y_ : List Int, y_ = (y192 ++ y177) := ⟨_, rfl⟩
                  replace H : (some (y195, true)) = some (r1, r2) := by first | (rw [hy195]; with_reducible exact H) | (have H2_ := (Option.bind_some _ _).symm.trans H; rw [hy195]; with_reducible exact H2_) | (have H2_ := (Option.bind_some _ _).symm.trans H; with_reducible exact H2_) | with_reducible exact H | (rw [hy195]; exact H) | exact H
                  have Ny195 := Aside0.mk hy195
                  clear hy195
                  simp only [Option.some.injEq, Prod.mk.injEq] at H
                  obtain ⟨rfl, rfl⟩ := H
                  (try (have e_ : t171 = t174 := (by (with_reducible exact Option.some.inj (A5.out.symm.trans A6.out))); subst e_))
                  go_enter Tryd.func13, Tryd.ntmps13
                  go_wp2_with (first | ((with_reducible refine gate_callee (f := 31) rfl ?_); refine goesL_ (some 15) rfl rfl Tryd.func31 (by kernel_rfl) rfl #[.int .u64 (IntKind.u64.wrap (a0)), .int .i64 4] rfl (by (try simp only [List.map_toArray, List.map_cons, List.map_nil]); first | done | rfl | (simp only [List.length_drop, List.length_take]; rfl)) ?_; (with_reducible refine (rabbetref1_High.calls k (IntKind.u64.wrap (a0)) 4 t171 _ A5.out).mono ?_); rintro e w15 ⟨v172, rfl, ho0, hb⟩; refine ⟨_, rfl, ?_⟩; have n0_ := Aside0.mk (Kd.R_lower ho0 (below_size (by repeat (first | (with_reducible first | exact HB.out | apply below_alloc | apply pw_below_drewN | apply below_drew1) | exact HB.out)))); have n1_ := Aside0.mk (below_step (by repeat (first | (with_reducible first | exact HB.out | apply below_alloc | apply pw_below_drewN | apply below_drew1) | exact HB.out)) hb); clear HB; have HO173 := n0_; have HB := n1_; clear n0_ n1_; (try clear hb); (try clear hb2); (try clear hk); (try clear hi); (try clear ho0)) | ((with_reducible refine gate_callee (f := 31) rfl ?_); refine goesL_ (some 18) rfl rfl Tryd.func31 (by kernel_rfl) rfl #[.int .u64 (IntKind.u64.wrap (a1)), .int .i64 4] rfl (by (try simp only [List.map_toArray, List.map_cons, List.map_nil]); first | done | rfl | (simp only [List.length_drop, List.length_take]; rfl)) ?_; (with_reducible refine (rabbetref1_High.calls k (IntKind.u64.wrap (a1)) 4 t174 _ A6.out).mono ?_); rintro e w16 ⟨v175, rfl, ho0, hb⟩; refine ⟨_, rfl, ?_⟩; have n0_ := Aside0.mk (Kd.R_elder' (by (with_reducible repeat (first | apply Kd.R_alloc | apply Kd.R_drewN | apply Kd.R_drew)); exact HO173.out) (Kd.R_base ho0) hb); have n1_ := Aside0.mk (Kd.R_lower (Kd.R_new' ho0 (Kd.R_lt (by (with_reducible repeat (first | apply Kd.R_alloc | apply Kd.R_drewN | apply Kd.R_drew)); exact HO173.out))) (below_size (by repeat (first | (with_reducible first | exact HB.out | apply below_alloc | apply pw_below_drewN | apply below_drew1) | exact HB.out)))); have n2_ := Aside0.mk (below_step (by repeat (first | (with_reducible first | exact HB.out | apply below_alloc | apply pw_below_drewN | apply below_drew1) | exact HB.out)) hb); clear HO173; clear HB; have HO173 := n0_; have HO176 := n1_; have HB := n2_; clear n0_ n1_ n2_; (try clear hb); (try clear hb2); (try clear hk); (try clear hi); (try clear ho0); obtain ⟨Ao18, co18, eo18⟩ := Kd.R_slice HO176.out; subst eo18) | ((with_reducible refine gate_builtin (b := .append) (xs := #[.tmp 15, .tmp 18]) rfl ?_); at_builtin; refine Kd.R_append_rows (Kd.int .u8) (w0 := w) w.heap.size rfl (.tmp 15) (.tmp 18) 23 5 (.int .u8 0) 1 rfl Tryd.underlying23 info5 rfl (by decide) (by omega) v172 t171 t174 _ _ _ (fun k_ => some k_ ≠ (.slice Ao18 t174.length co18 : Value).ownBlock) (fun _ => False) rfl rfl ?aO ?aR (fun _ _ h => h) (fun _ h => h.elim) ?aF ?aB ?aS ?aL ?_; (case aR => repeat (first | exact (Kd.R_reads' HO176.out).2.2 | (with_reducible refine Kd.C_alloc ?_ _) | (with_reducible refine Kd.C_drewN ?_ _) | (with_reducible refine Kd.C_drew ?_))); (case aB => exact (by repeat (first | (with_reducible first | exact HB.out | apply below_alloc | apply pw_below_drewN | apply below_drew1) | exact HB.out))); (case aF => exact (fun k_ hk => Kd.fresh' (Kd.R_lt (by (with_reducible repeat (first | apply Kd.R_alloc | apply Kd.R_drewN | apply Kd.R_drew)); exact HO176.out)) k_ hk)); (case aO => exact (by (with_reducible repeat (first | apply Kd.R_alloc | apply Kd.R_drewN | apply Kd.R_drew)); exact Kd.R_mono HO173.out (fun _ hk => hk.2))); (case aS => exact (below_size (by repeat (first | (with_reducible first | exact HB.out | apply below_alloc | apply pw_below_drewN | apply below_drew1) | exact HB.out)))); (case aL => have := LMc7.out; omega); intro v178 w17 ho hb hg hat; rw [← Ny177.out] at ho; have n0_ := Aside0.mk (Kd.R_after (ok := (fun _ => True)) (by (with_reducible repeat (first | apply Kd.R_alloc | apply Kd.R_drewN | apply Kd.R_drew)); exact HO176.out) hg hat); have n1_ := Aside0.mk (hb); have n2_ := Aside0.mk (ho); clear HO176; clear HB; clear HO173; have HO176 := n0_; have HB := n1_; have HO179 := n2_; clear n0_ n1_ n2_; clear ho hb hg hat) | ((with_reducible refine gate_dst (N := 20) rfl ?_); refine Kd.R_lit (Kd.int .u8) _ 5 ?hg (N := 20) ?hd (xs := ([] : List Int)) (inner := []) (ok := fun _ => True) (okp := fun _ => True) ?hr ?hp (fun _ hk => hk) trivial (Below.refl _ _) (Nat.le_refl _) (by simp) ?_; (case hd => rfl); (case hg => rfl); (case hr => first | (go_simp; done) | (go_simp; rfl)); (case hp => exact (Reps.none _ _)); intro v181 w19 ho20 hb hg_ hnew_; clear hg_ hnew_; (first | rw [← Ny180.out] at ho20 | (simp only [Int.reduceToNat] at ho20; rw [← Ny180.out] at ho20)); have n0_ := Aside0.mk (Kd.R_elder' (by (with_reducible repeat (first | apply Kd.R_alloc | apply Kd.R_drewN | apply Kd.R_drew)); exact HO176.out) (Kd.R_base ho20) hb); have n1_ := Aside0.mk (Kd.R_elder' (by (with_reducible repeat (first | apply Kd.R_alloc | apply Kd.R_drewN | apply Kd.R_drew)); exact HO179.out) (Kd.R_base ho20) hb); have n2_ := Aside0.mk (Kd.R_lower (Kd.R_new' (Kd.R_new' ho20 (Kd.R_lt (by (with_reducible repeat (first | apply Kd.R_alloc | apply Kd.R_drewN | apply Kd.R_drew)); exact HO176.out))) (Kd.R_lt (by (with_reducible repeat (first | apply Kd.R_alloc | apply Kd.R_drewN | apply Kd.R_drew)); exact HO179.out))) (below_size (by repeat (first | (with_reducible first | exact HB.out | apply below_alloc | apply pw_below_drewN | apply below_drew1) | exact HB.out)))); have n3_ := Aside0.mk (below_step (by repeat (first | (with_reducible first | exact HB.out | apply below_alloc | apply pw_below_drewN | apply below_drew1) | exact HB.out)) hb); clear HO176; clear HO179; clear HB; have HO176 := n0_; have HO179 := n1_; have HO182 := n2_; have HB := n3_; clear n0_ n1_ n2_ n3_; clear hb ho20; obtain ⟨Ao22, co22, eo22⟩ := Kd.R_slice HO179.out; subst eo22) | ((with_reducible refine gate_builtin (b := .append) (xs := #[.tmp 20, .tmp 21]) rfl ?_); at_builtin; refine Kd.R_append_rows (Kd.int .u8) (w0 := w) w.heap.size rfl (.tmp 20) (.tmp 21) 23 5 (.int .u8 0) 1 rfl Tryd.underlying23 info5 rfl (by decide) (by omega) v181 y180 y177 _ _ _ (fun k_ => some k_ ≠ (.slice Ao18 t174.length co18 : Value).ownBlock ∧ some k_ ≠ (.slice Ao22 y177.length co22 : Value).ownBlock) (fun _ => False) rfl rfl ?aO ?aR (fun _ _ h => h) (fun _ h => h.elim) ?aF ?aB ?aS ?aL ?_; (case aR => repeat (first | exact (Kd.R_reads' HO179.out).2.2 | (with_reducible refine Kd.C_alloc ?_ _) | (with_reducible refine Kd.C_drewN ?_ _) | (with_reducible refine Kd.C_drew ?_))); (case aB => exact (by repeat (first | (with_reducible first | exact HB.out | apply below_alloc | apply pw_below_drewN | apply below_drew1) | exact HB.out))); (case aF => exact (fun k_ hk => ⟨Kd.fresh' (Kd.R_lt (by (with_reducible repeat (first | apply Kd.R_alloc | apply Kd.R_drewN | apply Kd.R_drew)); exact HO176.out)) k_ hk, Kd.fresh' (Kd.R_lt (by (with_reducible repeat (first | apply Kd.R_alloc | apply Kd.R_drewN | apply Kd.R_drew)); exact HO179.out)) k_ hk⟩)); (case aO => exact (by (with_reducible repeat (first | apply Kd.R_alloc | apply Kd.R_drewN | apply Kd.R_drew)); exact Kd.R_mono HO182.out (fun _ hk => ⟨hk.1.2, hk.2⟩))); (case aS => exact (below_size (by repeat (first | (with_reducible first | exact HB.out | apply below_alloc | apply pw_below_drewN | apply below_drew1) | exact HB.out)))); (case aL => have := LMc8.out; omega); intro v184 w21 ho hb hg hat; rw [← Ny183.out] at ho; have n0_ := Aside0.mk (Kd.R_after (ok := (fun k_ => some k_ ≠ (.slice Ao22 y177.length co22 : Value).ownBlock)) (by (with_reducible repeat (first | apply Kd.R_alloc | apply Kd.R_drewN | apply Kd.R_drew)); exact Kd.R_mono HO176.out (fun _ hk => ⟨hk.1.2, hk.2⟩)) hg hat); have n1_ := Aside0.mk (Kd.R_after (ok := (fun k_ => some k_ ≠ (.slice Ao18 t174.length co18 : Value).ownBlock)) (by (with_reducible repeat (first | apply Kd.R_alloc | apply Kd.R_drewN | apply Kd.R_drew)); exact HO179.out) hg hat); have n2_ := Aside0.mk (hb); have n3_ := Aside0.mk (ho); clear HO176; clear HO179; clear HB; clear HO182; have HO176 := n0_; have HO179 := n1_; have HB := n2_; have HO185 := n3_; clear n0_ n1_ n2_ n3_; clear ho hb hg hat) | ((with_reducible refine gate_builtin (b := .append) (xs := #[.tmp 22, .tmp 26]) rfl ?_); at_builtin; refine Kd.R_append (Kd.int .u8) (w0 := w) w.heap.size rfl (.tmp 22) (.tmp 26) 23 5 (.int .u8 0) 1 rfl Tryd.underlying23 info5 rfl (by decide) (by omega) v184 y183 (((l2.length : Int)) % 256) [.int .u8 (((l2.length : Int)) % 256)] (fun k_ => some k_ ≠ (.slice Ao18 t174.length co18 : Value).ownBlock ∧ some k_ ≠ (.slice Ao22 y177.length co22 : Value).ownBlock) (fun _ => False) rfl rfl ?aP (fun _ hk => hk.elim) ?aF ?aO ?aB ?aS ?aL ?_; (case aP => exact rfl); (case aB => exact (by repeat (first | (with_reducible first | exact HB.out | apply below_alloc | apply pw_below_drewN | apply below_drew1) | exact HB.out))); (case aF => exact (fun k_ hk => ⟨Kd.fresh' (Kd.R_lt (by (with_reducible repeat (first | apply Kd.R_alloc | apply Kd.R_drewN | apply Kd.R_drew)); exact HO176.out)) k_ hk, Kd.fresh' (Kd.R_lt (by (with_reducible repeat (first | apply Kd.R_alloc | apply Kd.R_drewN | apply Kd.R_drew)); exact HO179.out)) k_ hk⟩)); (case aO => exact (by (with_reducible repeat (first | apply Kd.R_alloc | apply Kd.R_drewN | apply Kd.R_drew)); exact HO185.out)); (case aS => exact (below_size (by repeat (first | (with_reducible first | exact HB.out | apply below_alloc | apply pw_below_drewN | apply below_drew1) | exact HB.out)))); (case aL => have := LMc9.out; omega); intro v187 w23 ho hb hg hat; rw [← Ny186.out] at ho; have n0_ := Aside0.mk (Kd.R_after (ok := (fun k_ => some k_ ≠ (.slice Ao22 y177.length co22 : Value).ownBlock)) (by (with_reducible repeat (first | apply Kd.R_alloc | apply Kd.R_drewN | apply Kd.R_drew)); exact HO176.out) hg hat); have n1_ := Aside0.mk (Kd.R_after (ok := (fun k_ => some k_ ≠ (.slice Ao18 t174.length co18 : Value).ownBlock)) (by (with_reducible repeat (first | apply Kd.R_alloc | apply Kd.R_drewN | apply Kd.R_drew)); exact HO179.out) hg hat); have n2_ := Aside0.mk (hb); have n3_ := Aside0.mk (ho); clear HO176; clear HO179; clear HB; clear HO185; have HO176 := n0_; have HO179 := n1_; have HB := n2_; have HO188 := n3_; clear n0_ n1_ n2_ n3_; clear ho hb hg hat) | ((with_reducible refine gate_builtin (b := .append) (xs := #[.tmp 27, .tmp 28]) rfl ?_); at_builtin; refine Kd.R_append_rows (Kd.int .u8) (w0 := w) w.heap.size rfl (.tmp 27) (.tmp 28) 23 5 (.int .u8 0) 1 rfl Tryd.underlying23 info5 rfl (by decide) (by omega) v187 y186 l2 _ _ _ (fun k_ => some k_ ≠ (.slice Ao18 t174.length co18 : Value).ownBlock ∧ some k_ ≠ (.slice Ao22 y177.length co22 : Value).ownBlock) (fun _ => False) rfl rfl ?aO ?aR (fun _ _ h => h) (fun _ h => h.elim) ?aF ?aB ?aS ?aL ?_; (case aR => repeat (first | exact (Kd.C_below HR2.out HB.out) | (with_reducible refine Kd.C_alloc ?_ _) | (with_reducible refine Kd.C_drewN ?_ _) | (with_reducible refine Kd.C_drew ?_))); (case aB => exact (by repeat (first | (with_reducible first | exact HB.out | apply below_alloc | apply pw_below_drewN | apply below_drew1) | exact HB.out))); (case aF => exact (fun k_ hk => ⟨Kd.fresh' (Kd.R_lt (by (with_reducible repeat (first | apply Kd.R_alloc | apply Kd.R_drewN | apply Kd.R_drew)); exact HO176.out)) k_ hk, Kd.fresh' (Kd.R_lt (by (with_reducible repeat (first | apply Kd.R_alloc | apply Kd.R_drewN | apply Kd.R_drew)); exact HO179.out)) k_ hk⟩)); (case aO => exact (by (with_reducible repeat (first | apply Kd.R_alloc | apply Kd.R_drewN | apply Kd.R_drew)); exact HO188.out)); (case aS => exact (below_size (by repeat (first | (with_reducible first | exact HB.out | apply below_alloc | apply pw_below_drewN | apply below_drew1) | exact HB.out)))); (case aL => have := LMc10.out; omega); intro v190 w24 ho hb hg hat; rw [← Ny189.out] at ho; have n0_ := Aside0.mk (Kd.R_after (ok := (fun k_ => some k_ ≠ (.slice Ao22 y177.length co22 : Value).ownBlock)) (by (with_reducible repeat (first | apply Kd.R_alloc | apply Kd.R_drewN | apply Kd.R_drew)); exact HO176.out) hg hat); have n1_ := Aside0.mk (Kd.R_after (ok := (fun k_ => some k_ ≠ (.slice Ao18 t174.length co18 : Value).ownBlock)) (by (with_reducible repeat (first | apply Kd.R_alloc | apply Kd.R_drewN | apply Kd.R_drew)); exact HO179.out) hg hat); have n2_ := Aside0.mk (hb); have n3_ := Aside0.mk (ho); clear HO176; clear HO179; clear HB; clear HO188; have HO176 := n0_; have HO179 := n1_; have HB := n2_; have HO191 := n3_; clear n0_ n1_ n2_ n3_; clear ho hb hg hat; obtain ⟨Ao25, co25, eo25⟩ := Kd.R_slice HO191.out; subst eo25) | (at_builtin; refine Kd.R_append_zeros (Kd.int .u8) (w0 := w) w.heap.size rfl (.tmp 30) (.tmp 33) 23 3 5 (.int .u8 0) 1 rfl Tryd.underlying23 Tryd.underlying3 info5 rfl (by decide) (by omega) (.slice Ao25 y189.length co25) y189 0 (ji11 : Int) (fun k_ => some k_ ≠ (.slice Ao18 t174.length co18 : Value).ownBlock ∧ some k_ ≠ (.slice Ao22 y177.length co22 : Value).ownBlock) rfl rfl rfl ?aF ?aO (of_decide_eq_true (by first | (with_reducible assumption) | assumption)) ?aB ?aS ?aL ?_; (case aB => exact (by repeat (first | (with_reducible first | exact HB.out | apply below_alloc | apply pw_below_drewN | apply below_drew1) | exact HB.out))); (case aF => exact (fun k_ hk => ⟨Kd.fresh' (Kd.R_lt (by (with_reducible repeat (first | apply Kd.R_alloc | apply Kd.R_drewN | apply Kd.R_drew)); exact HO176.out)) k_ hk, Kd.fresh' (Kd.R_lt (by (with_reducible repeat (first | apply Kd.R_alloc | apply Kd.R_drewN | apply Kd.R_drew)); exact HO179.out)) k_ hk⟩)); (case aO => exact (by (with_reducible repeat (first | apply Kd.R_alloc | apply Kd.R_drewN | apply Kd.R_drew)); exact HO191.out)); (case aS => exact (below_size (by repeat (first | (with_reducible first | exact HB.out | apply below_alloc | apply pw_below_drewN | apply below_drew1) | exact HB.out)))); (case aL => have := LMc13.out; omega); intro v193 w26 ho hb hg hat; rw [← Ny192.out] at ho; have n0_ := Aside0.mk (Kd.R_after (ok := (fun k_ => some k_ ≠ (.slice Ao22 y177.length co22 : Value).ownBlock)) (by (with_reducible repeat (first | apply Kd.R_alloc | apply Kd.R_drewN | apply Kd.R_drew)); exact HO176.out) hg hat); have n1_ := Aside0.mk (Kd.R_after (ok := (fun k_ => some k_ ≠ (.slice Ao18 t174.length co18 : Value).ownBlock)) (by (with_reducible repeat (first | apply Kd.R_alloc | apply Kd.R_drewN | apply Kd.R_drew)); exact HO179.out) hg hat); have n2_ := Aside0.mk (hb); have n3_ := Aside0.mk (ho); clear HO176; clear HO179; clear HB; clear HO191; have HO176 := n0_; have HO179 := n1_; have HB := n2_; have HO194 := n3_; clear n0_ n1_ n2_ n3_; clear ho hb hg hat) | ((with_reducible refine gate_builtin (b := .append) (xs := #[.tmp 35, .tmp 36]) rfl ?_); at_builtin; refine Kd.R_append_rows (Kd.int .u8) (w0 := w) w.heap.size rfl (.tmp 35) (.tmp 36) 23 5 (.int .u8 0) 1 rfl Tryd.underlying23 info5 rfl (by decide) (by omega) v193 y192 y177 _ _ _ (fun k_ => some k_ ≠ (.slice Ao18 t174.length co18 : Value).ownBlock ∧ some k_ ≠ (.slice Ao22 y177.length co22 : Value).ownBlock) (fun _ => False) rfl rfl ?aO ?aR (fun _ _ h => h) (fun _ h => h.elim) ?aF ?aB ?aS ?aL ?_; (case aR => repeat (first | exact (Kd.R_reads' HO179.out).2.2 | (with_reducible refine Kd.C_alloc ?_ _) | (with_reducible refine Kd.C_drewN ?_ _) | (with_reducible refine Kd.C_drew ?_))); (case aB => exact (by repeat (first | (with_reducible first | exact HB.out | apply below_alloc | apply pw_below_drewN | apply below_drew1) | exact HB.out))); (case aF => exact (fun k_ hk => ⟨Kd.fresh' (Kd.R_lt (by (with_reducible repeat (first | apply Kd.R_alloc | apply Kd.R_drewN | apply Kd.R_drew)); exact HO176.out)) k_ hk, Kd.fresh' (Kd.R_lt (by (with_reducible repeat (first | apply Kd.R_alloc | apply Kd.R_drewN | apply Kd.R_drew)); exact HO179.out)) k_ hk⟩)); (case aO => exact (by (with_reducible repeat (first | apply Kd.R_alloc | apply Kd.R_drewN | apply Kd.R_drew)); exact HO194.out)); (case aS => exact (below_size (by repeat (first | (with_reducible first | exact HB.out | apply below_alloc | apply pw_below_drewN | apply below_drew1) | exact HB.out)))); (case aL => have := LMc14.out; omega); intro v196 w27 ho hb hg hat; rw [← Ny195.out] at ho; have n0_ := Aside0.mk (Kd.R_after (ok := (fun k_ => some k_ ≠ (.slice Ao22 y177.length co22 : Value).ownBlock)) (by (with_reducible repeat (first | apply Kd.R_alloc | apply Kd.R_drewN | apply Kd.R_drew)); exact HO176.out) hg hat); have n1_ := Aside0.mk (Kd.R_after (ok := (fun k_ => some k_ ≠ (.slice Ao18 t174.length co18 : Value).ownBlock)) (by (with_reducible repeat (first | apply Kd.R_alloc | apply Kd.R_drewN | apply Kd.R_drew)); exact HO179.out) hg hat); have n2_ := Aside0.mk (hb); have n3_ := Aside0.mk (ho); clear HO176; clear HO179; clear HB; clear HO194; have HO176 := n0_; have HO179 := n1_; have HB := n2_; have HO197 := n3_; clear n0_ n1_ n2_ n3_; clear ho hb hg hat))
                  go_ret2
                  exact ⟨_, by first | rfl | (simp [errW_none, errW_some] <;> rfl) | (simp only [← hji11]; first | rfl | (simp [errW_none, errW_some] <;> rfl)) | (simp [*, errW_none, errW_some] <;> rfl), by (with_reducible repeat (first | apply Kd.R_alloc | apply Kd.R_drewN | apply Kd.R_drew)); exact Kd.R_mono HO197.out (fun _ hk => trivial), by repeat (first | (with_reducible first | exact HB.out | apply below_alloc | apply pw_below_drewN | apply below_drew1) | exact HB.out)⟩
                · rw [if_neg c14] at H
                  exact absurd H (by simp)
              · rw [if_neg c13] at H
                exact absurd H (by simp)
            · rw [if_neg c12] at H
              exact absurd H (by simp)
          · rw [if_neg c10] at H
            exact absurd H (by simp)
        · rw [if_neg c9] at H
          exact absurd H (by simp)
      · rw [if_neg c8] at H
        exact absurd H (by simp)
    · rw [if_neg c7] at H
      exact absurd H (by simp)

/-! ### rabbetref18_TakeTag: function 15 -/
def rabbetref18_TakeTag.j0 : Nat → Int → Int → List Int → Bool → Option (List Int × Bool)
  | 0, _, _, _, _ => none
  | k + 1, x0, x1, x2, x20 => if x20 = true then (some (([] : List Int), false)) else ((some (([] : List Int) : List Int)).bind fun y199 => (if 8 < (x2.length : Int) then (if 9 ≤ (wrap64 (9 + (wrap64 (rd x2 8)))) then (if (wrap64 (9 + (wrap64 (rd x2 8)))) ≤ (x2.length : Int) then (if y199.length + ((x2.take ((wrap64 (9 + (wrap64 (rd x2 8)))) : Int).toNat).drop 9).length < 140737488355328 then ((some (y199 ++ ((x2.take ((wrap64 (9 + (wrap64 (rd x2 8)))) : Int).toNat).drop 9) : List Int)).bind fun y204 => ((rabbetref18_PutTag.f k x0 x1 y204).bind fun bt207 => (if (strOfNums bt207.1).toList = (strOfNums x2).toList then (some (y204, true)) else (some (([] : List Int), false))))) else (none)) else (none)) else (none)) else (none)))
def rabbetref18_TakeTag.f (k : Nat) (a0 : Int) (a1 : Int) (l2 : List Int) : Option (List Int × Bool) := if (l2.length : Int) = 128 then (if 8 < (l2.length : Int) then (rabbetref18_TakeTag.j0 k a0 a1 l2 (decide ((wrap64 (rd l2 8)) > 110))) else (none)) else (rabbetref18_TakeTag.j0 k a0 a1 l2 true)
theorem rabbetref18_TakeTag.mono_l : ∀ k, (∀ y0 y1 y2 y3, LeO (rabbetref18_TakeTag.j0 k y0 y1 y2 y3) (rabbetref18_TakeTag.j0 (k + 1) y0 y1 y2 y3))
  | 0 => fun _ _ _ _ r h => by simp [rabbetref18_TakeTag.j0] at h
  | k + 1 => by
    have ih0 := rabbetref18_TakeTag.mono_l k
    · intro y0 y1 y2 y3
      unfold rabbetref18_TakeTag.j0
      repeat' first
      | (with_reducible exact ih0 _ _ _ _)
      | (with_reducible exact rabbetref18_PutTag.mono _ _ _ _)
      | (with_reducible exact LeO.refl _)
      | (with_reducible exact LeO.none _)
      | (with_reducible refine LeO.ite ?_ ?_)
      | (with_reducible refine LeO.bind ?_ (fun _ => ?_))
      | exact ih0 _ _ _ _
      | exact rabbetref18_PutTag.mono _ _ _ _
      | exact LeO.none _
      | refine LeO.ite ?_ ?_
      | refine LeO.bind ?_ (fun _ => ?_)
theorem rabbetref18_TakeTag.mono : ∀ a0 a1 a2 k, LeO (rabbetref18_TakeTag.f k a0 a1 a2) (rabbetref18_TakeTag.f (k + 1) a0 a1 a2) := by
  intro a0 a1 a2 k
  have ih0 := rabbetref18_TakeTag.mono_l k
  unfold rabbetref18_TakeTag.f
  repeat' first
      | (with_reducible exact ih0 _ _ _ _)
      | (with_reducible exact rabbetref18_PutTag.mono _ _ _ _)
      | (with_reducible exact LeO.refl _)
      | (with_reducible exact LeO.none _)
      | (with_reducible refine LeO.ite ?_ ?_)
      | (with_reducible refine LeO.bind ?_ (fun _ => ?_))
      | exact ih0 _ _ _ _
      | exact rabbetref18_PutTag.mono _ _ _ _
      | exact LeO.none _
      | refine LeO.ite ?_ ?_
      | refine LeO.bind ?_ (fun _ => ?_)
set_option maxHeartbeats 8000000 in
set_option maxRecDepth 100000 in
theorem rabbetref18_TakeTag.calls (k : Nat) (a0 : Int) (a1 : Int) (A2 : Option Addr) (c2 : Nat) (l2 : List Int) (r1 : List Int) (r2 : Bool) (w : World) (hr2 : Kd.C (Kd.int .u8) w A2 l2.length l2) (hc2 : l2.length ≤ c2) (h : rabbetref18_TakeTag.f k a0 a1 l2 = some (r1, r2)) :
    Calls Tryd.prog 15 #[.int .u32 a0, .int .u32 a1, .slice A2 l2.length c2] w fun e w' => ∃ v0_ : Value, e = .returned (.tuple #[v0_, .bool r2]) ∧ Kd.R (Kd.int .u8) 5 w' w.heap.size (fun _ => True) v0_ r1 ∧ Below w.heap.size w w' := by
  have HR2 := Aside0.mk hr2
  have HC2 := Aside0.mk hc2
  clear hr2 hc2
  have HB := Aside0.mk (Below.refl w.heap.size w)
  have H : (if (l2.length : Int) = 128 then (if 8 < (l2.length : Int) then (rabbetref18_TakeTag.j0 k a0 a1 l2 (decide ((wrap64 (rd l2 8)) > 110))) else (none)) else (rabbetref18_TakeTag.j0 k a0 a1 l2 true)) = some (r1, r2) := h
  clear h
  have HC4 := Aside0.mk H
  clear H
  go_enter Tryd.func15, Tryd.ntmps15
  go_upto_region 1 with (fail)
  go_cut [20] (fun v20 wc => ∃ (kq : Nat) (x20_3 : Bool), v20 = .bool x20_3 ∧ Aside0 (rabbetref18_TakeTag.j0 kq a0 a1 l2 x20_3 = some (r1, r2)) ∧ Aside0 (kq ≤ k) ∧ Aside0 (Below w.heap.size w wc))
  case first =>
    have H := HC4.out
    clear HC4
    by_cases c5 : (l2.length : Int) = 128
    · rw [if_pos c5] at H
      have c5b0 : ((l2.length : Int) == 128) = true := beq_iff_eq.mpr c5
      have c5b1 : ((l2.length : Int) != 128) = false := bne_eq_false_iff_eq.mpr c5
      clear c5
      (first | rw [c5b0] | rw [c5b1] | (simp only [i64_w, i32_w]; rw [c5b0]) | skip)
      by_cases c6 : 8 < (l2.length : Int)
      · rw [if_pos c6] at H
        have c6b0 : decide (8 < (l2.length : Int)) = true := decide_eq_true c6
        have c6b1 : decide (8 < l2.length) = true := decide_eq_true (by omega)
        clear c6
        have H' := Aside0.mk H
        clear H
        have p198 : 0 ≤ (8 : Int) := (by omega)
        have q198 : 8 < (l2.length : Int) := of_decide_eq_true (by first | (with_reducible assumption) | assumption)
        obtain ⟨ad198, e198, hx198_0⟩ := Kd.at_int HR2.out 8 p198 q198
        cases e198
        (try simp only [show (8 : Int).toNat = 8 from rfl, Nat.reduceMul, Nat.reduceEqDiff, Go.Addr.add, ↓reduceIte] at hx198_0)
        have qi198 : (8 < l2.length) = True := eq_true (by omega)
        (try rw [show ((8 : Int)).toNat = 8 from rfl] at hx198_0)
        replace hx198_0 := (HB.out.cell (World.block_lt_of_cell? w _ hx198_0)).trans hx198_0
        replace p198 := eq_true p198
        replace q198 := eq_true q198
        go_wp2
        go_meet
        case rel => exact ⟨_, (decide ((wrap64 (rd l2 8)) > 110)), (by first | rfl | (simp; done) | (simp [*]; done)), H', ⟨by first | omega | exact Nat.le_refl _⟩, ⟨by repeat (first | (with_reducible first | exact HB.out | apply below_alloc | apply pw_below_drewN | apply below_drew1) | exact HB.out)⟩⟩
      · rw [if_neg c6] at H
        exact absurd H (by simp)
    · rw [if_neg c5] at H
      have c5b0 : ((l2.length : Int) == 128) = false := beq_eq_false_iff_ne.mpr c5
      have c5b1 : ((l2.length : Int) != 128) = true := bne_iff_ne.mpr c5
      (first | rw [c5b0] | rw [c5b1] | (simp only [i64_w, i32_w]; rw [c5b0]) | skip)
      have H' := Aside0.mk H
      clear H
      go_wp2
      go_meet
      case rel => exact ⟨_, (true), (by first | rfl | (simp; done) | (simp [*]; done)), H', ⟨by first | omega | exact Nat.le_refl _⟩, ⟨by repeat (first | (with_reducible first | exact HB.out | apply below_alloc | apply pw_below_drewN | apply below_drew1) | exact HB.out)⟩⟩
  case rest =>
    clear HC4
    try clear c1
    try clear p1
    try clear q1
    try clear hx1
    try clear qi1
    try clear c2
    try clear p2
    try clear c5
    try clear c5b0
    try clear c5b1
    try clear c6
    try clear c6b0
    try clear c6b1
    try clear p6
    try clear hx198_0
    try clear p198
    try clear q198
    obtain ⟨kq, x20_3, rfl, HA, HJ3, HB⟩ := hcut
    cases kq with
    | zero => exact absurd HA.out (by simp [rabbetref18_TakeTag.j0])
    | succ kj3 =>
      have H := HA.out
      clear HA
      simp only [rabbetref18_TakeTag.j0] at H
      by_cases c7 : x20_3 = true
      · subst c7
        have H1 : (some (([] : List Int), false)) = some (r1, r2) := by rw [if_pos rfl] at H; exact H
        clear H
        have H := H1
        clear H1
        simp only [Option.some.injEq, Prod.mk.injEq] at H
        obtain ⟨rfl, rfl⟩ := H
        go_wp2
        go_ret2
        exact ⟨_, by first | rfl | (simp [errW_none, errW_some] <;> rfl) | (simp [*, errW_none, errW_some] <;> rfl), by first | exact Kd.R_nil _ _ _ _ _ | exact Kd.N_nil _ _ _ _ _ | exact Kd.V_nil _ _ _ _ _ | exact Kd.Q_nil _ _ _ _ _ | exact Kd.S_nil _ _ _ _ _, by repeat (first | (with_reducible first | exact HB.out | apply below_alloc | apply pw_below_drewN | apply below_drew1) | exact HB.out)⟩
      · replace c7 := Bool.eq_false_iff.mpr c7
        subst c7
        have H1 : ((some (([] : List Int) : List Int)).bind fun y199 => (if 8 < (l2.length : Int) then (if 9 ≤ (wrap64 (9 + (wrap64 (rd l2 8)))) then (if (wrap64 (9 + (wrap64 (rd l2 8)))) ≤ (l2.length : Int) then (if y199.length + ((l2.take ((wrap64 (9 + (wrap64 (rd l2 8)))) : Int).toNat).drop 9).length < 140737488355328 then ((some (y199 ++ ((l2.take ((wrap64 (9 + (wrap64 (rd l2 8)))) : Int).toNat).drop 9) : List Int)).bind fun y204 => ((rabbetref18_PutTag.f kj3 a0 a1 y204).bind fun bt207 => (if (strOfNums bt207.1).toList = (strOfNums l2).toList then (some (y204, true)) else (some (([] : List Int), false))))) else (none)) else (none)) else (none)) else (none))) = some (r1, r2) := by rw [if_neg (show ¬ (false = true) by decide)] at H; exact H
        clear H
        have H := H1
        clear H1
        obtain ⟨y199, hy199⟩ : ∃ y_ : List Int, y_ = (([] : List Int)) := ⟨_, rfl⟩
        replace H : (if 8 < (l2.length : Int) then (if 9 ≤ (wrap64 (9 + (wrap64 (rd l2 8)))) then (if (wrap64 (9 + (wrap64 (rd l2 8)))) ≤ (l2.length : Int) then (if y199.length + ((l2.take ((wrap64 (9 + (wrap64 (rd l2 8)))) : Int).toNat).drop 9).length < 140737488355328 then ((some (y199 ++ ((l2.take ((wrap64 (9 + (wrap64 (rd l2 8)))) : Int).toNat).drop 9) : List Int)).bind fun y204 => ((rabbetref18_PutTag.f kj3 a0 a1 y204).bind fun bt207 => (if (strOfNums bt207.1).toList = (strOfNums l2).toList then (some (y204, true)) else (some (([] : List Int), false))))) else (none)) else (none)) else (none)) else (none)) = some (r1, r2) := by first | (rw [hy199]; with_reducible exact H) | (have H2_ := (Option.bind_some _ _).symm.trans H; rw [hy199]; with_reducible exact H2_) | (have H2_ := (Option.bind_some _ _).symm.trans H; with_reducible exact H2_) | with_reducible exact H | (rw [hy199]; exact H) | exact H
        have Ny199 := Aside0.mk hy199
        clear hy199
        by_cases c8 : 8 < (l2.length : Int)
        · rw [if_pos c8] at H
          have c8b0 : decide (8 < (l2.length : Int)) = true := decide_eq_true c8
          have c8b1 : decide (8 < l2.length) = true := decide_eq_true (by omega)
          clear c8
          by_cases c9 : 9 ≤ (wrap64 (9 + (wrap64 (rd l2 8))))
          · rw [if_pos c9] at H
            have c9b0 := eq_true c9
            have c9b1 : decide (9 ≤ (wrap64 (9 + (wrap64 (rd l2 8))))) = true := decide_eq_true c9
            by_cases c10 : (wrap64 (9 + (wrap64 (rd l2 8)))) ≤ (l2.length : Int)
            · rw [if_pos c10] at H
              have c10b0 := eq_true c10
              have c10b1 : decide ((wrap64 (9 + (wrap64 (rd l2 8)))) ≤ (l2.length : Int)) = true := decide_eq_true c10
              by_cases c11 : y199.length + ((l2.take ((wrap64 (9 + (wrap64 (rd l2 8)))) : Int).toNat).drop 9).length < 140737488355328
              · rw [if_pos c11] at H
                have LMc11 := Aside0.mk c11
                clear c11
                obtain ⟨y204, hy204⟩ : ∃ y_ : List Int, y_ = (y199 ++ ((l2.take ((wrap64 (9 + (wrap64 (rd l2 8)))) : Int).toNat).drop 9)) := ⟨_, rfl⟩
                replace H : ((rabbetref18_PutTag.f kj3 a0 a1 y204).bind fun bt207 => (if (strOfNums bt207.1).toList = (strOfNums l2).toList then (some (y204, true)) else (some (([] : List Int), false)))) = some (r1, r2) := by first | (rw [hy204]; with_reducible exact H) | (have H2_ := (Option.bind_some _ _).symm.trans H; rw [hy204]; with_reducible exact H2_) | (have H2_ := (Option.bind_some _ _).symm.trans H; with_reducible exact H2_) | with_reducible exact H | (rw [hy204]; exact H) | exact H
                have Ny204 := Aside0.mk hy204
                clear hy204
                replace H := Option.bind_eq_some_iff.mp H
                obtain ⟨⟨t207, t208⟩, A120, H⟩ := H
                replace H : (if (strOfNums t207).toList = (strOfNums l2).toList then (some (y204, true)) else (some (([] : List Int), false))) = some (r1, r2) := H
                have A12 := Aside0.mk A120
                clear A120
                by_cases c13 : (strOfNums t207).toList = (strOfNums l2).toList
                · rw [if_pos c13] at H
                  have c13b0 : ((strOfNums t207).toList == (strOfNums l2).toList) = true := beq_iff_eq.mpr c13
                  have c13b1 : ((strOfNums t207).toList != (strOfNums l2).toList) = false := bne_eq_false_iff_eq.mpr c13
                  clear c13
                  simp only [Option.some.injEq, Prod.mk.injEq] at H
                  obtain ⟨rfl, rfl⟩ := H
                  go_wp2_with (first | ((with_reducible refine gate_dst (N := 21) rfl ?_); refine Kd.R_lit (Kd.int .u8) _ 5 ?hg (N := 21) ?hd (xs := ([] : List Int)) (inner := []) (ok := fun _ => True) (okp := fun _ => True) ?hr ?hp (fun _ hk => hk) trivial (Below.refl _ _) (Nat.le_refl _) (by simp) ?_; (case hd => rfl); (case hg => rfl); (case hr => first | (go_simp; done) | (go_simp; rfl)); (case hp => exact (Reps.none _ _)); intro v200 w14 ho15 hb hg_ hnew_; clear hg_ hnew_; (first | rw [← Ny199.out] at ho15 | (simp only [Int.reduceToNat] at ho15; rw [← Ny199.out] at ho15)); have n0_ := Aside0.mk (Kd.R_lower ho15 (below_size (by repeat (first | (with_reducible first | exact HB.out | apply below_alloc | apply pw_below_drewN | apply below_drew1) | exact HB.out)))); have n1_ := Aside0.mk (below_step (by repeat (first | (with_reducible first | exact HB.out | apply below_alloc | apply pw_below_drewN | apply below_drew1) | exact HB.out)) hb); clear HB; have HO201 := n0_; have HB := n1_; clear n0_ n1_; clear hb ho15; have p202 : 0 ≤ (8 : Int) := (by omega); have q202 : 8 < (l2.length : Int) := of_decide_eq_true (by first | (with_reducible assumption) | assumption); obtain ⟨ad202, e202, hx202_0⟩ := Kd.at_int HR2.out 8 p202 q202; cases e202; (try simp only [show (8 : Int).toNat = 8 from rfl, Nat.reduceMul, Nat.reduceEqDiff, Go.Addr.add, ↓reduceIte] at hx202_0); have qi202 : (8 < l2.length) = True := eq_true (by omega); (try rw [show ((8 : Int)).toNat = 8 from rfl] at hx202_0); replace hx202_0 := (HB.out.cell (World.block_lt_of_cell? w _ hx202_0)).trans hx202_0; replace p202 := eq_true p202; replace q202 := eq_true q202; obtain ⟨i016, hi016, _, hsz16, _⟩ := info_parts info5; obtain ⟨A16, hcut16, hA16, hC16⟩ := print_mid_of (P := Tryd.prog) (Value.int .u8) 0 23 5 .i64 .i64 Tryd.underlying23 hi016 hsz16 (some ad202) c2 l2 9 (wrap64 (9 + (wrap64 (rd l2 8)))) (by omega) (by first | omega | exact of_decide_eq_true (by first | (with_reducible assumption) | assumption)) (of_decide_eq_true (by first | (with_reducible assumption) | assumption)) HC2.out; have HR203 := Aside0.mk (Kd.C_of_reads (h1 := fun _ => rfl) (hA16 _ (Kd.reads_of_C HR2.out))); have HC203 := Aside0.mk hC16; clear hA16 hC16 hi016 hsz16) | ((with_reducible refine gate_builtin (b := .append) (xs := #[.tmp 21, .tmp 28]) rfl ?_); at_builtin; refine Kd.R_append_rows (Kd.int .u8) (w0 := w) w.heap.size rfl (.tmp 21) (.tmp 28) 23 5 (.int .u8 0) 1 rfl Tryd.underlying23 info5 rfl (by decide) (by omega) v200 y199 ((l2.take ((wrap64 (9 + (wrap64 (rd l2 8)))) : Int).toNat).drop 9) _ _ _ (fun _ => True) (fun _ => False) rfl rfl ?aO ?aR (fun _ _ h => h) (fun _ h => h.elim) ?aF ?aB ?aS ?aL ?_; (case aR => first | (rw [← show ((l2.take ((wrap64 (9 + (wrap64 (rd l2 8)))) : Int).toNat).drop 9).length = ((wrap64 (9 + (wrap64 (rd l2 8)))).toNat - 9) from (by rw [List.length_drop, List.length_take]; have h_ : ((wrap64 (9 + (wrap64 (rd l2 8)))) : Int) ≤ (l2.length : Int) := of_decide_eq_true (by first | (with_reducible assumption) | assumption); omega)]; repeat (first | exact (Kd.C_below HR203.out HB.out) | (with_reducible refine Kd.C_alloc ?_ _) | (with_reducible refine Kd.C_drewN ?_ _) | (with_reducible refine Kd.C_drew ?_))) | (repeat (first | exact (Kd.C_below HR203.out HB.out) | (with_reducible refine Kd.C_alloc ?_ _) | (with_reducible refine Kd.C_drewN ?_ _) | (with_reducible refine Kd.C_drew ?_)))); (case aB => exact (by repeat (first | (with_reducible first | exact HB.out | apply below_alloc | apply pw_below_drewN | apply below_drew1) | exact HB.out))); (case aF => exact (fun _ _ => trivial)); (case aO => exact (by (with_reducible repeat (first | apply Kd.R_alloc | apply Kd.R_drewN | apply Kd.R_drew)); exact HO201.out)); (case aS => exact (below_size (by repeat (first | (with_reducible first | exact HB.out | apply below_alloc | apply pw_below_drewN | apply below_drew1) | exact HB.out)))); (case aL => have := LMc11.out; have hlx_ := (show ((l2.take ((wrap64 (9 + (wrap64 (rd l2 8)))) : Int).toNat).drop 9).length = ((wrap64 (9 + (wrap64 (rd l2 8)))).toNat - 9) from (by rw [List.length_drop, List.length_take]; have h_ : ((wrap64 (9 + (wrap64 (rd l2 8)))) : Int) ≤ (l2.length : Int) := of_decide_eq_true (by first | (with_reducible assumption) | assumption); omega)); omega); intro v205 w17 ho hb hg hat; rw [← Ny204.out] at ho; have n0_ := Aside0.mk (hb); have n1_ := Aside0.mk (ho); clear HB; clear HO201; have HB := n0_; have HO206 := n1_; clear n0_ n1_; clear ho hb hg hat; obtain ⟨Ao18, co18, eo18⟩ := Kd.R_slice HO206.out; subst eo18) | ((with_reducible refine gate_callee (f := 13) rfl ?_); refine goesL_ (some 34) rfl rfl Tryd.func13 (by kernel_rfl) rfl #[.int .u32 a0, .int .u32 a1, .slice Ao18 y204.length co18] rfl (by (try simp only [List.map_toArray, List.map_cons, List.map_nil]); first | done | rfl | (simp only [List.length_drop, List.length_take]; rfl)) ?_; (with_reducible refine (rabbetref18_PutTag.calls kj3 a0 a1 _ _ y204 t207 t208 _ ?side1 ?side2 A12.out).mono ?_); (case side1 => repeat (first | exact (Kd.R_reads' HO206.out).2.2 | (with_reducible refine Kd.C_alloc ?_ _) | (with_reducible refine Kd.C_drewN ?_ _) | (with_reducible refine Kd.C_drew ?_))); (case side2 => exact (Kd.R_reads' HO206.out).2.1); rintro e w19 ⟨v209, rfl, ho0, hb⟩; refine ⟨_, rfl, ?_⟩; have n0_ := Aside0.mk (Kd.R_elder' (by (with_reducible repeat (first | apply Kd.R_alloc | apply Kd.R_drewN | apply Kd.R_drew)); exact HO206.out) (Kd.R_base ho0) hb); have n1_ := Aside0.mk (Kd.R_lower (Kd.R_new' ho0 (Kd.R_lt (by (with_reducible repeat (first | apply Kd.R_alloc | apply Kd.R_drewN | apply Kd.R_drew)); exact HO206.out))) (below_size (by repeat (first | (with_reducible first | exact HB.out | apply below_alloc | apply pw_below_drewN | apply below_drew1) | exact HB.out)))); have n2_ := Aside0.mk (below_step (by repeat (first | (with_reducible first | exact HB.out | apply below_alloc | apply pw_below_drewN | apply below_drew1) | exact HB.out)) hb); clear HO206; clear HB; have HO206 := n0_; have HO210 := n1_; have HB := n2_; clear n0_ n1_ n2_; (try clear hb); (try clear hb2); (try clear hk); (try clear hi); (try clear ho0); have hcv20 := own_string (P := Tryd.prog) Tryd.underlying23 Tryd.underlying5 Tryd.underlying9 (Kd.own_of_R HO210.out); (try (have hcv20d := fun (nd_ : Nat) => own_string (P := Tryd.prog) Tryd.underlying23 Tryd.underlying5 Tryd.underlying9 (pw_own_drewN (Kd.own_of_R HO210.out) nd_))); have hcv21 := Kd.C_string (P := Tryd.prog) (A := (some ad202)) (c := c2) Tryd.underlying23 Tryd.underlying5 Tryd.underlying9 (Kd.C_below HR2.out HB.out)))
                  go_ret2
                  exact ⟨_, by first | rfl | (simp [errW_none, errW_some] <;> rfl) | (simp [*, errW_none, errW_some] <;> rfl), by (with_reducible repeat (first | apply Kd.R_alloc | apply Kd.R_drewN | apply Kd.R_drew)); exact Kd.R_mono HO206.out (fun _ hk => trivial), by repeat (first | (with_reducible first | exact HB.out | apply below_alloc | apply pw_below_drewN | apply below_drew1) | exact HB.out)⟩
                · rw [if_neg c13] at H
                  have c13b0 : ((strOfNums t207).toList == (strOfNums l2).toList) = false := beq_eq_false_iff_ne.mpr c13
                  have c13b1 : ((strOfNums t207).toList != (strOfNums l2).toList) = true := bne_iff_ne.mpr c13
                  simp only [Option.some.injEq, Prod.mk.injEq] at H
                  obtain ⟨rfl, rfl⟩ := H
                  go_wp2_with (first | ((with_reducible refine gate_dst (N := 21) rfl ?_); refine Kd.R_lit (Kd.int .u8) _ 5 ?hg (N := 21) ?hd (xs := ([] : List Int)) (inner := []) (ok := fun _ => True) (okp := fun _ => True) ?hr ?hp (fun _ hk => hk) trivial (Below.refl _ _) (Nat.le_refl _) (by simp) ?_; (case hd => rfl); (case hg => rfl); (case hr => first | (go_simp; done) | (go_simp; rfl)); (case hp => exact (Reps.none _ _)); intro v200 w22 ho23 hb hg_ hnew_; clear hg_ hnew_; (first | rw [← Ny199.out] at ho23 | (simp only [Int.reduceToNat] at ho23; rw [← Ny199.out] at ho23)); have n0_ := Aside0.mk (Kd.R_lower ho23 (below_size (by repeat (first | (with_reducible first | exact HB.out | apply below_alloc | apply pw_below_drewN | apply below_drew1) | exact HB.out)))); have n1_ := Aside0.mk (below_step (by repeat (first | (with_reducible first | exact HB.out | apply below_alloc | apply pw_below_drewN | apply below_drew1) | exact HB.out)) hb); clear HB; have HO201 := n0_; have HB := n1_; clear n0_ n1_; clear hb ho23; have p202 : 0 ≤ (8 : Int) := (by omega); have q202 : 8 < (l2.length : Int) := of_decide_eq_true (by first | (with_reducible assumption) | assumption); obtain ⟨ad202, e202, hx202_0⟩ := Kd.at_int HR2.out 8 p202 q202; cases e202; (try simp only [show (8 : Int).toNat = 8 from rfl, Nat.reduceMul, Nat.reduceEqDiff, Go.Addr.add, ↓reduceIte] at hx202_0); have qi202 : (8 < l2.length) = True := eq_true (by omega); (try rw [show ((8 : Int)).toNat = 8 from rfl] at hx202_0); replace hx202_0 := (HB.out.cell (World.block_lt_of_cell? w _ hx202_0)).trans hx202_0; replace p202 := eq_true p202; replace q202 := eq_true q202; obtain ⟨i024, hi024, _, hsz24, _⟩ := info_parts info5; obtain ⟨A24, hcut24, hA24, hC24⟩ := print_mid_of (P := Tryd.prog) (Value.int .u8) 0 23 5 .i64 .i64 Tryd.underlying23 hi024 hsz24 (some ad202) c2 l2 9 (wrap64 (9 + (wrap64 (rd l2 8)))) (by omega) (by first | omega | exact of_decide_eq_true (by first | (with_reducible assumption) | assumption)) (of_decide_eq_true (by first | (with_reducible assumption) | assumption)) HC2.out; have HR203 := Aside0.mk (Kd.C_of_reads (h1 := fun _ => rfl) (hA24 _ (Kd.reads_of_C HR2.out))); have HC203 := Aside0.mk hC24; clear hA24 hC24 hi024 hsz24) | ((with_reducible refine gate_builtin (b := .append) (xs := #[.tmp 21, .tmp 28]) rfl ?_); at_builtin; refine Kd.R_append_rows (Kd.int .u8) (w0 := w) w.heap.size rfl (.tmp 21) (.tmp 28) 23 5 (.int .u8 0) 1 rfl Tryd.underlying23 info5 rfl (by decide) (by omega) v200 y199 ((l2.take ((wrap64 (9 + (wrap64 (rd l2 8)))) : Int).toNat).drop 9) _ _ _ (fun _ => True) (fun _ => False) rfl rfl ?aO ?aR (fun _ _ h => h) (fun _ h => h.elim) ?aF ?aB ?aS ?aL ?_; (case aR => first | (rw [← show ((l2.take ((wrap64 (9 + (wrap64 (rd l2 8)))) : Int).toNat).drop 9).length = ((wrap64 (9 + (wrap64 (rd l2 8)))).toNat - 9) from (by rw [List.length_drop, List.length_take]; have h_ : ((wrap64 (9 + (wrap64 (rd l2 8)))) : Int) ≤ (l2.length : Int) := of_decide_eq_true (by first | (with_reducible assumption) | assumption); omega)]; repeat (first | exact (Kd.C_below HR203.out HB.out) | (with_reducible refine Kd.C_alloc ?_ _) | (with_reducible refine Kd.C_drewN ?_ _) | (with_reducible refine Kd.C_drew ?_))) | (repeat (first | exact (Kd.C_below HR203.out HB.out) | (with_reducible refine Kd.C_alloc ?_ _) | (with_reducible refine Kd.C_drewN ?_ _) | (with_reducible refine Kd.C_drew ?_)))); (case aB => exact (by repeat (first | (with_reducible first | exact HB.out | apply below_alloc | apply pw_below_drewN | apply below_drew1) | exact HB.out))); (case aF => exact (fun _ _ => trivial)); (case aO => exact (by (with_reducible repeat (first | apply Kd.R_alloc | apply Kd.R_drewN | apply Kd.R_drew)); exact HO201.out)); (case aS => exact (below_size (by repeat (first | (with_reducible first | exact HB.out | apply below_alloc | apply pw_below_drewN | apply below_drew1) | exact HB.out)))); (case aL => have := LMc11.out; have hlx_ := (show ((l2.take ((wrap64 (9 + (wrap64 (rd l2 8)))) : Int).toNat).drop 9).length = ((wrap64 (9 + (wrap64 (rd l2 8)))).toNat - 9) from (by rw [List.length_drop, List.length_take]; have h_ : ((wrap64 (9 + (wrap64 (rd l2 8)))) : Int) ≤ (l2.length : Int) := of_decide_eq_true (by first | (with_reducible assumption) | assumption); omega)); omega); intro v205 w25 ho hb hg hat; rw [← Ny204.out] at ho; have n0_ := Aside0.mk (hb); have n1_ := Aside0.mk (ho); clear HB; clear HO201; have HB := n0_; have HO206 := n1_; clear n0_ n1_; clear ho hb hg hat; obtain ⟨Ao26, co26, eo26⟩ := Kd.R_slice HO206.out; subst eo26) | ((with_reducible refine gate_callee (f := 13) rfl ?_); refine goesL_ (some 34) rfl rfl Tryd.func13 (by kernel_rfl) rfl #[.int .u32 a0, .int .u32 a1, .slice Ao26 y204.length co26] rfl (by (try simp only [List.map_toArray, List.map_cons, List.map_nil]); first | done | rfl | (simp only [List.length_drop, List.length_take]; rfl)) ?_; (with_reducible refine (rabbetref18_PutTag.calls kj3 a0 a1 _ _ y204 t207 t208 _ ?side1 ?side2 A12.out).mono ?_); (case side1 => repeat (first | exact (Kd.R_reads' HO206.out).2.2 | (with_reducible refine Kd.C_alloc ?_ _) | (with_reducible refine Kd.C_drewN ?_ _) | (with_reducible refine Kd.C_drew ?_))); (case side2 => exact (Kd.R_reads' HO206.out).2.1); rintro e w27 ⟨v209, rfl, ho0, hb⟩; refine ⟨_, rfl, ?_⟩; have n0_ := Aside0.mk (Kd.R_elder' (by (with_reducible repeat (first | apply Kd.R_alloc | apply Kd.R_drewN | apply Kd.R_drew)); exact HO206.out) (Kd.R_base ho0) hb); have n1_ := Aside0.mk (Kd.R_lower (Kd.R_new' ho0 (Kd.R_lt (by (with_reducible repeat (first | apply Kd.R_alloc | apply Kd.R_drewN | apply Kd.R_drew)); exact HO206.out))) (below_size (by repeat (first | (with_reducible first | exact HB.out | apply below_alloc | apply pw_below_drewN | apply below_drew1) | exact HB.out)))); have n2_ := Aside0.mk (below_step (by repeat (first | (with_reducible first | exact HB.out | apply below_alloc | apply pw_below_drewN | apply below_drew1) | exact HB.out)) hb); clear HO206; clear HB; have HO206 := n0_; have HO210 := n1_; have HB := n2_; clear n0_ n1_ n2_; (try clear hb); (try clear hb2); (try clear hk); (try clear hi); (try clear ho0); have hcv28 := own_string (P := Tryd.prog) Tryd.underlying23 Tryd.underlying5 Tryd.underlying9 (Kd.own_of_R HO210.out); (try (have hcv28d := fun (nd_ : Nat) => own_string (P := Tryd.prog) Tryd.underlying23 Tryd.underlying5 Tryd.underlying9 (pw_own_drewN (Kd.own_of_R HO210.out) nd_))); have hcv29 := Kd.C_string (P := Tryd.prog) (A := (some ad202)) (c := c2) Tryd.underlying23 Tryd.underlying5 Tryd.underlying9 (Kd.C_below HR2.out HB.out)))
                  go_ret2
                  exact ⟨_, by first | rfl | (simp [errW_none, errW_some] <;> rfl) | (simp [*, errW_none, errW_some] <;> rfl), by first | exact Kd.R_nil _ _ _ _ _ | exact Kd.N_nil _ _ _ _ _ | exact Kd.V_nil _ _ _ _ _ | exact Kd.Q_nil _ _ _ _ _ | exact Kd.S_nil _ _ _ _ _, by repeat (first | (with_reducible first | exact HB.out | apply below_alloc | apply pw_below_drewN | apply below_drew1) | exact HB.out)⟩
              · rw [if_neg c11] at H
                exact absurd H (by simp)
            · rw [if_neg c10] at H
              exact absurd H (by simp)
          · rw [if_neg c9] at H
            exact absurd H (by simp)
        · rw [if_neg c8] at H
          exact absurd H (by simp)

/-! ### rabbetlaw0_Same: function 16 -/
def rabbetlaw0_Same.f (l0 : List Int) (l1 : List Int) : Option Bool := if l0 = l1 then some true else none
theorem rabbetlaw0_Same.info : (Tryd.prog.info? 5).map (fun i => (i.zero, i.size, i.bytes)) = some (some (.int .u8 0), 1, 1) := by kernel_rfl
theorem rabbetlaw0_Same.cut (A : Option Addr) (n c : Nat) (hc : n + 5 ≤ c) : ∀ W : World, (Instr.slice 23 (.slice A n c) none (some (.int .i64 ((n : Int) + 5))) none).run Tryd.prog W = .ok (.slice A (n + 5) c) W := by
  intro W
  obtain ⟨i0, hi0, hz⟩ := Option.map_eq_some_iff.1 rabbetlaw0_Same.info
  simp only [Prod.mk.injEq] at hz
  have hel : Tryd.prog.elem 23 = 5 := by simp [Program.elem, Tryd.underlying23]
  have hu : Tryd.prog.underlying 23 = some (.slice (Tryd.prog.elem 23)) := by rw [hel]; exact Tryd.underlying23
  rw [run_slice_h W 23 A n c hu .i64 ((n : Int) + 5) (by omega) (by omega), hel]
  simp [sizeOf, typeInfo, hi0, hz.2.1, sliced, Result.andThen]
  refine ⟨fun _ => ?_, by omega⟩
  cases A <;> simp [Addr.add_zero']
set_option maxHeartbeats 4000000 in
set_option maxRecDepth 100000 in
theorem rabbetlaw0_Same.calls (A0 : Option Addr) (c0 : Nat) (l0 : List Int) (A1 : Option Addr) (c1 : Nat) (l1 : List Int) (r : Bool) (w : World) (hr0 : ∃ base ok, Kd.H (Kd.int .u8) 5 w base ok (.slice A0 l0.length c0) l0) (hc0 : l0.length ≤ c0) (hr1 : Kd.C (Kd.int .u8) w A1 l1.length l1) (hc1 : l1.length ≤ c1) (h : rabbetlaw0_Same.f l0 l1 = some r) :
    Calls Tryd.prog 16 #[.slice A0 l0.length c0, .slice A1 l1.length c1] w fun e w' => e = .returned (.bool r) ∧ Drawn0 w w' := by
  unfold rabbetlaw0_Same.f at h
  by_cases hl : l0 = l1
  · rw [if_pos hl] at h
    obtain rfl := Option.some.inj h
    subst hl
    clear h
    obtain ⟨base, ok, hH⟩ := hr0
    have hC0 := (Kd.R_reads' hH.1).2.2
    obtain ⟨inner, hown⟩ := Kd.R_own hH.1
    obtain ⟨g, cap, hv, hcap, hsp⟩ := hH.2
    injection hv with hA hn hcp
    subst hA hcp
    have hmax : c0 ≤ 9223372036854775807 := by
      rcases hown.2 with ⟨hnil, _⟩ | ⟨g2, cap2, cur, he, _, _, _, hcm, _⟩
      · cases hnil
      · injection he with _ _ he3
        rw [he3]; exact hcm
    have hcv0 := Kd.C_string (P := Tryd.prog) (c := c0) Tryd.underlying23 Tryd.underlying5 Tryd.underlying9 hC0
    have hcv1 := Kd.C_string (P := Tryd.prog) (c := c1) Tryd.underlying23 Tryd.underlying5 Tryd.underlying9 hr1
    have hcut := rabbetlaw0_Same.cut (some ⟨g, 0, none⟩) l0.length c0 hcap
    have hd : decide ((c0 : Int) < (l0.length : Int) + 5) = false := decide_eq_false (by omega)
    have hs : IntKind.i64.wrap ((l0.length : Int) + 5) = (l0.length : Int) + 5 := by simp only [i64_w]; unfold wrap64; omega
    have HSP := Aside0.mk hsp
    have HM := Aside0.mk hmax
    have HCP := Aside0.mk hcap
    clear hH hown hC0 hr1 hsp hmax hcap hc0 hc1
    go_enter Tryd.func16, Tryd.ntmps16
    go_wp2
    go_loopg [6] 6 (fun kq v6 w' => ∃ i : Nat, v6 = .int .i64 (i : Int) ∧ Aside0 (i ≤ 5 ∧ 5 < kq + i) ∧ w' = w)
    case atStart => exact ⟨0, rfl, ⟨by omega, by omega⟩, rfl⟩
    case round =>
      clear hcv0 hcv1 hcut hd hs
      obtain ⟨i, rfl, HI, rfl⟩ := hrel
      have hi1 := HI.out.1
      have hm := HM.out
      have hcp := HCP.out
      by_cases hlt : i < 5
      · have hg := HSP.out i hlt
        have hd : decide ((i : Int) < 5) = true := decide_eq_true (by omega)
        have hlt3 : (i : Int) < 5 := by omega
        have hin2 : decide (l0.length + i < l0.length + 5) = true := decide_eq_true (by omega)
        rw [show ((161 + i : Nat) : Int) = 161 + (i : Int) by omega] at hg
        go_wp2
        go_roundg (5 - i)
        case measure => have := HI.out; omega
        case rel => exact ⟨i + 1, by go_num, ⟨by omega, by have := HI.out; omega⟩, rfl⟩
      · have hie : i = 5 := by omega
        subst hie
        go_wp2
        go_ret
        exact ⟨rfl, Drawn0.refl _⟩
  · rw [if_neg hl] at h; cases h

end Go.Proofs.YtaoegbebeogkbaaDoor.PTagAll
