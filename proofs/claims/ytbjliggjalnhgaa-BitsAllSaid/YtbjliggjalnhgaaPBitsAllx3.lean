-- Written by xprint.py (a program of this project) out of the translation. Not trusted: Lean checks it.
import Derived.Test.YtbjliggjalnhgaaPBitsAllx0
namespace Go.Proofs.Ytbjliggjalnhgaa.PBitsAll
open Go.RowKit Go.Proofs.YtbjliggjalnhgaaW.PrintWords Go.Proofs.YtbjliggjalnhgaaW.PrintLast Go.Proofs.YtbjliggjalnhgaaW.PrintMore
attribute [local go_sem] max2_int min2_int max_two min_two max_three min_three max_four min_four   -- for this text's walks alone
set_option linter.unusedVariables false
set_option linter.unusedSimpArgs false

/-! ### rabbetlaw0_Handed: function 8 -/
/-- Five known bytes stand in the room behind the row. -/
def Spare (w : World) (v : Value) (n : Nat) : Prop := ∃ g cap, v = .slice (some ⟨g, 0, none⟩) n cap ∧ n + 5 ≤ cap ∧ ∀ i, i < 5 → w.cell? ⟨g, n + i, none⟩ = some (.int .u8 ((161 + i : Nat) : Int))
theorem Spare.move {w w1 : World} {v : Value} {n : Nat} (h : Spare w v n) (hm : ∀ k, v.ownBlock = some k → w1.heap[k]? = w.heap[k]?) : Spare w1 v n := by
  obtain ⟨g, cap, rfl, hc, hh⟩ := h
  refine ⟨g, cap, rfl, hc, fun i hi => ?_⟩
  rw [← hh i hi]
  have := hm g rfl
  unfold World.cell?
  rw [this]
def Kd.H {α : Type} (d : Kd α) (e : Nat) (w : World) (base : Nat) (ok : Nat → Prop) (v : Value) (xs : List α) : Prop := d.R e w base ok v xs ∧ Spare w v xs.length
section
variable {α : Type} {d : Kd α} {e e' : Nat} {w w1 W : World} {base base' : Nat} {ok ok' : Nat → Prop} {v u : Value} {xs : List α}
theorem Kd.H_R (h : Kd.H d e w base ok v xs) : d.R e w base ok v xs := h.1
theorem Kd.H_spare (h : Kd.H d e w base ok v xs) : Spare w v xs.length := h.2
theorem Kd.H_mono (h : Kd.H d e w base ok v xs) (hok : ∀ k, ok k → ok' k) : Kd.H d e w base ok' v xs := ⟨Kd.R_mono h.1 hok, h.2⟩
theorem Kd.H_lower (h : Kd.H d e w base ok v xs) (hb : base' ≤ base) : Kd.H d e w base' ok v xs := ⟨Kd.R_lower h.1 hb, h.2⟩
theorem Kd.H_lt (h : Kd.H d e w base ok v xs) : ∀ k, v.ownBlock = some k → k < w.heap.size := Kd.R_lt h.1
theorem Kd.H_base (h : Kd.H d e w base ok v xs) : ∀ k, v.ownBlock = some k → base ≤ k := Kd.R_base h.1
theorem Kd.H_typed (h : Kd.H d e w base ok v xs) : ∀ k, v.ownBlock = some k → ∃ cells, w.heap[k]? = some (.cells cells e (0, 0)) := Kd.R_typed h.1
theorem Kd.H_reads' {A : Option Addr} {n c : Nat} (h : Kd.H d e w base ok (.slice A n c) xs) : n = xs.length ∧ n ≤ c ∧ d.C w A xs.length xs := Kd.R_reads' h.1
theorem Kd.H_form (h : Kd.H d e w base ok v xs) (hp : 0 < xs.length) : ∃ g cap, v = .slice (some ⟨g, 0, none⟩) xs.length cap ∧ base ≤ g ∧ g < w.heap.size ∧ ∃ cells, w.heap[g]? = some (.cells cells e (0, 0)) := Kd.R_form h.1 hp
theorem Kd.H_slice (h : Kd.H d e w base ok v xs) : ∃ A c, v = .slice A xs.length c := Kd.R_slice h.1
theorem Kd.H_below (h : Kd.H d e w base ok v xs) (hb : Below w.heap.size w w1) : Kd.H d e w1 base ok v xs := ⟨Kd.R_below h.1 hb, h.2.move (fun k hk => hb.block k (Kd.R_lt h.1 k hk))⟩
theorem Kd.H_alloc (h : Kd.H d e w base ok v xs) (o : Obj) : Kd.H d e (w.alloc o) base ok v xs := Kd.H_below h (below_alloc (Below.refl _ _) o)
theorem Kd.H_drewN (h : Kd.H d e w base ok v xs) (m : Nat) : Kd.H d e (w.drewN m) base ok v xs := Kd.H_below h (pw_below_drewN (Below.refl _ _) m)
theorem Kd.H_drew (h : Kd.H d e w base ok v xs) : Kd.H d e w.drew base ok v xs := Kd.H_below h (below_drew (Below.refl _ _))
theorem Kd.H_grown (h : Kd.H d e w base ok v xs) {row : Option Nat} (hg : w.grownBy w1 row) (hok : ∀ k, ok k → some k ≠ row) : Kd.H d e w1 base ok v xs :=
  ⟨Kd.R_grown h.1 hg hok, h.2.move (fun k hk => hg.block k (Kd.R_lt h.1 k hk) (hok k (h.1.1 k hk)))⟩
theorem Kd.H_far (h : Kd.H d e w base ok v xs) {p : Addr} (hok : ∀ k, ok k → k ≠ p.block) (x : Value) : Kd.H d e (w.setCell p x) base ok v xs :=
  ⟨Kd.R_far h.1 hok x, h.2.move (fun k hk => Below.heap_setCell w p x k (hok k (h.1.1 k hk)))⟩
theorem Kd.H_elder' (hu : Kd.H d e W base ok u xs) (hbase : ∀ k, v.ownBlock = some k → W.heap.size ≤ k) (hb : Below W.heap.size W w1) : Kd.H d e w1 base (fun k => ok k ∧ some k ≠ v.ownBlock) u xs :=
  ⟨Kd.R_elder' hu.1 hbase hb, hu.2.move (fun k hk => hb.block k (Kd.R_lt hu.1 k hk))⟩
theorem Kd.H_old (hu : Kd.H d e W base ok u xs) (hb : Below W.heap.size W w1) : Kd.H d e w1 base (fun k => ok k ∧ k < W.heap.size) u xs :=
  ⟨Kd.R_old hu.1 hb, hu.2.move (fun k hk => hb.block k (Kd.R_lt hu.1 k hk))⟩
theorem Kd.H_told {N : Nat} (h : Kd.H d e w1 base (fun k => ok k ∧ k < N) u xs) (hbase : ∀ k, v.ownBlock = some k → N ≤ k) : Kd.H d e w1 base (fun k => (ok k ∧ some k ≠ v.ownBlock) ∧ k < N) u xs := ⟨Kd.R_told h.1 hbase, h.2⟩
theorem Kd.H_apart' (h : Kd.H d e W base ok u xs) (hty : ∀ k, v.ownBlock = some k → ∃ cells, W.heap[k]? = some (.cells cells e' (0, 0))) (ht : ∀ q, q ∈ e :: d.E → q ≠ e') : Kd.H d e W base (fun k => ok k ∧ some k ≠ v.ownBlock) u xs := ⟨Kd.R_apart' h.1 hty ht, h.2⟩
theorem Kd.H_apart_nil (h : Kd.H d e w base ok u xs) : Kd.H d e w base (fun k => ok k ∧ some k ≠ (Value.slice none 0 0).ownBlock) u xs := ⟨Kd.R_apart_nil h.1, h.2⟩
theorem Kd.H_after {v1 : Value} (h : Kd.H d e W base (fun k => ok k ∧ some k ≠ v.ownBlock) u xs) (hg : W.grownBy w1 v.ownBlock) (hat : v1.ownBlock = v.ownBlock ∨ ∃ b, v1.ownBlock = some b ∧ W.heap.size ≤ b) : Kd.H d e w1 base (fun k => ok k ∧ some k ≠ v1.ownBlock) u xs :=
  ⟨Kd.R_after h.1 hg hat, h.2.move (fun k hk => hg.block k (Kd.R_lt h.1 k hk) (h.1.1 k hk).2)⟩
theorem Kd.H_over' (h : Kd.H d e W base ok u xs) (hty : ∀ k, v.ownBlock = some k → ∃ cells, W.heap[k]? = some (.cells cells e' (0, 0))) (ht : ∀ q, q ∈ e :: d.E → q ≠ e') (hg : W.grownBy w1 v.ownBlock) : Kd.H d e w1 base ok u xs :=
  ⟨Kd.R_over' h.1 hty ht hg, h.2.move (fun k hk => hg.block k (Kd.R_lt h.1 k hk) (((Kd.R_apart' h.1 hty ht).1 k hk).2))⟩
theorem Kd.H_types (h : Kd.H d e w base ok v xs) {g t : Nat} {cells : Array Value} (hb : w.heap[g]? = some (.cells cells t (0, 0))) (ht : ∀ q, q ∈ e :: d.E → q ≠ t) : Kd.H d e w base (fun k => ok k ∧ k ≠ g) v xs := ⟨Kd.R_types h.1 hb ht, h.2⟩
theorem Kd.H_ne (h : Kd.H d e w base ok v xs) {g t : Nat} {cells : Array Value} (hb : w.heap[g]? = some (.cells cells t (0, 0))) (ht : e ≠ t) : some g ≠ v.ownBlock := Kd.R_ne h.1 hb ht
end
/-- Nothing that was there has changed, and the five bytes stand behind the row. -/
structure BelowS (w W : World) (v : Value) (n : Nat) : Prop where
  b : Below w.heap.size w W
  s : Spare W v n
section
variable {w W w2 : World} {v : Value} {n : Nat}
theorem spare_below (h : Spare W v n) (hb : Below W.heap.size W w2) : Spare w2 v n := by
  obtain ⟨g, cap, rfl, hc, hh⟩ := h
  exact ⟨g, cap, rfl, hc, fun i hi => (hb.cell (World.block_lt_of_cell? W _ (hh i hi))).trans (hh i hi)⟩
theorem belowS_step (h : BelowS w W v n) (k : Below W.heap.size W w2) : BelowS w w2 v n := ⟨below_step h.b k, spare_below h.s k⟩
theorem belowS_alloc (h : BelowS w W v n) (o : Obj) : BelowS w (W.alloc o) v n := belowS_step h (below_alloc (Below.refl _ _) o)
theorem belowS_drewN (h : BelowS w W v n) (m : Nat) : BelowS w (W.drewN m) v n := belowS_step h (pw_below_drewN (Below.refl _ _) m)
theorem belowS_drew1 (h : BelowS w W v n) : BelowS w W.drew v n := belowS_step h (below_drew (Below.refl _ _))
theorem belowS_size (h : BelowS w W v n) : w.heap.size ≤ W.heap.size := h.b.size
theorem belowS_spare (h : BelowS w W v n) : Spare W v n := h.s
end
def rabbetlaw0_Handed.f (l0 : List Int) : Option (List Int) := if l0.length ≤ 1000000 then (some l0) else none
theorem rabbetlaw0_Handed.info : (Try.prog.info? 5).map (fun i => (i.zero, i.size, i.bytes)) = some (some (.int .u8 0), 1, 1) := by kernel_rfl
theorem rabbetlaw0_Handed.make (n : Nat) (hn : n ≤ 1000000) (W : World) : (Instr.makeSlice 23 (.int .i64 (n : Int)) (.int .i64 ((n : Int) + 5))).run Try.prog W = .ok (.slice (some ⟨W.heap.size, 0, none⟩) n (n + 5)) (W.alloc (.cells (madeCells #[.int .u8 0] (n + 5)) 5)) := by
  obtain ⟨i, hi, hz⟩ := Option.map_eq_some_iff.1 rabbetlaw0_Handed.info
  simp only [Prod.mk.injEq] at hz
  obtain ⟨hz0, hz1, hz2⟩ := hz
  have := run_make (P := Try.prog) W 23 5 i (.int .u8 0) Try.underlying23 hi hz0 .i64 .i64 (n : Int) ((n : Int) + 5) (by omega) (by omega) (by rw [hz2]; omega) (by omega)
  rw [hz1, Nat.mul_one, Int.toNat_natCast, show ((n : Int) + 5).toNat = n + 5 by omega] at this
  exact this
theorem rabbetlaw0_Handed.fill (l : List Int) (n i : Nat) (hi : i < n) (hl : l.length = n) : (l.take i ++ List.replicate (n + 5 - i) 0).set i (rd l (i : Int)) = l.take (i + 1) ++ List.replicate (n + 5 - (i + 1)) 0 := by
  have h1 : (l.take i).length = i := by rw [List.length_take]; omega
  rw [List.set_append_right _ _ (by omega), h1, Nat.sub_self, show n + 5 - i = (n + 5 - (i + 1)) + 1 by omega, List.replicate_succ, List.set_cons_zero]
  rw [List.take_succ_eq_append_getElem (by omega), List.append_assoc]
  congr 1
  simp [rd, List.getD_eq_getElem?_getD, List.getElem?_eq_getElem (show i < l.length by omega)]
def rabbetlaw0_Handed.tail (i : Nat) : List Int := (List.range 5).map fun j => if j < i then ((161 + j : Nat) : Int) else 0
theorem rabbetlaw0_Handed.mark (l : List Int) (n i : Nat) (hi : i < 5) (hl : l.length = n) : (l ++ rabbetlaw0_Handed.tail i).set (n + i) ((161 + i : Nat) : Int) = l ++ rabbetlaw0_Handed.tail (i + 1) := by
  rw [List.set_append_right _ _ (by omega), hl, Nat.add_sub_cancel_left]
  congr 1
  have : i = 0 ∨ i = 1 ∨ i = 2 ∨ i = 3 ∨ i = 4 := by omega
  rcases this with rfl | rfl | rfl | rfl | rfl <;> rfl
theorem rabbetlaw0_Handed.relen {w : World} {base n m : Nat} {e : TypeId} {v : Value} {xs : List Value} (h : n = m) (ho : w.ownsRow base e 1 v n xs) : w.ownsRow base e 1 v m xs := h ▸ ho
theorem rabbetlaw0_Handed.rd_tail (l : List Int) (i : Nat) (hi : i < 5) : rd (l ++ rabbetlaw0_Handed.tail 5) ((l.length + i : Nat) : Int) = ((161 + i : Nat) : Int) := by
  unfold rd
  rw [Int.toNat_natCast, List.getD_eq_getElem?_getD, List.getElem?_append_right (by omega), Nat.add_sub_cancel_left]
  have : i = 0 ∨ i = 1 ∨ i = 2 ∨ i = 3 ∨ i = 4 := by omega
  rcases this with rfl | rfl | rfl | rfl | rfl <;> rfl
theorem rabbetlaw0_Handed.cut (A : Option Addr) (n c : Nat) (hc : n + 5 ≤ c := by omega) : ∀ W : World, (Instr.slice 23 (.slice A n c) none (some (.int .i64 ((n : Int) + 5))) none).run Try.prog W = .ok (.slice A (n + 5) c) W := by
  intro W
  obtain ⟨i0, hi0, hz⟩ := Option.map_eq_some_iff.1 rabbetlaw0_Handed.info
  simp only [Prod.mk.injEq] at hz
  have hel : Try.prog.elem 23 = 5 := by simp [Program.elem, Try.underlying23]
  have hu : Try.prog.underlying 23 = some (.slice (Try.prog.elem 23)) := by rw [hel]; exact Try.underlying23
  rw [run_slice_h W 23 A n c hu .i64 ((n : Int) + 5) (by omega) (by omega), hel]
  simp [sizeOf, typeInfo, hi0, hz.2.1, sliced, Result.andThen]
  refine ⟨fun _ => ?_, by omega⟩
  cases A <;> simp [Addr.add_zero']
set_option maxHeartbeats 4000000 in
set_option maxRecDepth 100000 in
theorem rabbetlaw0_Handed.calls (A0 : Option Addr) (c0 : Nat) (l0 : List Int) (r : List Int) (w : World) (hr0 : Kd.C (Kd.int .u8) w A0 l0.length l0) (hc0 : l0.length ≤ c0) (h : rabbetlaw0_Handed.f l0 = some r) :
    Calls Try.prog 8 #[.slice A0 l0.length c0] w fun e w' => ∃ v0_ : Value, e = .returned v0_ ∧ Kd.H (Kd.int .u8) 5 w' w.heap.size (fun _ => True) v0_ r ∧ Below w.heap.size w w' := by
  have hn : l0.length ≤ 1000000 := by
    unfold rabbetlaw0_Handed.f at h
    by_cases c : l0.length ≤ 1000000
    · exact c
    · rw [if_neg c] at h; cases h
  have hr : r = l0 := by unfold rabbetlaw0_Handed.f at h; rw [if_pos hn] at h; exact (Option.some.inj h).symm
  clear h
  have HR := Aside0.mk hr
  clear hr
  have HR0 := Aside0.mk hr0
  clear hr0
  have mk := rabbetlaw0_Handed.make l0.length hn
  have mz : madeCells #[.int .u8 0] (l0.length + 5) = (nums .u8 (l0.take 0 ++ List.replicate (l0.length + 5 - 0) 0)).toArray := by
    apply Array.ext'
    simp only [List.take_zero, List.nil_append, Nat.sub_zero]
    apply List.ext_getElem
    · simp [nums, madeCells]
    · intro i h1 h2
      simp [nums, madeCells, Nat.mod_one]
  have MZ := Aside0.mk mz
  clear mz
  go_enter Try.func8, Try.ntmps8
  go_wp2
  go_loopg [4] (l0.length + 1) (fun kq v4 w' => ∃ i : Nat, v4 = .int .i64 (i : Int) ∧ Aside0 (i ≤ l0.length ∧ l0.length < kq + i) ∧ Aside0 (w'.ownsRow w.heap.size 5 1 (.slice (some ⟨w.heap.size, 0, none⟩) (l0.length + 5) (l0.length + 5)) (l0.length + 5) (nums .u8 (l0.take i ++ List.replicate (l0.length + 5 - i) 0))) ∧ Aside0 (Below w.heap.size w w'))
  case atStart =>
    refine ⟨0, rfl, ⟨Nat.zero_le _, by omega⟩, ⟨?_⟩, ⟨(Below.refl _ _).alloc (Nat.le_refl _) _⟩⟩
    rw [MZ.out]
    have z := own_lit w w.heap.size 5 .u8 (List.replicate (l0.length + 5) 0) (Nat.le_refl _) (by simp; omega)
    rw [List.length_replicate] at z
    simp only [List.take_zero, List.nil_append, Nat.sub_zero]
    exact z
  case round =>
    obtain ⟨i, rfl, HI, HO, HB⟩ := hrel
    have hi1 := HI.out.1
    by_cases hlt : i < l0.length
    · obtain ⟨ad, e0, hx⟩ := Kd.at_int HR0.out (i : Int) (by omega) (by omega)
      cases e0
      replace hx := (HB.out.cell (World.block_lt_of_cell? w _ hx)).trans hx
      rw [Int.toNat_natCast] at hx
      have hg := own_at HO.out (i : Int) (by omega) (by omega)
      obtain ⟨hg1, hg2⟩ := hg
      rw [Int.toNat_natCast] at hg1 hg2
      have hlt2 : (i : Int) < (l0.length : Int) := by omega
      have hd : decide (i < l0.length) = true := decide_eq_true hlt
      go_wp2
      go_roundg (l0.length - i)
      case measure => have := HI.out; omega
      case rel =>
        refine ⟨i + 1, by go_num, ⟨by omega, by omega⟩, ⟨?_⟩, ⟨?_⟩⟩
        · have := (own_store HO.out (i : Int) (rd l0 (i : Int))).1
          rw [Int.toNat_natCast, rabbetlaw0_Handed.fill l0 l0.length i hlt rfl] at this
          exact this
        · exact HB.out.setCell (Nat.le_refl _) _
    · have hie : i = l0.length := by omega
      have hd : decide (i < l0.length) = false := decide_eq_false hlt
      subst hie
      have HO2 := Aside0.mk (show World.ownsRow _ w.heap.size 5 1 (.slice (some ⟨w.heap.size, 0, none⟩) (l0.length + 5) (l0.length + 5)) (l0.length + 5) (nums .u8 (l0 ++ rabbetlaw0_Handed.tail 0)) from by
        have z := HO.out
        rw [List.take_length, show List.replicate (l0.length + 5 - l0.length) (0 : Int) = rabbetlaw0_Handed.tail 0 by rw [Nat.add_sub_cancel_left]; rfl] at z
        exact z)
      clear HO HI hi1
      have hcut := rabbetlaw0_Handed.cut (some ⟨w.heap.size, 0, none⟩) l0.length (l0.length + 5)
      go_wp2
      go_loopg [6] 6 (fun kq v6 w' => ∃ i : Nat, v6 = .int .i64 (i : Int) ∧ Aside0 (i ≤ 5 ∧ 5 < kq + i) ∧ Aside0 (w'.ownsRow w.heap.size 5 1 (.slice (some ⟨w.heap.size, 0, none⟩) (l0.length + 5) (l0.length + 5)) (l0.length + 5) (nums .u8 (l0 ++ rabbetlaw0_Handed.tail i))) ∧ Aside0 (Below w.heap.size w w'))
      case atStart => exact ⟨0, rfl, ⟨by omega, by omega⟩, HO2, HB⟩
      case round =>
        clear HO2 HB hd hlt hcut
        obtain ⟨i, rfl, HI, HO, HB⟩ := hrel
        have hi1 := HI.out.1
        by_cases hlt : i < 5
        · obtain ⟨hg1, hg2⟩ := own_at HO.out ((l0.length + i : Nat) : Int) (by omega) (by omega)
          rw [Int.toNat_natCast] at hg1 hg2
          have hd : decide ((i : Int) < 5) = true := decide_eq_true (by omega)
          have hlt3 : (i : Int) < 5 := by omega
          have hsum : IntKind.i64.wrap ((l0.length : Int) + (i : Int)) = ((l0.length + i : Nat) : Int) := by simp only [i64_w]; unfold wrap64; omega
          have hin : ((l0.length + i : Nat) : Int) < ((l0.length + 5 : Nat) : Int) := by omega
          have hin2 : decide (l0.length + i < l0.length + 5) = true := decide_eq_true (by omega)
          go_wp2
          go_roundg (5 - i)
          case measure => have := HI.out; omega
          case rel =>
            refine ⟨i + 1, by go_num, ⟨by omega, by have := HI.out; omega⟩, ⟨?_⟩, ⟨?_⟩⟩
            · have z := (own_store HO.out ((l0.length + i : Nat) : Int) ((161 + i : Nat) : Int)).1
              rw [Int.toNat_natCast, rabbetlaw0_Handed.mark l0 l0.length i hlt rfl, show ((161 + i : Nat) : Int) = 161 + (i : Int) by omega] at z
              exact z
            · exact HB.out.setCell (Nat.le_refl _) _
        · have hie : i = 5 := by omega
          subst hie
          go_wp2
          go_ret
          have hx : (l0 ++ rabbetlaw0_Handed.tail 5).length = l0.length + 5 := by rw [List.length_append]; rfl
          have hown := HO.out
          have hown2 := rabbetlaw0_Handed.relen hx.symm hown
          have hR := Kd.R_take (m := l0.length) (Kd.R_of_own (h1 := fun _ => rfl) (ok := fun _ => True) hown2 (fun _ _ => trivial)) (by rw [hx]; omega)
          rw [List.take_left] at hR
          rw [HR.out]
          refine ⟨_, rfl, ⟨hR, ⟨w.heap.size, l0.length + 5, rfl, Nat.le_refl _, fun i hi => ?_⟩⟩, HB.out⟩
          obtain ⟨hg1, _⟩ := own_at HO.out ((l0.length + i : Nat) : Int) (by omega) (by omega)
          rw [Int.toNat_natCast, rabbetlaw0_Handed.rd_tail l0 i hi] at hg1
          exact hg1

/-! ### rabbetref1_width: function 19 -/
def rabbetref1_width.l0 : Nat → Int → Int → Option (Int)
  | 0, _, _ => none
  | k + 1, x0, x3 => if x0 > 0 then (rabbetref1_width.l0 k (IntKind.u64.wrap (Int.tdiv x0 2)) (wrap64 (x3 + 1))) else (some x3)
def rabbetref1_width.f (k : Nat) (a0 : Int) : Option (Int) := rabbetref1_width.l0 k a0 0
theorem rabbetref1_width.mono_l : ∀ k, (∀ y0 y1, LeO (rabbetref1_width.l0 k y0 y1) (rabbetref1_width.l0 (k + 1) y0 y1))
  | 0 => fun _ _ r h => by simp [rabbetref1_width.l0] at h
  | k + 1 => by
    have ih0 := rabbetref1_width.mono_l k
    · intro y0 y1
      unfold rabbetref1_width.l0
      repeat' first
      | (with_reducible exact ih0 _ _)
      | (with_reducible exact LeO.refl _)
      | (with_reducible exact LeO.none _)
      | (with_reducible refine LeO.ite ?_ ?_)
      | (with_reducible refine LeO.bind ?_ (fun _ => ?_))
      | exact ih0 _ _
      | exact LeO.none _
      | refine LeO.ite ?_ ?_
      | refine LeO.bind ?_ (fun _ => ?_)
theorem rabbetref1_width.mono : ∀ a0 k, LeO (rabbetref1_width.f k a0) (rabbetref1_width.f (k + 1) a0) := by
  intro a0 k
  have ih0 := rabbetref1_width.mono_l k
  unfold rabbetref1_width.f
  repeat' first
      | (with_reducible exact ih0 _ _)
      | (with_reducible exact LeO.refl _)
      | (with_reducible exact LeO.none _)
      | (with_reducible refine LeO.ite ?_ ?_)
      | (with_reducible refine LeO.bind ?_ (fun _ => ?_))
      | exact ih0 _ _
      | exact LeO.none _
      | refine LeO.ite ?_ ?_
      | refine LeO.bind ?_ (fun _ => ?_)
set_option maxHeartbeats 8000000 in
set_option maxRecDepth 100000 in
theorem rabbetref1_width.calls (k : Nat) (a0 : Int) (r : Int) (w : World) (h : rabbetref1_width.f k a0 = some r) :
    Calls Try.prog 19 #[.int .u64 a0] w fun e w' => e = .returned (.int .i64 r) ∧ Drawn0 w w' := by
  have H : (rabbetref1_width.l0 k a0 0) = some r := h
  clear h
  have H' := Aside0.mk H
  clear H
  go_enter Try.func19, Try.ntmps19
  go_wp2
  go_loopg [0, 3] k (fun kq v0 v3 w' => ∃ (x0_1 : Int) (x3_1 : Int), v0 = .int .u64 x0_1 ∧ v3 = .int .i64 x3_1 ∧ Aside0 (rabbetref1_width.l0 kq x0_1 x3_1 = some r) ∧ Aside0 (kq ≤ k) ∧ Drawn0 w w')
  case atStart => exact ⟨(a0), (0), (by first | rfl | (simp; done) | (simp [*]; done)), (by first | rfl | (simp; done) | (simp [*]; done)), H', ⟨Nat.le_refl _⟩, by repeat (first | exact Drawn0.refl _ | apply Drawn0.step)⟩
  case round =>
    clear H'
    try clear c1
    obtain ⟨x0_1, x3_1, rfl, rfl, HA, HK1, ⟨m1, rfl⟩⟩ := hrel
    cases gk with
    | zero => exact absurd HA.out (by simp [rabbetref1_width.l0])
    | succ k1 =>
      have H := HA.out
      clear HA
      simp only [rabbetref1_width.l0] at H
      by_cases c2 : x0_1 > 0
      · rw [if_pos c2] at H
        have c2b0 : decide (0 < x0_1) = true := decide_eq_true c2
        clear c2
        have H' := Aside0.mk H
        clear H
        go_wp2
        go_roundg k1
        case measure => have := HK1.out; omega
        case rel => exact ⟨(IntKind.u64.wrap (Int.tdiv x0_1 2)), (wrap64 (x3_1 + 1)), (by first | rfl | (simp; done) | (simp [*]; done)), (by first | rfl | (simp; done) | (simp [*]; done)), H', ⟨by have := HK1.out; omega⟩, by repeat (first | exact Drawn0.refl _ | apply Drawn0.step)⟩
      · rw [if_neg c2] at H
        have c2b0 : decide (0 < x0_1) = false := decide_eq_false c2
        clear c2
        obtain rfl := Option.some.inj H
        go_wp2
        go_ret
        exact ⟨by first | rfl | (simp; done) | (simp [*]; done), by repeat (first | exact Drawn0.refl _ | apply Drawn0.step)⟩

/-! ### rabbetref1_Width: function 14 -/
def rabbetref1_Width.l0 : Nat → List Int → Int → Int → Option (Int)
  | 0, _, _, _ => none
  | k + 1, x0, x3, x4 => if x4 < (x0.length : Int) then (if 0 ≤ x4 then ((rabbetref1_width.f k (rd x0 x4)).bind fun t147 => (rabbetref1_Width.l0 k x0 (mx x3 t147) (wrap64 (x4 + 1)))) else (none)) else (some x3)
def rabbetref1_Width.f (k : Nat) (l0 : List Int) : Option (Int) := rabbetref1_Width.l0 k l0 0 0
theorem rabbetref1_Width.mono_l : ∀ k, (∀ y0 y1 y2, LeO (rabbetref1_Width.l0 k y0 y1 y2) (rabbetref1_Width.l0 (k + 1) y0 y1 y2))
  | 0 => fun _ _ _ r h => by simp [rabbetref1_Width.l0] at h
  | k + 1 => by
    have ih0 := rabbetref1_Width.mono_l k
    · intro y0 y1 y2
      unfold rabbetref1_Width.l0
      repeat' first
      | (with_reducible exact ih0 _ _ _)
      | (with_reducible exact rabbetref1_width.mono _ _)
      | (with_reducible exact LeO.refl _)
      | (with_reducible exact LeO.none _)
      | (with_reducible refine LeO.ite ?_ ?_)
      | (with_reducible refine LeO.bind ?_ (fun _ => ?_))
      | exact ih0 _ _ _
      | exact rabbetref1_width.mono _ _
      | exact LeO.none _
      | refine LeO.ite ?_ ?_
      | refine LeO.bind ?_ (fun _ => ?_)
theorem rabbetref1_Width.mono : ∀ a0 k, LeO (rabbetref1_Width.f k a0) (rabbetref1_Width.f (k + 1) a0) := by
  intro a0 k
  have ih0 := rabbetref1_Width.mono_l k
  unfold rabbetref1_Width.f
  repeat' first
      | (with_reducible exact ih0 _ _ _)
      | (with_reducible exact rabbetref1_width.mono _ _)
      | (with_reducible exact LeO.refl _)
      | (with_reducible exact LeO.none _)
      | (with_reducible refine LeO.ite ?_ ?_)
      | (with_reducible refine LeO.bind ?_ (fun _ => ?_))
      | exact ih0 _ _ _
      | exact rabbetref1_width.mono _ _
      | exact LeO.none _
      | refine LeO.ite ?_ ?_
      | refine LeO.bind ?_ (fun _ => ?_)
set_option maxHeartbeats 8000000 in
set_option maxRecDepth 100000 in
theorem rabbetref1_Width.calls (k : Nat) (A0 : Option Addr) (c0 : Nat) (l0 : List Int) (r : Int) (w : World) (hr0 : Kd.C (Kd.int .u64) w A0 l0.length l0) (hc0 : l0.length ≤ c0) (h : rabbetref1_Width.f k l0 = some r) :
    Calls Try.prog 14 #[.slice A0 l0.length c0] w fun e w' => e = .returned (.int .i64 r) ∧ Below w.heap.size w w' := by
  have HR0 := Aside0.mk hr0
  have HC0 := Aside0.mk hc0
  clear hr0 hc0
  have HB := Aside0.mk (Below.refl w.heap.size w)
  have H : (rabbetref1_Width.l0 k l0 0 0) = some r := h
  clear h
  have H' := Aside0.mk H
  clear H
  go_enter Try.func14, Try.ntmps14
  go_wp2
  go_loopg [3, 4] k (fun kq v3 v4 w' => ∃ (x3_1 : Int) (x4_1 : Int), v3 = .int .i64 x3_1 ∧ v4 = .int .i64 x4_1 ∧ Aside0 (rabbetref1_Width.l0 kq l0 x3_1 x4_1 = some r) ∧ Aside0 (kq ≤ k) ∧ Aside0 (Below w.heap.size w w'))
  case atStart => exact ⟨(0), (0), (by first | rfl | (simp; done) | (simp [*]; done)), (by first | rfl | (simp; done) | (simp [*]; done)), H', ⟨Nat.le_refl _⟩, ⟨by repeat (first | (with_reducible first | exact HB.out | apply below_alloc | apply pw_below_drewN | apply below_drew1) | exact HB.out)⟩⟩
  case round =>
    clear H'
    try clear c1
    obtain ⟨x3_1, x4_1, rfl, rfl, HA, HK1, HB⟩ := hrel
    cases gk with
    | zero => exact absurd HA.out (by simp [rabbetref1_Width.l0])
    | succ k1 =>
      have H := HA.out
      clear HA
      simp only [rabbetref1_Width.l0] at H
      by_cases c2 : x4_1 < (l0.length : Int)
      · rw [if_pos c2] at H
        have c2b0 : decide (x4_1 < (l0.length : Int)) = true := decide_eq_true c2
        clear c2
        by_cases c3 : 0 ≤ x4_1
        · rw [if_pos c3] at H
          have c3b0 : decide (0 ≤ x4_1) = true := decide_eq_true c3
          clear c3
          replace H := Option.bind_eq_some_iff.mp H
          obtain ⟨t147, A40, H⟩ := H
          replace H : (rabbetref1_Width.l0 k1 l0 (mx x3_1 t147) (wrap64 (x4_1 + 1))) = some r := H
          have A4 := Aside0.mk A40
          clear A40
          obtain ⟨ji5, hji5⟩ : ∃ j_ : Int, (mx x3_1 t147) = j_ := ⟨_, rfl⟩
          replace H : (rabbetref1_Width.l0 k1 l0 ji5 (wrap64 (x4_1 + 1))) = some r := by first | (rw [hji5] at H; exact H) | (simp only [hji5] at H ⊢; exact H) | exact H
          (try rw [hji5] at A4)
          have hji5_ : (if x3_1 < t147 then t147 else x3_1) = ji5 := hji5
          have H' := Aside0.mk H
          clear H
          have p146 : 0 ≤ (x4_1 : Int) := of_decide_eq_true (by first | (with_reducible assumption) | assumption)
          have q146 : x4_1 < (l0.length : Int) := of_decide_eq_true (by first | (with_reducible assumption) | assumption)
          obtain ⟨ad146, e146, hx146_0⟩ := Kd.at_int HR0.out x4_1 p146 q146
          cases e146
          replace hx146_0 := (HB.out.cell (World.block_lt_of_cell? w _ hx146_0)).trans hx146_0
          replace p146 := eq_true p146
          replace q146 := eq_true q146
          go_wp2_with (first | ((with_reducible refine gate_callee (f := 19) rfl ?_); refine goesL_ (some 16) rfl rfl Try.func19 (by kernel_rfl) rfl #[.int .u64 (rd l0 x4_1)] rfl (by (try simp only [List.map_toArray, List.map_cons, List.map_nil]); first | done | rfl | (simp only [List.length_drop, List.length_take]; rfl)) ?_; (with_reducible refine (rabbetref1_width.calls k1 (rd l0 x4_1) t147 _ A4.out).mono ?_); rintro e w' ⟨rfl, ⟨nd, rfl⟩⟩; refine ⟨_, rfl, ?_⟩))
          go_roundg k1
          case measure => have := HK1.out; omega
          case rel => exact ⟨(ji5), (wrap64 (x4_1 + 1)), (by first | rfl | (simp; done) | (simp only [← hji5] <;> (first | rfl | simp)) | (simp [*]; done)), (by first | rfl | (simp; done) | (simp [*]; done)), H', ⟨by have := HK1.out; omega⟩, ⟨by repeat (first | (with_reducible first | exact HB.out | apply below_alloc | apply pw_below_drewN | apply below_drew1) | exact HB.out)⟩⟩
        · rw [if_neg c3] at H
          exact absurd H (by simp)
      · rw [if_neg c2] at H
        have c2b0 : decide (x4_1 < (l0.length : Int)) = false := decide_eq_false c2
        clear c2
        obtain rfl := Option.some.inj H
        go_wp2
        go_ret
        exact ⟨by first | rfl | (simp [errW_none, errW_some] <;> rfl) | (simp [*, errW_none, errW_some] <;> rfl), by repeat (first | (with_reducible first | exact HB.out | apply below_alloc | apply pw_below_drewN | apply below_drew1) | exact HB.out)⟩

/-! ### rabbetref1_PutBits: function 10 -/
mutual
def rabbetref1_PutBits.j0 : Nat → List Int → Int → Bool → Option (List Int × Bool)
  | 0, _, _, _ => none
  | k + 1, x0, x1, x22 => if x22 = true then (some (([] : List Int), false)) else (if 0 ≤ (wrap64 (Int.tdiv (wrap64 ((wrap64 ((x0.length : Int) * x1)) + 7)) 8)) then (if (wrap64 (Int.tdiv (wrap64 ((wrap64 ((x0.length : Int) * x1)) + 7)) 8) : Int).toNat ≤ 281474976710656 then (rabbetref1_PutBits.l0 k x0 x1 (List.replicate (wrap64 (Int.tdiv (wrap64 ((wrap64 ((x0.length : Int) * x1)) + 7)) 8) : Int).toNat 0) 0) else (none)) else (none))
def rabbetref1_PutBits.l0 : Nat → List Int → Int → List Int → Int → Option (List Int × Bool)
  | 0, _, _, _, _ => none
  | k + 1, x0, x1, x6, x7 => if x7 < (x0.length : Int) then (if 0 ≤ x7 then (rabbetref1_PutBits.l1 k x0 x1 x6 x7 (rd x0 x7) 0) else (none)) else (some (x6, true))
def rabbetref1_PutBits.l1 : Nat → List Int → Int → List Int → Int → Int → Int → Option (List Int × Bool)
  | 0, _, _, _, _, _, _ => none
  | k + 1, x0, x1, x6, x7, x8, x9 => if x9 < x1 then (if 0 ≤ (wrap64 (Int.tdiv (wrap64 ((wrap64 (x7 * x1)) + x9)) 8)) then (if (wrap64 (Int.tdiv (wrap64 ((wrap64 (x7 * x1)) + x9)) 8)) < (x6.length : Int) then (if 0 ≤ (Int.tmod (wrap64 ((wrap64 (x7 * x1)) + x9)) 8) then (rabbetref1_PutBits.l1 k x0 x1 (x6.set ((wrap64 (Int.tdiv (wrap64 ((wrap64 (x7 * x1)) + x9)) 8)) : Int).toNat (((rd x6 (wrap64 (Int.tdiv (wrap64 ((wrap64 (x7 * x1)) + x9)) 8))) + (((Int.tmod x8 2) % 256) * 2 ^ min ((Int.tmod (wrap64 ((wrap64 (x7 * x1)) + x9)) 8) : Int).toNat 8)) % 256)) x7 (IntKind.u64.wrap (Int.tdiv x8 2)) (wrap64 (x9 + 1))) else (none)) else (none)) else (none)) else (rabbetref1_PutBits.l0 k x0 x1 x6 (wrap64 (x7 + 1)))
end
def rabbetref1_PutBits.f (k : Nat) (l0 : List Int) (a1 : Int) : Option (List Int × Bool) := if a1 < 0 then (rabbetref1_PutBits.j0 k l0 a1 true) else (if a1 > 64 then (rabbetref1_PutBits.j0 k l0 a1 true) else ((rabbetref1_Width.f k l0).bind fun t148 => (rabbetref1_PutBits.j0 k l0 a1 (decide (t148 > a1)))))
theorem rabbetref1_PutBits.mono_l : ∀ k, (∀ y0 y1 y2, LeO (rabbetref1_PutBits.j0 k y0 y1 y2) (rabbetref1_PutBits.j0 (k + 1) y0 y1 y2)) ∧ (∀ y0 y1 y2 y3, LeO (rabbetref1_PutBits.l0 k y0 y1 y2 y3) (rabbetref1_PutBits.l0 (k + 1) y0 y1 y2 y3)) ∧ (∀ y0 y1 y2 y3 y4 y5, LeO (rabbetref1_PutBits.l1 k y0 y1 y2 y3 y4 y5) (rabbetref1_PutBits.l1 (k + 1) y0 y1 y2 y3 y4 y5))
  | 0 => ⟨fun _ _ _ r h => by simp [rabbetref1_PutBits.j0] at h, fun _ _ _ _ r h => by simp [rabbetref1_PutBits.l0] at h, fun _ _ _ _ _ _ r h => by simp [rabbetref1_PutBits.l1] at h⟩
  | k + 1 => by
    obtain ⟨ih0, ih1, ih2⟩ := rabbetref1_PutBits.mono_l k
    refine ⟨?_, ?_, ?_⟩
    · intro y0 y1 y2
      unfold rabbetref1_PutBits.j0
      repeat' first
      | (with_reducible exact ih0 _ _ _)
      | (with_reducible exact ih1 _ _ _ _)
      | (with_reducible exact ih2 _ _ _ _ _ _)
      | (with_reducible exact rabbetref1_Width.mono _ _)
      | (with_reducible exact LeO.refl _)
      | (with_reducible exact LeO.none _)
      | (with_reducible refine LeO.ite ?_ ?_)
      | (with_reducible refine LeO.bind ?_ (fun _ => ?_))
      | exact ih0 _ _ _
      | exact ih1 _ _ _ _
      | exact ih2 _ _ _ _ _ _
      | exact rabbetref1_Width.mono _ _
      | exact LeO.none _
      | refine LeO.ite ?_ ?_
      | refine LeO.bind ?_ (fun _ => ?_)
    · intro y0 y1 y2 y3
      unfold rabbetref1_PutBits.l0
      repeat' first
      | (with_reducible exact ih0 _ _ _)
      | (with_reducible exact ih1 _ _ _ _)
      | (with_reducible exact ih2 _ _ _ _ _ _)
      | (with_reducible exact rabbetref1_Width.mono _ _)
      | (with_reducible exact LeO.refl _)
      | (with_reducible exact LeO.none _)
      | (with_reducible refine LeO.ite ?_ ?_)
      | (with_reducible refine LeO.bind ?_ (fun _ => ?_))
      | exact ih0 _ _ _
      | exact ih1 _ _ _ _
      | exact ih2 _ _ _ _ _ _
      | exact rabbetref1_Width.mono _ _
      | exact LeO.none _
      | refine LeO.ite ?_ ?_
      | refine LeO.bind ?_ (fun _ => ?_)
    · intro y0 y1 y2 y3 y4 y5
      unfold rabbetref1_PutBits.l1
      repeat' first
      | (with_reducible exact ih0 _ _ _)
      | (with_reducible exact ih1 _ _ _ _)
      | (with_reducible exact ih2 _ _ _ _ _ _)
      | (with_reducible exact rabbetref1_Width.mono _ _)
      | (with_reducible exact LeO.refl _)
      | (with_reducible exact LeO.none _)
      | (with_reducible refine LeO.ite ?_ ?_)
      | (with_reducible refine LeO.bind ?_ (fun _ => ?_))
      | exact ih0 _ _ _
      | exact ih1 _ _ _ _
      | exact ih2 _ _ _ _ _ _
      | exact rabbetref1_Width.mono _ _
      | exact LeO.none _
      | refine LeO.ite ?_ ?_
      | refine LeO.bind ?_ (fun _ => ?_)
theorem rabbetref1_PutBits.mono : ∀ a0 a1 k, LeO (rabbetref1_PutBits.f k a0 a1) (rabbetref1_PutBits.f (k + 1) a0 a1) := by
  intro a0 a1 k
  obtain ⟨ih0, ih1, ih2⟩ := rabbetref1_PutBits.mono_l k
  unfold rabbetref1_PutBits.f
  repeat' first
      | (with_reducible exact ih0 _ _ _)
      | (with_reducible exact ih1 _ _ _ _)
      | (with_reducible exact ih2 _ _ _ _ _ _)
      | (with_reducible exact rabbetref1_Width.mono _ _)
      | (with_reducible exact LeO.refl _)
      | (with_reducible exact LeO.none _)
      | (with_reducible refine LeO.ite ?_ ?_)
      | (with_reducible refine LeO.bind ?_ (fun _ => ?_))
      | exact ih0 _ _ _
      | exact ih1 _ _ _ _
      | exact ih2 _ _ _ _ _ _
      | exact rabbetref1_Width.mono _ _
      | exact LeO.none _
      | refine LeO.ite ?_ ?_
      | refine LeO.bind ?_ (fun _ => ?_)
def rabbetref1_PutBits.T12 : Bool × List (List Nat × List Nat) := (true, [([], []), ([], []), ([1], [1]), ([], []), ([], []), ([4], [4]), ([3, 5], [3, 5]), ([6], [6]), ([], []), ([8], [8]), ([9], [9]), ([], []), ([11], [11]), ([10, 12], [10, 12]), ([7, 13], [7, 13]), ([0, 2, 0, 1, 2, 3, 4, 5, 6, 7, 8, 9, 10, 11, 12, 13, 14], [0, 2]), ([15, 14, 0, 1, 2, 3, 4, 5, 6, 7, 8, 9, 10, 11, 12, 13, 14], [14, 15])])
def rabbetref1_PutBits.B12 : List Nat := [0, 0, 2, 0, 0, 16, 56, 120, 0, 256, 768, 0, 2048, 7936, 16376, 32767, 65535]
theorem rabbetref1_PutBits.tab12 : rtab .any (opsOf Try.f10 12) = rabbetref1_PutBits.T12 := by kernel_rfl
theorem rabbetref1_PutBits.bits12 : waitsOk rabbetref1_PutBits.T12.2 rabbetref1_PutBits.B12 = true := by kernel_rfl
set_option maxHeartbeats 8000000 in
set_option maxRecDepth 100000 in
theorem rabbetref1_PutBits.calls (k : Nat) (A0 : Option Addr) (c0 : Nat) (l0 : List Int) (a1 : Int) (r1 : List Int) (r2 : Bool) (w : World) (hr0 : Kd.C (Kd.int .u64) w A0 l0.length l0) (hc0 : l0.length ≤ c0) (h : rabbetref1_PutBits.f k l0 a1 = some (r1, r2)) :
    Calls Try.prog 10 #[.slice A0 l0.length c0, .int .i64 a1] w fun e w' => ∃ v0_ : Value, e = .returned (.tuple #[v0_, .bool r2]) ∧ Kd.R (Kd.int .u8) 5 w' w.heap.size (fun _ => True) v0_ r1 ∧ Below w.heap.size w w' := by
  have HR0 := Aside0.mk hr0
  have HC0 := Aside0.mk hc0
  clear hr0 hc0
  have HB := Aside0.mk (Below.refl w.heap.size w)
  have H : (if a1 < 0 then (rabbetref1_PutBits.j0 k l0 a1 true) else (if a1 > 64 then (rabbetref1_PutBits.j0 k l0 a1 true) else ((rabbetref1_Width.f k l0).bind fun t148 => (rabbetref1_PutBits.j0 k l0 a1 (decide (t148 > a1)))))) = some (r1, r2) := h
  clear h
  have HC3 := Aside0.mk H
  clear H
  go_enter Try.func10, Try.ntmps10
  go_upto_region 1 with (fail)
  go_cut [22] (fun v22 wc => ∃ (kq : Nat) (x22_2 : Bool), v22 = .bool x22_2 ∧ Aside0 (rabbetref1_PutBits.j0 kq l0 a1 x22_2 = some (r1, r2)) ∧ Aside0 (kq ≤ k) ∧ Aside0 (Below w.heap.size w wc))
  case first =>
    have H := HC3.out
    clear HC3
    by_cases c4 : a1 < 0
    · rw [if_pos c4] at H
      have c4b0 : decide (a1 < 0) = true := decide_eq_true c4
      clear c4
      (first | rw [c4b0] | rw [c4b1] | (simp only [i64_w, i32_w]; rw [c4b0]) | skip)
      have H' := Aside0.mk H
      clear H
      go_wp2
      go_meet
      case rel => exact ⟨_, (true), (by first | rfl | (simp; done) | (simp [*]; done)), H', ⟨by first | omega | exact Nat.le_refl _⟩, ⟨by repeat (first | (with_reducible first | exact HB.out | apply below_alloc | apply pw_below_drewN | apply below_drew1) | exact HB.out)⟩⟩
    · rw [if_neg c4] at H
      have c4b0 : decide (a1 < 0) = false := decide_eq_false c4
      clear c4
      (first | rw [c4b0] | rw [c4b1] | (simp only [i64_w, i32_w]; rw [c4b0]) | skip)
      by_cases c5 : a1 > 64
      · rw [if_pos c5] at H
        have c5b0 : decide (64 < a1) = true := decide_eq_true c5
        clear c5
        have H' := Aside0.mk H
        clear H
        go_wp2
        go_meet
        case rel => exact ⟨_, (true), (by first | rfl | (simp; done) | (simp [*]; done)), H', ⟨by first | omega | exact Nat.le_refl _⟩, ⟨by repeat (first | (with_reducible first | exact HB.out | apply below_alloc | apply pw_below_drewN | apply below_drew1) | exact HB.out)⟩⟩
      · rw [if_neg c5] at H
        have c5b0 : decide (64 < a1) = false := decide_eq_false c5
        clear c5
        replace H := Option.bind_eq_some_iff.mp H
        obtain ⟨t148, A60, H⟩ := H
        replace H : (rabbetref1_PutBits.j0 k l0 a1 (decide (t148 > a1))) = some (r1, r2) := H
        have A6 := Aside0.mk A60
        clear A60
        have H' := Aside0.mk H
        clear H
        go_wp2_with (first | (go_at_call 14; (with_reducible refine (rabbetref1_Width.calls k _ _ l0 t148 _ ?side1 ?side2 A6.out).mono ?_); (case side1 => repeat (first | exact (Kd.C_below HR0.out HB.out) | (with_reducible refine Kd.C_alloc ?_ _) | (with_reducible refine Kd.C_drewN ?_ _) | (with_reducible refine Kd.C_drew ?_))); (case side2 => exact HC0.out); rintro e w7 ⟨rfl, hb⟩; have n0_ := Aside0.mk (below_step (by repeat (first | (with_reducible first | exact HB.out | apply below_alloc | apply pw_below_drewN | apply below_drew1) | exact HB.out)) hb); clear HB; have HB := n0_; clear n0_; (try clear hb); (try clear hb2); (try clear hk); (try clear hi)))
        go_meet
        case rel => exact ⟨_, (decide (t148 > a1)), (by first | rfl | (simp; done) | (simp [*]; done)), H', ⟨by first | omega | exact Nat.le_refl _⟩, ⟨by repeat (first | (with_reducible first | exact HB.out | apply below_alloc | apply pw_below_drewN | apply below_drew1) | exact HB.out)⟩⟩
  case rest =>
    clear HC3
    try clear c1
    try clear p2
    try clear c4
    try clear c4b0
    try clear c5
    try clear c5b0
    obtain ⟨kq, x22_2, rfl, HA, HJ2, HB⟩ := hcut
    cases kq with
    | zero => exact absurd HA.out (by simp [rabbetref1_PutBits.j0])
    | succ kj2 =>
      have H := HA.out
      clear HA
      simp only [rabbetref1_PutBits.j0] at H
      by_cases c8 : x22_2 = true
      · subst c8
        have H1 : (some (([] : List Int), false)) = some (r1, r2) := by rw [if_pos rfl] at H; exact H
        clear H
        have H := H1
        clear H1
        simp only [Option.some.injEq, Prod.mk.injEq] at H
        obtain ⟨rfl, rfl⟩ := H
        go_wp2
        go_ret2
        exact ⟨_, by first | rfl | (simp [errW_none, errW_some] <;> rfl) | (simp [*, errW_none, errW_some] <;> rfl), by first | exact Kd.R_nil _ _ _ _ _ | exact Kd.N_nil _ _ _ _ _ | exact Kd.V_nil _ _ _ _ _ | exact Kd.Q_nil _ _ _ _ _ | exact Kd.S_nil _ _ _ _ _, by repeat (first | (with_reducible first | exact HB.out | apply below_alloc | apply pw_below_drewN | apply below_drew1) | exact HB.out)⟩
      · replace c8 := Bool.eq_false_iff.mpr c8
        subst c8
        have H1 : (if 0 ≤ (wrap64 (Int.tdiv (wrap64 ((wrap64 ((l0.length : Int) * a1)) + 7)) 8)) then (if (wrap64 (Int.tdiv (wrap64 ((wrap64 ((l0.length : Int) * a1)) + 7)) 8) : Int).toNat ≤ 281474976710656 then (rabbetref1_PutBits.l0 kj2 l0 a1 (List.replicate (wrap64 (Int.tdiv (wrap64 ((wrap64 ((l0.length : Int) * a1)) + 7)) 8) : Int).toNat 0) 0) else (none)) else (none)) = some (r1, r2) := by rw [if_neg (show ¬ (false = true) by decide)] at H; exact H
        clear H
        have H := H1
        clear H1
        obtain ⟨ji9, hji9⟩ : ∃ j_ : Int, (wrap64 (Int.tdiv (wrap64 ((wrap64 ((l0.length : Int) * a1)) + 7)) 8)) = j_ := ⟨_, rfl⟩
        replace H : (if 0 ≤ (ji9) then (if (ji9 : Int).toNat ≤ 281474976710656 then (rabbetref1_PutBits.l0 kj2 l0 a1 (List.replicate (ji9 : Int).toNat 0) 0) else (none)) else (none)) = some (r1, r2) := by first | (rw [hji9] at H; exact H) | (simp only [hji9] at H ⊢; exact H) | exact H
        have hji9w : (IntKind.i64.wrap (Int.tdiv (wrap64 ((wrap64 ((l0.length : Int) * a1)) + 7)) 8)) = ji9 := (i64_w _).trans hji9
        by_cases c10 : 0 ≤ (ji9)
        · rw [if_pos c10] at H
          have c10b0 := eq_true c10
          have c10b1 : decide (0 ≤ (ji9)) = true := decide_eq_true c10
          clear c10
          by_cases c11 : (ji9 : Int).toNat ≤ 281474976710656
          · rw [if_pos c11] at H
            have c11b0 := eq_true c11
            have c11b1 : decide ((ji9 : Int).toNat ≤ 281474976710656) = true := decide_eq_true c11
            clear c11
            obtain ⟨y149, hy149⟩ : ∃ y_ : List Int, y_ = (List.replicate (ji9 : Int).toNat 0) := ⟨_, rfl⟩
            replace H : (rabbetref1_PutBits.l0 kj2 l0 a1 y149 0) = some (r1, r2) := by first | (rw [hy149]; with_reducible exact H) | (have H2_ := (Option.bind_some _ _).symm.trans H; rw [hy149]; with_reducible exact H2_) | (have H2_ := (Option.bind_some _ _).symm.trans H; with_reducible exact H2_) | with_reducible exact H | (rw [hy149]; exact H) | exact H
            have Ny149 := Aside0.mk hy149
            clear hy149
            have H' := Aside0.mk H
            clear H
            go_wp2_with (first | ((with_reducible refine gate_dst (N := 29) rfl ?_); refine Kd.R_make (Kd.int .u8) _ 5 rfl (N := 29) rfl 23 _ _ rfl ji9 rfl rfl Try.underlying23 (.int .u8 0) 1 info5 rfl (by decide) (by omega) 0 (ok := fun _ => True) (okp := fun _ => True) rfl (fun _ hk => hk) trivial (of_decide_eq_true (by first | (with_reducible assumption) | assumption)) (Nat.le_trans (Nat.mul_le_mul_right _ (of_decide_eq_true (by first | (with_reducible assumption) | assumption) : ji9.toNat ≤ 281474976710656)) (by omega)) (Below.refl _ _) (Nat.le_refl _) ?_; intro v150 w12 ho13 hb hg_ hnew_; clear hg_ hnew_; (first | rw [← Ny149.out] at ho13 | (simp only [Int.reduceToNat] at ho13; rw [← Ny149.out] at ho13)); have n0_ := Aside0.mk (Kd.R_lower ho13 (below_size (by repeat (first | (with_reducible first | exact HB.out | apply below_alloc | apply pw_below_drewN | apply below_drew1) | exact HB.out)))); have n1_ := Aside0.mk (below_step (by repeat (first | (with_reducible first | exact HB.out | apply below_alloc | apply pw_below_drewN | apply below_drew1) | exact HB.out)) hb); clear HB; have HO151 := n0_; have HB := n1_; clear n0_ n1_; clear hb ho13))
            go_loopg [7] kj2 (fun kq v7 w' => ∃ (x6_2 : List Int) (x7_2 : Int), v7 = .int .i64 x7_2 ∧ Aside0 (rabbetref1_PutBits.l0 kq l0 a1 x6_2 x7_2 = some (r1, r2)) ∧ Aside0 (kq ≤ kj2) ∧ Aside0 (Kd.R (Kd.int .u8) 5 w' w.heap.size (fun _ => True) v150 x6_2) ∧ Aside0 (Below w.heap.size w w'))
            case atStart => exact ⟨(y149), (0), (by first | rfl | (simp; done) | (simp [*]; done)), H', ⟨Nat.le_refl _⟩, ⟨by (with_reducible repeat (first | apply Kd.R_alloc | apply Kd.R_drewN | apply Kd.R_drew)); exact HO151.out⟩, ⟨by repeat (first | (with_reducible first | exact HB.out | apply below_alloc | apply pw_below_drewN | apply below_drew1) | exact HB.out)⟩⟩
            case round =>
              clear H'
              try clear c1
              try clear p2
              try clear c4
              try clear c4b0
              try clear c5
              try clear c5b0
              try clear p6
              try clear c8
              try clear c10
              try clear c10b0
              try clear c10b1
              try clear c11
              try clear c11b0
              try clear c11b1
              try clear p2
              obtain ⟨x6_2, x7_2, rfl, HA, HK2, HO_6, HB⟩ := hrel
              cases gk with
              | zero => exact absurd HA.out (by simp [rabbetref1_PutBits.l0])
              | succ k2 =>
                have H := HA.out
                clear HA
                simp only [rabbetref1_PutBits.l0] at H
                by_cases c14 : x7_2 < (l0.length : Int)
                · rw [if_pos c14] at H
                  have c14b0 : decide (x7_2 < (l0.length : Int)) = true := decide_eq_true c14
                  clear c14
                  by_cases c15 : 0 ≤ x7_2
                  · rw [if_pos c15] at H
                    have c15b0 : decide (0 ≤ x7_2) = true := decide_eq_true c15
                    clear c15
                    have H' := Aside0.mk H
                    clear H
                    have p152 : 0 ≤ (x7_2 : Int) := of_decide_eq_true (by first | (with_reducible assumption) | assumption)
                    have q152 : x7_2 < (l0.length : Int) := of_decide_eq_true (by first | (with_reducible assumption) | assumption)
                    obtain ⟨ad152, e152, hx152_0⟩ := Kd.at_int HR0.out x7_2 p152 q152
                    cases e152
                    replace hx152_0 := (HB.out.cell (World.block_lt_of_cell? w _ hx152_0)).trans hx152_0
                    replace p152 := eq_true p152
                    replace q152 := eq_true q152
                    go_wp2
                    go_loopg [8, 9] k2 (fun kq v8 v9 w' => ∃ (x6_3 : List Int) (x8_3 : Int) (x9_3 : Int), v8 = .int .u64 x8_3 ∧ v9 = .int .i64 x9_3 ∧ Aside0 (rabbetref1_PutBits.l1 kq l0 a1 x6_3 x7_2 x8_3 x9_3 = some (r1, r2)) ∧ Aside0 (kq ≤ k2) ∧ Aside0 (Kd.R (Kd.int .u8) 5 w' w.heap.size (fun _ => True) v150 x6_3) ∧ Aside0 (Below w.heap.size w w'))
                    case atStart => exact ⟨(x6_2), (rd l0 x7_2), (0), (by first | rfl | (simp; done) | (simp [*]; done)), (by first | rfl | (simp; done) | (simp [*]; done)), H', ⟨Nat.le_refl _⟩, ⟨by (with_reducible repeat (first | apply Kd.R_alloc | apply Kd.R_drewN | apply Kd.R_drew)); exact HO_6.out⟩, ⟨by repeat (first | (with_reducible first | exact HB.out | apply below_alloc | apply pw_below_drewN | apply below_drew1) | exact HB.out)⟩⟩
                    case round =>
                      clear H'
                      try clear c1
                      try clear p1
                      try clear q1
                      try clear hx1
                      try clear p2
                      try clear c4
                      try clear c4b0
                      try clear c5
                      try clear c5b0
                      try clear p6
                      try clear c8
                      try clear c10
                      try clear c10b0
                      try clear c10b1
                      try clear c11
                      try clear c11b0
                      try clear c11b1
                      try clear c14
                      try clear c14b0
                      try clear c15
                      try clear c15b0
                      try clear p15
                      try clear q15
                      try clear hx15
                      try clear hx152_0
                      try clear p152
                      try clear p2
                      try clear p6
                      try clear q152
                      obtain ⟨x6_3, x8_3, x9_3, rfl, rfl, HA, HK3, HO_6, HB⟩ := hrel
                      cases gk with
                      | zero => exact absurd HA.out (by simp [rabbetref1_PutBits.l1])
                      | succ k3 =>
                        have H := HA.out
                        clear HA
                        simp only [rabbetref1_PutBits.l1] at H
                        by_cases c16 : x9_3 < a1
                        · rw [if_pos c16] at H
                          have c16b0 : decide (x9_3 < a1) = true := decide_eq_true c16
                          clear c16
                          obtain ⟨ji17, hji17⟩ : ∃ j_ : Int, (wrap64 (Int.tdiv (wrap64 ((wrap64 (x7_2 * a1)) + x9_3)) 8)) = j_ := ⟨_, rfl⟩
                          replace H : (if 0 ≤ (ji17) then (if (ji17) < (x6_3.length : Int) then (if 0 ≤ (Int.tmod (wrap64 ((wrap64 (x7_2 * a1)) + x9_3)) 8) then (rabbetref1_PutBits.l1 k3 l0 a1 (x6_3.set ((ji17) : Int).toNat (((rd x6_3 (ji17)) + (((Int.tmod x8_3 2) % 256) * 2 ^ min ((Int.tmod (wrap64 ((wrap64 (x7_2 * a1)) + x9_3)) 8) : Int).toNat 8)) % 256)) x7_2 (IntKind.u64.wrap (Int.tdiv x8_3 2)) (wrap64 (x9_3 + 1))) else (none)) else (none)) else (none)) = some (r1, r2) := by first | (rw [hji17] at H; exact H) | (simp only [hji17] at H ⊢; exact H) | exact H
                          have hji17w : (IntKind.i64.wrap (Int.tdiv (wrap64 ((wrap64 (x7_2 * a1)) + x9_3)) 8)) = ji17 := (i64_w _).trans hji17
                          by_cases c18 : 0 ≤ (ji17)
                          · rw [if_pos c18] at H
                            have c18b0 : decide (0 ≤ (ji17)) = true := decide_eq_true c18
                            clear c18
                            by_cases c19 : (ji17) < (x6_3.length : Int)
                            · rw [if_pos c19] at H
                              have c19b0 : decide ((ji17) < (x6_3.length : Int)) = true := decide_eq_true c19
                              clear c19
                              obtain ⟨ji20, hji20⟩ : ∃ j_ : Int, (Int.tmod (wrap64 ((wrap64 (x7_2 * a1)) + x9_3)) 8) = j_ := ⟨_, rfl⟩
                              replace H : (if 0 ≤ (ji20) then (rabbetref1_PutBits.l1 k3 l0 a1 (x6_3.set ((ji17) : Int).toNat (((rd x6_3 (ji17)) + (((Int.tmod x8_3 2) % 256) * 2 ^ min ((ji20) : Int).toNat 8)) % 256)) x7_2 (IntKind.u64.wrap (Int.tdiv x8_3 2)) (wrap64 (x9_3 + 1))) else (none)) = some (r1, r2) := by first | (rw [hji20] at H; exact H) | (simp only [hji20] at H ⊢; exact H) | exact H
                              by_cases c21 : 0 ≤ (ji20)
                              · rw [if_pos c21] at H
                                have c21b0 := eq_true c21
                                have c21b1 : decide (0 ≤ (ji20)) = true := decide_eq_true c21
                                clear c21
                                obtain ⟨ji22, hji22⟩ : ∃ j_ : Int, (shl .u8 ((Int.tmod x8_3 2) % 256) (ji20)) = j_ := ⟨_, rfl⟩
                                replace H : (rabbetref1_PutBits.l1 k3 l0 a1 (x6_3.set ((ji17) : Int).toNat (((rd x6_3 (ji17)) + (((Int.tmod x8_3 2) % 256) * 2 ^ min ((ji20) : Int).toNat 8)) % 256)) x7_2 (IntKind.u64.wrap (Int.tdiv x8_3 2)) (wrap64 (x9_3 + 1))) = some (r1, r2) := by first | (rw [hji22] at H; exact H) | (simp only [hji22] at H ⊢; exact H) | exact H
                                have hji22_ : (IntKind.u8.wrap (((Int.tmod x8_3 2) % 256) * 2 ^ min (ji20).toNat 8)) = ji22 := hji22
                                have hji22z : (ji20) ≤ 8 → (IntKind.u8.wrap (((Int.tmod x8_3 2) % 256) * 2 ^ (ji20).toNat)) = ji22 := shl_small hji22
                                obtain ⟨y154, hy154⟩ : ∃ y_ : List Int, y_ = (x6_3.set ((ji17) : Int).toNat (((rd x6_3 (ji17)) + (((Int.tmod x8_3 2) % 256) * 2 ^ min ((ji20) : Int).toNat 8)) % 256)) := ⟨_, rfl⟩
                                replace H : (rabbetref1_PutBits.l1 k3 l0 a1 y154 x7_2 (IntKind.u64.wrap (Int.tdiv x8_3 2)) (wrap64 (x9_3 + 1))) = some (r1, r2) := by first | (rw [hy154]; with_reducible exact H) | (have H2_ := (Option.bind_some _ _).symm.trans H; rw [hy154]; with_reducible exact H2_) | (have H2_ := (Option.bind_some _ _).symm.trans H; with_reducible exact H2_) | with_reducible exact H | (rw [hy154]; exact H) | exact H
                                have Ny154 := Aside0.mk hy154
                                clear hy154
                                have H' := Aside0.mk H
                                clear H
                                try go_wp2
                                have n0_ := Aside0.mk (Kd.R_drew HO_6.out)
                                have n1_ := Aside0.mk (below_drew1 HB.out)
                                clear HO_6
                                clear HB
                                have HO_6 := n0_
                                have HB := n1_
                                clear n0_ n1_
                                obtain ⟨Ao25, co25, eo25⟩ := Kd.R_slice HO_6.out
                                (first | subst eo25 | (injection eo25 with f1_ f2_ f3_; have f4_ := f1_.symm; have f5_ := f3_.symm; clear f1_ f2_ f3_; subst f4_; subst f5_))
                                have p153 : 0 ≤ ((ji17) : Int) := of_decide_eq_true (by first | (with_reducible assumption) | assumption)
                                have q153 : (ji17) < (x6_3.length : Int) := of_decide_eq_true (by first | (with_reducible assumption) | assumption)
                                obtain ⟨ad153, e153, hx153_0⟩ := Kd.at_int (Kd.R_reads' HO_6.out).2.2 (ji17) p153 q153
                                cases e153
                                replace p153 := eq_true p153
                                replace q153 := eq_true q153
                                have p23 : 0 ≤ ((ji17) : Int) := of_decide_eq_true (by first | (with_reducible assumption) | assumption)
                                have q23 : ((ji17) : Int) < ((x6_3.length : Int) : Int) := of_decide_eq_true (by first | (with_reducible assumption) | assumption)
                                obtain ⟨go23, co23, eo23, gb23, gl23, cl23, HG23⟩ := Kd.R_form HO_6.out (by omega)
                                (first | cases eo23 | (injection eo23 with ea_ en_ ec_; (first | subst ea_ | (injection ea_ with ea_; subst ea_)); subst ec_; clear en_))
                                have GB23 := Aside0.mk gb23
                                have GG23 := Aside0.mk HG23
                                clear gb23 gl23 HG23
                                (first | simp only [add_plain] at hx153_0 | skip)
                                obtain ⟨hx23_0, hf23_0⟩ := Kd.R_celln 0 HO_6.out ((ji17) : Int) p23 q23
                                replace p23 := eq_true p23
                                replace q23 := eq_true q23
                                have HP26 := Kd.R_putn HO_6.out ((ji17) : Int) (((rd x6_3 (ji17)) + (((Int.tmod x8_3 2) % 256) * 2 ^ min ((ji20) : Int).toNat 8)) % 256)
                                rw [← Ny154.out] at HP26
                                have HQ26 := Aside0.mk HP26
                                clear HP26
                                refine start_ (n := 17) (S := fun w' => w'.cell? ⟨go23, ((ji17)).toNat, none⟩ = some (.int .u8 (rd x6_3 (ji17)))) (ds := [16]) #[false, false, false, false, false, false, false, false, false, false, false, false, false, false, false, false, false] (by kernel_rfl) rfl rfl (hx153_0) (fun hHeld => ?_); refine with_tabW rabbetref1_PutBits.tab12 rabbetref1_PutBits.bits12 (fun HT_ HW_ => ?_)
                                generalize wr.drew = w24 at HO_6 HB GG23 HQ26 hf23_0 hx153_0 hx23_0 hHeld ⊢
                                refine pure_ (i := 0) (N := some 50) (v := ?_) (a' := ?_) #[true, false, false, false, false, false, false, false, false, false, false, false, false, false, false, false, false] rfl rfl (any_of HT_.out (by kernel_rfl)) (fun _ _ _ h => h) (Or.inl ⟨by rfl, ?_⟩) ?_ ?_
                                rotate_left
                                · intro w'
                                  go_simp
                                  with_reducible rfl
                                rotate_left
                                · simp only [Act.put, List.setIfInBounds_toArray, List.set_cons_zero, List.set_cons_succ, i64_w, i32_w]
                                  rfl
                                refine pure_ (i := 1) (N := some 51) (v := ?_) (a' := ?_) #[true, true, false, false, false, false, false, false, false, false, false, false, false, false, false, false, false] rfl rfl (any_of HT_.out (by kernel_rfl)) (fun _ _ _ h => h) (Or.inl ⟨by rfl, ?_⟩) ?_ ?_
                                rotate_left
                                · intro w'
                                  go_simp
                                  with_reducible rfl
                                rotate_left
                                · simp only [Act.put, List.setIfInBounds_toArray, List.set_cons_zero, List.set_cons_succ, i64_w, i32_w]
                                  rfl
                                refine pure_ (i := 2) (N := some 52) (v := ?_) (a' := ?_) #[true, true, true, false, false, false, false, false, false, false, false, false, false, false, false, false, false] rfl rfl (any_of HT_.out (by kernel_rfl)) (fun _ _ _ h => h) (Or.inl ⟨by rfl, ?_⟩) ?_ ?_
                                rotate_left
                                · intro w'
                                  go_simp
                                  with_reducible rfl
                                rotate_left
                                · simp only [Act.put, List.setIfInBounds_toArray, List.set_cons_zero, List.set_cons_succ, i64_w, i32_w]
                                  rfl
                                refine pure_ (i := 3) (N := some 53) (v := ?_) (a' := ?_) #[true, true, true, true, false, false, false, false, false, false, false, false, false, false, false, false, false] rfl rfl (any_of HT_.out (by kernel_rfl)) (fun _ _ _ h => h) (Or.inl ⟨by rfl, ?_⟩) ?_ ?_
                                rotate_left
                                · intro w'
                                  go_simp
                                  with_reducible rfl
                                rotate_left
                                · simp only [Act.put, List.setIfInBounds_toArray, List.set_cons_zero, List.set_cons_succ, i64_w, i32_w]
                                  rfl
                                refine pure_ (i := 4) (N := some 54) (v := ?_) (a' := ?_) #[true, true, true, true, true, false, false, false, false, false, false, false, false, false, false, false, false] rfl rfl (any_of HT_.out (by kernel_rfl)) (fun _ _ _ h => h) (Or.inl ⟨by rfl, ?_⟩) ?_ ?_
                                rotate_left
                                · intro w'
                                  go_simp
                                  with_reducible rfl
                                rotate_left
                                · simp only [Act.put, List.setIfInBounds_toArray, List.set_cons_zero, List.set_cons_succ, i64_w, i32_w]
                                  rfl
                                refine pure_ (i := 5) (N := some 55) (v := ?_) (a' := ?_) #[true, true, true, true, true, true, false, false, false, false, false, false, false, false, false, false, false] rfl rfl (any_of HT_.out (by kernel_rfl)) (fun _ _ _ h => h) (Or.inl ⟨by rfl, ?_⟩) ?_ ?_
                                rotate_left
                                · intro w'
                                  go_simp
                                  with_reducible rfl
                                rotate_left
                                · simp only [Act.put, List.setIfInBounds_toArray, List.set_cons_zero, List.set_cons_succ, i64_w, i32_w]
                                  rfl
                                refine pure_ (i := 6) (N := some 56) (v := ?_) (a' := ?_) #[true, true, true, true, true, true, true, false, false, false, false, false, false, false, false, false, false] rfl rfl (any_of HT_.out (by kernel_rfl)) (fun _ _ _ h => h) (Or.inl ⟨by rfl, ?_⟩) ?_ ?_
                                rotate_left
                                · intro w'
                                  go_simp
                                  with_reducible rfl
                                rotate_left
                                · simp only [Act.put, List.setIfInBounds_toArray, List.set_cons_zero, List.set_cons_succ, i64_w, i32_w]
                                  rfl
                                refine pure_ (i := 8) (N := some 58) (v := ?_) (a' := ?_) #[true, true, true, true, true, true, true, false, true, false, false, false, false, false, false, false, false] rfl rfl (any_of HT_.out (by kernel_rfl)) (fun _ _ _ h => h) (Or.inl ⟨by rfl, ?_⟩) ?_ ?_
                                rotate_left
                                · intro w'
                                  go_simp
                                  with_reducible rfl
                                rotate_left
                                · simp only [Act.put, List.setIfInBounds_toArray, List.set_cons_zero, List.set_cons_succ, i64_w, i32_w]
                                  rfl
                                refine pure_ (i := 9) (N := some 59) (v := ?_) (a' := ?_) #[true, true, true, true, true, true, true, false, true, true, false, false, false, false, false, false, false] rfl rfl (any_of HT_.out (by kernel_rfl)) (fun _ _ _ h => h) (Or.inl ⟨by rfl, ?_⟩) ?_ ?_
                                rotate_left
                                · intro w'
                                  go_simp
                                  with_reducible rfl
                                rotate_left
                                · simp only [Act.put, List.setIfInBounds_toArray, List.set_cons_zero, List.set_cons_succ, i64_w, i32_w]
                                  rfl
                                refine pure_ (i := 10) (N := some 60) (v := ?_) (a' := ?_) #[true, true, true, true, true, true, true, false, true, true, true, false, false, false, false, false, false] rfl rfl (any_of HT_.out (by kernel_rfl)) (fun _ _ _ h => h) (Or.inl ⟨by rfl, ?_⟩) ?_ ?_
                                rotate_left
                                · intro w'
                                  go_simp
                                  with_reducible rfl
                                rotate_left
                                · simp only [Act.put, List.setIfInBounds_toArray, List.set_cons_zero, List.set_cons_succ, i64_w, i32_w]
                                  rfl
                                refine pure_ (i := 11) (N := some 61) (v := ?_) (a' := ?_) #[true, true, true, true, true, true, true, false, true, true, true, true, false, false, false, false, false] rfl rfl (any_of HT_.out (by kernel_rfl)) (fun _ _ _ h => h) (Or.inl ⟨by rfl, ?_⟩) ?_ ?_
                                rotate_left
                                · intro w'
                                  go_simp
                                  with_reducible rfl
                                rotate_left
                                · simp only [Act.put, List.setIfInBounds_toArray, List.set_cons_zero, List.set_cons_succ, i64_w, i32_w]
                                  rfl
                                refine pure_ (i := 12) (N := some 62) (v := ?_) (a' := ?_) #[true, true, true, true, true, true, true, false, true, true, true, true, true, false, false, false, false] rfl rfl (any_of HT_.out (by kernel_rfl)) (fun _ _ _ h => h) (Or.inl ⟨by rfl, ?_⟩) ?_ ?_
                                rotate_left
                                · intro w'
                                  go_simp
                                  with_reducible rfl
                                rotate_left
                                · simp only [Act.put, List.setIfInBounds_toArray, List.set_cons_zero, List.set_cons_succ, i64_w, i32_w]
                                  rfl
                                refine pure_ (i := 13) (N := some 63) (v := ?_) (a' := ?_) #[true, true, true, true, true, true, true, false, true, true, true, true, true, true, false, false, false] rfl rfl (any_of HT_.out (by kernel_rfl)) (fun _ _ _ h => h) (Or.inl ⟨by rfl, ?_⟩) ?_ ?_
                                rotate_left
                                · intro w'
                                  go_simp
                                  with_reducible rfl
                                rotate_left
                                · simp only [Act.put, List.setIfInBounds_toArray, List.set_cons_zero, List.set_cons_succ, i64_w, i32_w]
                                  rfl
                                refine take_ (i := 7) (N := some 57) (v := ?_) (a' := ?_) #[true, true, true, true, true, true, true, true, true, true, true, true, true, true, false, false, false] rfl rfl (take_ofW HT_.out HW_.out (by kernel_rfl)) (fun _ _ _ h => h) (Or.inl ⟨by rfl, ?_⟩) hHeld ?_ ?_
                                rotate_left
                                · intro w' s0
                                  go_simp
                                  with_reducible rfl
                                rotate_left
                                · simp only [Act.put, List.setIfInBounds_toArray, List.set_cons_zero, List.set_cons_succ, i64_w, i32_w]
                                  rfl
                                refine pure_ (i := 14) (N := some 64) (v := ?_) (a' := ?_) #[true, true, true, true, true, true, true, true, true, true, true, true, true, true, true, false, false] rfl rfl (any_of HT_.out (by kernel_rfl)) (fun _ _ _ h => h) (Or.inl ⟨by rfl, ?_⟩) ?_ ?_
                                rotate_left
                                · intro w'
                                  go_simp
                                  with_reducible rfl
                                rotate_left
                                · simp only [Act.put, List.setIfInBounds_toArray, List.set_cons_zero, List.set_cons_succ, i64_w, i32_w]
                                  rfl
                                refine pure_ (i := 15) (N := some 65) (v := ?_) (a' := ?_) #[true, true, true, true, true, true, true, true, true, true, true, true, true, true, true, true, false] rfl rfl (any_of HT_.out (by kernel_rfl)) (fun _ _ _ h => h) (Or.inl ⟨by rfl, ?_⟩) ?_ ?_
                                rotate_left
                                · intro w'
                                  go_simp
                                  with_reducible rfl
                                rotate_left
                                · simp only [Act.put, List.setIfInBounds_toArray, List.set_cons_zero, List.set_cons_succ, i64_w, i32_w]
                                  rfl
                                refine last_ (i := 16) (N := none) #[true, true, true, true, true, true, true, true, true, true, true, true, true, true, true, true, true] rfl rfl (one_of HT_.out (by kernel_rfl)) (by decide) (fun K hK => ?_)
                                refine skip_ (w1 := ?_) (by rfl) rfl ?_ ?_
                                rotate_left
                                · go_simp
                                  rfl
                                refine hK.out _ _ ?_
                                clear hK K
                                refine done_ (done_of HT_.out (by kernel_rfl)) ?_
                                try go_wp2
                                go_roundg k3
                                case measure => have := HJ2.out; have := HK2.out; have := HK3.out; omega
                                case rel => exact ⟨(y154), (IntKind.u64.wrap (Int.tdiv x8_3 2)), (wrap64 (x9_3 + 1)), (by first | rfl | (simp; done) | (simp [*]; done)), (by first | rfl | (simp; done) | (simp [*]; done)), H', ⟨by have := HJ2.out; have := HK2.out; have := HK3.out; omega⟩, ⟨by (with_reducible repeat (first | apply Kd.R_alloc | apply Kd.R_drewN | apply Kd.R_drew)); first | exact HQ26.out | (have hq_ := HQ26.out; subst hji22 hji20 hji17 hji9; exact hq_)⟩, ⟨by repeat (first | (with_reducible first | exact HB.out | apply below_alloc | apply pw_below_drewN | apply below_drew1 | refine below_set ?_ GB23.out) | exact HB.out)⟩⟩
                              · rw [if_neg c21] at H
                                exact absurd H (by simp)
                            · rw [if_neg c19] at H
                              exact absurd H (by simp)
                          · rw [if_neg c18] at H
                            exact absurd H (by simp)
                        · rw [if_neg c16] at H
                          have c16b0 : decide (x9_3 < a1) = false := decide_eq_false c16
                          clear c16
                          have H' := Aside0.mk H
                          clear H
                          go_wp2
                          go_roundg k3
                          case measure => have := HJ2.out; have := HK2.out; have := HK3.out; omega
                          case rel => exact ⟨(x6_3), (wrap64 (x7_2 + 1)), (by first | rfl | (simp; done) | (simp [*]; done)), H', ⟨by have := HJ2.out; have := HK2.out; have := HK3.out; omega⟩, ⟨by (with_reducible repeat (first | apply Kd.R_alloc | apply Kd.R_drewN | apply Kd.R_drew)); exact HO_6.out⟩, ⟨by repeat (first | (with_reducible first | exact HB.out | apply below_alloc | apply pw_below_drewN | apply below_drew1) | exact HB.out)⟩⟩
                  · rw [if_neg c15] at H
                    exact absurd H (by simp)
                · rw [if_neg c14] at H
                  have c14b0 : decide (x7_2 < (l0.length : Int)) = false := decide_eq_false c14
                  clear c14
                  simp only [Option.some.injEq, Prod.mk.injEq] at H
                  obtain ⟨rfl, rfl⟩ := H
                  go_wp2
                  go_ret2
                  exact ⟨_, by first | rfl | (simp [errW_none, errW_some] <;> rfl) | (simp only [← hji9]; first | rfl | (simp [errW_none, errW_some] <;> rfl)) | (simp [*, errW_none, errW_some] <;> rfl), by (with_reducible repeat (first | apply Kd.R_alloc | apply Kd.R_drewN | apply Kd.R_drew)); exact HO_6.out, by repeat (first | (with_reducible first | exact HB.out | apply below_alloc | apply pw_below_drewN | apply below_drew1) | exact HB.out)⟩
          · rw [if_neg c11] at H
            exact absurd H (by simp)
        · rw [if_neg c10] at H
          exact absurd H (by simp)

end Go.Proofs.Ytbjliggjalnhgaa.PBitsAll
