-- Written by xprint.py (a program of this project) out of the translation. Not trusted: Lean checks it. -- squeezed
import Derived.Test.YtigldipjkejalaaDoorPRleAllx0
import Derived.Test.YtigldipjkejalaaDoorPRleAllx2
namespace Go.Proofs.YtigldipjkejalaaDoor.PRleAll
open Go.RowKit Go.Proofs.YtigldipjkejalaaDoorW.PrintWords Go.Proofs.YtigldipjkejalaaDoorW.PrintLast Go.Proofs.YtigldipjkejalaaDoorW.PrintMore
attribute [local go_sem] max2_int min2_int max_two min_two max_three min_three max_four min_four   -- for this text's walks alone
set_option linter.unusedVariables false
set_option linter.unusedSimpArgs false
/-- Five known bytes stand in the room behind the row. -/
def Spare (w : World) (v : Value) (n : Nat) : Prop := ∃ g cap, v = .slice (some ⟨g, 0, none⟩) n cap ∧ n + 5 ≤ cap ∧ ∀ i, i < 5 → w.cell? ⟨g, n + i, none⟩ = some (.int .u8 ((161 + i : Nat) : Int))
theorem Spare.move {w w1 : World} {v : Value} {n : Nat} (h : Spare w v n) (hm : ∀ k, v.ownBlock = some k → w1.heap[k]? = w.heap[k]?) : Spare w1 v n := by
 obtain ⟨g, cap, rfl, hc, hh⟩ := h
 refine ⟨g, cap, rfl, hc, fun i hi => ?_⟩
 rw [← hh i hi]
 have := hm g rfl
 unfold World.cell?
 rw [this]
def Kd.H {α : Type} (d : Kd α) (e : Nat) (w : World) (base : Nat) (ok : Nat → Prop) (v : Value) (xs : List α) : Prop := d.R e w base ok v xs ∧ Spare w v xs.length
section
variable {α : Type} {d : Kd α} {e e' : Nat} {w w1 W : World} {base base' : Nat} {ok ok' : Nat → Prop} {v u : Value} {xs : List α}
theorem Kd.H_R (h : Kd.H d e w base ok v xs) : d.R e w base ok v xs := h.1
theorem Kd.H_spare (h : Kd.H d e w base ok v xs) : Spare w v xs.length := h.2
theorem Kd.H_mono (h : Kd.H d e w base ok v xs) (hok : ∀ k, ok k → ok' k) : Kd.H d e w base ok' v xs := ⟨Kd.R_mono h.1 hok, h.2⟩
theorem Kd.H_lower (h : Kd.H d e w base ok v xs) (hb : base' ≤ base) : Kd.H d e w base' ok v xs := ⟨Kd.R_lower h.1 hb, h.2⟩
theorem Kd.H_lt (h : Kd.H d e w base ok v xs) : ∀ k, v.ownBlock = some k → k < w.heap.size := Kd.R_lt h.1
theorem Kd.H_base (h : Kd.H d e w base ok v xs) : ∀ k, v.ownBlock = some k → base ≤ k := Kd.R_base h.1
theorem Kd.H_typed (h : Kd.H d e w base ok v xs) : ∀ k, v.ownBlock = some k → ∃ cells, w.heap[k]? = some (.cells cells e (0, 0)) := Kd.R_typed h.1
theorem Kd.H_reads' {A : Option Addr} {n c : Nat} (h : Kd.H d e w base ok (.slice A n c) xs) : n = xs.length ∧ n ≤ c ∧ d.C w A xs.length xs := Kd.R_reads' h.1
theorem Kd.H_form (h : Kd.H d e w base ok v xs) (hp : 0 < xs.length) : ∃ g cap, v = .slice (some ⟨g, 0, none⟩) xs.length cap ∧ base ≤ g ∧ g < w.heap.size ∧ ∃ cells, w.heap[g]? = some (.cells cells e (0, 0)) := Kd.R_form h.1 hp
theorem Kd.H_slice (h : Kd.H d e w base ok v xs) : ∃ A c, v = .slice A xs.length c := Kd.R_slice h.1
theorem Kd.H_below (h : Kd.H d e w base ok v xs) (hb : Below w.heap.size w w1) : Kd.H d e w1 base ok v xs := ⟨Kd.R_below h.1 hb, h.2.move (fun k hk => hb.block k (Kd.R_lt h.1 k hk))⟩
theorem Kd.H_alloc (h : Kd.H d e w base ok v xs) (o : Obj) : Kd.H d e (w.alloc o) base ok v xs := Kd.H_below h (bl_a (Below.refl _ _) o)
theorem Kd.H_drewN (h : Kd.H d e w base ok v xs) (m : Nat) : Kd.H d e (w.drewN m) base ok v xs := Kd.H_below h (bl_n (Below.refl _ _) m)
theorem Kd.H_drew (h : Kd.H d e w base ok v xs) : Kd.H d e w.drew base ok v xs := Kd.H_below h (below_drew (Below.refl _ _))
theorem Kd.H_grown (h : Kd.H d e w base ok v xs) {row : Option Nat} (hg : w.grownBy w1 row) (hok : ∀ k, ok k → some k ≠ row) : Kd.H d e w1 base ok v xs :=
 ⟨Kd.R_grown h.1 hg hok, h.2.move (fun k hk => hg.block k (Kd.R_lt h.1 k hk) (hok k (h.1.1 k hk)))⟩
theorem Kd.H_far (h : Kd.H d e w base ok v xs) {p : Addr} (hok : ∀ k, ok k → k ≠ p.block) (x : Value) : Kd.H d e (w.setCell p x) base ok v xs :=
 ⟨Kd.R_far h.1 hok x, h.2.move (fun k hk => Below.heap_setCell w p x k (hok k (h.1.1 k hk)))⟩
theorem Kd.H_elder' (hu : Kd.H d e W base ok u xs) (hbase : ∀ k, v.ownBlock = some k → W.heap.size ≤ k) (hb : Below W.heap.size W w1) : Kd.H d e w1 base (fun k => ok k ∧ some k ≠ v.ownBlock) u xs :=
 ⟨Kd.R_elder' hu.1 hbase hb, hu.2.move (fun k hk => hb.block k (Kd.R_lt hu.1 k hk))⟩
theorem Kd.H_old (hu : Kd.H d e W base ok u xs) (hb : Below W.heap.size W w1) : Kd.H d e w1 base (fun k => ok k ∧ k < W.heap.size) u xs :=
 ⟨Kd.R_old hu.1 hb, hu.2.move (fun k hk => hb.block k (Kd.R_lt hu.1 k hk))⟩
theorem Kd.H_told {N : Nat} (h : Kd.H d e w1 base (fun k => ok k ∧ k < N) u xs) (hbase : ∀ k, v.ownBlock = some k → N ≤ k) : Kd.H d e w1 base (fun k => (ok k ∧ some k ≠ v.ownBlock) ∧ k < N) u xs := ⟨Kd.R_told h.1 hbase, h.2⟩
theorem Kd.H_apart' (h : Kd.H d e W base ok u xs) (hty : ∀ k, v.ownBlock = some k → ∃ cells, W.heap[k]? = some (.cells cells e' (0, 0))) (ht : ∀ q, q ∈ e :: d.E → q ≠ e') : Kd.H d e W base (fun k => ok k ∧ some k ≠ v.ownBlock) u xs := ⟨Kd.R_apart' h.1 hty ht, h.2⟩
theorem Kd.H_apart_nil (h : Kd.H d e w base ok u xs) : Kd.H d e w base (fun k => ok k ∧ some k ≠ (Value.slice none 0 0).ownBlock) u xs := ⟨Kd.R_apart_nil h.1, h.2⟩
theorem Kd.H_after {v1 : Value} (h : Kd.H d e W base (fun k => ok k ∧ some k ≠ v.ownBlock) u xs) (hg : W.grownBy w1 v.ownBlock) (hat : v1.ownBlock = v.ownBlock ∨ ∃ b, v1.ownBlock = some b ∧ W.heap.size ≤ b) : Kd.H d e w1 base (fun k => ok k ∧ some k ≠ v1.ownBlock) u xs :=
 ⟨Kd.R_after h.1 hg hat, h.2.move (fun k hk => hg.block k (Kd.R_lt h.1 k hk) (h.1.1 k hk).2)⟩
theorem Kd.H_over' (h : Kd.H d e W base ok u xs) (hty : ∀ k, v.ownBlock = some k → ∃ cells, W.heap[k]? = some (.cells cells e' (0, 0))) (ht : ∀ q, q ∈ e :: d.E → q ≠ e') (hg : W.grownBy w1 v.ownBlock) : Kd.H d e w1 base ok u xs :=
 ⟨Kd.R_over' h.1 hty ht hg, h.2.move (fun k hk => hg.block k (Kd.R_lt h.1 k hk) (((Kd.R_apart' h.1 hty ht).1 k hk).2))⟩
theorem Kd.H_types (h : Kd.H d e w base ok v xs) {g t : Nat} {cells : Array Value} (hb : w.heap[g]? = some (.cells cells t (0, 0))) (ht : ∀ q, q ∈ e :: d.E → q ≠ t) : Kd.H d e w base (fun k => ok k ∧ k ≠ g) v xs := ⟨Kd.R_types h.1 hb ht, h.2⟩
theorem Kd.H_ne (h : Kd.H d e w base ok v xs) {g t : Nat} {cells : Array Value} (hb : w.heap[g]? = some (.cells cells t (0, 0))) (ht : e ≠ t) : some g ≠ v.ownBlock := Kd.R_ne h.1 hb ht
end
/-- Nothing that was there has changed, and the five bytes stand behind the row. -/
structure BelowS (w W : World) (v : Value) (n : Nat) : Prop where
 b : Below w.heap.size w W
 s : Spare W v n
section
variable {w W w2 : World} {v : Value} {n : Nat}
theorem spare_below (h : Spare W v n) (hb : Below W.heap.size W w2) : Spare w2 v n := by
 obtain ⟨g, cap, rfl, hc, hh⟩ := h
 exact ⟨g, cap, rfl, hc, fun i hi => (hb.cell (World.block_lt_of_cell? W _ (hh i hi))).trans (hh i hi)⟩
theorem belowS_step (h : BelowS w W v n) (k : Below W.heap.size W w2) : BelowS w w2 v n := ⟨below_step h.b k, spare_below h.s k⟩
theorem belowS_alloc (h : BelowS w W v n) (o : Obj) : BelowS w (W.alloc o) v n := belowS_step h (bl_a (Below.refl _ _) o)
theorem belowS_drewN (h : BelowS w W v n) (m : Nat) : BelowS w (W.drewN m) v n := belowS_step h (bl_n (Below.refl _ _) m)
theorem belowS_drew1 (h : BelowS w W v n) : BelowS w W.drew v n := belowS_step h (below_drew (Below.refl _ _))
theorem belowS_size (h : BelowS w W v n) : w.heap.size ≤ W.heap.size := h.b.size
theorem belowS_spare (h : BelowS w W v n) : Spare W v n := h.s
end
def rabbetlaw0_Handed.f (l0 : List Int) : Option (List Int) := if l0.length ≤ 1000000 then (some l0) else none
theorem rabbetlaw0_Handed.info : (Tryd.prog.info? 5).map (fun i => (i.zero, i.size, i.bytes)) = some (some (.int .u8 0), 1, 1) := by kernel_rfl
theorem rabbetlaw0_Handed.make (n : Nat) (hn : n ≤ 1000000) (W : World) : (Instr.makeSlice 22 (.int .i64 (n : Int)) (.int .i64 ((n : Int) + 5))).run Tryd.prog W = .ok (.slice (some ⟨W.heap.size, 0, none⟩) n (n + 5)) (W.alloc (.cells (madeCells #[.int .u8 0] (n + 5)) 5)) := by
 obtain ⟨i, hi, hz⟩ := Option.map_eq_some_iff.1 rabbetlaw0_Handed.info
 simp only [Prod.mk.injEq] at hz
 obtain ⟨hz0, hz1, hz2⟩ := hz
 have := run_make (P := Tryd.prog) W 22 5 i (.int .u8 0) Tryd.underlying22 hi hz0 .i64 .i64 (n : Int) ((n : Int) + 5) (by omega) (by omega) (by rw [hz2]; omega) (by omega)
 rw [hz1, Nat.mul_one, Int.toNat_natCast, show ((n : Int) + 5).toNat = n + 5 by omega] at this
 exact this
theorem rabbetlaw0_Handed.fill (l : List Int) (n i : Nat) (hi : i < n) (hl : l.length = n) : (l.take i ++ List.replicate (n + 5 - i) 0).set i (rd l (i : Int)) = l.take (i + 1) ++ List.replicate (n + 5 - (i + 1)) 0 := by
 have h1 : (l.take i).length = i := by rw [List.length_take]; omega
 rw [List.set_append_right _ _ (by omega), h1, Nat.sub_self, show n + 5 - i = (n + 5 - (i + 1)) + 1 by omega, List.replicate_succ, List.set_cons_zero]
 rw [List.take_succ_eq_append_getElem (by omega), List.append_assoc]
 congr 1
 simp [rd, List.getD_eq_getElem?_getD, List.getElem?_eq_getElem (show i < l.length by omega)]
def rabbetlaw0_Handed.tail (i : Nat) : List Int := (List.range 5).map fun j => if j < i then ((161 + j : Nat) : Int) else 0
theorem rabbetlaw0_Handed.mark (l : List Int) (n i : Nat) (hi : i < 5) (hl : l.length = n) : (l ++ rabbetlaw0_Handed.tail i).set (n + i) ((161 + i : Nat) : Int) = l ++ rabbetlaw0_Handed.tail (i + 1) := by
 rw [List.set_append_right _ _ (by omega), hl, Nat.add_sub_cancel_left]
 congr 1
 have : i = 0 ∨ i = 1 ∨ i = 2 ∨ i = 3 ∨ i = 4 := by omega
 rcases this with rfl | rfl | rfl | rfl | rfl <;> rfl
theorem rabbetlaw0_Handed.relen {w : World} {base n m : Nat} {e : TypeId} {v : Value} {xs : List Value} (h : n = m) (ho : w.ownsRow base e 1 v n xs) : w.ownsRow base e 1 v m xs := h ▸ ho
theorem rabbetlaw0_Handed.rd_tail (l : List Int) (i : Nat) (hi : i < 5) : rd (l ++ rabbetlaw0_Handed.tail 5) ((l.length + i : Nat) : Int) = ((161 + i : Nat) : Int) := by
 unfold rd
 rw [Int.toNat_natCast, List.getD_eq_getElem?_getD, List.getElem?_append_right (by omega), Nat.add_sub_cancel_left]
 have : i = 0 ∨ i = 1 ∨ i = 2 ∨ i = 3 ∨ i = 4 := by omega
 rcases this with rfl | rfl | rfl | rfl | rfl <;> rfl
theorem rabbetlaw0_Handed.cut (A : Option Addr) (n c : Nat) (hc : n + 5 ≤ c := by omega) : ∀ W : World, (Instr.slice 22 (.slice A n c) none (some (.int .i64 ((n : Int) + 5))) none).run Tryd.prog W = .ok (.slice A (n + 5) c) W := by
 intro W
 obtain ⟨i0, hi0, hz⟩ := Option.map_eq_some_iff.1 rabbetlaw0_Handed.info
 simp only [Prod.mk.injEq] at hz
 have hel : Tryd.prog.elem 22 = 5 := by simp [Program.elem, Tryd.underlying22]
 have hu : Tryd.prog.underlying 22 = some (.slice (Tryd.prog.elem 22)) := by rw [hel]; exact Tryd.underlying22
 rw [run_slice_h W 22 A n c hu .i64 ((n : Int) + 5) (by omega) (by omega), hel]
 simp [sizeOf, typeInfo, hi0, hz.2.1, sliced, Result.andThen]
 refine ⟨fun _ => ?_, by omega⟩
 cases A <;> simp [Addr.add_zero']
set_option maxHeartbeats 4000000 in
set_option maxRecDepth 100000 in
theorem rabbetlaw0_Handed.calls (A0 : Option Addr) (c0 : Nat) (l0 : List Int) (r : List Int) (w : World) (hr0 : Kd.C (Kd.int .u8) w A0 l0.length l0) (hc0 : l0.length ≤ c0) (h : rabbetlaw0_Handed.f l0 = some r) :
  Calls Tryd.prog 17 #[.slice A0 l0.length c0] w fun e w' => ∃ v0_ : Value, e = .returned v0_ ∧ Kd.H (Kd.int .u8) 5 w' w.heap.size (fun _ => True) v0_ r ∧ Below w.heap.size w w' := by
 have hn : l0.length ≤ 1000000 := by
  unfold rabbetlaw0_Handed.f at h
  by_cases c : l0.length ≤ 1000000
  ·
   exact c
  ·
   rw [if_neg c] at h; cases h
 have hr : r = l0 := by unfold rabbetlaw0_Handed.f at h; rw [if_pos hn] at h; exact (Option.some.inj h).symm
 clear h
 have HR := ak_ hr
 clear hr
 have HR0 := ak_ hr0
 clear hr0
 have mk := rabbetlaw0_Handed.make l0.length hn
 have mz : madeCells #[.int .u8 0] (l0.length + 5) = (nums .u8 (l0.take 0 ++ List.replicate (l0.length + 5 - 0) 0)).toArray := by
  apply Array.ext'
  simp only [List.take_zero, List.nil_append, Nat.sub_zero]
  apply List.ext_getElem
  ·
   simp [nums, madeCells]
  ·
   intro i h1 h2
   simp [nums, madeCells, Nat.mod_one]
 have MZ := ak_ mz
 clear mz
 go_enter Tryd.func17, Tryd.ntmps17
 go_wp2
 go_loopg [4] (l0.length + 1) (fun kq v4 w' => ∃ i : Nat, v4 = .int .i64 (i : Int) ∧ Aside0 (i ≤ l0.length ∧ l0.length < kq + i) ∧ Aside0 (w'.ownsRow w.heap.size 5 1 (.slice (some ⟨w.heap.size, 0, none⟩) (l0.length + 5) (l0.length + 5)) (l0.length + 5) (nums .u8 (l0.take i ++ List.replicate (l0.length + 5 - i) 0))) ∧ Aside0 (Below w.heap.size w w'))
 case atStart =>
  refine ⟨0, rfl, ⟨Nat.zero_le _, by omega⟩, ⟨?_⟩, ⟨(Below.refl _ _).alloc (Nat.le_refl _) _⟩⟩
  rw [MZ.out]
  have z := own_lit w w.heap.size 5 .u8 (List.replicate (l0.length + 5) 0) (Nat.le_refl _) (by simp; omega)
  rw [List.length_replicate] at z
  simp only [List.take_zero, List.nil_append, Nat.sub_zero]
  exact z
 case round =>
  obtain ⟨i, rfl, HI, HO, HB⟩ := hrel
  have hi1 := HI.out.1
  by_cases hlt : i < l0.length
  ·
   obtain ⟨ad, e0, hx⟩ := Kd.at_int HR0.out (i : Int) (by omega) (by omega)
   cases e0
   replace hx := (HB.out.cell (World.block_lt_of_cell? w _ hx)).trans hx
   rw [Int.toNat_natCast] at hx
   have hg := own_at HO.out (i : Int) (by omega) (by omega)
   obtain ⟨hg1, hg2⟩ := hg
   rw [Int.toNat_natCast] at hg1 hg2
   have hlt2 : (i : Int) < (l0.length : Int) := by omega
   have hd : decide (i < l0.length) = true := decide_eq_true hlt
   go_wp2
   go_roundg (l0.length - i)
   case measure => have := HI.out; omega
   case rel =>
    refine ⟨i + 1, by go_num, ⟨by omega, by omega⟩, ⟨?_⟩, ⟨?_⟩⟩
    ·
     have := (own_store HO.out (i : Int) (rd l0 (i : Int))).1
     rw [Int.toNat_natCast, rabbetlaw0_Handed.fill l0 l0.length i hlt rfl] at this
     exact this
    ·
     exact HB.out.setCell (Nat.le_refl _) _
  ·
   have hie : i = l0.length := by omega
   have hd : decide (i < l0.length) = false := decide_eq_false hlt
   subst hie
   have HO2 := ak_ (show World.ownsRow _ w.heap.size 5 1 (.slice (some ⟨w.heap.size, 0, none⟩) (l0.length + 5) (l0.length + 5)) (l0.length + 5) (nums .u8 (l0 ++ rabbetlaw0_Handed.tail 0)) from by
    have z := HO.out
    rw [List.take_length, show List.replicate (l0.length + 5 - l0.length) (0 : Int) = rabbetlaw0_Handed.tail 0 by rw [Nat.add_sub_cancel_left]; rfl] at z
    exact z)
   clear HO HI hi1
   have hcut := rabbetlaw0_Handed.cut (some ⟨w.heap.size, 0, none⟩) l0.length (l0.length + 5)
   go_wp2
   go_loopg [6] 6 (fun kq v6 w' => ∃ i : Nat, v6 = .int .i64 (i : Int) ∧ Aside0 (i ≤ 5 ∧ 5 < kq + i) ∧ Aside0 (w'.ownsRow w.heap.size 5 1 (.slice (some ⟨w.heap.size, 0, none⟩) (l0.length + 5) (l0.length + 5)) (l0.length + 5) (nums .u8 (l0 ++ rabbetlaw0_Handed.tail i))) ∧ Aside0 (Below w.heap.size w w'))
   case atStart => exact ⟨0, rfl, ⟨by omega, by omega⟩, HO2, HB⟩
   case round =>
    clear HO2 HB hd hlt hcut
    obtain ⟨i, rfl, HI, HO, HB⟩ := hrel
    have hi1 := HI.out.1
    by_cases hlt : i < 5
    ·
     obtain ⟨hg1, hg2⟩ := own_at HO.out ((l0.length + i : Nat) : Int) (by omega) (by omega)
     rw [Int.toNat_natCast] at hg1 hg2
     have hd : decide ((i : Int) < 5) = true := decide_eq_true (by omega)
     have hlt3 : (i : Int) < 5 := by omega
     have hsum : IntKind.i64.wrap ((l0.length : Int) + (i : Int)) = ((l0.length + i : Nat) : Int) := by simp only [i64_w]; unfold wrap64; omega
     have hin : ((l0.length + i : Nat) : Int) < ((l0.length + 5 : Nat) : Int) := by omega
     have hin2 : decide (l0.length + i < l0.length + 5) = true := decide_eq_true (by omega)
     go_wp2
     go_roundg (5 - i)
     case measure => have := HI.out; omega
     case rel =>
      refine ⟨i + 1, by go_num, ⟨by omega, by have := HI.out; omega⟩, ⟨?_⟩, ⟨?_⟩⟩
      ·
       have z := (own_store HO.out ((l0.length + i : Nat) : Int) ((161 + i : Nat) : Int)).1
       rw [Int.toNat_natCast, rabbetlaw0_Handed.mark l0 l0.length i hlt rfl, show ((161 + i : Nat) : Int) = 161 + (i : Int) by omega] at z
       exact z
      ·
       exact HB.out.setCell (Nat.le_refl _) _
    ·
     have hie : i = 5 := by omega
     subst hie
     go_wp2
     go_ret
     have hx : (l0 ++ rabbetlaw0_Handed.tail 5).length = l0.length + 5 := by rw [List.length_append]; rfl
     have hown := HO.out
     have hown2 := rabbetlaw0_Handed.relen hx.symm hown
     have hR := Kd.R_take (m := l0.length) (Kd.R_of_own (h1 := fun _ => rfl) (ok := fun _ => True) hown2 (fun _ _ => trivial)) (by rw [hx]; omega)
     rw [List.take_left] at hR
     rw [HR.out]
     refine ⟨_, rfl, ⟨hR, ⟨w.heap.size, l0.length + 5, rfl, Nat.le_refl _, fun i hi => ?_⟩⟩, HB.out⟩
     obtain ⟨hg1, _⟩ := own_at HO.out ((l0.length + i : Nat) : Int) (by omega) (by omega)
     rw [Int.toNat_natCast, rabbetlaw0_Handed.rd_tail l0 i hi] at hg1
     exact hg1
mutual
def rabbetref1_TakeNum.l0 : Nat → List Int → Int → Option (Int × Int × Bool)
 | 0, _, _ => none
 | k + 1, x0, x5 => if x5 ≤ 10 then (rabbetref1_TakeNum.j1 k x0 x5 (decide (x5 ≤ (x0.length : Int)))) else (rabbetref1_TakeNum.j1 k x0 x5 false)
def rabbetref1_TakeNum.j1 : Nat → List Int → Int → Bool → Option (Int × Int × Bool)
 | 0, _, _, _ => none
 | k + 1, x0, x5, x15 => if x15 = true then (if 0 ≤ (wrap64 (x5 - 1)) then (if (wrap64 (x5 - 1)) < (x0.length : Int) then (if (rd x0 (wrap64 (x5 - 1))) ≥ 128 then (rabbetref1_TakeNum.l0 k x0 (wrap64 (x5 + 1))) else (rabbetref1_TakeNum.l1 k x0 x5 0 (wrap64 (x5 - 1)))) else (none)) else (none)) else (some (0, 0, false))
def rabbetref1_TakeNum.l1 : Nat → List Int → Int → Int → Int → Option (Int × Int × Bool)
 | 0, _, _, _, _ => none
 | k + 1, x0, x5, x6, x7 => if x7 ≥ 0 then (if 0 ≤ x7 then (if x7 < (x0.length : Int) then (rabbetref1_TakeNum.l1 k x0 x5 (IntKind.u64.wrap ((IntKind.u64.wrap (x6 * 128)) + (IntKind.u64.wrap (Int.tmod (rd x0 x7) 128)))) (wrap64 (x7 - 1))) else (none)) else (none)) else ((rabbetref1_PutNum.f k x6).bind fun t160 => (if 0 ≤ x5 then (if x5 ≤ (x0.length : Int) then (if (strOfNums t160).toList = (strOfNums (x0.take (x5 : Int).toNat)).toList then (some (x6, x5, true)) else (some (0, 0, false))) else (none)) else (none)))
end
def rabbetref1_TakeNum.f (k : Nat) (l0 : List Int) : Option (Int × Int × Bool) := rabbetref1_TakeNum.l0 k l0 1
theorem rabbetref1_TakeNum.mono_l : ∀ k, (∀ y0 y1, LeO (rabbetref1_TakeNum.l0 k y0 y1) (rabbetref1_TakeNum.l0 (k + 1) y0 y1)) ∧ (∀ y0 y1 y2, LeO (rabbetref1_TakeNum.j1 k y0 y1 y2) (rabbetref1_TakeNum.j1 (k + 1) y0 y1 y2)) ∧ (∀ y0 y1 y2 y3, LeO (rabbetref1_TakeNum.l1 k y0 y1 y2 y3) (rabbetref1_TakeNum.l1 (k + 1) y0 y1 y2 y3))
 | 0 => ⟨fun _ _ r h => by simp [rabbetref1_TakeNum.l0] at h, fun _ _ _ r h => by simp [rabbetref1_TakeNum.j1] at h, fun _ _ _ _ r h => by simp [rabbetref1_TakeNum.l1] at h⟩
 | k + 1 => by
  obtain ⟨ih0, ih1, ih2⟩ := rabbetref1_TakeNum.mono_l k
  refine ⟨?_, ?_, ?_⟩
  ·
   intro y0 y1
   unfold rabbetref1_TakeNum.l0
   repeat' first
   | (with_reducible exact ih0 _ _)
   | (with_reducible exact ih1 _ _ _)
   | (with_reducible exact ih2 _ _ _ _)
   | (with_reducible exact rabbetref1_PutNum.mono _ _)
   | (with_reducible exact LeO.refl _)
   | (with_reducible exact LeO.none _)
   | (with_reducible refine LeO.ite ?_ ?_)
   | (with_reducible refine LeO.bind ?_ (fun _ => ?_))
   | exact ih0 _ _
   | exact ih1 _ _ _
   | exact ih2 _ _ _ _
   | exact rabbetref1_PutNum.mono _ _
   | exact LeO.none _
   | refine LeO.ite ?_ ?_
   | refine LeO.bind ?_ (fun _ => ?_)
  ·
   intro y0 y1 y2
   unfold rabbetref1_TakeNum.j1
   repeat' first
   | (with_reducible exact ih0 _ _)
   | (with_reducible exact ih1 _ _ _)
   | (with_reducible exact ih2 _ _ _ _)
   | (with_reducible exact rabbetref1_PutNum.mono _ _)
   | (with_reducible exact LeO.refl _)
   | (with_reducible exact LeO.none _)
   | (with_reducible refine LeO.ite ?_ ?_)
   | (with_reducible refine LeO.bind ?_ (fun _ => ?_))
   | exact ih0 _ _
   | exact ih1 _ _ _
   | exact ih2 _ _ _ _
   | exact rabbetref1_PutNum.mono _ _
   | exact LeO.none _
   | refine LeO.ite ?_ ?_
   | refine LeO.bind ?_ (fun _ => ?_)
  ·
   intro y0 y1 y2 y3
   unfold rabbetref1_TakeNum.l1
   repeat' first
   | (with_reducible exact ih0 _ _)
   | (with_reducible exact ih1 _ _ _)
   | (with_reducible exact ih2 _ _ _ _)
   | (with_reducible exact rabbetref1_PutNum.mono _ _)
   | (with_reducible exact LeO.refl _)
   | (with_reducible exact LeO.none _)
   | (with_reducible refine LeO.ite ?_ ?_)
   | (with_reducible refine LeO.bind ?_ (fun _ => ?_))
   | exact ih0 _ _
   | exact ih1 _ _ _
   | exact ih2 _ _ _ _
   | exact rabbetref1_PutNum.mono _ _
   | exact LeO.none _
   | refine LeO.ite ?_ ?_
   | refine LeO.bind ?_ (fun _ => ?_)
theorem rabbetref1_TakeNum.mono : ∀ a0 k, LeO (rabbetref1_TakeNum.f k a0) (rabbetref1_TakeNum.f (k + 1) a0) := by
 intro a0 k
 obtain ⟨ih0, ih1, ih2⟩ := rabbetref1_TakeNum.mono_l k
 unfold rabbetref1_TakeNum.f
 repeat' first
   | (with_reducible exact ih0 _ _)
   | (with_reducible exact ih1 _ _ _)
   | (with_reducible exact ih2 _ _ _ _)
   | (with_reducible exact rabbetref1_PutNum.mono _ _)
   | (with_reducible exact LeO.refl _)
   | (with_reducible exact LeO.none _)
   | (with_reducible refine LeO.ite ?_ ?_)
   | (with_reducible refine LeO.bind ?_ (fun _ => ?_))
   | exact ih0 _ _
   | exact ih1 _ _ _
   | exact ih2 _ _ _ _
   | exact rabbetref1_PutNum.mono _ _
   | exact LeO.none _
   | refine LeO.ite ?_ ?_
   | refine LeO.bind ?_ (fun _ => ?_)
def rabbetref1_TakeNum.T10 : Bool × List (List Nat × List Nat) := (true, [([], []), ([0], [0]), ([1], [1]), ([], []), ([], []), ([3, 4], [3, 4]), ([5], [5]), ([2, 6], [2, 6])])
def rabbetref1_TakeNum.B10 : List Nat := [0, 1, 3, 0, 0, 24, 56, 127]
theorem rabbetref1_TakeNum.tab10 : rtab .any (opsOf Tryd.f64 10) = rabbetref1_TakeNum.T10 := by kernel_rfl
theorem rabbetref1_TakeNum.bits10 : waitsOk rabbetref1_TakeNum.T10.2 rabbetref1_TakeNum.B10 = true := by kernel_rfl
set_option maxHeartbeats 8000000 in
set_option maxRecDepth 100000 in
theorem rabbetref1_TakeNum.calls (k : Nat) (A0 : Option Addr) (c0 : Nat) (l0 : List Int) (r1 : Int) (r2 : Int) (r3 : Bool) (w : World) (hr0 : Kd.C (Kd.int .u8) w A0 l0.length l0) (hc0 : l0.length ≤ c0) (h : rabbetref1_TakeNum.f k l0 = some (r1, r2, r3)) :
  Calls Tryd.prog 64 #[.slice A0 l0.length c0] w fun e w' => e = .returned (.tuple #[.int .u64 r1, .int .i64 r2, .bool r3]) ∧ Below w.heap.size w w' := by
 have HR0 := ak_ hr0
 have HC0 := ak_ hc0
 clear hr0 hc0
 have HB := ak_ (Below.refl w.heap.size w)
 have H : (rabbetref1_TakeNum.l0 k l0 1) = some (r1, r2, r3) := h
 clear h
 have H' := ak_ H
 clear H
 go_enter Tryd.func64, Tryd.ntmps64
 go_wp2
 go_loopg [5] k (fun kq v5 w' => ∃ (x5_1 : Int), v5 = .int .i64 x5_1 ∧ Aside0 (rabbetref1_TakeNum.l0 kq l0 x5_1 = some (r1, r2, r3)) ∧ Aside0 (kq ≤ k) ∧ Aside0 (Below w.heap.size w w'))
 case atStart => exact ⟨(1), (by first | rfl | (simp; done) | (simp [*]; done)), H', ⟨Nat.le_refl _⟩, ⟨by repeat (first | (with_reducible first | exact HB.out | apply bl_a | apply bl_n | apply bl_d) | exact HB.out)⟩⟩
 case round =>
  clear H'
  obtain ⟨x5_1, rfl, HA, HK1, HB⟩ := hrel
  cases gk with
  | zero => exact absurd HA.out (by simp [rabbetref1_TakeNum.l0])
  | succ k1 =>
   have H := HA.out
   clear HA
   simp only [rabbetref1_TakeNum.l0] at H
   have HC2 := ak_ H
   clear H
   go_upto_region 2 with (fail)
   go_cut [15] (fun v15 wc => ∃ (kq : Nat) (x15_1 : Bool), v15 = .bool x15_1 ∧ Aside0 (rabbetref1_TakeNum.j1 kq l0 x5_1 x15_1 = some (r1, r2, r3)) ∧ Aside0 (kq ≤ k1) ∧ Aside0 (Below w.heap.size w wc))
   case first =>
    have H := HC2.out
    clear HC2
    by_cases c3 : x5_1 ≤ 10
    ·
     rw [if_pos c3] at H
     have c3b0 : decide (x5_1 ≤ 10) = true := decide_eq_true c3
     clear c3
     (first | rw [c3b0] | rw [c3b1] | (simp only [i64_w, i32_w]; rw [c3b0]) | skip)
     have H' := ak_ H
     clear H
     go_wp2
     go_meet
     case rel => exact ⟨_, (decide (x5_1 ≤ (l0.length : Int))), (by first | rfl | (simp; done) | (simp [*]; done)), H', ⟨by have := HK1.out; first | omega | exact Nat.le_refl _⟩, ⟨by repeat (first | (with_reducible first | exact HB.out | apply bl_a | apply bl_n | apply bl_d) | exact HB.out)⟩⟩
    ·
     rw [if_neg c3] at H
     have c3b0 : decide (x5_1 ≤ 10) = false := decide_eq_false c3
     clear c3
     (first | rw [c3b0] | rw [c3b1] | (simp only [i64_w, i32_w]; rw [c3b0]) | skip)
     have H' := ak_ H
     clear H
     go_wp2
     go_meet
     case rel => exact ⟨_, (false), (by first | rfl | (simp; done) | (simp [*]; done)), H', ⟨by have := HK1.out; first | omega | exact Nat.le_refl _⟩, ⟨by repeat (first | (with_reducible first | exact HB.out | apply bl_a | apply bl_n | apply bl_d) | exact HB.out)⟩⟩
   case rest =>
    clear HC2
    try clear p2
    try clear c3
    try clear c3b0
    obtain ⟨kq, x15_1, rfl, HA, HJ1, HB⟩ := hcut
    cases kq with
    | zero => exact absurd HA.out (by simp [rabbetref1_TakeNum.j1])
    | succ kj1 =>
     have H := HA.out
     clear HA
     simp only [rabbetref1_TakeNum.j1] at H
     by_cases c4 : x15_1 = true
     ·
      subst c4
      have H1 : (if 0 ≤ (wrap64 (x5_1 - 1)) then (if (wrap64 (x5_1 - 1)) < (l0.length : Int) then (if (rd l0 (wrap64 (x5_1 - 1))) ≥ 128 then (rabbetref1_TakeNum.l0 kj1 l0 (wrap64 (x5_1 + 1))) else (rabbetref1_TakeNum.l1 kj1 l0 x5_1 0 (wrap64 (x5_1 - 1)))) else (none)) else (none)) = some (r1, r2, r3) := by rw [if_pos rfl] at H; exact H
      clear H
      have H := H1
      clear H1
      obtain ⟨ji5, hji5⟩ : ∃ j_ : Int, (wrap64 (x5_1 - 1)) = j_ := ⟨_, rfl⟩
      replace H : (if 0 ≤ (ji5) then (if (ji5) < (l0.length : Int) then (if (rd l0 (ji5)) ≥ 128 then (rabbetref1_TakeNum.l0 kj1 l0 (wrap64 (x5_1 + 1))) else (rabbetref1_TakeNum.l1 kj1 l0 x5_1 0 ji5)) else (none)) else (none)) = some (r1, r2, r3) := by first | (rw [hji5] at H; exact H) | (simp only [hji5] at H ⊢; exact H) | exact H
      have hji5w : (IntKind.i64.wrap (x5_1 - 1)) = ji5 := (i64_w _).trans hji5
      by_cases c6 : 0 ≤ (ji5)
      ·
       rw [if_pos c6] at H
       have c6b0 : decide (0 ≤ (ji5)) = true := decide_eq_true c6
       clear c6
       by_cases c7 : (ji5) < (l0.length : Int)
       ·
        rw [if_pos c7] at H
        have c7b0 : decide ((ji5) < (l0.length : Int)) = true := decide_eq_true c7
        clear c7
        by_cases c8 : (rd l0 (ji5)) ≥ 128
        ·
         rw [if_pos c8] at H
         have c8b0 : decide (128 ≤ (rd l0 (ji5))) = true := decide_eq_true c8
         clear c8
         have H' := ak_ H
         clear H
         have p158 : 0 ≤ ((ji5) : Int) := of_decide_eq_true (by first | (with_reducible assumption) | assumption)
         have q158 : (ji5) < (l0.length : Int) := of_decide_eq_true (by first | (with_reducible assumption) | assumption)
         obtain ⟨ad158, e158, hx158_0⟩ := Kd.at_int HR0.out (ji5) p158 q158
         cases e158
         replace hx158_0 := (HB.out.cell (World.block_lt_of_cell? w _ hx158_0)).trans hx158_0
         replace p158 := eq_true p158
         replace q158 := eq_true q158
         go_wp2
         go_roundg kj1
         case measure => have := HK1.out; have := HJ1.out; omega
         case rel => exact ⟨(wrap64 (x5_1 + 1)), (by first | rfl | (simp; done) | (simp [*]; done)), H', ⟨by have := HK1.out; have := HJ1.out; omega⟩, ⟨by repeat (first | (with_reducible first | exact HB.out | apply bl_a | apply bl_n | apply bl_d) | exact HB.out)⟩⟩
        ·
         rw [if_neg c8] at H
         have c8b0 : decide (128 ≤ (rd l0 (ji5))) = false := decide_eq_false c8
         clear c8
         have H' := ak_ H
         clear H
         have p158 : 0 ≤ ((ji5) : Int) := of_decide_eq_true (by first | (with_reducible assumption) | assumption)
         have q158 : (ji5) < (l0.length : Int) := of_decide_eq_true (by first | (with_reducible assumption) | assumption)
         obtain ⟨ad158, e158, hx158_0⟩ := Kd.at_int HR0.out (ji5) p158 q158
         cases e158
         replace hx158_0 := (HB.out.cell (World.block_lt_of_cell? w _ hx158_0)).trans hx158_0
         replace p158 := eq_true p158
         replace q158 := eq_true q158
         go_wp2
         go_loopg [6, 7] kj1 (fun kq v6 v7 w' => ∃ (x6_3 : Int) (x7_3 : Int), v6 = .int .u64 x6_3 ∧ v7 = .int .i64 x7_3 ∧ Aside0 (rabbetref1_TakeNum.l1 kq l0 x5_1 x6_3 x7_3 = some (r1, r2, r3)) ∧ Aside0 (kq ≤ kj1) ∧ Aside0 (Below w.heap.size w w'))
         case atStart => exact ⟨(0), (ji5), (by first | rfl | (simp; done) | (simp [*]; done)), (by first | rfl | (simp; done) | (simp only [← hji5] <;> (first | rfl | simp)) | (simp [*]; done)), H', ⟨Nat.le_refl _⟩, ⟨by repeat (first | (with_reducible first | exact HB.out | apply bl_a | apply bl_n | apply bl_d) | exact HB.out)⟩⟩
         case round =>
          clear H'
          try clear p1
          try clear q1
          try clear hx1
          try clear p2
          try clear c3
          try clear c3b0
          try clear c4
          try clear c6
          try clear c6b0
          try clear p6
          try clear c7
          try clear c7b0
          try clear c8
          try clear c8b0
          try clear hx158_0
          try clear p158
          try clear p2
          try clear q158
          obtain ⟨x6_3, x7_3, rfl, rfl, HA, HK3, HB⟩ := hrel
          cases gk with
          | zero => exact absurd HA.out (by simp [rabbetref1_TakeNum.l1])
          | succ k3 =>
           have H := HA.out
           clear HA
           simp only [rabbetref1_TakeNum.l1] at H
           by_cases c9 : x7_3 ≥ 0
           ·
            rw [if_pos c9] at H
            have c9b0 : decide (0 ≤ x7_3) = true := decide_eq_true c9
            clear c9
            by_cases c10 : 0 ≤ x7_3
            ·
             rw [if_pos c10] at H
             have c10b0 : decide (0 ≤ x7_3) = true := decide_eq_true c10
             clear c10
             by_cases c11 : x7_3 < (l0.length : Int)
             ·
              rw [if_pos c11] at H
              have c11b0 : decide (x7_3 < (l0.length : Int)) = true := decide_eq_true c11
              clear c11
              have H' := ak_ H
              clear H
              have p159 : 0 ≤ (x7_3 : Int) := of_decide_eq_true (by first | (with_reducible assumption) | assumption)
              have q159 : x7_3 < (l0.length : Int) := of_decide_eq_true (by first | (with_reducible assumption) | assumption)
              obtain ⟨ad159, e159, hx159_0⟩ := Kd.at_int HR0.out x7_3 p159 q159
              obtain rfl : ad158 = ad159 := (by injection e159)
              replace hx159_0 := (HB.out.cell (World.block_lt_of_cell? w _ hx159_0)).trans hx159_0
              replace p159 := eq_true p159
              replace q159 := eq_true q159
              go_wp2
              go_roundg k3
              case measure => have := HK1.out; have := HJ1.out; have := HK3.out; omega
              case rel => exact ⟨(IntKind.u64.wrap ((IntKind.u64.wrap (x6_3 * 128)) + (IntKind.u64.wrap (Int.tmod (rd l0 x7_3) 128)))), (wrap64 (x7_3 - 1)), (by first | rfl | (simp; done) | (simp [*]; done)), (by first | rfl | (simp; done) | (simp [*]; done)), H', ⟨by have := HK1.out; have := HJ1.out; have := HK3.out; omega⟩, ⟨by repeat (first | (with_reducible first | exact HB.out | apply bl_a | apply bl_n | apply bl_d) | exact HB.out)⟩⟩
             ·
              rw [if_neg c11] at H
              exact absurd H (by simp)
            ·
             rw [if_neg c10] at H
             exact absurd H (by simp)
           ·
            rw [if_neg c9] at H
            have c9b0 : decide (0 ≤ x7_3) = false := decide_eq_false c9
            clear c9
            replace H := Option.bind_eq_some_iff.mp H
            obtain ⟨t160, A120, H⟩ := H
            replace H : (if 0 ≤ x5_1 then (if x5_1 ≤ (l0.length : Int) then (if (strOfNums t160).toList = (strOfNums (l0.take (x5_1 : Int).toNat)).toList then (some (x6_3, x5_1, true)) else (some (0, 0, false))) else (none)) else (none)) = some (r1, r2, r3) := H
            have A12 := ak_ A120
            clear A120
            by_cases c13 : 0 ≤ x5_1
            ·
             rw [if_pos c13] at H
             have c13b0 := eq_true c13
             have c13b1 : decide (0 ≤ x5_1) = true := decide_eq_true c13
             clear c13
             by_cases c14 : x5_1 ≤ (l0.length : Int)
             ·
              rw [if_pos c14] at H
              have c14b0 := eq_true c14
              have c14b1 : decide (x5_1 ≤ (l0.length : Int)) = true := decide_eq_true c14
              clear c14
              by_cases c15 : (strOfNums t160).toList = (strOfNums (l0.take (x5_1 : Int).toNat)).toList
              ·
               rw [if_pos c15] at H
               have c15b0 : ((strOfNums t160).toList == (strOfNums (l0.take (x5_1 : Int).toNat)).toList) = true := beq_iff_eq.mpr c15
               have c15b1 : ((strOfNums t160).toList != (strOfNums (l0.take (x5_1 : Int).toNat)).toList) = false := bne_eq_false_iff_eq.mpr c15
               clear c15
               simp only [Option.some.injEq, Prod.mk.injEq] at H
               obtain ⟨rfl, rfl, rfl⟩ := H
               try go_wp2
               have n0_ := ak_ (bl_d HB.out)
               clear HB
               have HB := n0_
               clear n0_
               obtain ⟨i017, hi017, _, hsz17, _⟩ := info_parts info5
               obtain ⟨hcut17, hA17, hC17⟩ := print_take_of (P := Tryd.prog) (Value.int .u8) 0 22 5 .i64 Tryd.underlying22 hi017 hsz17 (some ad158) c0 l0 x5_1 (of_decide_eq_true (by first | (with_reducible assumption) | assumption)) (of_decide_eq_true (by first | (with_reducible assumption) | assumption)) HC0.out
               have HR163 := ak_ (Kd.C_of_reads (h1 := fun _ => rfl) (hA17 _ (Kd.reads_of_C HR0.out)))
               have HC163 := ak_ hC17
               clear hA17 hC17 hi017 hsz17
               refine start_ (n := 8) (S := fun w' => (convert 22 9 (.slice (some ad158) (x5_1 : Int).toNat c0)).run Tryd.prog w' = .ok (.string (strOfNums (l0.take (x5_1 : Int).toNat))) w') (ds := []) #[false, false, false, false, false, false, false, false] (by kernel_rfl) rfl rfl ((by have z_ := Kd.C_string (P := Tryd.prog) (A := (some ad158)) (c := c0) Tryd.underlying22 Tryd.underlying5 Tryd.underlying9 (Kd.C_below HR163.out HB.out); rw [show (l0.take (x5_1 : Int).toNat).length = (x5_1 : Int).toNat from by (rw [List.length_take]; have h2_ : (x5_1 : Int) ≤ (l0.length : Int) := of_decide_eq_true (by first | (with_reducible assumption) | assumption); omega)] at z_; exact z_)) (fun hHeld => ?_); refine with_tabW rabbetref1_TakeNum.tab10 rabbetref1_TakeNum.bits10 (fun HT_ HW_ => ?_)
               generalize wr.drew = w16 at HB HR163 hHeld ⊢
               refine pure_ (i := 0) (N := some 39) (v := ?_) (a' := ?_) #[true, false, false, false, false, false, false, false] rfl rfl (any_of HT_.out (by kernel_rfl)) (fun _ _ _ h => h) (Or.inl ⟨by rfl, ?_⟩) ?_ ?_
               rotate_left
               ·
                intro w'
                go_simp
                with_reducible rfl
               rotate_left
               ·
                simp only [Act.put, List.setIfInBounds_toArray, List.set_cons_zero, List.set_cons_succ, i64_w, i32_w]
                rfl
               refine pure_ (i := 3) (N := some 42) (v := ?_) (a' := ?_) #[true, false, false, true, false, false, false, false] rfl rfl (any_of HT_.out (by kernel_rfl)) (fun _ _ _ h => h) (Or.inl ⟨by rfl, ?_⟩) ?_ ?_
               rotate_left
               ·
                intro w'
                go_simp
                with_reducible rfl
               rotate_left
               ·
                simp only [Act.put, List.setIfInBounds_toArray, List.set_cons_zero, List.set_cons_succ, i64_w, i32_w]
                rfl
               refine pure_ (i := 4) (N := some 43) (v := ?_) (a' := ?_) #[true, false, false, true, true, false, false, false] rfl rfl (any_of HT_.out (by kernel_rfl)) (fun _ _ _ h => h) (Or.inl ⟨by rfl, ?_⟩) ?_ ?_
               rotate_left
               ·
                intro w'
                go_simp
                with_reducible rfl
               rotate_left
               ·
                simp only [Act.put, List.setIfInBounds_toArray, List.set_cons_zero, List.set_cons_succ, i64_w, i32_w]
                rfl
               refine pure_ (i := 5) (N := some 44) (v := ?_) (a' := ?_) #[true, false, false, true, true, true, false, false] rfl rfl (any_of HT_.out (by kernel_rfl)) (fun _ _ _ h => h) (Or.inl ⟨by rfl, ?_⟩) ?_ ?_
               rotate_left
               ·
                intro w'
                go_simp
                with_reducible rfl
               rotate_left
               ·
                simp only [Act.put, List.setIfInBounds_toArray, List.set_cons_zero, List.set_cons_succ, i64_w, i32_w]
                rfl
               refine take_ (i := 6) (N := some 45) (v := ?_) (a' := ?_) #[true, false, false, true, true, true, true, false] rfl rfl (take_ofW HT_.out HW_.out (by kernel_rfl)) (fun _ _ _ h => h) (Or.inl ⟨by rfl, ?_⟩) hHeld ?_ ?_
               rotate_left
               ·
                intro w' s0
                go_simp
                with_reducible rfl
               rotate_left
               ·
                simp only [Act.put, List.setIfInBounds_toArray, List.set_cons_zero, List.set_cons_succ, i64_w, i32_w]
                rfl
               refine one_ (i := 1) (N := some 40) #[true, true, false, true, true, true, true, false] rfl rfl (one_of HT_.out (by kernel_rfl)) (by decide) (fun K hK => ?_)
               refine goes_ Tryd.func36 (by kernel_rfl) rfl #[.int .u64 x6_3] (by rfl) rfl rfl (by (try simp only [List.map_toArray, List.map_cons, List.map_nil]); first | done | rfl | (simp only [List.length_drop, List.length_take]; rfl)) ?_
               with_reducible refine (rabbetref1_PutNum.calls k3 x6_3 t160 _ A12.out).mono ?_
               rintro e w18 ⟨v161, rfl, ho0, hb⟩
               refine ⟨_, rfl, ?_⟩
               have n0_ := ak_ (Kd.R_lower ho0 (below_size (by repeat (first | (with_reducible first | exact HB.out | apply bl_a | apply bl_n | apply bl_d) | exact HB.out))))
               have n1_ := ak_ (below_step (by repeat (first | (with_reducible first | exact HB.out | apply bl_a | apply bl_n | apply bl_d) | exact HB.out)) hb)
               clear HB
               have HO162 := n0_
               have HB := n1_
               clear n0_ n1_
               (try clear hb)
               (try clear hb2)
               (try clear hk)
               (try clear hi)
               (try clear ho0)
               refine hK.out _ _ ((by have z_ := Kd.C_string (P := Tryd.prog) (A := (some ad158)) (c := c0) Tryd.underlying22 Tryd.underlying5 Tryd.underlying9 (Kd.C_below HR163.out HB.out); rw [show (l0.take (x5_1 : Int).toNat).length = (x5_1 : Int).toNat from by (rw [List.length_take]; have h2_ : (x5_1 : Int) ≤ (l0.length : Int) := of_decide_eq_true (by first | (with_reducible assumption) | assumption); omega)] at z_; exact z_)) (fun hHeld => ?_)
               clear hK K
               refine norm_ (a' := ?_) ?_ ?_
               rotate_left
               ·
                show Act.put _ (some 40) _ = _
                simp only [Act.put, List.setIfInBounds_toArray, List.set_cons_zero, List.set_cons_succ, i64_w, i32_w]
                rfl
               refine one_ (i := 2) (N := some 41) #[true, true, true, true, true, true, true, false] rfl rfl (one_of HT_.out (by kernel_rfl)) (by decide) (fun K hK => ?_)
               have hcv19 := own_string (P := Tryd.prog) Tryd.underlying22 Tryd.underlying5 Tryd.underlying9 (Kd.own_of_R HO162.out)
               refine value_ (w1 := ?_) (v := ?_) (by rfl) rfl ?_ ?_
               rotate_left 2
               ·
                go_simp
                constructor
                ·
                 rfl
                ·
                 rfl
               clear hcv19
               refine hK.out _ _ ((by have z_ := Kd.C_string (P := Tryd.prog) (A := (some ad158)) (c := c0) Tryd.underlying22 Tryd.underlying5 Tryd.underlying9 (Kd.C_below HR163.out HB.out); rw [show (l0.take (x5_1 : Int).toNat).length = (x5_1 : Int).toNat from by (rw [List.length_take]; have h2_ : (x5_1 : Int) ≤ (l0.length : Int) := of_decide_eq_true (by first | (with_reducible assumption) | assumption); omega)] at z_; exact z_)) (fun hHeld => ?_)
               clear hK K
               refine norm_ (a' := ?_) ?_ ?_
               rotate_left
               ·
                show Act.put _ (some 41) _ = _
                simp only [Act.put, List.setIfInBounds_toArray, List.set_cons_zero, List.set_cons_succ, i64_w, i32_w]
                rfl
               refine pure_ (i := 7) (N := some 46) (v := ?_) (a' := ?_) #[true, true, true, true, true, true, true, true] rfl rfl (any_of HT_.out (by kernel_rfl)) (fun _ _ _ h => h) (Or.inl ⟨by rfl, ?_⟩) ?_ ?_
               rotate_left
               ·
                intro w'
                go_simp
                with_reducible rfl
               rotate_left
               ·
                simp only [Act.put, List.setIfInBounds_toArray, List.set_cons_zero, List.set_cons_succ, i64_w, i32_w]
                rfl
               refine done_ (done_of HT_.out (by kernel_rfl)) ?_
               try go_wp2
               go_ret3
               exact ⟨by first | rfl | (simp [errW_none, errW_some] <;> rfl) | (simp only [← hji5]; first | rfl | (simp [errW_none, errW_some] <;> rfl)) | (simp [*, errW_none, errW_some] <;> rfl), by repeat (first | (with_reducible first | exact HB.out | apply bl_a | apply bl_n | apply bl_d) | exact HB.out)⟩
              ·
               rw [if_neg c15] at H
               have c15b0 : ((strOfNums t160).toList == (strOfNums (l0.take (x5_1 : Int).toNat)).toList) = false := beq_eq_false_iff_ne.mpr c15
               have c15b1 : ((strOfNums t160).toList != (strOfNums (l0.take (x5_1 : Int).toNat)).toList) = true := bne_iff_ne.mpr c15
               simp only [Option.some.injEq, Prod.mk.injEq] at H
               obtain ⟨rfl, rfl, rfl⟩ := H
               try go_wp2
               have n0_ := ak_ (bl_d HB.out)
               clear HB
               have HB := n0_
               clear n0_
               obtain ⟨i023, hi023, _, hsz23, _⟩ := info_parts info5
               obtain ⟨hcut23, hA23, hC23⟩ := print_take_of (P := Tryd.prog) (Value.int .u8) 0 22 5 .i64 Tryd.underlying22 hi023 hsz23 (some ad158) c0 l0 x5_1 (of_decide_eq_true (by first | (with_reducible assumption) | assumption)) (of_decide_eq_true (by first | (with_reducible assumption) | assumption)) HC0.out
               have HR163 := ak_ (Kd.C_of_reads (h1 := fun _ => rfl) (hA23 _ (Kd.reads_of_C HR0.out)))
               have HC163 := ak_ hC23
               clear hA23 hC23 hi023 hsz23
               refine start_ (n := 8) (S := fun w' => (convert 22 9 (.slice (some ad158) (x5_1 : Int).toNat c0)).run Tryd.prog w' = .ok (.string (strOfNums (l0.take (x5_1 : Int).toNat))) w') (ds := []) #[false, false, false, false, false, false, false, false] (by kernel_rfl) rfl rfl ((by have z_ := Kd.C_string (P := Tryd.prog) (A := (some ad158)) (c := c0) Tryd.underlying22 Tryd.underlying5 Tryd.underlying9 (Kd.C_below HR163.out HB.out); rw [show (l0.take (x5_1 : Int).toNat).length = (x5_1 : Int).toNat from by (rw [List.length_take]; have h2_ : (x5_1 : Int) ≤ (l0.length : Int) := of_decide_eq_true (by first | (with_reducible assumption) | assumption); omega)] at z_; exact z_)) (fun hHeld => ?_); refine with_tabW rabbetref1_TakeNum.tab10 rabbetref1_TakeNum.bits10 (fun HT_ HW_ => ?_)
               generalize wr.drew = w22 at HB HR163 hHeld ⊢
               refine pure_ (i := 0) (N := some 39) (v := ?_) (a' := ?_) #[true, false, false, false, false, false, false, false] rfl rfl (any_of HT_.out (by kernel_rfl)) (fun _ _ _ h => h) (Or.inl ⟨by rfl, ?_⟩) ?_ ?_
               rotate_left
               ·
                intro w'
                go_simp
                with_reducible rfl
               rotate_left
               ·
                simp only [Act.put, List.setIfInBounds_toArray, List.set_cons_zero, List.set_cons_succ, i64_w, i32_w]
                rfl
               refine pure_ (i := 3) (N := some 42) (v := ?_) (a' := ?_) #[true, false, false, true, false, false, false, false] rfl rfl (any_of HT_.out (by kernel_rfl)) (fun _ _ _ h => h) (Or.inl ⟨by rfl, ?_⟩) ?_ ?_
               rotate_left
               ·
                intro w'
                go_simp
                with_reducible rfl
               rotate_left
               ·
                simp only [Act.put, List.setIfInBounds_toArray, List.set_cons_zero, List.set_cons_succ, i64_w, i32_w]
                rfl
               refine pure_ (i := 4) (N := some 43) (v := ?_) (a' := ?_) #[true, false, false, true, true, false, false, false] rfl rfl (any_of HT_.out (by kernel_rfl)) (fun _ _ _ h => h) (Or.inl ⟨by rfl, ?_⟩) ?_ ?_
               rotate_left
               ·
                intro w'
                go_simp
                with_reducible rfl
               rotate_left
               ·
                simp only [Act.put, List.setIfInBounds_toArray, List.set_cons_zero, List.set_cons_succ, i64_w, i32_w]
                rfl
               refine pure_ (i := 5) (N := some 44) (v := ?_) (a' := ?_) #[true, false, false, true, true, true, false, false] rfl rfl (any_of HT_.out (by kernel_rfl)) (fun _ _ _ h => h) (Or.inl ⟨by rfl, ?_⟩) ?_ ?_
               rotate_left
               ·
                intro w'
                go_simp
                with_reducible rfl
               rotate_left
               ·
                simp only [Act.put, List.setIfInBounds_toArray, List.set_cons_zero, List.set_cons_succ, i64_w, i32_w]
                rfl
               refine take_ (i := 6) (N := some 45) (v := ?_) (a' := ?_) #[true, false, false, true, true, true, true, false] rfl rfl (take_ofW HT_.out HW_.out (by kernel_rfl)) (fun _ _ _ h => h) (Or.inl ⟨by rfl, ?_⟩) hHeld ?_ ?_
               rotate_left
               ·
                intro w' s0
                go_simp
                with_reducible rfl
               rotate_left
               ·
                simp only [Act.put, List.setIfInBounds_toArray, List.set_cons_zero, List.set_cons_succ, i64_w, i32_w]
                rfl
               refine one_ (i := 1) (N := some 40) #[true, true, false, true, true, true, true, false] rfl rfl (one_of HT_.out (by kernel_rfl)) (by decide) (fun K hK => ?_)
               refine goes_ Tryd.func36 (by kernel_rfl) rfl #[.int .u64 x6_3] (by rfl) rfl rfl (by (try simp only [List.map_toArray, List.map_cons, List.map_nil]); first | done | rfl | (simp only [List.length_drop, List.length_take]; rfl)) ?_
               with_reducible refine (rabbetref1_PutNum.calls k3 x6_3 t160 _ A12.out).mono ?_
               rintro e w24 ⟨v161, rfl, ho0, hb⟩
               refine ⟨_, rfl, ?_⟩
               have n0_ := ak_ (Kd.R_lower ho0 (below_size (by repeat (first | (with_reducible first | exact HB.out | apply bl_a | apply bl_n | apply bl_d) | exact HB.out))))
               have n1_ := ak_ (below_step (by repeat (first | (with_reducible first | exact HB.out | apply bl_a | apply bl_n | apply bl_d) | exact HB.out)) hb)
               clear HB
               have HO162 := n0_
               have HB := n1_
               clear n0_ n1_
               (try clear hb)
               (try clear hb2)
               (try clear hk)
               (try clear hi)
               (try clear ho0)
               refine hK.out _ _ ((by have z_ := Kd.C_string (P := Tryd.prog) (A := (some ad158)) (c := c0) Tryd.underlying22 Tryd.underlying5 Tryd.underlying9 (Kd.C_below HR163.out HB.out); rw [show (l0.take (x5_1 : Int).toNat).length = (x5_1 : Int).toNat from by (rw [List.length_take]; have h2_ : (x5_1 : Int) ≤ (l0.length : Int) := of_decide_eq_true (by first | (with_reducible assumption) | assumption); omega)] at z_; exact z_)) (fun hHeld => ?_)
               clear hK K
               refine norm_ (a' := ?_) ?_ ?_
               rotate_left
               ·
                show Act.put _ (some 40) _ = _
                simp only [Act.put, List.setIfInBounds_toArray, List.set_cons_zero, List.set_cons_succ, i64_w, i32_w]
                rfl
               refine one_ (i := 2) (N := some 41) #[true, true, true, true, true, true, true, false] rfl rfl (one_of HT_.out (by kernel_rfl)) (by decide) (fun K hK => ?_)
               have hcv25 := own_string (P := Tryd.prog) Tryd.underlying22 Tryd.underlying5 Tryd.underlying9 (Kd.own_of_R HO162.out)
               refine value_ (w1 := ?_) (v := ?_) (by rfl) rfl ?_ ?_
               rotate_left 2
               ·
                go_simp
                constructor
                ·
                 rfl
                ·
                 rfl
               clear hcv25
               refine hK.out _ _ ((by have z_ := Kd.C_string (P := Tryd.prog) (A := (some ad158)) (c := c0) Tryd.underlying22 Tryd.underlying5 Tryd.underlying9 (Kd.C_below HR163.out HB.out); rw [show (l0.take (x5_1 : Int).toNat).length = (x5_1 : Int).toNat from by (rw [List.length_take]; have h2_ : (x5_1 : Int) ≤ (l0.length : Int) := of_decide_eq_true (by first | (with_reducible assumption) | assumption); omega)] at z_; exact z_)) (fun hHeld => ?_)
               clear hK K
               refine norm_ (a' := ?_) ?_ ?_
               rotate_left
               ·
                show Act.put _ (some 41) _ = _
                simp only [Act.put, List.setIfInBounds_toArray, List.set_cons_zero, List.set_cons_succ, i64_w, i32_w]
                rfl
               refine pure_ (i := 7) (N := some 46) (v := ?_) (a' := ?_) #[true, true, true, true, true, true, true, true] rfl rfl (any_of HT_.out (by kernel_rfl)) (fun _ _ _ h => h) (Or.inl ⟨by rfl, ?_⟩) ?_ ?_
               rotate_left
               ·
                intro w'
                go_simp
                with_reducible rfl
               rotate_left
               ·
                simp only [Act.put, List.setIfInBounds_toArray, List.set_cons_zero, List.set_cons_succ, i64_w, i32_w]
                rfl
               refine done_ (done_of HT_.out (by kernel_rfl)) ?_
               try go_wp2
               go_ret3
               exact ⟨by first | rfl | (simp [errW_none, errW_some] <;> rfl) | (simp only [← hji5]; first | rfl | (simp [errW_none, errW_some] <;> rfl)) | (simp [*, errW_none, errW_some] <;> rfl), by repeat (first | (with_reducible first | exact HB.out | apply bl_a | apply bl_n | apply bl_d) | exact HB.out)⟩
             ·
              rw [if_neg c14] at H
              exact absurd H (by simp)
            ·
             rw [if_neg c13] at H
             exact absurd H (by simp)
       ·
        rw [if_neg c7] at H
        exact absurd H (by simp)
      ·
       rw [if_neg c6] at H
       exact absurd H (by simp)
     ·
      replace c4 := Bool.eq_false_iff.mpr c4
      subst c4
      have H1 : (some (0, 0, false)) = some (r1, r2, r3) := by rw [if_neg (show ¬ (false = true) by decide)] at H; exact H
      clear H
      have H := H1
      clear H1
      simp only [Option.some.injEq, Prod.mk.injEq] at H
      obtain ⟨rfl, rfl, rfl⟩ := H
      go_wp2
      go_ret3
      exact ⟨by first | rfl | (simp [errW_none, errW_some] <;> rfl) | (simp [*, errW_none, errW_some] <;> rfl), by repeat (first | (with_reducible first | exact HB.out | apply bl_a | apply bl_n | apply bl_d) | exact HB.out)⟩
def rabbetref1_Zag.f (a0 : Int) : Option (Int) := if (Int.tmod a0 2) = 1 then (some (wrap64 ((wrap64 (-(wrap64 (IntKind.u64.wrap (Int.tdiv a0 2))))) - 1))) else (some (wrap64 (IntKind.u64.wrap (Int.tdiv a0 2))))
set_option maxHeartbeats 8000000 in
set_option maxRecDepth 100000 in
theorem rabbetref1_Zag.calls (a0 : Int) (r : Int) (w : World) (h : rabbetref1_Zag.f a0 = some r) :
  Calls Tryd.prog 67 #[.int .u64 a0] w fun e w' => e = .returned (.int .i64 r) ∧ Drawn0 w w' := by
 have H : (if (Int.tmod a0 2) = 1 then (some (wrap64 ((wrap64 (-(wrap64 (IntKind.u64.wrap (Int.tdiv a0 2))))) - 1))) else (some (wrap64 (IntKind.u64.wrap (Int.tdiv a0 2))))) = some r := h
 clear h
 by_cases c2 : (Int.tmod a0 2) = 1
 ·
  rw [if_pos c2] at H
  have c2b0 : ((Int.tmod a0 2) == 1) = true := beq_iff_eq.mpr c2
  have c2b1 : ((Int.tmod a0 2) != 1) = false := bne_eq_false_iff_eq.mpr c2
  clear c2
  obtain rfl := Option.some.inj H
  go_enter Tryd.func67, Tryd.ntmps67
  go_wp2
  go_ret
  exact ⟨by first | rfl | (simp; done) | (simp [*]; done), by repeat (first | exact Drawn0.refl _ | apply Drawn0.step)⟩
 ·
  rw [if_neg c2] at H
  have c2b0 : ((Int.tmod a0 2) == 1) = false := beq_eq_false_iff_ne.mpr c2
  have c2b1 : ((Int.tmod a0 2) != 1) = true := bne_iff_ne.mpr c2
  obtain rfl := Option.some.inj H
  go_enter Tryd.func67, Tryd.ntmps67
  go_wp2
  go_ret
  exact ⟨by first | rfl | (simp; done) | (simp [*]; done), by repeat (first | exact Drawn0.refl _ | apply Drawn0.step)⟩
end Go.Proofs.YtigldipjkejalaaDoor.PRleAll