/- DevAll's words: a device that is none, reads of any block, and what the law holds. Conditions: none. -/
import Derived.Test.YtaoegbebeogkbaaRefX
namespace Go.Proofs.Ytaoegbebeogkbaa.PDev
open Go.RowKit Go.Proofs.YtaoegbebeogkbaaW.PrintWords Go.Proofs.YtaoegbebeogkbaaW.PrintLast Go.Proofs.YtaoegbebeogkbaaW.PrintMore
open Go.Extern.Stop Go.Stop Go.Extern
attribute [local go_sem] max2_int min2_int max_two min_two   -- for this text's walks alone
set_option linter.unusedVariables false
set_option linter.unusedSimpArgs false
theorem nil_Blocks (w : World) : Calls Try.prog 28 #[.pointer none] w fun e w' => e = .returned (.int .i64 0) ∧ w = w' := by
  go_enter Try.func28, Try.ntmps28
  go_wp2
  go_ret
  exact ⟨rfl, rfl⟩
theorem nil_Writes (w : World) : Calls Try.prog 15 #[.pointer none] w fun e w' => e = .returned (.int .i64 0) ∧ w = w' := by
  go_enter Try.func15, Try.ntmps15
  go_wp2
  go_ret
  exact ⟨rfl, rfl⟩
theorem nil_Stopped (w : World) : Calls Try.prog 26 #[.pointer none] w fun e w' => e = .returned (.bool false) ∧ w = w' := by
  go_enter Try.func26, Try.ntmps26
  go_wp2
  go_ret
  exact ⟨rfl, rfl⟩
theorem nil_Copy (w : World) : Calls Try.prog 21 #[.pointer none] w fun e w' => e = .returned (.pointer none) ∧ w = w' := by
  go_enter Try.func21, Try.ntmps21
  go_wp2
  go_ret
  exact ⟨rfl, rfl⟩
theorem nil_Flush (w : World) : Calls Try.prog 12 #[.pointer none] w fun e w' => e = .returned (.tuple #[]) ∧ w = w' := by
  go_enter Try.func12, Try.ntmps12
  go_wp2
  go_end0
  exact ⟨rfl, rfl⟩
theorem nil_Stop (n : Int) (w : World) : Calls Try.prog 18 #[.pointer none, .int .i64 n] w fun e w' => e = .returned (.tuple #[]) ∧ w = w' := by
  go_enter Try.func18, Try.ntmps18
  go_wp2
  go_end0
  exact ⟨rfl, rfl⟩
theorem nil_Crash (v : Value) (a b : Int) (w : World) : Calls Try.prog 13 #[.pointer none, v, .int .i64 a, .int .i64 b] w fun e w' => e = .returned (.tuple #[]) ∧ w = w' := by
  go_enter Try.func13, Try.ntmps13
  go_wp2
  (try simp only [Exit.inBlock, Exit.then])
  refine bodyPost_ret (results_none rfl _ _ _) rfl ?_
  exact ⟨rfl, rfl⟩
theorem nil_Read (w : World) : Calls Try.prog 14 #[.pointer none, .int .i64 0] w fun e w' => e = .returned (.tuple #[.slice none 0 0, .bool false]) ∧ w = w' := by
  go_enter Try.func14, Try.ntmps14
  go_wp2_with (go_at_call 28; (refine (nil_Blocks _).mono ?_); rintro e w1 ⟨rfl, rfl⟩)
  go_ret2
  exact ⟨rfl, rfl⟩
theorem nil_Write (A : Option Addr) (n c : Nat) (w : World) : Calls Try.prog 11 #[.pointer none, .int .i64 0, .slice A n c] w fun e w' => e = .returned (.bool false) ∧ w = w' := by
  go_enter Try.func11, Try.ntmps11
  go_wp2_with (go_at_call 28; (refine (nil_Blocks _).mono ?_); rintro e w1 ⟨rfl, rfl⟩)
  go_ret
  exact ⟨rfl, rfl⟩
/-- All rows are blocks. -/
structure Whole (D : Dat) : Prop where
  seen : Wide D.seen
  sure : Wide D.sure
  later : ∀ x, x ∈ D.later → x.2.length = 128
theorem each_mem {α β : Type} {P : α → β → Prop} {xs : List α} {ys : List β} (h : Each P xs ys) {y : β} (hy : y ∈ ys) : ∃ x, P x y := by
  obtain ⟨i, hi, rfl⟩ := List.getElem_of_mem hy
  obtain ⟨x, _, hp⟩ := h.at_ i hi
  exact ⟨x, hp⟩
theorem dev_whole {W : World} {ok : Nat → Prop} {g : Nat} {D : Dat} (h : DevAt W ok g D) : Whole D := by
  obtain ⟨vs, vu, vl, hs, hu, hl, h⟩ := h
  refine ⟨fun r hr => ?_, fun r hr => ?_, fun x hx => ?_⟩
  · obtain ⟨b, hb⟩ := each_mem h.es hr
    exact hb.len
  · obtain ⟨b, hb⟩ := each_mem h.eu hr
    exact hb.len
  · obtain ⟨b, hb⟩ := each_mem h.el hx
    exact hb.2.len
/-- What a block reads as. -/
def rowAt (D : Dat) (i : Int) : List Int := if 0 ≤ i ∧ i < D.seen.length then D.seen.getD i.toNat [] else []
def isAt (D : Dat) (i : Int) : Bool := decide (0 ≤ i ∧ i < D.seen.length)
theorem at_row {D : Dat} {i : Nat} (h : i < D.seen.length) : D.seen[i]? = some (rowAt D (i : Int)) := by
  unfold rowAt
  rw [if_pos ⟨by omega, by omega⟩, Int.toNat_natCast, List.getD_eq_getElem?_getD, List.getElem?_eq_getElem h]
  rfl
theorem Read_any (ok : Nat → Prop) (g : Nat) (D : Dat) (i : Int) (w : World) (h : DevAt w ok g D) (hm : D.seen.length ≤ 1000000) :
    Calls Try.prog 14 #[.pointer (some ⟨g, 0, none⟩), .int .i64 i] w fun e w' => ∃ A n c l, e = .returned (.tuple #[.slice A n c, .bool (isAt D i)]) ∧ n ≤ c ∧ strOfNums l = strOfNums (rowAt D i) ∧ Kd.C (Kd.int .u8) w' A n l ∧ Below w.heap.size w w' := by
  by_cases hi : 0 ≤ i ∧ i < D.seen.length
  · obtain ⟨k, rfl⟩ := Int.eq_ofNat_of_zero_le hi.1
    have hk : k < D.seen.length := by omega
    refine (Read_at ok g D k _ _ w h (at_row hk) rfl hm).mono ?_
    rintro e w' ⟨A, c, rfl, hc, hR, hb⟩
    refine ⟨A, _, c, _, ?_, hc, rfl, rowC hR, hb⟩
    rw [show isAt D (k : Int) = true from decide_eq_true hi]
  · refine (Read_no ok g D i w h hi).mono ?_
    rintro e w' ⟨rfl, rfl⟩
    refine ⟨none, 0, 0, [], ?_, Nat.le_refl _, ?_, Kd.C_nil _ _, Below.refl _ _⟩
    · rw [show isAt D i = false from decide_eq_false hi]
    · unfold rowAt; rw [if_neg hi]
theorem Ref_Read_any (ok : Nat → Prop) (g : Nat) (D : Dat) (i : Int) (w : World) (h : RefAt w ok g D) (hwd : Wide D.seen) (hm : D.seen.length ≤ 1000000) :
    Calls Try.prog 25 #[.pointer (some ⟨g, 0, none⟩), .int .i64 i] w fun e w' => ∃ A n c l, e = .returned (.tuple #[.slice A n c, .bool (isAt D i)]) ∧ n ≤ c ∧ strOfNums l = strOfNums (rowAt D i) ∧ Kd.C (Kd.int .u8) w' A n l ∧ Below w.heap.size w w' := by
  by_cases hi : 0 ≤ i ∧ i < D.seen.length
  · obtain ⟨k, rfl⟩ := Int.eq_ofNat_of_zero_le hi.1
    have hk : k < D.seen.length := by omega
    have hl : (rowAt D (k : Int)).length = 128 := hwd _ (List.mem_of_getElem? (at_row hk))
    refine (Ref_Read_at ok g D k _ 128 w h (at_row hk) hl (by decide) hm).mono ?_
    rintro e w' ⟨A, c, l, rfl, hc, hll, hs, hC, hb⟩
    refine ⟨A, _, c, l, ?_, hc, hs, hC, hb⟩
    rw [show isAt D (k : Int) = true from decide_eq_true hi]
  · refine (Ref_Read_no ok g D i w h hi).mono ?_
    rintro e w' ⟨rfl, rfl⟩
    refine ⟨none, 0, 0, [], ?_, Nat.le_refl _, ?_, Kd.C_nil _ _, Below.refl _ _⟩
    · rw [show isAt D i = false from decide_eq_false hi]
    · unfold rowAt; rw [if_neg hi]
/-- What the law holds: a device and the document's. -/
structure La (w0 W : World) (g gr : Nat) (D E : Dat) : Prop where
  dev : DevAt W (fun k => w0.heap.size ≤ k) g D
  ref : RefAt W (fun k => w0.heap.size ≤ k) gr E
  below : Below w0.heap.size w0 W
section
variable {w0 W W1 : World} {g gr ge : Nat} {D E D' E' : Dat} {C : Array Value}
theorem La.step_below (h : La w0 W g gr D E) (hb : Below W.heap.size W W1) : La w0 W1 g gr D E := ⟨h.dev.below hb, h.ref.below hb, below_step h.below hb⟩
theorem La.step_dev (h : La w0 W g gr D E) (hd : DevAt W1 (fun k => w0.heap.size ≤ k) g D') (hf : Fr (fun k => w0.heap.size ≤ k) devT W W1) : La w0 W1 g gr D' E :=
  ⟨hd, h.ref.frT hf (by decide), hf.below h.below h.below.size (fun k hk => hk)⟩
theorem La.step_ref (h : La w0 W g gr D E) (hd : RefAt W1 (fun k => w0.heap.size ≤ k) gr E') (hf : Fr (fun k => w0.heap.size ≤ k) refT W W1) : La w0 W1 g gr D E' :=
  ⟨h.dev.frT hf (by decide), hd, hf.below h.below h.below.size (fun k hk => hk)⟩
/-- The same with a deed's box. -/
structure Lb (w0 W : World) (g gr : Nat) (D E : Dat) (ge : Nat) (C : Array Value) : Prop where
  la : La w0 W g gr D E
  box : W.heap[ge]? = some (.cells C 34 (0, 0))
theorem Lb.step_below (h : Lb w0 W g gr D E ge C) (hb : Below W.heap.size W W1) : Lb w0 W1 g gr D E ge C := ⟨h.la.step_below hb, blk_below h.box hb⟩
theorem Lb.step_dev (h : Lb w0 W g gr D E ge C) (hd : DevAt W1 (fun k => w0.heap.size ≤ k) g D') (hf : Fr (fun k => w0.heap.size ≤ k) devT W W1) : Lb w0 W1 g gr D' E ge C :=
  ⟨h.la.step_dev hd hf, (hf.typed _ _ _ _ h.box (by decide)).trans h.box⟩
theorem Lb.step_ref (h : Lb w0 W g gr D E ge C) (hd : RefAt W1 (fun k => w0.heap.size ≤ k) gr E') (hf : Fr (fun k => w0.heap.size ≤ k) refT W W1) : Lb w0 W1 g gr D E' ge C :=
  ⟨h.la.step_ref hd hf, (hf.typed _ _ _ _ h.box (by decide)).trans h.box⟩
theorem Lb.frd (h : Lb w0 W g gr D E ge C) {k : Nat} (hk : W.heap.size ≤ k) : w0.heap.size ≤ k := Nat.le_trans h.la.below.size hk
/-- The elder device goes on for a while, behind its copy. -/
structure Lc (w0 W : World) (g g2 gr : Nat) (D D2 E : Dat) (ge : Nat) (C : Array Value) (s1 s2 : Nat) : Prop where
  old : DevAt W (fun k => (w0.heap.size ≤ k ∧ k < s1) ∨ s2 ≤ k) g D
  dev : DevAt W (fun k => s1 ≤ k ∧ k < s2) g2 D2
  ref : RefAt W (fun k => w0.heap.size ≤ k) gr E
  below : Below w0.heap.size w0 W
  box : W.heap[ge]? = some (.cells C 34 (0, 0))
  h1 : w0.heap.size ≤ s1
  h2 : s1 ≤ s2
  h3 : s2 ≤ W.heap.size
theorem Lc.step_below {g2 s1 s2 : Nat} {D2 : Dat} (h : Lc w0 W g g2 gr D D2 E ge C s1 s2) (hb : Below W.heap.size W W1) : Lc w0 W1 g g2 gr D D2 E ge C s1 s2 :=
  ⟨h.old.below hb, h.dev.below hb, h.ref.below hb, below_step h.below hb, blk_below h.box hb, h.h1, h.h2, Nat.le_trans h.h3 hb.size⟩
theorem Lc.step_old {g2 s1 s2 : Nat} {D2 : Dat} (h : Lc w0 W g g2 gr D D2 E ge C s1 s2) (hd : DevAt W1 (fun k => (w0.heap.size ≤ k ∧ k < s1) ∨ s2 ≤ k) g D') (hf : Fr (fun k => (w0.heap.size ≤ k ∧ k < s1) ∨ s2 ≤ k) devT W W1) : Lc w0 W1 g g2 gr D' D2 E ge C s1 s2 :=
  ⟨hd, h.dev.frO hf (fun k hk => by omega) (by decide), h.ref.frT hf (by decide), hf.below h.below h.below.size (fun k hk => by have := h.h1; have := h.h2; omega), (hf.typed _ _ _ _ h.box (by decide)).trans h.box, h.h1, h.h2, Nat.le_trans h.h3 hf.size⟩
theorem Lc.frd {g2 s1 s2 : Nat} {D2 : Dat} (h : Lc w0 W g g2 gr D D2 E ge C s1 s2) {k : Nat} (hk : W.heap.size ≤ k) : (w0.heap.size ≤ k ∧ k < s1) ∨ s2 ≤ k := .inr (Nat.le_trans h.h3 hk)
theorem Lc.start {g2 : Nat} {D2 : Dat} (h : Lb w0 W g gr D E ge C) (hd : DevAt W1 (fun k => W.heap.size ≤ k) g2 D2) (hb : Below W.heap.size W W1) : Lc w0 W1 g g2 gr D D2 E ge C W.heap.size W1.heap.size :=
  ⟨(h.la.dev.bound.mono (fun k hk => .inl hk)).below hb, hd.bound, h.la.ref.below hb, below_step h.la.below hb, blk_below h.box hb, h.la.below.size, hb.size, Nat.le_refl _⟩
theorem Lc.done {g2 s1 s2 : Nat} {D2 : Dat} (h : Lc w0 W g g2 gr D D2 E ge C s1 s2) : Lb w0 W g2 gr D2 E ge C :=
  ⟨⟨h.dev.mono (fun k hk => Nat.le_trans h.h1 hk.1), h.ref, h.below⟩, h.box⟩
end
/-- A row that is handed in: one of the call's own, or one that came in. -/
def Hold (w0 W : World) (A : Option Addr) (n : Nat) (l : List Int) : Prop := (∃ c ok, Kd.R (Kd.int .u8) 5 W 0 ok (.slice A n c) l) ∨ Kd.C (Kd.int .u8) w0 A n l
section
variable {w0 W W1 : World} {A : Option Addr} {n : Nat} {l : List Int} {ok2 : Nat → Prop} {Ts : List Nat}
theorem Hold.C (h : Hold w0 W A n l) (hb : Below w0.heap.size w0 W) : Kd.C (Kd.int .u8) W A n l := by
  rcases h with ⟨c, ok, h⟩ | h
  · exact rowC h
  · exact Kd.C_below h hb
theorem Hold.below (h : Hold w0 W A n l) (hb : Below W.heap.size W W1) : Hold w0 W1 A n l := by
  rcases h with ⟨c, ok, h⟩ | h
  · exact .inl ⟨c, ok, Kd.R_below h hb⟩
  · exact .inr h
theorem Hold.fr (h : Hold w0 W A n l) (hf : Fr ok2 Ts W W1) (ht : 5 ∉ Ts) : Hold w0 W1 A n l := by
  rcases h with ⟨c, ok, h⟩ | h
  · exact .inl ⟨c, ok, row_fr h hf ht⟩
  · exact .inr h
theorem H_fr {B : Nat} {ok : Nat → Prop} {v : Value} (h : Kd.H (Kd.int .u8) 5 W B ok v l) (hf : Fr ok2 Ts W W1) (ht : 5 ∉ Ts) : Kd.H (Kd.int .u8) 5 W1 B ok v l :=
  ⟨row_fr h.1 hf ht, h.2.move (fun k hk => by
    obtain ⟨cs, hc⟩ := Kd.R_typed h.1 k hk
    exact hf.typed _ _ _ _ hc ht)⟩
end
theorem rem10 (x : Int) : ∀ _ : Unit, ∃ m q : Int, x.tmod 10 = m ∧ IntKind.i64.wrap (m + 10) = m + 10 ∧ (m + 10).tmod 10 = q ∧ -10 < m ∧ m < 10 ∧ 0 ≤ q ∧ q < 10 := fun _ => by
  refine ⟨_, _, rfl, ?_, rfl, ?_⟩
  · have h1 := Int.tmod_lt_of_pos x (b := 10) (by decide)
    have h2 := Int.lt_tmod_of_pos x (b := 10) (by decide)
    generalize x.tmod 10 = m at *
    rw [IntKind.wrap_i64]; omega
  · have h1 := Int.tmod_lt_of_pos x (b := 10) (by decide)
    have h2 := Int.lt_tmod_of_pos x (b := 10) (by decide)
    generalize x.tmod 10 = m at *
    have h3 := Int.tmod_lt_of_pos (m + 10) (b := 10) (by decide)
    have h4 := Int.tmod_nonneg 10 (show 0 ≤ m + 10 by omega)
    generalize (m + 10).tmod 10 = q at *
    omega
/-- A deed's numbers are numbers, its bytes bytes. -/
def okO (o : S34) : Prop := o.f2 ≤ 9223372036854775807 ∧ ∀ x, x ∈ o.f6 → 0 ≤ x ∧ x < 256
end Go.Proofs.Ytaoegbebeogkbaa.PDev
