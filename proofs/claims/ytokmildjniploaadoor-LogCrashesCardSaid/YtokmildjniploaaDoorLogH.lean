/- dev: what every device of the laws keeps (lengths, bounds), and rows. Conditions: none. (Turned out of this project's own DevP, DevT, DevU, DevK by program.) -/
import Derived.Test.YtokmildjniploaaDoorDevN
import Derived.Test.YtokmildjniploaaDoorDevX
namespace Go.Proofs.YtokmildjniploaaDoor.PLog
open Go.RowKit Go.Proofs.YtokmildjniploaaDoorW.PrintWords Go.Proofs.YtokmildjniploaaDoorW.PrintLast Go.Proofs.YtokmildjniploaaDoorW.PrintMore
open Go.Extern.Stop Go.Stop Go.Extern
set_option linter.unusedVariables false
set_option linter.unusedSimpArgs false
/-- n blocks of 128 bytes; so many writes at most. -/
structure Good (n m : Nat) (D : Dat) : Prop where
  seen : D.seen.length = n
  sure : D.sure.length = n
  later : D.later.length ≤ m
  w0 : 0 ≤ D.writes
  w1 : D.writes ≤ m
  l0 : -1 ≤ D.left
  l1 : D.left ≤ 9223372036854775807
  idx : ∀ x, x ∈ D.later → 0 ≤ x.1 ∧ x.1 < D.seen.length
theorem Good.le {n m m' : Nat} {D : Dat} (h : Good n m D) (hm : m ≤ m') : Good n m' D := ⟨h.seen, h.sure, Nat.le_trans h.later hm, h.w0, by have := h.w1; omega, h.l0, h.l1, h.idx⟩
theorem good_new (n : Nat) : Good n 0 (newD n) := ⟨by simp [newD], by simp [newD], by simp [newD], by simp [newD], by simp [newD], by simp [newD], by simp [newD], fun x hx => by simp [newD] at hx⟩
theorem good_wrote {n m : Nat} {D : Dat} (h : Good n m D) (i : Nat) (b : List Int) (hi : i < n) : Good n (m + 1) (D.wrote i b) := by
  refine ⟨by simp [Dat.wrote, h.seen], by simp [Dat.wrote, h.sure], by simp [Dat.wrote]; exact h.later, ?_, ?_, ?_, ?_, ?_⟩
  · have := h.w0; simp only [Dat.wrote]; omega
  · have := h.w1; simp only [Dat.wrote]; omega
  · have := h.l0; simp only [Dat.wrote]; split <;> omega
  · have := h.l1; simp only [Dat.wrote]; split <;> omega
  · intro x hx
    simp only [Dat.wrote, List.length_set] at hx ⊢
    rcases List.mem_append.1 hx with hx | hx
    · exact h.idx x hx
    · rw [List.mem_singleton] at hx
      subst hx
      have := h.seen
      exact ⟨by show (0 : Int) ≤ (i : Int); omega, by show (i : Int) < _; omega⟩
theorem good_write {n m : Nat} {D : Dat} (h : Good n m D) (i : Int) (b : List Int) : Good n (m + 1) (D.write i b).2 := by
  unfold Dat.write
  split
  · rename_i hc
    show Good n (m + 1) (if D.left = 0 then D else D.wrote i.toNat b)
    split
    · exact h.le (Nat.le_succ _)
    · exact good_wrote h _ _ (by have := hc.1; have := hc.2.1; have := h.seen; omega)
  · exact h.le (Nat.le_succ _)
theorem good_flush {n m : Nat} {D : Dat} (h : Good n m D) : Good n m D.flush := by
  unfold Dat.flush
  split
  · exact h
  · exact ⟨h.seen, h.seen, Nat.zero_le _, h.w0, h.w1, h.l0, h.l1, fun x hx => by cases hx⟩
theorem good_stop {n m : Nat} {D : Dat} (h : Good n m D) (k : Int) (hk : k ≤ 9223372036854775807) : Good n m (D.stop k) := by
  refine ⟨h.seen, h.sure, h.later, h.w0, h.w1, ?_, ?_, h.idx⟩
  · show -1 ≤ if k < -1 then -1 else k
    split <;> omega
  · show (if k < -1 then -1 else k) ≤ _
    split <;> omega
theorem good_crash {n m : Nat} {D : Dat} (h : Good n m D) (keep : List Int) (torn a : Int) : Good n m (D.crash keep torn a) := by
  refine ⟨?_, ?_, Nat.zero_le _, h.w0, h.w1, by show (-1 : Int) ≤ -1; omega, by show (-1 : Int) ≤ _; omega, fun x hx => by cases hx⟩
  · show (crashS _ _ _ _ _ _).length = n
    rw [crashS_len]; exact h.sure
  · show (crashS _ _ _ _ _ _).length = n
    rw [crashS_len]; exact h.sure
section
variable {W W1 : World} {ok ok2 : Nat → Prop} {Ts : List Nat} {B : Nat} {v : Value} {l : List Int}
theorem row_fr (h : Kd.R (Kd.int .u8) 5 W B ok v l) (hf : Fr ok2 Ts W W1) (ht : 5 ∉ Ts) : Kd.R (Kd.int .u8) 5 W1 B ok v l :=
  Kd.R_mono (Kd.R_move (Kd.R_bound h) (fun k hk => by
    obtain ⟨q, hq, cs, hc⟩ := hk.2.2.2
    have e : (Kd.int .u8).E = [] := rfl
    rw [e, List.mem_singleton] at hq
    subst hq
    exact hf.typed _ _ _ _ hc ht)) (fun _ hk => hk.1)
theorem row_C (h : Kd.R (Kd.int .u8) 5 W B ok v l) : ∃ A c, v = .slice A l.length c ∧ l.length ≤ c ∧ Kd.C (Kd.int .u8) W A l.length l := by
  obtain ⟨A, c, rfl⟩ := Kd.R_slice h
  have := Kd.R_reads' h
  exact ⟨A, c, rfl, this.2.1, this.2.2⟩
end
theorem Read_at (ok : Nat → Prop) (g : Nat) (D : Dat) (i : Nat) (row : List Int) (n : Nat) (w : World) (h : DevAt w ok g D) (hr : D.seen[i]? = some row) (hn : row.length = n) (hm : D.seen.length ≤ 1000000) :
    Calls Tryd.prog 36 #[.pointer (some ⟨g, 0, none⟩), .int .i64 (i : Int)] w fun e w' => ∃ A c, e = .returned (.tuple #[.slice A n c, .bool true]) ∧ n ≤ c ∧ Kd.R (Kd.int .u8) 5 w' w.heap.size (fun _ => True) (.slice A n c) row ∧ Below w.heap.size w w' := by
  subst hn
  have hi : i < D.seen.length := by
    rcases Nat.lt_or_ge i D.seen.length with c | c
    · exact c
    · rw [List.getElem?_eq_none c] at hr; cases hr
  rw [List.getElem?_eq_getElem hi] at hr
  obtain rfl := Option.some.inj hr
  refine (Read_yes ok g D i w h hi hm).mono ?_
  rintro e w' ⟨v, rfl, hR, hB⟩
  obtain ⟨A, c, rfl, h1, h2⟩ := row_C hR
  exact ⟨A, c, rfl, h1, hR, hB⟩
theorem lit_row (W : World) (l : List Int) (hl : l.length ≤ 1000000) : Kd.R (Kd.int .u8) 5 (W.alloc (.cells (nums .u8 l).toArray 5)) 0 (fun _ => True) (.slice (some ⟨W.heap.size, 0, none⟩) l.length l.length) l := by
  have h := own_lit W 0 5 .u8 l (Nat.zero_le _) (by omega)
  exact Kd.R_of_own (enc := Value.int .u8) (h1 := fun _ => rfl) (e := 5) (xs := l) (ok := fun _ => True) h (fun _ _ => trivial)
theorem Blk.put {W : World} {b : Bk} {l : List Int} (h : Blk W b l) (i : Nat) (x : Int) : Blk (W.setCell ⟨b.1, i, none⟩ (.int .u8 x)) b (l.set i x) := by
  have := (Kd.R_putg (enc := Value.int .u8) (h1 := fun _ => rfl) (g := b.1) (n := 128) (cap := b.2) h (i : Int) x).1
  rw [Int.toNat_natCast] at this
  exact this
theorem rowC {W : World} {B : Nat} {ok : Nat → Prop} {A : Option Addr} {n c : Nat} {l : List Int} (h : Kd.R (Kd.int .u8) 5 W B ok (.slice A n c) l) : Kd.C (Kd.int .u8) W A n l := by
  have h1 := Kd.R_reads' h
  rw [h1.1]
  exact h1.2.2
theorem crashS_other (keep : List Int) (torn : Int) (T j : Nat) (l : List (Int × List Int)) : ∀ (i : Nat) (s : List (List Int)), (∀ x, x ∈ l → x.1.toNat ≠ j) → (crashS keep torn T i l s)[j]? = s[j]? := by
  induction l with
  | nil => intro i s _; rfl
  | cons x l ih =>
    intro i s h
    have hx := h x List.mem_cons_self
    simp only [crashS]
    rw [ih (i + 1) _ (fun y hy => h y (List.mem_cons_of_mem _ hy))]
    split
    · rw [List.getElem?_set_ne hx]
    · split
      · rw [List.getElem?_set_ne hx]
      · rfl
/-- A device that goes on: it takes every block. -/
theorem u_write {n m : Nat} {D : Dat} (hg : Good n m D) (hl : D.left = -1) (i : Nat) (b : List Int) (hi : i < n) (hb : b.length = 128) : D.write (i : Int) b = (true, D.wrote i b) ∧ Good n (m + 1) (D.wrote i b) ∧ (D.wrote i b).left = -1 ∧ (D.wrote i b).writes = D.writes + 1 ∧ (D.wrote i b).seen = D.seen.set i b ∧ (D.wrote i b).sure = D.sure ∧ (D.wrote i b).later = D.later ++ [((i : Int), b)] := by
  have hs := hg.seen
  refine ⟨?_, good_wrote hg i b hi, ?_, rfl, rfl, rfl, rfl⟩
  · unfold Dat.write
    rw [if_pos ⟨by omega, by omega, hb⟩, if_neg (by omega), Int.toNat_natCast]
  · show (if 0 < D.left then D.left - 1 else D.left) = -1
    rw [if_neg (by omega), hl]
theorem u_flush {D : Dat} (hl : D.left = -1) : D.flush = { D with sure := D.seen, later := [] } := by
  unfold Dat.flush
  rw [if_neg (by omega)]
theorem seen_len {W : World} {ok : Nat → Prop} {g : Nat} {D : Dat} (h : DevAt W ok g D) {i : Nat} {r : List Int} (hr : D.seen[i]? = some r) : r.length = 128 := by
  obtain ⟨vs, vu, vl, hs, hu, hl, h⟩ := h
  have hi : i < D.seen.length := by
    rcases Nat.lt_or_ge i D.seen.length with c | c
    · exact c
    · rw [List.getElem?_eq_none c] at hr; cases hr
  obtain ⟨x, hx, hb⟩ := h.es.at_ i hi
  rw [List.getElem?_eq_getElem hi] at hr
  obtain rfl := Option.some.inj hr
  exact hb.len
def Wide (l : List (List Int)) : Prop := ∀ r, r ∈ l → r.length = 128
theorem Wide.set {l : List (List Int)} (h : Wide l) (i : Nat) (r : List Int) (hr : r.length = 128) : Wide (l.set i r) := fun x hx => by
  rcases List.mem_or_eq_of_mem_set hx with hx | hx
  · exact h x hx
  · rw [hx]; exact hr
/-- All rows are blocks. -/
structure Whole (D : Dat) : Prop where
  seen : Wide D.seen
  sure : Wide D.sure
  later : ∀ x, x ∈ D.later → x.2.length = 128
theorem each_mem {α β : Type} {P : α → β → Prop} {xs : List α} {ys : List β} (h : Each P xs ys) {y : β} (hy : y ∈ ys) : ∃ x, P x y := by
  obtain ⟨i, hi, rfl⟩ := List.getElem_of_mem hy
  obtain ⟨x, _, hp⟩ := h.at_ i hi
  exact ⟨x, hp⟩
theorem dev_whole {W : World} {ok : Nat → Prop} {g : Nat} {D : Dat} (h : DevAt W ok g D) : Whole D := by
  obtain ⟨vs, vu, vl, hs, hu, hl, h⟩ := h
  refine ⟨fun r hr => ?_, fun r hr => ?_, fun x hx => ?_⟩
  · obtain ⟨b, hb⟩ := each_mem h.es hr
    exact hb.len
  · obtain ⟨b, hb⟩ := each_mem h.eu hr
    exact hb.len
  · obtain ⟨b, hb⟩ := each_mem h.el hx
    exact hb.2.len
/-- What a block reads as. -/
def rowAt (D : Dat) (i : Int) : List Int := if 0 ≤ i ∧ i < D.seen.length then D.seen.getD i.toNat [] else []
def isAt (D : Dat) (i : Int) : Bool := decide (0 ≤ i ∧ i < D.seen.length)
theorem at_row {D : Dat} {i : Nat} (h : i < D.seen.length) : D.seen[i]? = some (rowAt D (i : Int)) := by
  unfold rowAt
  rw [if_pos ⟨by omega, by omega⟩, Int.toNat_natCast, List.getD_eq_getElem?_getD, List.getElem?_eq_getElem h]
  rfl
theorem Read_any (ok : Nat → Prop) (g : Nat) (D : Dat) (i : Int) (w : World) (h : DevAt w ok g D) (hm : D.seen.length ≤ 1000000) :
    Calls Tryd.prog 36 #[.pointer (some ⟨g, 0, none⟩), .int .i64 i] w fun e w' => ∃ A n c l, e = .returned (.tuple #[.slice A n c, .bool (isAt D i)]) ∧ n ≤ c ∧ strOfNums l = strOfNums (rowAt D i) ∧ Kd.C (Kd.int .u8) w' A n l ∧ Below w.heap.size w w' := by
  by_cases hi : 0 ≤ i ∧ i < D.seen.length
  · obtain ⟨k, rfl⟩ := Int.eq_ofNat_of_zero_le hi.1
    have hk : k < D.seen.length := by omega
    refine (Read_at ok g D k _ _ w h (at_row hk) rfl hm).mono ?_
    rintro e w' ⟨A, c, rfl, hc, hR, hb⟩
    refine ⟨A, _, c, _, ?_, hc, rfl, rowC hR, hb⟩
    rw [show isAt D (k : Int) = true from decide_eq_true hi]
  · refine (Read_no ok g D i w h hi).mono ?_
    rintro e w' ⟨rfl, rfl⟩
    refine ⟨none, 0, 0, [], ?_, Nat.le_refl _, ?_, Kd.C_nil _ _, Below.refl _ _⟩
    · rw [show isAt D i = false from decide_eq_false hi]
    · unfold rowAt; rw [if_neg hi]
end Go.Proofs.YtokmildjniploaaDoor.PLog
