/- dev: what every device of the laws keeps (lengths, bounds), and full: bytes as a block's. Conditions: none. -/
import Derived.Test.YtaoegbebeogkbaaDevN
namespace Go.Proofs.Ytaoegbebeogkbaa.PDev
open Go.RowKit Go.Proofs.YtaoegbebeogkbaaW.PrintWords Go.Proofs.YtaoegbebeogkbaaW.PrintLast Go.Proofs.YtaoegbebeogkbaaW.PrintMore
open Go.Extern.Stop Go.Stop Go.Extern
set_option linter.unusedVariables false
set_option linter.unusedSimpArgs false
/-- n blocks of 128 bytes; so many writes at most. -/
structure Good (n m : Nat) (D : Dat) : Prop where
  seen : D.seen.length = n
  sure : D.sure.length = n
  later : D.later.length ≤ m
  w0 : 0 ≤ D.writes
  w1 : D.writes ≤ m
  l0 : -1 ≤ D.left
  l1 : D.left ≤ 9223372036854775807
  idx : ∀ x, x ∈ D.later → 0 ≤ x.1 ∧ x.1 < D.seen.length
theorem Good.le {n m m' : Nat} {D : Dat} (h : Good n m D) (hm : m ≤ m') : Good n m' D := ⟨h.seen, h.sure, Nat.le_trans h.later hm, h.w0, by have := h.w1; omega, h.l0, h.l1, h.idx⟩
theorem good_new (n : Nat) : Good n 0 (newD n) := ⟨by simp [newD], by simp [newD], by simp [newD], by simp [newD], by simp [newD], by simp [newD], by simp [newD], fun x hx => by simp [newD] at hx⟩
theorem good_wrote {n m : Nat} {D : Dat} (h : Good n m D) (i : Nat) (b : List Int) (hi : i < n) : Good n (m + 1) (D.wrote i b) := by
  refine ⟨by simp [Dat.wrote, h.seen], by simp [Dat.wrote, h.sure], by simp [Dat.wrote]; exact h.later, ?_, ?_, ?_, ?_, ?_⟩
  · have := h.w0; simp only [Dat.wrote]; omega
  · have := h.w1; simp only [Dat.wrote]; omega
  · have := h.l0; simp only [Dat.wrote]; split <;> omega
  · have := h.l1; simp only [Dat.wrote]; split <;> omega
  · intro x hx
    simp only [Dat.wrote, List.length_set] at hx ⊢
    rcases List.mem_append.1 hx with hx | hx
    · exact h.idx x hx
    · rw [List.mem_singleton] at hx
      subst hx
      have := h.seen
      exact ⟨by show (0 : Int) ≤ (i : Int); omega, by show (i : Int) < _; omega⟩
theorem good_write {n m : Nat} {D : Dat} (h : Good n m D) (i : Int) (b : List Int) : Good n (m + 1) (D.write i b).2 := by
  unfold Dat.write
  split
  · rename_i hc
    show Good n (m + 1) (if D.left = 0 then D else D.wrote i.toNat b)
    split
    · exact h.le (Nat.le_succ _)
    · exact good_wrote h _ _ (by have := hc.1; have := hc.2.1; have := h.seen; omega)
  · exact h.le (Nat.le_succ _)
theorem good_flush {n m : Nat} {D : Dat} (h : Good n m D) : Good n m D.flush := by
  unfold Dat.flush
  split
  · exact h
  · exact ⟨h.seen, h.seen, Nat.zero_le _, h.w0, h.w1, h.l0, h.l1, fun x hx => by cases hx⟩
theorem good_stop {n m : Nat} {D : Dat} (h : Good n m D) (k : Int) (hk : k ≤ 9223372036854775807) : Good n m (D.stop k) := by
  refine ⟨h.seen, h.sure, h.later, h.w0, h.w1, ?_, ?_, h.idx⟩
  · show -1 ≤ if k < -1 then -1 else k
    split <;> omega
  · show (if k < -1 then -1 else k) ≤ _
    split <;> omega
theorem good_crash {n m : Nat} {D : Dat} (h : Good n m D) (keep : List Int) (torn a : Int) : Good n m (D.crash keep torn a) := by
  refine ⟨?_, ?_, Nat.zero_le _, h.w0, h.w1, by show (-1 : Int) ≤ -1; omega, by show (-1 : Int) ≤ _; omega, fun x hx => by cases hx⟩
  · show (crashS _ _ _ _ _ _).length = n
    rw [crashS_len]; exact h.sure
  · show (crashS _ _ _ _ _ _).length = n
    rw [crashS_len]; exact h.sure
section
variable {W W1 : World} {ok ok2 : Nat → Prop} {Ts : List Nat} {B : Nat} {v : Value} {l : List Int}
theorem row_fr (h : Kd.R (Kd.int .u8) 5 W B ok v l) (hf : Fr ok2 Ts W W1) (ht : 5 ∉ Ts) : Kd.R (Kd.int .u8) 5 W1 B ok v l :=
  Kd.R_mono (Kd.R_move (Kd.R_bound h) (fun k hk => by
    obtain ⟨q, hq, cs, hc⟩ := hk.2.2.2
    have e : (Kd.int .u8).E = [] := rfl
    rw [e, List.mem_singleton] at hq
    subst hq
    exact hf.typed _ _ _ _ hc ht)) (fun _ hk => hk.1)
theorem row_C (h : Kd.R (Kd.int .u8) 5 W B ok v l) : ∃ A c, v = .slice A l.length c ∧ l.length ≤ c ∧ Kd.C (Kd.int .u8) W A l.length l := by
  obtain ⟨A, c, rfl⟩ := Kd.R_slice h
  have := Kd.R_reads' h
  exact ⟨A, c, rfl, this.2.1, this.2.2⟩
end
/-- Bytes as a block's. -/
def fullS (b : List Int) : List Int := b.take 128 ++ List.replicate (128 - b.length) 0
theorem fullS_len (b : List Int) : (fullS b).length = 128 := by
  unfold fullS
  rw [List.length_append, List.length_take, List.length_replicate]
  omega
def partF (b : List Int) (i : Nat) : List Int := b.take i ++ List.replicate (128 - i) 0
theorem partF_len (b : List Int) (i : Nat) (h : i ≤ b.length) (h2 : i ≤ 128) : (partF b i).length = 128 := by
  unfold partF
  rw [List.length_append, List.length_take, List.length_replicate]
  omega
theorem partF_set (b : List Int) (i : Nat) (h : i < b.length) (h2 : i < 128) : (partF b i).set i b[i] = partF b (i + 1) := by
  have h1 : (b.take i).length = i := by rw [List.length_take]; omega
  unfold partF
  rw [List.set_append_right _ _ (by omega), h1, Nat.sub_self, show 128 - i = (128 - (i + 1)) + 1 by omega, List.replicate_succ, List.set_cons_zero, List.take_succ_eq_append_getElem h, List.append_assoc]
  rfl
theorem full_end (b : List Int) (i : Nat) (h : i ≤ b.length) (h2 : i ≤ 128) (hc : i = b.length ∨ i = 128) : partF b i = fullS b := by
  unfold partF fullS
  rcases hc with hc | hc
  · rw [hc, List.take_length, List.take_of_length_le (by omega)]
  · subst hc
    rw [Nat.sub_self, show 128 - b.length = 0 by omega]
theorem full_loop (b : List Int) (hl : b.length ≤ 1000000000000) (d : Nat) : ∀ (k i : Nat), i ≤ b.length → i + d = 128 → d < k → rabbetlaw18_full.l0 k b (partF b i) (i : Int) = some (fullS b) := by
  induction d with
  | zero =>
    intro k i hi hd hk
    obtain ⟨k, rfl⟩ : ∃ q, k = q + 1 := ⟨k - 1, by omega⟩
    have he := full_end b i hi (by omega) (.inr (by omega))
    simp only [rabbetlaw18_full.l0]
    by_cases c : (i : Int) < (b.length : Int)
    · rw [if_pos c, if_neg (by omega), he]
    · rw [if_neg c, he]
  | succ d ih =>
    intro k i hi hd hk
    obtain ⟨k, rfl⟩ : ∃ q, k = q + 1 := ⟨k - 1, by omega⟩
    simp only [rabbetlaw18_full.l0]
    by_cases c : (i : Int) < (b.length : Int)
    · have hlt : i < b.length := by omega
      have hr : rd b (i : Int) = b[i] := by simp [rd, List.getD_eq_getElem?_getD, List.getElem?_eq_getElem hlt]
      rw [if_pos c, if_pos (by omega), if_pos (by omega), if_pos (by rw [partF_len b i hi (by omega)]; omega), hr, Int.toNat_natCast, partF_set b i hlt (by omega), show wrap64 ((i : Int) + 1) = ((i + 1 : Nat) : Int) by unfold wrap64; omega]
      exact ih k (i + 1) (by omega) (by omega) (by omega)
    · rw [if_neg c, full_end b i hi (by omega) (.inl (by omega))]
theorem full_ev (b : List Int) (hl : b.length ≤ 1000000000000) : rabbetlaw18_full.f 130 b = some (fullS b) := by
  unfold rabbetlaw18_full.f
  rw [if_pos (by decide)]
  exact full_loop b hl 128 130 0 (Nat.zero_le _) (by omega) (by omega)
theorem full (A : Option Addr) (n c : Nat) (b : List Int) (w : World) (hb : Kd.C (Kd.int .u8) w A n b) (hn : b.length = n) (hc : n ≤ c) (hl : n ≤ 1000000000000) :
    Calls Try.prog 10 #[.slice A n c] w fun e w' => ∃ A' c', e = .returned (.slice A' 128 c') ∧ 128 ≤ c' ∧ Kd.R (Kd.int .u8) 5 w' w.heap.size (fun _ => True) (.slice A' 128 c') (fullS b) ∧ Below w.heap.size w w' := by
  subst hn
  refine (rabbetlaw18_full.calls 130 A c b (fullS b) w hb hc (full_ev b hl)).mono ?_
  rintro e w' ⟨v, rfl, hR, hB⟩
  obtain ⟨A', c', rfl, h1, h2⟩ := row_C hR
  have e := fullS_len b
  refine ⟨A', c', by rw [e], by omega, by rw [← e]; rw [e] at hR ⊢; exact hR, hB⟩
theorem Read_at (ok : Nat → Prop) (g : Nat) (D : Dat) (i : Nat) (row : List Int) (n : Nat) (w : World) (h : DevAt w ok g D) (hr : D.seen[i]? = some row) (hn : row.length = n) (hm : D.seen.length ≤ 1000000) :
    Calls Try.prog 14 #[.pointer (some ⟨g, 0, none⟩), .int .i64 (i : Int)] w fun e w' => ∃ A c, e = .returned (.tuple #[.slice A n c, .bool true]) ∧ n ≤ c ∧ Kd.R (Kd.int .u8) 5 w' w.heap.size (fun _ => True) (.slice A n c) row ∧ Below w.heap.size w w' := by
  subst hn
  have hi : i < D.seen.length := by
    rcases Nat.lt_or_ge i D.seen.length with c | c
    · exact c
    · rw [List.getElem?_eq_none c] at hr; cases hr
  rw [List.getElem?_eq_getElem hi] at hr
  obtain rfl := Option.some.inj hr
  refine (Read_yes ok g D i w h hi hm).mono ?_
  rintro e w' ⟨v, rfl, hR, hB⟩
  obtain ⟨A, c, rfl, h1, h2⟩ := row_C hR
  exact ⟨A, c, rfl, h1, hR, hB⟩
theorem lit_row (W : World) (l : List Int) (hl : l.length ≤ 1000000) : Kd.R (Kd.int .u8) 5 (W.alloc (.cells (nums .u8 l).toArray 5)) 0 (fun _ => True) (.slice (some ⟨W.heap.size, 0, none⟩) l.length l.length) l := by
  have h := own_lit W 0 5 .u8 l (Nat.zero_le _) (by omega)
  exact Kd.R_of_own (enc := Value.int .u8) (h1 := fun _ => rfl) (e := 5) (xs := l) (ok := fun _ => True) h (fun _ _ => trivial)
theorem Blk.put {W : World} {b : Bk} {l : List Int} (h : Blk W b l) (i : Nat) (x : Int) : Blk (W.setCell ⟨b.1, i, none⟩ (.int .u8 x)) b (l.set i x) := by
  have := (Kd.R_putg (enc := Value.int .u8) (h1 := fun _ => rfl) (g := b.1) (n := 128) (cap := b.2) h (i : Int) x).1
  rw [Int.toNat_natCast] at this
  exact this
end Go.Proofs.Ytaoegbebeogkbaa.PDev
