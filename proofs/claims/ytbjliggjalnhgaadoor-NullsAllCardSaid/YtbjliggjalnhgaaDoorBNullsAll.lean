/- nulls' printed functions and the plain ones. Conditions: none. -/
import Derived.Test.YtbjliggjalnhgaaDoorMBits
import Derived.Test.YtbjliggjalnhgaaDoorMStr
import Derived.Test.YtbjliggjalnhgaaDoorPNullsAllx5
namespace Go.Proofs.YtbjliggjalnhgaaDoor.BNNullsAll
open Go.RowKit Go.Proofs.YtbjliggjalnhgaaDoor.PNullsAll Go.Proofs.YtbjliggjalnhgaaDoorW.PrintWords Go.Proofs.YtbjliggjalnhgaaDoorW.PrintLast Go.Proofs.YtbjliggjalnhgaaDoorW.PrintMore Go.Proofs.YtbjliggjalnhgaaDoor.MBits Go.Proofs.YtbjliggjalnhgaaDoor.MStr
set_option linter.unusedVariables false

def wf8 (l : List Int) : Prop := ∀ x, x ∈ l → 0 ≤ x ∧ x < 256
theorem drop_cons (l : List Int) (i : Nat) (h : i < l.length) : l.drop i = rd l (i : Int) :: l.drop (i + 1) := by
  rw [List.drop_eq_getElem_cons h]
  simp [rd, List.getD_eq_getElem?_getD, List.getElem?_eq_getElem h]
theorem rd_mem (l : List Int) (i : Nat) (h : i < l.length) : rd l (i : Int) ∈ l := by
  have : rd l (i : Int) = l[i] := by simp [rd, List.getD_eq_getElem?_getD, List.getElem?_eq_getElem h]
  rw [this]; exact List.getElem_mem h
theorem tdiv8 (t : Nat) (h : t ≤ 100000000) : wrap64 (Int.tdiv (t : Int) 8) = ((t / 8 : Nat) : Int) := by
  have : Int.tdiv (t : Int) 8 = ((t / 8 : Nat) : Int) := rfl
  rw [this]
  unfold wrap64; omega
theorem tmod8 (t : Nat) : Int.tmod (t : Int) 8 = ((t % 8 : Nat) : Int) := rfl
theorem up8 (t : Nat) (h : t ≤ 100000) : wrap64 (Int.tdiv (wrap64 ((t : Int) + 7)) 8) = (((t + 7) / 8 : Nat) : Int) := by
  rw [show wrap64 ((t : Int) + 7) = ((t + 7 : Nat) : Int) by unfold wrap64; omega, tdiv8 _ (by omega)]
def bitl (l : List Bool) (j : Nat) : Nat := if l.getD j false = true then 1 else 0
theorem bitl_le (l : List Bool) (j : Nat) : bitl l j ≤ 1 := by unfold bitl; split <;> omega
theorem rdOf_eq (l : List Bool) (i : Nat) : rdOf false l (i : Int) = l.getD i false := rfl
def putL (l : List Bool) : List Int := bytesT (bitl l) l.length ((l.length + 7) / 8)
theorem put_loop (l : List Bool) (hn : l.length ≤ 100000) (d : Nat) : ∀ i, i + d = l.length →
    Ev (fun k => nulls_Put.l0 k (bytesT (bitl l) i ((l.length + 7) / 8)) l (l.length : Int) (i : Int)) (putL l) := by
  induction d with
  | zero =>
    intro i hi
    obtain rfl : i = l.length := by omega
    refine Ev.step (f := fun _ => some (putL l)) (fun k => ?_) (Ev.now _)
    simp only [nulls_Put.l0]
    rw [if_neg (by omega)]
    rfl
  | succ d ih =>
    intro i hi
    have ht : i / 8 < (l.length + 7) / 8 := by omega
    refine Ev.step (f := fun k => nulls_Put.l0 k (bytesT (bitl l) (i + 1) ((l.length + 7) / 8)) l (l.length : Int) ((i + 1 : Nat) : Int)) (fun k => ?_) (ih (i + 1) (by omega))
    simp only [nulls_Put.l0]
    rw [if_pos (by omega), if_pos (by omega), if_pos (by omega), rdOf_eq, tdiv8 _ (by omega), tmod8, bytesT_length, show wrap64 ((i : Int) + 1) = ((i + 1 : Nat) : Int) by unfold wrap64; omega]
    by_cases hb : l.getD i false = true
    · rw [if_pos hb, if_pos (by omega), if_pos (by omega), if_pos (by omega), Int.toNat_natCast, rd_bytesT _ _ _ _ ht]
      have h1 : bitl l i = 1 := by unfold bitl; rw [if_pos hb]
      have ho := or8 (pb (bitl l) i (i / 8)) 1 (i % 8) (pb_lt _ (bitl_le l) i) (by omega) (by omega)
      have hs := bytesT_set (bitl l) i ((l.length + 7) / 8) ht
      rw [h1] at hs
      rw [show (1 : Int) = ((1 : Nat) : Int) from rfl, ho, hs]
    · rw [if_neg hb, bytesT_same _ _ _ ht (by unfold bitl; rw [if_neg hb])]
theorem put_ev (l : List Bool) (hn : l.length ≤ 100000) : Ev (fun k => nulls_Put.f k l) (putL l) := by
  refine Ev.congr (f := fun k => nulls_Put.l0 k (bytesT (bitl l) 0 ((l.length + 7) / 8)) l (l.length : Int) ((0 : Nat) : Int)) (fun k => ?_) (put_loop l hn l.length 0 (by omega))
  simp only [nulls_Put.f]
  rw [up8 _ hn, if_pos (by omega), if_pos (by omega), Int.toNat_natCast, bytesT_zero]
  rfl
/-- The list at round t of the reading. -/
def readL (b : List Int) (t n : Nat) : List Bool := (List.range n).map fun i => if i < t then decide (bitb b i = 1) else false
theorem readL_length (b : List Int) (t n : Nat) : (readL b t n).length = n := by simp [readL]
def takeL (b : List Int) (n : Nat) : List Bool := (List.range n).map fun i => decide (bitb b i = 1)
theorem takeL_length (b : List Int) (n : Nat) : (takeL b n).length = n := by simp [takeL]
theorem readL_zero (b : List Int) (n : Nat) : readL b 0 n = List.replicate n false := by
  apply List.ext_getElem
  · simp [readL]
  · intro i h1 h2; simp [readL]
theorem readL_full (b : List Int) (n : Nat) : readL b n n = takeL b n := by
  apply List.ext_getElem
  · simp [readL, takeL]
  · intro i h1 h2
    simp only [readL, takeL, List.getElem_map, List.getElem_range]
    simp [readL] at h1
    rw [if_pos h1]
theorem readL_set (b : List Int) (t n : Nat) (h : t < n) : (readL b t n).set t (decide (bitb b t = 1)) = readL b (t + 1) n := by
  apply List.ext_getElem
  · simp [readL]
  · intro i h1 h2
    by_cases hi : t = i
    · subst hi; rw [List.getElem_set_self]; simp [readL]
    · rw [List.getElem_set_ne hi]
      simp only [readL, List.getElem_map, List.getElem_range]
      by_cases h3 : i < t
      · rw [if_pos h3, if_pos (by omega)]
      · rw [if_neg h3, if_neg (by omega)]
theorem read_loop (b : List Int) (hb : wf8 b) (n : Nat) (hn : n ≤ 1000) (hlen : b.length = (n + 7) / 8) (r : List Bool × Option Int)
    (hend : Ev (fun k => (nulls_Put.f k (takeL b n)).bind fun t112 => ((bytes_Equal.f t112 b).bind fun t115 => (if t115 = true then (some (takeL b n, none)) else (some (([] : List Bool), some 1))))) r) (d : Nat) :
    ∀ t, t + d = n → Ev (fun k => nulls_read.l0 k b (readL b t n) (n : Int) (t : Int)) r := by
  induction d with
  | zero =>
    intro t ht
    obtain rfl : t = n := by omega
    refine Ev.step (fun k => ?_) hend
    simp only [nulls_read.l0]
    rw [if_neg (by omega), readL_full]
  | succ d ih =>
    intro t ht
    have h8 : t / 8 < b.length := by omega
    obtain ⟨h0, h1⟩ := hb _ (rd_mem b (t / 8) h8)
    obtain ⟨v, hv⟩ := Int.eq_ofNat_of_zero_le h0
    refine Ev.step (fun k => ?_) (ih (t + 1) (by omega))
    simp only [nulls_read.l0]
    rw [if_pos (by omega), tdiv8 _ (by omega), tmod8, readL_length, if_pos (by omega), if_pos (by omega), if_pos (by omega), if_pos (by omega), if_pos (by omega),
      show wrap64 ((t : Int) + 1) = ((t + 1 : Nat) : Int) by unfold wrap64; omega, Int.toNat_natCast, hv, bit8 v (t % 8) (by omega) (by omega)]
    have hg : bitb b t = v / 2 ^ (t % 8) % 2 := by
      unfold bitb
      have : b.getD (t / 8) 0 = (v : Int) := by rw [← hv]; unfold rd; rw [Int.toNat_natCast]
      rw [this, Int.toNat_natCast]
    have e : ((((v / 2 ^ (t % 8) % 2 : Nat)) : Int) == 1) = decide (bitb b t = 1) := by
      rw [← hg, Bool.eq_iff_iff]
      simp only [beq_iff_eq, decide_eq_true_eq]
      omega
    rw [e, readL_set _ _ _ (by omega)]
/-- Take: what it answers. -/
def takeR (b : List Int) (n : Int) : List Bool × Bool :=
  if n < 0 ∨ 1000 < n ∨ b.length ≠ (n.toNat + 7) / 8 then ([], false) else if putL (takeL b n.toNat) = b then (takeL b n.toNat, true) else ([], false)
theorem errG_all (c : Int) : errG c = 2 := by
  have := errG_mem c
  simpa using this
theorem take_some (b : List Int) (n : Int) (c : Int) (h : Ev (fun k => nulls_read.f k b n) ([], some c)) : Ev (fun k => nulls_Take.f k b n) ([], false) := by
  refine Ev.congr (f := fun k => (nulls_read.f k b n).bind _) (fun k => by simp only [nulls_Take.f]; rfl) (Ev.bind h (Ev.congr (f := fun _ => some ([], false)) (fun k => ?_) (Ev.now _)))
  simp [errors_IsS.f, errG_all]
theorem take_none (b : List Int) (n : Int) (l : List Bool) (h : Ev (fun k => nulls_read.f k b n) (l, none)) : Ev (fun k => nulls_Take.f k b n) (l, true) := by
  refine Ev.congr (f := fun k => (nulls_read.f k b n).bind _) (fun k => by simp only [nulls_Take.f]; rfl) (Ev.bind h (Ev.congr (f := fun _ => some (l, true)) (fun k => ?_) (Ev.now _)))
  simp [errors_IsN.f]
theorem take_ev (b : List Int) (hb : wf8 b) (n : Int) (hn1 : -1000000000 ≤ n) (hn2 : n ≤ 1000000000) : Ev (fun k => nulls_Take.f k b n) (takeR b n) := by
  have hno : Ev (fun k => nulls_read.j0 k b n true) ([], some 0) := by
    refine Ev.step (f := fun _ => some ([], some 0)) (fun k => ?_) (Ev.now _)
    simp only [nulls_read.j0, if_true]
  unfold takeR
  by_cases h1 : n < 0
  · rw [if_pos (.inl h1)]
    exact take_some b n 0 (Ev.congr (fun k => by simp only [nulls_read.f]; rw [if_pos h1]) hno)
  by_cases h2 : 1000 < n
  · rw [if_pos (.inr (.inl h2))]
    exact take_some b n 0 (Ev.congr (fun k => by simp only [nulls_read.f]; rw [if_neg h1, if_pos h2]) hno)
  obtain ⟨m, rfl⟩ := Int.eq_ofNat_of_zero_le (show 0 ≤ n by omega)
  simp only [Int.toNat_natCast]
  have hf : ∀ k, nulls_read.f k b (m : Int) = nulls_read.j0 k b (m : Int) ((b.length : Int) != (((m + 7) / 8 : Nat) : Int)) := by
    intro k
    simp only [nulls_read.f]
    rw [if_neg h1, if_neg (show ¬ (m : Int) > 1000 from h2), up8 _ (by omega)]
  by_cases h5 : b.length = (m + 7) / 8
  · rw [if_neg (by omega)]
    have e : ((b.length : Int) != (((m + 7) / 8 : Nat) : Int)) = false := by rw [bne_eq_false_iff_eq]; omega
    have hs := str_beq (putL (takeL b m)) b (bytesT_wf _ (bitl_le _) _ _) hb
    have hj : ∀ r, Ev (fun k => (nulls_Put.f k (takeL b m)).bind fun t112 => ((bytes_Equal.f t112 b).bind fun t115 => (if t115 = true then (some (takeL b m, none)) else (some (([] : List Bool), some 1))))) r → Ev (fun k => nulls_read.f k b (m : Int)) r := by
      intro r hend
      refine Ev.congr hf ?_
      rw [e]
      refine Ev.step (f := fun k => nulls_read.l0 k b (readL b 0 m) (m : Int) ((0 : Nat) : Int)) (fun k => ?_) (read_loop b hb m (by omega) h5 _ hend m 0 (by omega))
      simp only [nulls_read.j0, Bool.false_eq_true, if_false]
      rw [if_pos (by omega), if_pos (by omega), Int.toNat_natCast]
      simp only [Option.bind_some, List.length_replicate]
      rw [readL_zero]
      rfl
    have hp := put_ev (takeL b m) (by rw [takeL_length]; omega)
    by_cases h6 : putL (takeL b m) = b
    · rw [if_pos h6]
      refine take_none b m _ (hj _ (Ev.bind hp (Ev.congr (f := fun _ => some (takeL b m, none)) (fun k => ?_) (Ev.now _))))
      simp only [bytes_Equal.f, Option.bind_some, hs, decide_eq_true h6, if_true]
    · rw [if_neg h6]
      refine take_some b m 1 (hj _ (Ev.bind hp (Ev.congr (f := fun _ => some ([], some 1)) (fun k => ?_) (Ev.now _))))
      simp only [bytes_Equal.f, Option.bind_some, hs, decide_eq_false h6, Bool.false_eq_true, if_false]
  · rw [if_pos (.inr (.inr h5))]
    have e : ((b.length : Int) != (((m + 7) / 8 : Nat) : Int)) = true := by rw [bne_iff_ne]; omega
    refine take_some b m 0 (Ev.congr hf ?_)
    rw [e]
    exact hno
theorem takeL_putL (l : List Bool) : takeL (putL l) l.length = l := by
  apply List.ext_getElem
  · simp [takeL]
  · intro i h1 h2
    simp only [takeL, List.getElem_map, List.getElem_range]
    unfold putL
    rw [bitb_bytesT _ (bitl_le l) _ _ _ (by omega), if_pos h2]
    unfold bitl
    rw [List.getD_eq_getElem?_getD, List.getElem?_eq_getElem h2, Option.getD_some]
    cases l[i] <;> simp
theorem putL_length (l : List Bool) : (putL l).length = (l.length + 7) / 8 := bytesT_length _ _ _
theorem putL_wf (l : List Bool) : wf8 (putL l) := bytesT_wf _ (bitl_le l) _ _
theorem takeR_putL (l : List Bool) (hn : l.length ≤ 1000) : takeR (putL l) (l.length : Int) = (l, true) := by
  unfold takeR
  rw [Int.toNat_natCast, takeL_putL, if_neg (by rw [putL_length]; omega), if_pos rfl]
theorem count_loop (l : List Bool) (hn : l.length ≤ 100000) (d : Nat) : ∀ (i a : Nat), i + d = l.length → a ≤ i → Ev (fun k => nulls_Count.l0 k (a : Int) l (l.length : Int) (i : Int)) ((a + (l.drop i).count true : Nat) : Int) := by
  induction d with
  | zero =>
    intro i a hi ha
    refine Ev.step (f := fun _ => some ((a + (l.drop i).count true : Nat) : Int)) (fun k => ?_) (Ev.now _)
    simp only [nulls_Count.l0]
    rw [if_neg (by omega), List.drop_eq_nil_of_le (by omega)]
    rfl
  | succ d ih =>
    intro i a hi ha
    have hlt : i < l.length := by omega
    have hd : l.drop i = l[i] :: l.drop (i + 1) := List.drop_eq_getElem_cons hlt
    have hr : rdOf false l (i : Int) = l[i] := by rw [rdOf_eq, List.getD_eq_getElem?_getD, List.getElem?_eq_getElem hlt, Option.getD_some]
    rw [hd]
    by_cases hb : l[i] = true
    · refine Ev.step (f := fun k => nulls_Count.l0 k ((a + 1 : Nat) : Int) l (l.length : Int) ((i + 1 : Nat) : Int)) (fun k => ?_) ?_
      · simp only [nulls_Count.l0]
        rw [if_pos (by omega), if_pos (by omega), if_pos (by omega), hr, if_pos hb, show wrap64 ((i : Int) + 1) = ((i + 1 : Nat) : Int) by unfold wrap64; omega, show wrap64 ((a : Int) + 1) = ((a + 1 : Nat) : Int) by unfold wrap64; omega]
      · have := ih (i + 1) (a + 1) (by omega) (by omega)
        rw [hb, List.count_cons_self, show a + ((l.drop (i + 1)).count true + 1) = a + 1 + (l.drop (i + 1)).count true by omega]
        exact this
    · refine Ev.step (f := fun k => nulls_Count.l0 k (a : Int) l (l.length : Int) ((i + 1 : Nat) : Int)) (fun k => ?_) ?_
      · simp only [nulls_Count.l0]
        rw [if_pos (by omega), if_pos (by omega), if_pos (by omega), hr, if_neg hb, show wrap64 ((i : Int) + 1) = ((i + 1 : Nat) : Int) by unfold wrap64; omega]
      · have := ih (i + 1) a (by omega) (by omega)
        rw [List.count_cons_of_ne (by intro h; exact hb h)]
        exact this
theorem count_ev (l : List Bool) (hn : l.length ≤ 100000) : Ev (fun k => nulls_Count.f k l) ((l.count true : Nat) : Int) := by
  have := count_loop l hn l.length 0 0 (by omega) (by omega)
  rw [List.drop_zero, Nat.zero_add] at this
  exact Ev.congr (fun k => by simp only [nulls_Count.f]; rfl) this
end Go.Proofs.YtbjliggjalnhgaaDoor.BNNullsAll
