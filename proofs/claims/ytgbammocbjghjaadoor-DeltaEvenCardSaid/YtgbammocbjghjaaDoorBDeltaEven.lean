/- delta's printed functions and the plain ones. Conditions: none. -/
import Derived.Test.YtgbammocbjghjaaDoorMStr
import Derived.Test.YtgbammocbjghjaaDoorBDeltaEvennum
import Derived.Test.YtgbammocbjghjaaDoorPDeltaEvenx4
namespace Go.Proofs.YtgbammocbjghjaaDoor.BDDeltaEven
open Go.RowKit Go.Proofs.YtgbammocbjghjaaDoor.PDeltaEven Go.Proofs.YtgbammocbjghjaaDoorW.PrintWords Go.Proofs.YtgbammocbjghjaaDoorW.PrintLast Go.Proofs.YtgbammocbjghjaaDoorW.PrintMore Go.Proofs.YtgbammocbjghjaaDoor.MNum Go.Proofs.YtgbammocbjghjaaDoor.MStr
set_option linter.unusedVariables false

def ok64 (x : Int) : Prop := -9223372036854775808 ≤ x ∧ x ≤ 9223372036854775807
/-- A value of a type, small or int, not nothing. -/
def good (t : Int) (v : S26) : Prop := v.f0 = t ∧ v.f2 = (⟨#[]⟩ : ByteArray) ∧ ok64 v.f1 ∧ (t = 1 → -32768 ≤ v.f1 ∧ v.f1 ≤ 32767)
def dif (x last : Int) : Int := wrap64 (x - last)
def enc1 (x last : Int) : List Int := E 9 (zig (dif x last)).toNat
def encD : List S26 → Int → List Int
  | [], _ => []
  | v :: r, last => enc1 v.f1 last ++ encD r v.f1
def wfb (l : List Int) : Prop := ∀ x, x ∈ l → 0 ≤ x ∧ x < 256
theorem zig_nat (x last : Int) : ∃ u : Nat, zig (dif x last) = (u : Int) ∧ u < 18446744073709551616 ∧ enc1 x last = E 9 u := by
  have h := zig_range (dif x last) (by unfold dif wrap64; omega) (by unfold dif wrap64; omega)
  obtain ⟨u, hu⟩ := Int.eq_ofNat_of_zero_le h.1
  refine ⟨u, hu, by omega, ?_⟩
  unfold enc1
  rw [hu, Int.toNat_natCast]
theorem nine (u : Nat) (h : u < 18446744073709551616) : u < 2 * 128 ^ 9 := Nat.lt_of_lt_of_le h (by decide)
theorem enc1_wf (x last : Int) : wfb (enc1 x last) := by
  obtain ⟨u, _, hu, e⟩ := zig_nat x last
  rw [e]
  exact E_wf 9 u (nine u hu)
theorem enc1_pos (x last : Int) : 0 < (enc1 x last).length := E_pos 9 _
theorem enc1_le (x last : Int) : (enc1 x last).length ≤ 10 := E_le 9 _
theorem encD_wf (l : List S26) : ∀ last, wfb (encD l last) := by
  induction l with
  | nil => intro last x hx; simp [encD] at hx
  | cons v r ih =>
    intro last x hx
    rcases List.mem_append.1 hx with hx | hx
    · exact enc1_wf _ _ x hx
    · exact ih _ x hx
theorem encD_le (l : List S26) : ∀ last, (encD l last).length ≤ 10 * l.length := by
  induction l with
  | nil => intro last; simp [encD]
  | cons v r ih =>
    intro last
    have h1 := enc1_le v.f1 last
    have h2 := ih v.f1
    simp only [encD, List.length_append, List.length_cons]
    omega
theorem empty_str : (⟨#[]⟩ : ByteArray).toList = ([] : List UInt8) := by rw [ByteArray.toList_eq]
theorem may_ok (t : Int) (ht : t = 1 ∨ t = 2) (v : S26) (hv : good t v) : value_May.f v.f0 v.f1 v.f2 = some true := by
  obtain ⟨h0, h2, h3, h4⟩ := hv
  rw [h0, h2]
  unfold value_May.f
  rcases ht with rfl | rfl
  · obtain ⟨h5, h6⟩ := h4 rfl
    rw [if_pos rfl, if_neg (by omega), if_neg (by omega), empty_str]
    rfl
  · rw [if_neg (by decide), if_pos rfl, empty_str]
    rfl
theorem drop_consT (l : List S26) (i : Nat) (h : i < l.length) : l.drop i = rd_T26 l (i : Int) :: l.drop (i + 1) := by
  rw [List.drop_eq_getElem_cons h]
  simp [rd_T26, List.getD_eq_getElem?_getD, List.getElem?_eq_getElem h]
theorem rd_memT (l : List S26) (i : Nat) (h : i < l.length) : rd_T26 l (i : Int) ∈ l := by
  have : rd_T26 l (i : Int) = l[i] := by simp [rd_T26, List.getD_eq_getElem?_getD, List.getElem?_eq_getElem h]
  rw [this]; exact List.getElem_mem h
theorem take_succT (l : List S26) (i : Nat) (h : i < l.length) : l.take i ++ [rd_T26 l (i : Int)] = l.take (i + 1) := by
  have : rd_T26 l (i : Int) = l[i] := by simp [rd_T26, List.getD_eq_getElem?_getD, List.getElem?_eq_getElem h]
  rw [this, List.take_append_getElem]
theorem dif_eq (x last : Int) : wrap64 (IntKind.u64.wrap ((IntKind.u64.wrap x) - IntKind.u64.wrap last)) = dif x last := by
  simp only [u64_wrap]; unfold dif wrap64; omega
theorem zig_dif (x last : Int) (u : Nat) (h : zig (dif x last) = (u : Int)) : num_Zig.f (dif x last) = some (u : Int) := by
  unfold num_Zig.f
  rw [zig_eq _ (by unfold dif wrap64; omega) (by unfold dif wrap64; omega), h]
theorem put_loop (t : Int) (ht : t = 1 ∨ t = 2) (l : List S26) (hl : ∀ v, v ∈ l → good t v) (hn : l.length ≤ 1000) (d : Nat) : ∀ (i : Nat) (acc : List Int) (last : Int), i + d = l.length → acc.length + 10 * d ≤ 20000 →
    Ev (fun k => delta_Put.l0 k t acc (IntKind.u64.wrap last) l (l.length : Int) (i : Int)) (acc ++ encD (l.drop i) last, true) := by
  induction d with
  | zero =>
    intro i acc last hi ha
    obtain rfl : i = l.length := by omega
    rw [List.drop_length]
    refine Ev.step (f := fun _ => some (acc ++ encD [] last, true)) (fun k => ?_) (Ev.now _)
    simp only [delta_Put.l0]
    rw [if_neg (by omega)]
    simp [encD]
  | succ d ih =>
    intro i acc last hi ha
    have hlt : i < l.length := by omega
    have hv := hl _ (rd_memT l i hlt)
    rw [drop_consT l i hlt]
    have hread : ∀ k, delta_Put.l0 (k + 1) t acc (IntKind.u64.wrap last) l (l.length : Int) (i : Int) = delta_Put.j2 k t acc (IntKind.u64.wrap last) l (l.length : Int) (i : Int) false (rd_T26 l (i : Int)).f0 (rd_T26 l (i : Int)).f1 (rd_T26 l (i : Int)).f2 := by
      intro k
      simp only [delta_Put.l0]
      rw [if_pos (by omega), if_pos (by omega), if_pos (by omega), if_pos hv.1, may_ok t ht _ hv]
      rfl
    generalize rd_T26 l (i : Int) = v at *
    obtain ⟨u, hu, hu2, he⟩ := zig_nat v.f1 last
    have hel := enc1_le v.f1 last
    have hih := ih (i + 1) (acc ++ enc1 v.f1 last) v.f1 (by omega) (by rw [List.length_append]; omega)
    have e1 : acc ++ encD (v :: l.drop (i + 1)) last = (acc ++ enc1 v.f1 last) ++ encD (l.drop (i + 1)) v.f1 := by simp [encD]
    rw [e1]
    rw [he] at hih hel ⊢
    refine Ev.step hread (Ev.step (f := fun k => (num_Put.f k (u : Int)).bind fun t112 => (if acc.length + t112.length < 140737488355328 then (delta_Put.l0 k t (acc ++ t112) (IntKind.u64.wrap v.f1) l (l.length : Int) (wrap64 ((i : Int) + 1))) else none)) (fun k => ?_) (Ev.bind (BDeltaEven.put_ev u hu2) ?_))
    · simp only [delta_Put.j2, Bool.false_eq_true, if_false]
      rw [dif_eq, zig_dif _ _ u hu]
      rfl
    · generalize E 9 u = z at *
      refine Ev.congr (fun k => ?_) hih
      rw [if_pos (by omega), show wrap64 ((i : Int) + 1) = ((i + 1 : Nat) : Int) by unfold wrap64; omega]
theorem put_all (t : Int) (ht : t = 1 ∨ t = 2) (l : List S26) (hl : ∀ v, v ∈ l → good t v) (hn : l.length ≤ 1000) : Ev (fun k => delta_Put.f k t l) (encD l 0, true) := by
  have h := put_loop t ht l hl hn l.length 0 [] 0 (by omega) (by simp; omega)
  rw [List.nil_append, List.drop_zero] at h
  have hj : Ev (fun k => delta_Put.j0 k t l ([] : List Int) false) (encD l 0, true) := by
    refine Ev.step (fun k => ?_) h
    simp only [delta_Put.j0, Bool.false_eq_true, if_false]
    rfl
  refine Ev.congr (fun k => ?_) hj
  simp only [delta_Put.f]
  rcases ht with rfl | rfl
  · rw [if_pos rfl]
  · rw [if_neg (by decide)]; rfl
theorem put_none (t : Int) (h1 : t ≠ 1) (h2 : t ≠ 2) (l : List S26) : Ev (fun k => delta_Put.f k t l) ([], false) := by
  have hj : Ev (fun k => delta_Put.j0 k t l ([] : List Int) true) ([], false) := by
    refine Ev.step (f := fun _ => some ([], false)) (fun k => ?_) (Ev.now _)
    simp only [delta_Put.j0, if_true]
  refine Ev.congr (fun k => ?_) hj
  simp only [delta_Put.f]
  rw [if_neg h1, show (t != 2) = true by simpa using h2]
/-- One number more is read. -/
theorem read_step (t : Int) (b acc' : List Int) (acc : List S26) (rest : List Int) (x9 : Int) (n i u m : Nat) (r : List S26 × Option Int) (hwf : wfb rest) (hD : D 10 true rest = some (u, m)) (hu : u < 18446744073709551616) (hm : m ≤ rest.length) (hi : i < n) (hin : n ≤ 1000) (hacc : acc.length ≤ 1000)
    (h : Ev (fun k => delta_read.l0 k t b (acc ++ [⟨t, wrap64 (IntKind.u64.wrap (x9 + IntKind.u64.wrap (zag (u : Int)))), (⟨#[]⟩ : ByteArray)⟩]) (rest.drop m) (IntKind.u64.wrap (x9 + IntKind.u64.wrap (zag (u : Int)))) (n : Int) ((i + 1 : Nat) : Int)) r) :
    Ev (fun k => delta_read.l0 k t b acc rest x9 (n : Int) (i : Int)) r := by
  have he := BDeltaEven.take_ev rest hwf
  have ht : BDeltaEven.takeR rest = ((u : Int), (m : Int), true) := by unfold BDeltaEven.takeR; rw [hD]
  rw [ht] at he
  refine Ev.step (f := fun k => (num_Take.f k rest).bind _) (fun k => by simp only [delta_read.l0]; rw [if_pos (by omega)]) (Ev.bind he ?_)
  refine Ev.congr (fun k => ?_) h
  dsimp only
  have hz : num_Zag.f (u : Int) = some (zag (u : Int)) := by unfold num_Zag.f; rw [zag_eq _ (by omega) (by omega)]
  rw [if_pos rfl, hz, Option.bind_some, if_pos (by omega), if_pos (by omega), if_pos (by omega), Int.toNat_natCast, show wrap64 ((i : Int) + 1) = ((i + 1 : Nat) : Int) by unfold wrap64; omega]
theorem read_stop (t : Int) (b : List Int) (acc : List S26) (rest : List Int) (x9 : Int) (n i : Nat) (hwf : wfb rest) (hD : D 10 true rest = none) (hi : i < n) :
    Ev (fun k => delta_read.l0 k t b acc rest x9 (n : Int) (i : Int)) ([], some 3) := by
  have he := BDeltaEven.take_ev rest hwf
  have ht : BDeltaEven.takeR rest = (0, 0, false) := by unfold BDeltaEven.takeR; rw [hD]
  rw [ht] at he
  refine Ev.step (f := fun k => (num_Take.f k rest).bind _) (fun k => by simp only [delta_read.l0]; rw [if_pos (by omega)]) (Ev.bind he ?_)
  refine Ev.congr (f := fun _ => some ([], some 3)) (fun k => ?_) (Ev.now _)
  dsimp only
  rw [if_neg (by decide)]
theorem next_eq (x last : Int) : IntKind.u64.wrap (IntKind.u64.wrap last + IntKind.u64.wrap (dif x last)) = IntKind.u64.wrap x := by
  simp only [u64_wrap]; unfold dif wrap64; omega
theorem back_eq (x : Int) (h : ok64 x) : wrap64 (IntKind.u64.wrap x) = x := by
  simp only [u64_wrap]; unfold ok64 at h; unfold wrap64; omega
theorem wfb_app {a b : List Int} (ha : wfb a) (hb : wfb b) : wfb (a ++ b) := fun x hx => by
  rcases List.mem_append.1 hx with h | h
  · exact ha x h
  · exact hb x h
theorem zag_u (x last : Int) (u : Nat) (h : zig (dif x last) = (u : Int)) : zag (u : Int) = dif x last := by rw [← h, zag_zig]
theorem eta (t : Int) (v : S26) (h : good t v) : (⟨t, v.f1, (⟨#[]⟩ : ByteArray)⟩ : S26) = v := by
  obtain ⟨h0, h2, _, _⟩ := h
  cases v
  simp only at h0 h2
  rw [h0, h2]
/-- All of the numbers are read, whatever stands behind. -/
theorem read_all (t : Int) (l : List S26) (hl : ∀ v, v ∈ l → good t v) (hn : l.length ≤ 1000) (b s : List Int) (hs : wfb s) (r : List S26 × Option Int)
    (hend : Ev (fun k => (delta_Put.f k t l).bind fun bt139 => (if bt139.2 = true then ((bytes_Equal.f bt139.1 b).bind fun t143 => (if t143 = true then (some (l, none)) else (some (([] : List S26), some 4)))) else (some (([] : List S26), some 4)))) r) (d : Nat) :
    ∀ (i : Nat) (last : Int), i + d = l.length → Ev (fun k => delta_read.l0 k t b (l.take i) (encD (l.drop i) last ++ s) (IntKind.u64.wrap last) (l.length : Int) (i : Int)) r := by
  induction d with
  | zero =>
    intro i last hi
    obtain rfl : i = l.length := by omega
    refine Ev.step (fun k => ?_) hend
    simp only [delta_read.l0]
    rw [if_neg (by omega), List.take_length]
  | succ d ih =>
    intro i last hi
    have hlt : i < l.length := by omega
    have hv := hl _ (rd_memT l i hlt)
    have htk := take_succT l i hlt
    rw [drop_consT l i hlt]
    generalize rd_T26 l (i : Int) = v at *
    obtain ⟨u, hu, hu2, he⟩ := zig_nat v.f1 last
    have hih := ih (i + 1) v.f1 (by omega)
    have e1 : encD (v :: l.drop (i + 1)) last ++ s = E 9 u ++ (encD (l.drop (i + 1)) v.f1 ++ s) := by simp [encD, he]
    rw [e1]
    have hw : wfb (E 9 u ++ (encD (l.drop (i + 1)) v.f1 ++ s)) := wfb_app (by rw [← he]; exact enc1_wf _ _) (wfb_app (encD_wf _ _) hs)
    have hD : D 10 true (E 9 u ++ (encD (l.drop (i + 1)) v.f1 ++ s)) = some (u, (E 9 u).length) := D_E 9 u true _ (nine u hu2) (.inl rfl)
    refine read_step t b [] (l.take i) _ _ l.length i u (E 9 u).length r hw hD hu2 (by rw [List.length_append]; omega) hlt hn (by rw [List.length_take]; omega) ?_
    rw [List.drop_left, zag_u _ _ u hu, next_eq, back_eq _ hv.2.2.1, eta t v hv, htk]
    exact hih
/-- Cut off, they are none. -/
theorem read_cut (t : Int) (l : List S26) (hn : l.length ≤ 1000) (b : List Int) (d : Nat) :
    ∀ (i j : Nat) (acc : List S26) (last : Int), i + d = l.length → acc.length ≤ i → j < (encD (l.drop i) last).length → Ev (fun k => delta_read.l0 k t b acc ((encD (l.drop i) last).take j) (IntKind.u64.wrap last) (l.length : Int) (i : Int)) ([], some 3) := by
  induction d with
  | zero =>
    intro i j acc last hi _ hj
    obtain rfl : i = l.length := by omega
    rw [List.drop_length] at hj
    simp [encD] at hj
  | succ d ih =>
    intro i j acc last hi ha hj
    have hlt : i < l.length := by omega
    rw [drop_consT l i hlt] at hj ⊢
    generalize rd_T26 l (i : Int) = v at *
    obtain ⟨u, hu, hu2, he⟩ := zig_nat v.f1 last
    simp only [encD, he] at hj ⊢
    have hw : wfb (E 9 u) := by rw [← he]; exact enc1_wf _ _
    rw [List.length_append] at hj
    by_cases hc : j < (E 9 u).length
    · rw [List.take_append_of_le_length (by omega)]
      exact read_stop t b acc _ _ l.length i (fun x hx => hw x (List.mem_of_mem_take hx)) (D_cut 9 u true j hc) hlt
    · have e2 : (E 9 u ++ encD (l.drop (i + 1)) v.f1).take j = E 9 u ++ (encD (l.drop (i + 1)) v.f1).take (j - (E 9 u).length) := by
        rw [List.take_append, List.take_of_length_le (by omega)]
      rw [e2]
      have hD : D 10 true (E 9 u ++ (encD (l.drop (i + 1)) v.f1).take (j - (E 9 u).length)) = some (u, (E 9 u).length) := D_E 9 u true _ (nine u hu2) (.inl rfl)
      refine read_step t b [] acc _ _ l.length i u (E 9 u).length _ (wfb_app hw (fun x hx => encD_wf _ _ x (List.mem_of_mem_take hx))) hD hu2 (by rw [List.length_append]; omega) hlt hn (by omega) ?_
      rw [List.drop_left, zag_u _ _ u hu, next_eq]
      exact ih (i + 1) (j - (E 9 u).length) _ v.f1 (by omega) (by rw [List.length_append]; simp; omega) (by omega)
theorem read_ev (t : Int) (n : Nat) (hn : n ≤ 1000) (b : List Int) (r : List S26 × Option Int) (h : Ev (fun k => delta_read.l0 k t b [] b (IntKind.u64.wrap 0) (n : Int) ((0 : Nat) : Int)) r) : Ev (fun k => delta_read.f k t (n : Int) b) r := by
  have hj : Ev (fun k => delta_read.j0 k t (n : Int) b ([] : List S26) false) r := by
    refine Ev.step (fun k => ?_) h
    simp only [delta_read.j0, Bool.false_eq_true, if_false]
    rfl
  refine Ev.congr (fun k => ?_) hj
  simp only [delta_read.f]
  rw [if_neg (by omega), decide_eq_false (by omega)]
theorem take_of (t : Int) (n : Nat) (b : List Int) (l : List S26) (c : Option Int) (h : Ev (fun k => delta_read.f k t (n : Int) b) (l, c)) (hc : ∀ x, c = some x → errG x = 0) : Ev (fun k => delta_Take.f k t (n : Int) b) (l, c.isNone) := by
  refine Ev.congr (f := fun k => (delta_read.f k t (n : Int) b).bind _) (fun k => by simp only [delta_Take.f]; rfl) (Ev.bind h (Ev.congr (f := fun _ => some (l, c.isNone)) (fun k => ?_) (Ev.now _)))
  cases c with
  | none => simp [errors_IsN.f]
  | some x => simp [errors_IsS.f, hc x rfl]
theorem equal_eq (a b : List Int) (ha : wfb a) (hb : wfb b) : bytes_Equal.f a b = some (decide (a = b)) := by
  unfold bytes_Equal.f
  rw [str_beq a b ha hb]
theorem take_all (t : Int) (ht : t = 1 ∨ t = 2) (l : List S26) (hl : ∀ v, v ∈ l → good t v) (hn : l.length ≤ 1000) : Ev (fun k => delta_Take.f k t (l.length : Int) (encD l 0)) (l, true) := by
  refine take_of t l.length (encD l 0) l none (read_ev t l.length hn _ _ ?_) (fun x hx => by cases hx)
  have h := read_all t l hl hn (encD l 0) [] (fun x hx => by simp at hx) (l, none) (Ev.bind (put_all t ht l hl hn) (Ev.congr (f := fun _ => some (l, none)) (fun k => ?_) (Ev.now _))) l.length 0 0 (by omega)
  · rw [List.append_nil, List.drop_zero, List.take_zero] at h
    exact h
  · dsimp only
    rw [if_pos rfl, equal_eq _ _ (encD_wf _ _) (encD_wf _ _), Option.bind_some, if_pos (by simp)]
theorem take_long (t : Int) (ht : t = 1 ∨ t = 2) (l : List S26) (hl : ∀ v, v ∈ l → good t v) (hn : l.length ≤ 1000) (c : Int) (h0 : 0 ≤ c) (h1 : c < 256) : Ev (fun k => delta_Take.f k t (l.length : Int) (encD l 0 ++ [c])) ([], false) := by
  have hc : wfb [c] := fun x hx => by simp at hx; omega
  refine take_of t l.length (encD l 0 ++ [c]) [] (some 4) (read_ev t l.length hn _ _ ?_) (fun x hx => by cases hx; decide)
  have h := read_all t l hl hn (encD l 0 ++ [c]) [c] hc ([], some 4) (Ev.bind (put_all t ht l hl hn) (Ev.congr (f := fun _ => some ([], some 4)) (fun k => ?_) (Ev.now _))) l.length 0 0 (by omega)
  · rw [List.drop_zero, List.take_zero] at h
    exact h
  · dsimp only
    rw [if_pos rfl, equal_eq _ _ (encD_wf _ _) (wfb_app (encD_wf _ _) hc), Option.bind_some, if_neg (by simp)]
theorem take_short (t : Int) (l : List S26) (hn : l.length ≤ 1000) (j : Nat) (hj : j < (encD l 0).length) : Ev (fun k => delta_Take.f k t (l.length : Int) ((encD l 0).take j)) ([], false) := by
  refine take_of t l.length _ [] (some 3) (read_ev t l.length hn _ _ ?_) (fun x hx => by cases hx; decide)
  have h := read_cut t l hn ((encD l 0).take j) l.length 0 j [] 0 (by omega) (by simp) (by rw [List.drop_zero]; exact hj)
  rw [List.drop_zero] at h
  exact h
end Go.Proofs.YtgbammocbjghjaaDoor.BDDeltaEven
