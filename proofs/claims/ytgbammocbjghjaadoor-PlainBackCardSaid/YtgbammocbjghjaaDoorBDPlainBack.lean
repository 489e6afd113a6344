/- plain's printed functions and the plain ones. Conditions: none. -/
import Derived.Test.YtgbammocbjghjaaDoorMStr
import Derived.Test.YtgbammocbjghjaaDoorBAPlainBack
import Derived.Test.YtgbammocbjghjaaDoorBPlainBacknum
namespace Go.Proofs.YtgbammocbjghjaaDoor.BDPlainBack
open Go.RowKit Go.Proofs.YtgbammocbjghjaaDoor.PPlainBack Go.Proofs.YtgbammocbjghjaaDoorW.PrintWords Go.Proofs.YtgbammocbjghjaaDoorW.PrintLast Go.Proofs.YtgbammocbjghjaaDoorW.PrintMore Go.Proofs.YtgbammocbjghjaaDoor.MNum Go.Proofs.YtgbammocbjghjaaDoor.MStr Go.Proofs.YtgbammocbjghjaaDoor.BAPlainBack
set_option linter.unusedVariables false

def enc (v : S26) : List Int := if v.f0 = 3 then [v.f1 % 256] else if v.f0 = 4 then ((v.f2.size : Int) % 256) :: bytesOf v.f2 else E 9 (zig v.f1).toNat
def encP : List S26 → List Int
  | [] => []
  | v :: r => enc v ++ encP r
theorem nine (u : Nat) (h : u < 18446744073709551616) : u < 2 * 128 ^ 9 := Nat.lt_of_lt_of_le h (by decide)
theorem zig_nat (x : Int) (h : ok64 x) : ∃ u : Nat, zig x = (u : Int) ∧ u < 18446744073709551616 ∧ (zig x).toNat = u := by
  have h1 := zig_range x h.1 h.2
  obtain ⟨u, hu⟩ := Int.eq_ofNat_of_zero_le h1.1
  exact ⟨u, hu, by omega, by rw [hu, Int.toNat_natCast]⟩
theorem bytes_wf (s : ByteArray) : wfb (bytesOf s) := fun x hx => by
  unfold bytesOf at hx
  obtain ⟨b, _, rfl⟩ := List.mem_map.1 hx
  have := b.toNat_lt
  omega
theorem str_bytes (s : ByteArray) : strOfNums (bytesOf s) = s := by
  have h : (bytesOf s).map (fun n => UInt8.ofNat n.toNat) = s.data.toList := by
    unfold bytesOf
    rw [List.map_map]
    conv => rhs; rw [← List.map_id s.data.toList]
    refine List.map_congr_left (fun b _ => ?_)
    simp
  unfold strOfNums
  rw [h]
theorem enc_num {t : Int} {v : S26} (h : good t v) (h3 : t ≠ 3) (h4 : t ≠ 4) : ∃ u : Nat, zig v.f1 = (u : Int) ∧ u < 18446744073709551616 ∧ enc v = E 9 u := by
  obtain ⟨u, h1, h2, e⟩ := zig_nat v.f1 h.2.1
  refine ⟨u, h1, h2, ?_⟩
  unfold enc
  rw [h.1, if_neg h3, if_neg h4, e]
theorem enc_bool {v : S26} (h : good 3 v) : enc v = [v.f1] := by
  unfold enc
  rw [h.1, if_pos rfl]
  rcases h.2.2.2.2.1 rfl with h | h <;> rw [h] <;> rfl
theorem enc_text {v : S26} (h : good 4 v) : enc v = (v.f2.size : Int) :: bytesOf v.f2 := by
  unfold enc
  rw [h.1, if_neg (by decide), if_pos rfl]
  have := (h.2.2.2.2.2 rfl).2
  rw [show (v.f2.size : Int) % 256 = (v.f2.size : Int) by omega]
theorem enc_facts (t : Int) (ht : t = 1 ∨ t = 2 ∨ t = 3 ∨ t = 4) (v : S26) (h : good t v) : wfb (enc v) ∧ 0 < (enc v).length ∧ (enc v).length ≤ 21 := by
  by_cases h3 : t = 3
  · subst h3
    rw [enc_bool h]
    refine ⟨fun x hx => ?_, by simp, by simp⟩
    simp at hx
    rcases h.2.2.2.2.1 rfl with h | h <;> omega
  · by_cases h4 : t = 4
    · subst h4
      rw [enc_text h]
      have hs := (h.2.2.2.2.2 rfl).2
      refine ⟨fun x hx => ?_, by simp, by simp [bytesOf_length]; omega⟩
      rcases List.mem_cons.1 hx with hx | hx
      · omega
      · exact bytes_wf _ x hx
    · obtain ⟨u, h1, h2, e⟩ := enc_num h h3 h4
      rw [e]
      have := E_le 9 u
      exact ⟨E_wf 9 u (nine u h2), E_pos 9 u, by omega⟩
theorem encP_wf (t : Int) (ht : t = 1 ∨ t = 2 ∨ t = 3 ∨ t = 4) (l : List S26) (hl : ∀ v, v ∈ l → good t v) : wfb (encP l) := by
  induction l with
  | nil => intro x hx; simp [encP] at hx
  | cons v r ih =>
    intro x hx
    rcases List.mem_append.1 hx with hx | hx
    · exact (enc_facts t ht v (hl v List.mem_cons_self)).1 x hx
    · exact ih (fun z hz => hl z (List.mem_cons_of_mem _ hz)) x hx
theorem encP_drop_wf (t : Int) (ht : t = 1 ∨ t = 2 ∨ t = 3 ∨ t = 4) (l : List S26) (hl : ∀ v, v ∈ l → good t v) (i : Nat) : wfb (encP (l.drop i)) := encP_wf t ht _ (fun v hv => hl v (List.mem_of_mem_drop hv))
theorem one_ev (t : Int) (ht : t = 1 ∨ t = 2 ∨ t = 3 ∨ t = 4) (v : S26) (h : good t v) (acc : List Int) (ha : acc.length ≤ 1000000) : Ev (fun k => plain_one.f k acc v.f0 v.f1 v.f2) (acc ++ enc v) := by
  by_cases h3 : t = 3
  · subst h3
    refine Ev.congr (f := fun _ => some (acc ++ enc v)) (fun k => ?_) (Ev.now _)
    unfold plain_one.f
    rw [h.1, if_pos rfl, if_pos (by omega), enc_bool h]
    rcases h.2.2.2.2.1 rfl with h | h <;> rw [h] <;> rfl
  · by_cases h4 : t = 4
    · subst h4
      have hs := (h.2.2.2.2.2 rfl).2
      refine Ev.congr (f := fun _ => some (acc ++ enc v)) (fun k => ?_) (Ev.now _)
      unfold plain_one.f
      rw [h.1, if_neg (by decide), if_pos rfl, if_pos (by omega), Option.bind_some, if_pos (by simp; omega), enc_text h, show (v.f2.size : Int) % 256 = (v.f2.size : Int) by omega]
      simp
    · obtain ⟨u, h1, h2, e⟩ := enc_num h h3 h4
      have hel := E_le 9 u
      rw [e]
      refine Ev.congr (f := fun k => (num_Put.f k (u : Int)).bind fun t124 => (if acc.length + t124.length < 140737488355328 then (some (acc ++ t124)) else (none))) (fun k => ?_) (Ev.bind (BPlainBack.put_ev u h2) (Ev.congr (f := fun _ => some (acc ++ E 9 u)) (fun k => ?_) (Ev.now _)))
      · unfold plain_one.f
        rw [h.1, if_neg h3, if_neg h4]
        have hz : num_Zig.f v.f1 = some (u : Int) := by unfold num_Zig.f; rw [zig_eq _ h.2.1.1 h.2.1.2, h1]
        rw [hz, Option.bind_some]
      · rw [if_pos (by omega)]
theorem of_loop (t : Int) (ht : t = 1 ∨ t = 2 ∨ t = 3 ∨ t = 4) (l : List S26) (hl : ∀ v, v ∈ l → good t v) (hn : l.length ≤ 1000) (d : Nat) : ∀ i : Nat, i + d = l.length → Ev (fun k => plain_of.l0 k t l (l.length : Int) (i : Int)) true := by
  induction d with
  | zero =>
    intro i hi
    refine Ev.step (f := fun _ => some true) (fun k => ?_) (Ev.now _)
    simp only [plain_of.l0]
    rw [if_neg (by omega)]
  | succ d ih =>
    intro i hi
    have hv := hl _ (rd_memT l i (by omega))
    refine Ev.step (fun k => ?_) (ih (i + 1) (by omega))
    simp only [plain_of.l0]
    rw [if_pos (by omega), if_pos (by omega), if_pos (by omega), if_pos hv.1, may_ok t ht _ hv, Option.bind_some, if_pos rfl, show wrap64 ((i : Int) + 1) = ((i + 1 : Nat) : Int) by unfold wrap64; omega]
theorem of_ev (t : Int) (ht : t = 1 ∨ t = 2 ∨ t = 3 ∨ t = 4) (l : List S26) (hl : ∀ v, v ∈ l → good t v) (hn : l.length ≤ 1000) : Ev (fun k => plain_of.f k t l) true := by
  have hj : Ev (fun k => plain_of.j0 k t l false) true := by
    refine Ev.step (fun k => ?_) (of_loop t ht l hl hn l.length 0 (by omega))
    simp only [plain_of.j0, Bool.false_eq_true, if_false]
    rfl
  refine Ev.congr (fun k => ?_) hj
  simp only [plain_of.f]
  rw [if_neg (by omega), decide_eq_false (by omega)]
theorem put_loop (t : Int) (ht : t = 1 ∨ t = 2 ∨ t = 3 ∨ t = 4) (l : List S26) (hl : ∀ v, v ∈ l → good t v) (hn : l.length ≤ 1000) (d : Nat) : ∀ (i : Nat) (acc : List Int), i + d = l.length → acc.length + 21 * d ≤ 40000 →
    Ev (fun k => plain_Put.l0 k acc l (l.length : Int) (i : Int)) (acc ++ encP (l.drop i), true) := by
  induction d with
  | zero =>
    intro i acc hi ha
    obtain rfl : i = l.length := by omega
    rw [List.drop_length]
    refine Ev.step (f := fun _ => some (acc ++ encP [], true)) (fun k => ?_) (Ev.now _)
    simp only [plain_Put.l0]
    rw [if_neg (by omega)]
    simp [encP]
  | succ d ih =>
    intro i acc hi ha
    have hlt : i < l.length := by omega
    have hv := hl _ (rd_memT l i hlt)
    have hstep : ∀ k, plain_Put.l0 (k + 1) acc l (l.length : Int) (i : Int) = (plain_one.f k acc ((rd_T26 l (i : Int)).f0) ((rd_T26 l (i : Int)).f1) ((rd_T26 l (i : Int)).f2)).bind fun t133 => (plain_Put.l0 k t133 l (l.length : Int) ((i + 1 : Nat) : Int)) := by
      intro k
      simp only [plain_Put.l0]
      rw [if_pos (by omega), if_pos (by omega), if_pos (by omega), show wrap64 ((i : Int) + 1) = ((i + 1 : Nat) : Int) by unfold wrap64; omega]
    rw [drop_consT l i hlt]
    generalize rd_T26 l (i : Int) = v at *
    have hf := enc_facts t ht v hv
    have hih := ih (i + 1) (acc ++ enc v) (by omega) (by rw [List.length_append]; omega)
    rw [show acc ++ encP (v :: l.drop (i + 1)) = (acc ++ enc v) ++ encP (l.drop (i + 1)) by simp [encP]]
    exact Ev.step hstep (Ev.bind (one_ev t ht v hv acc (by omega)) hih)
theorem put_all (t : Int) (ht : t = 1 ∨ t = 2 ∨ t = 3 ∨ t = 4) (l : List S26) (hl : ∀ v, v ∈ l → good t v) (hn : l.length ≤ 1000) : Ev (fun k => plain_Put.f k t l) (encP l, true) := by
  have h := put_loop t ht l hl hn l.length 0 [] (by omega) (by simp; omega)
  rw [List.nil_append, List.drop_zero] at h
  refine Ev.congr (f := fun k => (plain_of.f k t l).bind fun t130 => (if t130 = true then (plain_Put.l0 k ([] : List Int) l (l.length : Int) 0) else (some (([] : List Int), false)))) (fun k => rfl) (Ev.bind (of_ev t ht l hl hn) (Ev.congr (fun k => ?_) h))
  rw [if_pos rfl]
  rfl
theorem first_ev (t : Int) (ht : t = 1 ∨ t = 2 ∨ t = 3 ∨ t = 4) (v : S26) (h : good t v) (s : List Int) (hs : wfb s) : Ev (fun k => plain_first.f k t (enc v ++ s)) (v.f0, v.f1, v.f2, ((enc v).length : Int), none) := by
  by_cases h3 : t = 3
  · subst h3
    have hb := h.2.2.2.2.1 rfl
    refine Ev.congr (f := fun _ => some _) (fun k => ?_) (Ev.now _)
    unfold plain_first.f
    rw [enc_bool h, if_neg (by simp), if_neg (by simp)]
    have hr : rd ([v.f1] ++ s) 0 = v.f1 := rfl
    rw [hr, if_pos (by omega), if_pos rfl, h.1, h.2.2.1 (by decide)]
    rfl
  · by_cases h4 : t = 4
    · subst h4
      have hz := (h.2.2.2.2.2 rfl).1
      have hsz := (h.2.2.2.2.2 rfl).2
      refine Ev.congr (f := fun _ => some _) (fun k => ?_) (Ev.now _)
      unfold plain_first.f
      rw [enc_text h, if_neg (by simp), if_neg (by simp)]
      have hr : rd ((v.f2.size : Int) :: bytesOf v.f2 ++ s) 0 = (v.f2.size : Int) := rfl
      rw [hr, if_pos (by omega), if_neg (by decide), if_neg (by simp [bytesOf_length]; omega), h.1, hz]
      have ht : ((v.f2.size : Int) :: bytesOf v.f2 ++ s).take (1 + (v.f2.size : Int)).toNat = (v.f2.size : Int) :: bytesOf v.f2 := by
        rw [show (1 + (v.f2.size : Int)).toNat = ((v.f2.size : Int) :: bytesOf v.f2).length by simp [bytesOf_length]; omega]
        exact List.take_left
      rw [ht, List.drop_one, List.tail_cons, str_bytes, List.length_cons, bytesOf_length]
      rw [show ((v.f2.size + 1 : Nat) : Int) = 1 + (v.f2.size : Int) by omega]
    · obtain ⟨u, h1, h2, e⟩ := enc_num h h3 h4
      rw [e]
      have hw : wfb (E 9 u ++ s) := wfb_app (E_wf 9 u (nine u h2)) hs
      have he := BPlainBack.take_ev (E 9 u ++ s) hw
      have htk : BPlainBack.takeR (E 9 u ++ s) = ((u : Int), ((E 9 u).length : Int), true) := by unfold BPlainBack.takeR; rw [D_E 9 u true s (nine u h2) (.inl rfl)]
      rw [htk] at he
      refine Ev.congr (f := fun k => (num_Take.f k (E 9 u ++ s)).bind fun b => (if b.2.2 = true then (num_Zag.f b.1).bind fun z => some (t, z, (⟨#[]⟩ : ByteArray), b.2.1, none) else some (t, 0, (⟨#[]⟩ : ByteArray), 0, some 2))) (fun k => ?_) (Ev.bind he (Ev.congr (f := fun _ => some _) (fun k => ?_) (Ev.now _)))
      · unfold plain_first.f
        rw [if_pos ⟨h3, h4⟩]
      · dsimp only
        have hzg : num_Zag.f (u : Int) = some v.f1 := by unfold num_Zag.f; rw [zag_eq _ (by omega) (by omega), ← h1, zag_zig]
        rw [if_pos rfl, hzg, Option.bind_some, h.1, h.2.2.1 h4]
theorem first_cut (t : Int) (ht : t = 1 ∨ t = 2 ∨ t = 3 ∨ t = 4) (v : S26) (h : good t v) (j : Nat) (hj : j < (enc v).length) : ∃ c : Int, errG c = 1 ∧ Ev (fun k => plain_first.f k t ((enc v).take j)) (t, 0, (⟨#[]⟩ : ByteArray), 0, some c) := by
  by_cases h3 : t = 3
  · subst h3
    refine ⟨3, by decide, Ev.congr (f := fun _ => some _) (fun k => ?_) (Ev.now _)⟩
    rw [enc_bool h] at hj ⊢
    obtain rfl : j = 0 := by simp at hj; exact hj
    unfold plain_first.f
    rw [if_neg (by simp), if_pos (show (List.take 0 [v.f1]).length = 0 from rfl)]
  · by_cases h4 : t = 4
    · subst h4
      have hsz := (h.2.2.2.2.2 rfl).2
      rw [enc_text h] at hj ⊢
      rw [List.length_cons, bytesOf_length] at hj
      by_cases h0 : j = 0
      · subst h0
        refine ⟨3, by decide, Ev.congr (f := fun _ => some _) (fun k => ?_) (Ev.now _)⟩
        unfold plain_first.f
        rw [if_neg (by simp), if_pos (by simp)]
      · refine ⟨4, by decide, Ev.congr (f := fun _ => some _) (fun k => ?_) (Ev.now _)⟩
        obtain ⟨i, rfl⟩ : ∃ i, j = i + 1 := ⟨j - 1, by omega⟩
        unfold plain_first.f
        rw [List.take_succ_cons, if_neg (by simp), if_neg (by simp)]
        have hr : rd ((v.f2.size : Int) :: (bytesOf v.f2).take i) 0 = (v.f2.size : Int) := rfl
        rw [hr, if_pos (by omega), if_neg (by decide), if_pos (by simp [bytesOf_length]; omega)]
    · obtain ⟨u, h1, h2, e⟩ := enc_num h h3 h4
      rw [e] at hj ⊢
      have hw : wfb ((E 9 u).take j) := fun x hx => E_wf 9 u (nine u h2) x (List.mem_of_mem_take hx)
      have he := BPlainBack.take_ev _ hw
      have htk : BPlainBack.takeR ((E 9 u).take j) = (0, 0, false) := by unfold BPlainBack.takeR; rw [D_cut 9 u true j hj]
      rw [htk] at he
      refine ⟨2, by decide, Ev.congr (f := fun k => (num_Take.f k ((E 9 u).take j)).bind fun b => (if b.2.2 = true then (num_Zag.f b.1).bind fun z => some (t, z, (⟨#[]⟩ : ByteArray), b.2.1, none) else some (t, 0, (⟨#[]⟩ : ByteArray), 0, some 2))) (fun k => ?_) (Ev.bind he (Ev.congr (f := fun _ => some _) (fun k => ?_) (Ev.now _)))⟩
      · unfold plain_first.f
        rw [if_pos ⟨h3, h4⟩]
      · dsimp only
        rw [if_neg (by decide)]
theorem read_all (t : Int) (ht : t = 1 ∨ t = 2 ∨ t = 3 ∨ t = 4) (l : List S26) (hl : ∀ v, v ∈ l → good t v) (hn : l.length ≤ 1000) (b s : List Int) (hs : wfb s) (r : List S26 × Option Int)
    (hend : Ev (fun k => (plain_Put.f k t l).bind fun bt160 => (if bt160.2 = true then ((bytes_Equal.f bt160.1 b).bind fun t164 => (if t164 = true then (some (l, none)) else (some (([] : List S26), some 6)))) else (some (([] : List S26), some 6)))) r) (d : Nat) :
    ∀ i : Nat, i + d = l.length → Ev (fun k => plain_read.l0 k t b (l.take i) (encP (l.drop i) ++ s) (l.length : Int) (i : Int)) r := by
  induction d with
  | zero =>
    intro i hi
    obtain rfl : i = l.length := by omega
    refine Ev.step (fun k => ?_) hend
    simp only [plain_read.l0]
    rw [if_neg (by omega), List.take_length]
  | succ d ih =>
    intro i hi
    have hlt : i < l.length := by omega
    have hv := hl _ (rd_memT l i hlt)
    have htk := take_succT l i hlt
    have hw : wfb (encP (l.drop (i + 1)) ++ s) := wfb_app (encP_drop_wf t ht l hl (i + 1)) hs
    rw [drop_consT l i hlt]
    generalize rd_T26 l (i : Int) = v at *
    have hih := ih (i + 1) (by omega)
    rw [show encP (v :: l.drop (i + 1)) ++ s = enc v ++ (encP (l.drop (i + 1)) ++ s) by simp [encP]]
    refine Ev.step (f := fun k => (plain_first.f k t (enc v ++ (encP (l.drop (i + 1)) ++ s))).bind _) (fun k => by simp only [plain_read.l0]; rw [if_pos (by omega)]) (Ev.bind (first_ev t ht v hv _ hw) (Ev.congr (fun k => ?_) hih))
    dsimp only
    rw [if_pos (by rfl), if_pos (by rw [List.length_take]; omega), if_pos (by omega), if_pos (by rw [List.length_append]; omega), Int.toNat_natCast, List.drop_left, show (⟨v.f0, v.f1, v.f2⟩ : S26) = v from rfl, htk, show wrap64 ((i : Int) + 1) = ((i + 1 : Nat) : Int) by unfold wrap64; omega]
theorem read_cut (t : Int) (ht : t = 1 ∨ t = 2 ∨ t = 3 ∨ t = 4) (l : List S26) (hl : ∀ v, v ∈ l → good t v) (hn : l.length ≤ 1000) (b : List Int) (d : Nat) :
    ∀ (i j : Nat) (acc : List S26), i + d = l.length → acc.length ≤ i → j < (encP (l.drop i)).length → ∃ c : Int, errG c = 1 ∧ Ev (fun k => plain_read.l0 k t b acc ((encP (l.drop i)).take j) (l.length : Int) (i : Int)) ([], some c) := by
  induction d with
  | zero =>
    intro i j acc hi _ hj
    obtain rfl : i = l.length := by omega
    rw [List.drop_length] at hj
    simp [encP] at hj
  | succ d ih =>
    intro i j acc hi ha hj
    have hlt : i < l.length := by omega
    have hv := hl _ (rd_memT l i hlt)
    have hw := encP_drop_wf t ht l hl (i + 1)
    rw [drop_consT l i hlt] at hj ⊢
    generalize rd_T26 l (i : Int) = v at *
    simp only [encP] at hj ⊢
    rw [List.length_append] at hj
    by_cases hc : j < (enc v).length
    · rw [List.take_append_of_le_length (by omega)]
      obtain ⟨c, hc1, hc2⟩ := first_cut t ht v hv j hc
      refine ⟨c, hc1, Ev.step (f := fun k => (plain_first.f k t ((enc v).take j)).bind _) (fun k => by simp only [plain_read.l0]; rw [if_pos (by omega)]) (Ev.bind hc2 (Ev.congr (f := fun _ => some _) (fun k => ?_) (Ev.now _)))⟩
      dsimp only
      rw [if_neg (by simp)]
      rfl
    · have e2 : (enc v ++ encP (l.drop (i + 1))).take j = enc v ++ (encP (l.drop (i + 1))).take (j - (enc v).length) := by
        rw [List.take_append, List.take_of_length_le (by omega)]
      rw [e2]
      obtain ⟨c, hc1, hc2⟩ := ih (i + 1) (j - (enc v).length) (acc ++ [v]) (by omega) (by rw [List.length_append]; simp; omega) (by omega)
      refine ⟨c, hc1, Ev.step (f := fun k => (plain_first.f k t (enc v ++ (encP (l.drop (i + 1))).take (j - (enc v).length))).bind _) (fun k => by simp only [plain_read.l0]; rw [if_pos (by omega)]) (Ev.bind (first_ev t ht v hv _ (fun x hx => hw x (List.mem_of_mem_take hx))) (Ev.congr (fun k => ?_) hc2))⟩
      dsimp only
      rw [if_pos (by rfl), if_pos (by omega), if_pos (by omega), if_pos (by rw [List.length_append]; omega), Int.toNat_natCast, List.drop_left, show (⟨v.f0, v.f1, v.f2⟩ : S26) = v from rfl, show wrap64 ((i : Int) + 1) = ((i + 1 : Nat) : Int) by unfold wrap64; omega]
theorem read_ev (t : Int) (n : Nat) (hn : n ≤ 1000) (b : List Int) (r : List S26 × Option Int) (h : Ev (fun k => plain_read.l0 k t b [] b (n : Int) ((0 : Nat) : Int)) r) : Ev (fun k => plain_read.f k t (n : Int) b) r := by
  have hj : Ev (fun k => plain_read.j0 k t (n : Int) b ([] : List S26) false) r := by
    refine Ev.step (fun k => ?_) h
    simp only [plain_read.j0, Bool.false_eq_true, if_false]
    rfl
  refine Ev.congr (fun k => ?_) hj
  simp only [plain_read.f]
  rw [if_neg (by omega), decide_eq_false (by omega)]
theorem take_of (t : Int) (n : Nat) (b : List Int) (l : List S26) (c : Option Int) (h : Ev (fun k => plain_read.f k t (n : Int) b) (l, c)) (hc : ∀ x, c = some x → errG x = 1) : Ev (fun k => plain_Take.f k t (n : Int) b) (l, c.isNone) := by
  refine Ev.congr (f := fun k => (plain_read.f k t (n : Int) b).bind _) (fun k => by simp only [plain_Take.f]; rfl) (Ev.bind h (Ev.congr (f := fun _ => some (l, c.isNone)) (fun k => ?_) (Ev.now _)))
  cases c with
  | none => simp [errors_IsN.f]
  | some x => simp [errors_IsS.f, hc x rfl]
theorem equal_eq (a b : List Int) (ha : wfb a) (hb : wfb b) : bytes_Equal.f a b = some (decide (a = b)) := by
  unfold bytes_Equal.f
  rw [str_beq a b ha hb]
theorem take_all (t : Int) (ht : t = 1 ∨ t = 2 ∨ t = 3 ∨ t = 4) (l : List S26) (hl : ∀ v, v ∈ l → good t v) (hn : l.length ≤ 1000) : Ev (fun k => plain_Take.f k t (l.length : Int) (encP l)) (l, true) := by
  have hw := encP_wf t ht l hl
  refine take_of t l.length (encP l) l none (read_ev t l.length hn _ _ ?_) (fun x hx => by cases hx)
  have h := read_all t ht l hl hn (encP l) [] (fun x hx => by simp at hx) (l, none) (Ev.bind (put_all t ht l hl hn) (Ev.congr (f := fun _ => some (l, none)) (fun k => ?_) (Ev.now _))) l.length 0 (by omega)
  · rw [List.append_nil, List.drop_zero, List.take_zero] at h
    exact h
  · dsimp only
    rw [if_pos rfl, equal_eq _ _ hw hw, Option.bind_some, if_pos (by simp)]
theorem take_long (t : Int) (ht : t = 1 ∨ t = 2 ∨ t = 3 ∨ t = 4) (l : List S26) (hl : ∀ v, v ∈ l → good t v) (hn : l.length ≤ 1000) (c : Int) (h0 : 0 ≤ c) (h1 : c < 256) : Ev (fun k => plain_Take.f k t (l.length : Int) (encP l ++ [c])) ([], false) := by
  have hw := encP_wf t ht l hl
  have hc : wfb [c] := fun x hx => by simp at hx; omega
  refine take_of t l.length (encP l ++ [c]) [] (some 6) (read_ev t l.length hn _ _ ?_) (fun x hx => by cases hx; decide)
  have h := read_all t ht l hl hn (encP l ++ [c]) [c] hc ([], some 6) (Ev.bind (put_all t ht l hl hn) (Ev.congr (f := fun _ => some ([], some 6)) (fun k => ?_) (Ev.now _))) l.length 0 (by omega)
  · rw [List.drop_zero, List.take_zero] at h
    exact h
  · dsimp only
    rw [if_pos rfl, equal_eq _ _ hw (wfb_app hw hc), Option.bind_some, if_neg (by simp)]
theorem take_short (t : Int) (ht : t = 1 ∨ t = 2 ∨ t = 3 ∨ t = 4) (l : List S26) (hl : ∀ v, v ∈ l → good t v) (hn : l.length ≤ 1000) (j : Nat) (hj : j < (encP l).length) : Ev (fun k => plain_Take.f k t (l.length : Int) ((encP l).take j)) ([], false) := by
  obtain ⟨c, h1, h2⟩ := read_cut t ht l hl hn ((encP l).take j) l.length 0 j [] (by omega) (by simp) (by rw [List.drop_zero]; exact hj)
  rw [List.drop_zero] at h2
  exact take_of t l.length _ [] (some c) (read_ev t l.length hn _ _ h2) (fun x hx => by cases hx; exact h1)
end Go.Proofs.YtgbammocbjghjaaDoor.BDPlainBack
