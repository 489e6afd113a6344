/- delta: what is put and what is taken, by the program and by the document, of any values and any bytes. Conditions: none. -/
import Derived.Test.YtgbammocbjghjaaDoorBWDeltaTurned
-- import Derived.Test.YtgbammocbjghjaaDoorBLDeltaTurned
import Derived.Test.YtgbammocbjghjaaDoorBRDeltaTurned
import Derived.Test.YtgbammocbjghjaaDoorMStr
import Derived.Test.YtgbammocbjghjaaDoorPDeltaTurnedx9
namespace Go.Proofs.YtgbammocbjghjaaDoor.BDDeltaTurned
open Go.RowKit Go.Proofs.YtgbammocbjghjaaDoor.PDeltaTurned Go.Proofs.YtgbammocbjghjaaDoorW.PrintWords Go.Proofs.YtgbammocbjghjaaDoorW.PrintLast Go.Proofs.YtgbammocbjghjaaDoorW.PrintMore Go.Proofs.YtgbammocbjghjaaDoor.MNum Go.Proofs.YtgbammocbjghjaaDoor.MStr Go.Proofs.YtgbammocbjghjaaDoor.BWDeltaTurned
set_option linter.unusedVariables false

def dif (x last : Int) : Int := wrap64 (x - last)
def enc1 (x last : Int) : List Int := E 9 (zig (dif x last)).toNat
def encD : List S26 → Int → List Int
  | [], _ => []
  | v :: r, last => enc1 v.f1 last ++ encD r v.f1
theorem zig_nat (y : Int) (h1 : -9223372036854775808 ≤ y) (h2 : y ≤ 9223372036854775807) : ∃ u : Nat, zig y = (u : Int) ∧ u < 18446744073709551616 ∧ E 9 (zig y).toNat = E 9 u := by
  have h := zig_range y h1 h2
  obtain ⟨u, hu⟩ := Int.eq_ofNat_of_zero_le h.1
  exact ⟨u, hu, by omega, by rw [hu, Int.toNat_natCast]⟩
theorem dif_lo (x last : Int) : -9223372036854775808 ≤ dif x last ∧ dif x last ≤ 9223372036854775807 := by unfold dif wrap64; omega
theorem nine (u : Nat) (h : u < 18446744073709551616) : u < 2 * 128 ^ 9 := Nat.lt_of_lt_of_le h (by decide)
theorem enc1_le (x last : Int) : (enc1 x last).length ≤ 10 := E_le 9 _
theorem enc1_wf (x last : Int) : wfb (enc1 x last) := by
  obtain ⟨u, hu, h64, he⟩ := zig_nat (dif x last) (dif_lo x last).1 (dif_lo x last).2
  intro y hy
  unfold enc1 at hy
  rw [he] at hy
  exact E_wf 9 u (nine u h64) y hy
theorem encD_wf (l : List S26) : ∀ last, wfb (encD l last) := by
  induction l with
  | nil => intro last x hx; simp [encD] at hx
  | cons v r ih =>
    intro last x hx
    rcases List.mem_append.1 hx with hx | hx
    · exact enc1_wf _ _ x hx
    · exact ih _ x hx
/-- What a column is: its bytes, if it may be. -/
def numT (t : Int) : Bool := decide (t = 1 ∨ t = 2)
def putR (t : Int) (l : List S26) : List Int × Bool := if (numT t && l.all (okB t)) = true then (encD l 0, true) else ([], false)
theorem dif_eq (x last : Int) : wrap64 (IntKind.u64.wrap ((IntKind.u64.wrap x) - IntKind.u64.wrap last)) = dif x last := by
  simp only [u64_wrap]; unfold dif wrap64; omega
theorem zig_dif (y : Int) (h1 : -9223372036854775808 ≤ y) (h2 : y ≤ 9223372036854775807) (u : Nat) (h : zig y = (u : Int)) : num_Zig.f y = some (u : Int) := by
  unfold num_Zig.f
  rw [zig_eq _ h1 h2, h]
theorem put_loop (t : Int) (l : List S26) (hn : l.length ≤ 1000) (d : Nat) : ∀ (i : Nat) (acc : List Int) (last : Int), i + d = l.length → acc.length + 10 * d ≤ 20000 →
    Ev (fun k => delta_Put.l0 k t acc (IntKind.u64.wrap last) l (l.length : Int) (i : Int)) (if (l.drop i).all (okB t) = true then (acc ++ encD (l.drop i) last, true) else ([], false)) := by
  induction d with
  | zero =>
    intro i acc last hi ha
    obtain rfl : i = l.length := by omega
    rw [List.drop_length]
    refine Ev.step (f := fun _ => some (acc ++ encD [] last, true)) (fun k => ?_) (Ev.now _)
    simp only [delta_Put.l0]
    rw [if_neg (by omega)]
    simp [encD]
  | succ d ih =>
    intro i acc last hi ha
    have hlt : i < l.length := by omega
    rw [drop_consT l i hlt, List.all_cons]
    have hstep : ∀ k, delta_Put.l0 (k + 1) t acc (IntKind.u64.wrap last) l (l.length : Int) (i : Int) = delta_Put.j2 k t acc (IntKind.u64.wrap last) l (l.length : Int) (i : Int) (!(okB t (rd_T26 l (i : Int)))) (rd_T26 l (i : Int)).f0 (rd_T26 l (i : Int)).f1 (rd_T26 l (i : Int)).f2 := by
      intro k
      simp only [delta_Put.l0]
      rw [if_pos (by omega), if_pos (by omega), if_pos (by omega)]
      by_cases h0 : (rd_T26 l (i : Int)).f0 = t
      · rw [if_pos h0, may_ev, Option.bind_some]
        unfold okB
        rw [h0, beq_self_eq_true, Bool.true_and]
      · rw [if_neg h0]
        unfold okB
        rw [beq_eq_false_iff_ne.mpr h0]
        rfl
    generalize rd_T26 l (i : Int) = v at *
    by_cases hv : okB t v = true
    · rw [hv] at hstep ⊢
      rw [Bool.true_and]
      obtain ⟨u, hu, hu2, he⟩ := zig_nat (dif v.f1 last) (dif_lo _ _).1 (dif_lo _ _).2
      have hel := enc1_le v.f1 last
      have hih := ih (i + 1) (acc ++ enc1 v.f1 last) v.f1 (by omega) (by rw [List.length_append]; omega)
      have e1 : (acc ++ encD (v :: l.drop (i + 1)) last) = (acc ++ enc1 v.f1 last) ++ encD (l.drop (i + 1)) v.f1 := by simp [encD]
      rw [e1]
      have he' : enc1 v.f1 last = E 9 u := by unfold enc1; exact he
      rw [he'] at hih hel ⊢
      refine Ev.step hstep (Ev.step (f := fun k => (num_Put.f k (u : Int)).bind fun t112 => (if acc.length + t112.length < 140737488355328 then (delta_Put.l0 k t (acc ++ t112) (IntKind.u64.wrap v.f1) l (l.length : Int) (wrap64 ((i : Int) + 1))) else none)) (fun k => ?_) (Ev.bind (BDeltaTurned.put_ev u hu2) ?_))
      · simp only [delta_Put.j2, Bool.not_true, Bool.false_eq_true, if_false]
        rw [dif_eq, zig_dif _ (dif_lo _ _).1 (dif_lo _ _).2 u hu]
        rfl
      · generalize E 9 u = z at *
        refine Ev.congr (fun k => ?_) hih
        rw [if_pos (by omega), show wrap64 ((i : Int) + 1) = ((i + 1 : Nat) : Int) by unfold wrap64; omega]
    · have hf : okB t v = false := by simpa using hv
      rw [hf] at hstep ⊢
      rw [Bool.false_and, if_neg (by decide)]
      refine Ev.step hstep (Ev.step (f := fun _ => some ([], false)) (fun k => ?_) (Ev.now _))
      simp only [delta_Put.j2, Bool.not_false, if_true]
theorem put_any (t : Int) (l : List S26) (hn : l.length ≤ 1000) : Ev (fun k => delta_Put.f k t l) (putR t l) := by
  by_cases ht : t = 1 ∨ t = 2
  · have h := put_loop t l hn l.length 0 [] 0 (by omega) (by simp; omega)
    rw [List.nil_append, List.drop_zero] at h
    have hj : Ev (fun k => delta_Put.j0 k t l ([] : List Int) false) (putR t l) := by
      unfold putR numT
      rw [decide_eq_true ht, Bool.true_and]
      refine Ev.step (fun k => ?_) h
      simp only [delta_Put.j0, Bool.false_eq_true, if_false]
      rfl
    refine Ev.congr (fun k => ?_) hj
    simp only [delta_Put.f]
    rcases ht with rfl | rfl
    · rw [if_pos rfl]
    · rw [if_neg (by decide)]; rfl
  · have hp : putR t l = ([], false) := by
      unfold putR numT
      rw [decide_eq_false ht, Bool.false_and, if_neg (by decide)]
    rw [hp]
    have hj : Ev (fun k => delta_Put.j0 k t l ([] : List Int) true) ([], false) := by
      refine Ev.step (f := fun _ => some ([], false)) (fun k => ?_) (Ev.now _)
      simp only [delta_Put.j0, if_true]
    refine Ev.congr (fun k => ?_) hj
    simp only [delta_Put.f]
    rw [if_neg (by omega), show (t != 2) = true by simp; omega]
/-- The document's bytes. -/
theorem enc_loop (l : List S26) (hok : ∀ v, v ∈ l → ok64 v.f1) (hn : l.length ≤ 1000) (d : Nat) : ∀ (i : Nat) (acc : List Int) (last : Int), i + d = l.length → acc.length + 10 * d ≤ 20000 → (i = 0 → last = 0) → (∀ j : Nat, i = j + 1 → last = (rd_T26 l (j : Int)).f1) →
    Ev (fun k => rabbetref1_Encode.l3 k l acc (i : Int)) (acc ++ encD (l.drop i) last, true) := by
  induction d with
  | zero =>
    intro i acc last hi ha _ _
    obtain rfl : i = l.length := by omega
    rw [List.drop_length]
    refine Ev.step (f := fun _ => some (acc ++ encD [] last, true)) (fun k => ?_) (Ev.now _)
    simp only [rabbetref1_Encode.l3]
    rw [if_neg (by omega)]
    simp [encD]
  | succ d ih =>
    intro i acc last hi ha h0 hj
    have hlt : i < l.length := by omega
    have hv := hok _ (rd_memT l i hlt)
    have hpr : ∀ k, rabbetref1_Encode.l3 (k + 1) l acc (i : Int) = (rabbetref1_Zig.f (dif (rd_T26 l (i : Int)).f1 last)).bind fun z => (rabbetref1_PutNum.f k z).bind fun z2 => (if acc.length + z2.length < 140737488355328 then (rabbetref1_Encode.l3 k l (acc ++ z2) (wrap64 ((i : Int) + 1))) else none) := by
      intro k
      simp only [rabbetref1_Encode.l3]
      rw [if_pos (by omega), if_pos (by omega)]
      by_cases hz : i = 0
      · subst hz
        have e : dif (rd_T26 l ((0 : Nat) : Int)).f1 last = (rd_T26 l ((0 : Nat) : Int)).f1 := by rw [h0 rfl]; unfold ok64 at hv; unfold dif wrap64; omega
        rw [if_neg (by omega), e]
      · obtain ⟨j, rfl⟩ : ∃ j, i = j + 1 := ⟨i - 1, by omega⟩
        have e2 : wrap64 (((j + 1 : Nat) : Int) - 1) = (j : Int) := by unfold wrap64; omega
        rw [if_pos (by omega), e2, if_pos (by omega), if_pos (by omega), hj j rfl]
        rfl
    rw [drop_consT l i hlt]
    have hnext : ∀ j : Nat, i + 1 = j + 1 → (rd_T26 l (i : Int)).f1 = (rd_T26 l (j : Int)).f1 := fun j e => by rw [show i = j by omega]
    generalize rd_T26 l (i : Int) = v at *
    obtain ⟨u, hu, hu2, he⟩ := zig_nat (dif v.f1 last) (dif_lo _ _).1 (dif_lo _ _).2
    have hel := enc1_le v.f1 last
    have hih := ih (i + 1) (acc ++ enc1 v.f1 last) v.f1 (by omega) (by rw [List.length_append]; omega) (fun h => by omega) hnext
    have e1 : (acc ++ encD (v :: l.drop (i + 1)) last) = (acc ++ enc1 v.f1 last) ++ encD (l.drop (i + 1)) v.f1 := by simp [encD]
    rw [e1]
    have he' : enc1 v.f1 last = E 9 u := by unfold enc1; exact he
    rw [he'] at hih hel ⊢
    have hz := BRDeltaTurned.rzig_eq (dif v.f1 last) (dif_lo _ _).1 (dif_lo _ _).2
    rw [hu] at hz
    refine Ev.step hpr (Ev.congr (fun k => by rw [hz, Option.bind_some]) (Ev.bind (BRDeltaTurned.rput_ev u hu2) ?_))
    generalize E 9 u = z at *
    refine Ev.congr (fun k => ?_) hih
    rw [if_pos (by omega), show wrap64 ((i : Int) + 1) = ((i + 1 : Nat) : Int) by unfold wrap64; omega]
theorem enc_any (t : Int) (l : List S26) (hok : ∀ v, v ∈ l → ok64 v.f1) (hn : l.length ≤ 1000) : Ev (fun k => rabbetref1_Encode.f k 5 t l) (putR t l) := by
  have hno : Ev (fun k => rabbetref1_Encode.j0 k 5 l true) ([], false) := by
    refine Ev.step (f := fun _ => some ([], false)) (fun k => ?_) (Ev.now _)
    simp only [rabbetref1_Encode.j0, if_true]
  refine Ev.congr (f := fun k => (rabbetref1_right.f k t l).bind _) (fun k => by simp only [rabbetref1_Encode.f]; rfl) (Ev.bind (right_ev t l hn) ?_)
  by_cases hr : rightB t l = true
  · rw [hr]
    by_cases ht : t = 1 ∨ t = 2
    · have hp : putR t l = (encD l 0, true) := by
        unfold putR numT
        unfold rightB at hr
        rw [Bool.and_eq_true] at hr
        rw [decide_eq_true ht, Bool.true_and, if_pos hr.2]
      rw [hp]
      have h := enc_loop l hok hn l.length 0 [] 0 (by omega) (by simp; omega) (fun _ => rfl) (fun j e => by omega)
      rw [List.nil_append, List.drop_zero] at h
      have hj : Ev (fun k => rabbetref1_Encode.j0 k 5 l false) (encD l 0, true) := by
        refine Ev.step (fun k => ?_) h
        simp only [rabbetref1_Encode.j0, Bool.false_eq_true, if_false]
        rw [if_neg (by decide), if_neg (by decide), if_neg (by decide), if_neg (by decide), if_pos trivial]
        rfl
      refine Ev.congr (fun k => ?_) hj
      rw [if_pos rfl, if_neg (by decide), if_pos trivial]
      rcases ht with rfl | rfl
      · rw [if_pos rfl]
      · rw [if_neg (by decide)]; rfl
    · have hp : putR t l = ([], false) := by
        unfold putR numT
        rw [decide_eq_false ht, Bool.false_and, if_neg (by decide)]
      rw [hp]
      refine Ev.congr (fun k => ?_) hno
      rw [if_pos rfl, if_neg (by decide), if_pos trivial, if_neg (by omega), show (t != 2) = true by simp; omega]
  · have hf : rightB t l = false := by simpa using hr
    have hp : putR t l = ([], false) := by
      unfold putR
      rw [if_neg]
      intro h
      rw [Bool.and_eq_true] at h
      unfold rightB at hf
      rw [h.2, Bool.and_true] at hf
      unfold isT at hf
      have h1 := of_decide_eq_true h.1
      have h2 := of_decide_eq_false hf
      omega
    rw [hp, hf]
    refine Ev.congr (fun k => ?_) hno
    rw [if_neg (by decide)]
-- theorem puts : BLDeltaTurned.Puts := fun t l hl hok => ⟨putR t l, put_any t l (by omega), enc_any t l (fun v hv => (hok v hv).1) (by omega)⟩

/-! ### what bytes say -/
def readD (t : Int) : Nat → List Int → Int → Option (List S26)
  | 0, _, _ => some []
  | n + 1, rest, last => match D 10 true rest with
    | none => none
    | some (u, m) => (readD t n (rest.drop m) (wrap64 (last + zag (u : Int)))).map (fun r => ⟨t, wrap64 (last + zag (u : Int)), (⟨#[]⟩ : ByteArray)⟩ :: r)
theorem readD_len (t : Int) (n : Nat) : ∀ (rest : List Int) (last : Int) (l : List S26), readD t n rest last = some l → l.length = n := by
  induction n with
  | zero => intro rest last l h; simp [readD] at h; subst h; rfl
  | succ n ih =>
    intro rest last l h
    simp only [readD] at h
    cases hD : D 10 true rest with
    | none => rw [hD] at h; cases h
    | some p =>
      rw [hD] at h
      obtain ⟨r, hr, rfl⟩ := Option.map_eq_some_iff.1 h
      rw [List.length_cons, ih _ _ _ hr]
theorem readD_ok (t : Int) (n : Nat) : ∀ (rest : List Int) (last : Int) (l : List S26), readD t n rest last = some l → ∀ v, v ∈ l → ok64 v.f1 := by
  induction n with
  | zero => intro rest last l h v hv; simp [readD] at h; subst h; simp at hv
  | succ n ih =>
    intro rest last l h v hv
    simp only [readD] at h
    cases hD : D 10 true rest with
    | none => rw [hD] at h; cases h
    | some p =>
      rw [hD] at h
      obtain ⟨r, hr, rfl⟩ := Option.map_eq_some_iff.1 h
      rcases List.mem_cons.1 hv with rfl | hv
      · show ok64 (wrap64 _); unfold ok64 wrap64; omega
      · exact ih _ _ _ hr v hv
def takeR (t n : Int) (b : List Int) : List S26 × Bool := if n < 0 ∨ 1000 < n then ([], false) else match readD t n.toNat b 0 with
  | none => ([], false)
  | some l => if putR t l = (b, true) then (l, true) else ([], false)
theorem takeR_len (t n : Int) (b : List Int) : (takeR t n b).1.length ≤ 1000 := by
  unfold takeR
  split
  · simp
  · split
    · simp
    · rename_i l hl
      split
      · show l.length ≤ 1000
        rw [readD_len _ _ _ _ _ hl]; omega
      · simp
theorem putR_wf (t : Int) (l : List S26) : wfb (putR t l).1 := by
  unfold putR
  split
  · exact encD_wf l 0
  · intro x hx; simp at hx
theorem u64_sum (last z : Int) : IntKind.u64.wrap (IntKind.u64.wrap last + IntKind.u64.wrap z) = IntKind.u64.wrap (wrap64 (last + z)) := by
  simp only [u64_wrap]; unfold wrap64; omega
theorem back64 (x : Int) : wrap64 (IntKind.u64.wrap (wrap64 x)) = wrap64 x := by simp only [u64_wrap]; unfold wrap64; omega
theorem equal_eq (a b : List Int) (ha : wfb a) (hb : wfb b) : bytes_Equal.f a b = some (decide (a = b)) := by
  unfold bytes_Equal.f
  rw [str_beq a b ha hb]
theorem wfb_drop {b : List Int} (h : wfb b) (m : Nat) : wfb (b.drop m) := fun x hx => h x (List.mem_of_mem_drop hx)
/-- Where the reading ends: the bytes are put anew. -/
def endR (t : Int) (b : List Int) (l : List S26) : List S26 × Option Int := if putR t l = (b, true) then (l, none) else ([], some 4)
theorem take_loop (t : Int) (b : List Int) (hb : wfb b) (n : Nat) (hn : n ≤ 1000) (d : Nat) : ∀ (i : Nat) (acc : List S26) (rest : List Int) (last : Int), i + d = n → acc.length = i → wfb rest →
    Ev (fun k => delta_read.l0 k t b acc rest (IntKind.u64.wrap last) (n : Int) (i : Int)) (match readD t d rest last with | none => ([], some 3) | some r => endR t b (acc ++ r)) := by
  induction d with
  | zero =>
    intro i acc rest last hi ha _
    show Ev _ (endR t b (acc ++ []))
    rw [List.append_nil]
    refine Ev.step (f := fun k => (delta_Put.f k t acc).bind _) (fun k => by simp only [delta_read.l0]; rw [if_neg (by omega)]) (Ev.bind (put_any t acc (by omega)) ?_)
    have hw := putR_wf t acc
    unfold endR
    generalize putR t acc = q at *
    obtain ⟨c, ok⟩ := q
    dsimp only at hw ⊢
    refine Ev.congr (f := fun _ => some (if (c, ok) = (b, true) then (acc, none) else ([], some 4))) (fun k => ?_) (Ev.now _)
    cases ok
    · rw [if_neg (by decide), if_neg (by simp)]
    · rw [if_pos rfl, equal_eq c b hw hb, Option.bind_some]
      by_cases hc : c = b
      · rw [decide_eq_true hc, if_pos rfl, if_pos (by rw [hc])]
      · rw [decide_eq_false hc, if_neg (by decide), if_neg (by intro h; exact hc (Prod.mk.inj h).1)]
  | succ d ih =>
    intro i acc rest last hi ha hw
    have he := BDeltaTurned.take_ev rest hw
    simp only [readD]
    cases hD : D 10 true rest with
    | none =>
      have ht : BDeltaTurned.takeR rest = (0, 0, false) := by unfold BDeltaTurned.takeR; rw [hD]
      rw [ht] at he
      refine Ev.step (f := fun k => (num_Take.f k rest).bind _) (fun k => by simp only [delta_read.l0]; rw [if_pos (by omega)]) (Ev.bind he ?_)
      refine Ev.congr (f := fun _ => some ([], some 3)) (fun k => ?_) (Ev.now _)
      rw [if_neg (by decide)]
    | some p =>
      obtain ⟨u, m⟩ := p
      have h64 : u < 18446744073709551616 := by
        have h1 := (E_D 9 true rest u m hw hD).1
        have : (2 : Nat) * 128 ^ 9 = 18446744073709551616 := by decide
        omega
      have hm := D_le 10 true rest u m hD
      have ht : BDeltaTurned.takeR rest = ((u : Int), (m : Int), true) := by unfold BDeltaTurned.takeR; rw [hD]
      rw [ht] at he
      have hih := ih (i + 1) (acc ++ [⟨t, wrap64 (last + zag (u : Int)), (⟨#[]⟩ : ByteArray)⟩]) (rest.drop m) (wrap64 (last + zag (u : Int))) (by omega) (by rw [List.length_append]; simp; omega) (wfb_drop hw m)
      have e : (match (readD t d (rest.drop m) (wrap64 (last + zag (u : Int)))).map (fun r => (⟨t, wrap64 (last + zag (u : Int)), (⟨#[]⟩ : ByteArray)⟩ : S26) :: r) with | none => (([] : List S26), (some 3 : Option Int)) | some r => endR t b (acc ++ r)) =
          (match readD t d (rest.drop m) (wrap64 (last + zag (u : Int))) with | none => ([], some 3) | some r => endR t b (acc ++ [(⟨t, wrap64 (last + zag (u : Int)), (⟨#[]⟩ : ByteArray)⟩ : S26)] ++ r)) := by
        cases readD t d (rest.drop m) (wrap64 (last + zag (u : Int))) with
        | none => rfl
        | some r => simp
      dsimp only
      rw [e]
      refine Ev.step (f := fun k => (num_Take.f k rest).bind _) (fun k => by simp only [delta_read.l0]; rw [if_pos (by omega)]) (Ev.bind he (Ev.congr (fun k => ?_) hih))
      have hz : num_Zag.f (u : Int) = some (zag (u : Int)) := by unfold num_Zag.f; rw [zag_eq _ (by omega) (by omega)]
      dsimp only
      rw [if_pos rfl, hz, Option.bind_some, if_pos (by omega), if_pos (by omega), if_pos (by omega), Int.toNat_natCast, u64_sum, back64, show wrap64 ((i : Int) + 1) = ((i + 1 : Nat) : Int) by unfold wrap64; omega]
theorem take_of (t n : Int) (b : List Int) (l : List S26) (c : Option Int) (h : Ev (fun k => delta_read.f k t n b) (l, c)) (hc : ∀ x, c = some x → errG x = 0) : Ev (fun k => delta_Take.f k t n b) (l, c.isNone) := by
  refine Ev.congr (f := fun k => (delta_read.f k t n b).bind _) (fun k => by simp only [delta_Take.f]; rfl) (Ev.bind h (Ev.congr (f := fun _ => some (l, c.isNone)) (fun k => ?_) (Ev.now _)))
  cases c with
  | none => simp [errors_IsN.f]
  | some x => simp [errors_IsS.f, hc x rfl]
theorem take_any (t n : Int) (b : List Int) (hb : wfb b) : Ev (fun k => delta_Take.f k t n b) (takeR t n b) := by
  by_cases hn : n < 0 ∨ 1000 < n
  · unfold takeR
    rw [if_pos hn]
    refine take_of t n b [] (some 2) ?_ (fun x hx => by injection hx with hx; subst hx; decide)
    have hj : Ev (fun k => delta_read.j0 k t n b ([] : List S26) true) ([], some 2) := by
      refine Ev.step (f := fun _ => some ([], some 2)) (fun k => ?_) (Ev.now _)
      simp only [delta_read.j0, if_true]
    refine Ev.congr (fun k => ?_) hj
    simp only [delta_read.f]
    by_cases h : n < 0
    · rw [if_pos h]
    · rw [if_neg h, decide_eq_true (by omega)]
  · obtain ⟨m, rfl⟩ := Int.eq_ofNat_of_zero_le (show 0 ≤ n by omega)
    have h := take_loop t b hb m (by omega) m 0 [] b 0 (by omega) rfl hb
    have hj : Ev (fun k => delta_read.f k t (m : Int) b) (match readD t m b 0 with | none => ([], some 3) | some r => endR t b ([] ++ r)) := by
      refine Ev.congr (f := fun k => delta_read.j0 k t (m : Int) b ([] : List S26) false) (fun k => ?_) (Ev.step (fun k => ?_) h)
      · simp only [delta_read.f]
        rw [if_neg (by omega), decide_eq_false (by omega)]
      · simp only [delta_read.j0, Bool.false_eq_true, if_false]
        rfl
    unfold takeR
    rw [if_neg hn, Int.toNat_natCast]
    cases hr : readD t m b 0 with
    | none =>
      rw [hr] at hj
      exact take_of t m b [] (some 3) hj (fun x hx => by injection hx with hx; subst hx; decide)
    | some r =>
      rw [hr] at hj
      dsimp only at hj ⊢
      rw [List.nil_append] at hj
      unfold endR at hj
      by_cases hp : putR t r = (b, true)
      · rw [if_pos hp] at hj ⊢
        exact take_of t m b r none hj (fun x hx => by cases hx)
      · rw [if_neg hp] at hj ⊢
        exact take_of t m b [] (some 4) hj (fun x hx => by injection hx with hx; subst hx; decide)
/-- The document's reading. -/
theorem rread_loop (t : Int) (n : Nat) (hn : n ≤ 1000) (d : Nat) : ∀ (i : Nat) (acc : List S26) (rest : List Int) (last : Int), i + d = n → acc.length = i → wfb rest →
    Ev (fun k => rabbetref1_read.l3 k t (n : Int) rest acc last) (match readD t d rest last with | none => ([], false) | some r => (acc ++ r, true)) := by
  induction d with
  | zero =>
    intro i acc rest last hi ha _
    show Ev _ (acc ++ [], true)
    rw [List.append_nil]
    refine Ev.step (f := fun _ => some (acc, true)) (fun k => ?_) (Ev.now _)
    simp only [rabbetref1_read.l3]
    rw [if_neg (by omega)]
  | succ d ih =>
    intro i acc rest last hi ha hw
    have he := BRDeltaTurned.rtake_ev rest hw (fun a b ha hb => MStr.str_eq a b ha hb)
    simp only [readD]
    cases hD : D 10 true rest with
    | none =>
      have ht : BDeltaTurned.takeR rest = (0, 0, false) := by unfold BDeltaTurned.takeR; rw [hD]
      rw [ht] at he
      refine Ev.step (f := fun k => (rabbetref1_TakeNum.f k rest).bind _) (fun k => by simp only [rabbetref1_read.l3]; rw [if_pos (by omega)]) (Ev.bind he ?_)
      refine Ev.congr (f := fun _ => some ([], false)) (fun k => ?_) (Ev.now _)
      rw [if_neg (by decide)]
    | some p =>
      obtain ⟨u, m⟩ := p
      have h64 : u < 18446744073709551616 := by
        have h1 := (E_D 9 true rest u m hw hD).1
        have : (2 : Nat) * 128 ^ 9 = 18446744073709551616 := by decide
        omega
      have hm := D_le 10 true rest u m hD
      have ht : BDeltaTurned.takeR rest = ((u : Int), (m : Int), true) := by unfold BDeltaTurned.takeR; rw [hD]
      rw [ht] at he
      have hih := ih (i + 1) (acc ++ [⟨t, wrap64 (last + zag (u : Int)), (⟨#[]⟩ : ByteArray)⟩]) (rest.drop m) (wrap64 (last + zag (u : Int))) (by omega) (by rw [List.length_append]; simp; omega) (wfb_drop hw m)
      have e : (match (readD t d (rest.drop m) (wrap64 (last + zag (u : Int)))).map (fun r => (⟨t, wrap64 (last + zag (u : Int)), (⟨#[]⟩ : ByteArray)⟩ : S26) :: r) with | none => (([] : List S26), false) | some r => (acc ++ r, true)) =
          (match readD t d (rest.drop m) (wrap64 (last + zag (u : Int))) with | none => ([], false) | some r => (acc ++ [(⟨t, wrap64 (last + zag (u : Int)), (⟨#[]⟩ : ByteArray)⟩ : S26)] ++ r, true)) := by
        cases readD t d (rest.drop m) (wrap64 (last + zag (u : Int))) with
        | none => rfl
        | some r => simp
      dsimp only
      rw [e]
      refine Ev.step (f := fun k => (rabbetref1_TakeNum.f k rest).bind _) (fun k => by simp only [rabbetref1_read.l3]; rw [if_pos (by omega)]) (Ev.bind he (Ev.congr (fun k => ?_) hih))
      have hz := BRDeltaTurned.rzag_eq u h64
      dsimp only
      rw [if_pos rfl, hz, Option.bind_some, if_pos (by omega), if_pos (by omega), if_pos (by omega), Int.toNat_natCast]
theorem dec_any (t n : Int) (b : List Int) (hb : wfb b) : Ev (fun k => rabbetref1_Decode.f k 5 t n b) (takeR t n b) := by
  have hno : Ev (fun k => rabbetref1_Decode.j0 k 5 t n b true) ([], false) := by
    refine Ev.step (f := fun _ => some ([], false)) (fun k => ?_) (Ev.now _)
    simp only [rabbetref1_Decode.j0, if_true]
  by_cases hn : n < 0 ∨ 1000 < n
  · unfold takeR
    rw [if_pos hn]
    refine Ev.congr (fun k => ?_) hno
    simp only [rabbetref1_Decode.f]
    by_cases h : n < 0
    · rw [if_pos h]
    · rw [if_neg h, if_pos (by omega)]
  · obtain ⟨m, rfl⟩ := Int.eq_ofNat_of_zero_le (show 0 ≤ n by omega)
    have hstep : ∀ k, rabbetref1_Decode.f k 5 t (m : Int) b = rabbetref1_Decode.j0 k 5 t (m : Int) b (!(isT t)) := by
      intro k
      simp only [rabbetref1_Decode.f]
      rw [if_neg (by omega), if_neg (by omega), isType_ev, Option.bind_some]
    refine Ev.congr hstep ?_
    unfold takeR
    rw [if_neg hn, Int.toNat_natCast]
    by_cases ht : isT t = true
    · rw [ht]
      have h := rread_loop t m (by omega) m 0 [] b 0 (by omega) rfl hb
      have hrd : Ev (fun k => rabbetref1_read.f k 5 t (m : Int) b) (match readD t m b 0 with | none => ([], false) | some r => ([] ++ r, true)) := by
        refine Ev.congr (fun k => ?_) h
        simp only [rabbetref1_read.f]
        rw [if_neg (by decide), if_neg (by decide), if_neg (by decide), if_neg (by decide), if_pos trivial]
      cases hr : readD t m b 0 with
      | none =>
        rw [hr] at hrd
        dsimp only at hrd ⊢
        refine Ev.step (f := fun k => (rabbetref1_read.f k 5 t (m : Int) b).bind _) (fun k => by simp only [rabbetref1_Decode.j0, Bool.not_true, Bool.false_eq_true, if_false]; rfl) (Ev.bind hrd ?_)
        refine Ev.bind (enc_any t [] (fun v hv => by simp at hv) (by simp)) (Ev.congr (f := fun _ => some ([], false)) (fun k => ?_) (Ev.now _))
        rw [if_neg (by decide)]
      | some r =>
        rw [hr] at hrd
        dsimp only at hrd ⊢
        rw [List.nil_append] at hrd
        refine Ev.step (f := fun k => (rabbetref1_read.f k 5 t (m : Int) b).bind _) (fun k => by simp only [rabbetref1_Decode.j0, Bool.not_true, Bool.false_eq_true, if_false]; rfl) (Ev.bind hrd ?_)
        have hlen := readD_len _ _ _ _ _ hr
        refine Ev.bind (enc_any t r (readD_ok _ _ _ _ _ hr) (by omega)) ?_
        have hw := putR_wf t r
        generalize putR t r = q at *
        obtain ⟨c, ok⟩ := q
        dsimp only at hw ⊢
        refine Ev.congr (f := fun _ => some (if (c, ok) = (b, true) then (r, true) else ([], false))) (fun k => ?_) (Ev.now _)
        rw [if_pos rfl]
        cases ok
        · rw [if_neg (by decide), if_neg (by simp)]
        · rw [if_pos rfl, if_pos (by omega)]
          by_cases hc : c = b
          · rw [if_pos (by rw [hc]), if_pos (by rw [hc])]
          · rw [if_neg (fun h => hc ((MStr.str_eq c b hw hb).1 h)), if_neg (by intro h; exact hc (Prod.mk.inj h).1)]
    · have hf : isT t = false := by simpa using ht
      rw [hf]
      have hpt : ∀ l, putR t l ≠ (b, true) := by
        intro l
        unfold putR numT
        have : ¬ (t = 1 ∨ t = 2) := by
          unfold isT at hf
          have := of_decide_eq_false hf
          omega
        rw [decide_eq_false this, Bool.false_and, if_neg (by decide)]
        simp
      have hres : (match readD t m b 0 with | none => (([] : List S26), false) | some l => if putR t l = (b, true) then (l, true) else ([], false)) = ([], false) := by
        cases readD t m b 0 with
        | none => rfl
        | some l => dsimp only; rw [if_neg (hpt l)]
      rw [hres]
      exact hno
-- theorem takes : BLDeltaTurned.Takes := fun t n b hb _ => ⟨takeR t n b, takeR_len t n b, take_any t n b hb, dec_any t n b hb⟩
theorem takesW (t n : Int) (b : List Int) (hb : wfb b) : ∃ r : List S26 × Bool, r.1.length ≤ 1000 ∧ Ev (fun k => delta_Take.f k t n b) r ∧ Ev (fun k => rabbetref1_Decode.f k 5 t n b) r := ⟨takeR t n b, takeR_len t n b, take_any t n b hb, dec_any t n b hb⟩
theorem encW (t : Int) (l : List S26) (hl : l.length ≤ 30) (hok : ∀ v, v ∈ l → okv v) : ∃ r : List Int × Bool, wfb r.1 ∧ Ev (fun k => rabbetref1_Encode.f k 5 t l) r := ⟨putR t l, putR_wf t l, enc_any t l (fun v hv => (hok v hv).1) (by omega)⟩
end Go.Proofs.YtgbammocbjghjaaDoor.BDDeltaTurned
