/- plain: what is put and what is taken, by the program and by the document, of any values and any bytes. Conditions: none. -/
import Derived.Test.YtgbammocbjghjaaDoorBOPlainTurned
-- import Derived.Test.YtgbammocbjghjaaDoorBLPlainTurned
import Derived.Test.YtgbammocbjghjaaDoorPPlainTurnedx10
namespace Go.Proofs.YtgbammocbjghjaaDoor.BDPlainTurned
open Go.RowKit Go.Proofs.YtgbammocbjghjaaDoor.PPlainTurned Go.Proofs.YtgbammocbjghjaaDoorW.PrintWords Go.Proofs.YtgbammocbjghjaaDoorW.PrintLast Go.Proofs.YtgbammocbjghjaaDoorW.PrintMore Go.Proofs.YtgbammocbjghjaaDoor.MNum Go.Proofs.YtgbammocbjghjaaDoor.MStr Go.Proofs.YtgbammocbjghjaaDoor.BWPlainTurned Go.Proofs.YtgbammocbjghjaaDoor.BOPlainTurned
set_option linter.unusedVariables false

def encP : List S26 → List Int
  | [] => []
  | v :: r => enc v ++ encP r
theorem encP_wf (l : List S26) (hl : ∀ v, v ∈ l → ok64 v.f1) : wfb (encP l) := by
  induction l with
  | nil => intro x hx; simp [encP] at hx
  | cons v r ih =>
    intro x hx
    rcases List.mem_append.1 hx with hx | hx
    · exact enc_wf v (hl v List.mem_cons_self) x hx
    · exact ih (fun z hz => hl z (List.mem_cons_of_mem _ hz)) x hx
def putR (t : Int) (l : List S26) : List Int × Bool := if rightB t l = true then (encP l, true) else ([], false)
theorem right_okv {t : Int} {l : List S26} (h : rightB t l = true) (v : S26) (hv : v ∈ l) : v.f0 = t ∧ mayB v = true ∧ v.f2.size ≤ 20 := by
  unfold rightB at h
  rw [Bool.and_eq_true] at h
  have := (List.all_eq_true.1 h.2) v hv
  unfold okB at this
  rw [Bool.and_eq_true] at this
  exact ⟨eq_of_beq this.1, this.2, may_size v this.2⟩
theorem put_loop (l : List S26) (hl : ∀ v, v ∈ l → ok64 v.f1 ∧ v.f2.size ≤ 40) (hn : l.length ≤ 1000) (d : Nat) : ∀ (i : Nat) (acc : List Int), i + d = l.length → acc.length + 41 * d ≤ 100000 →
    Ev (fun k => plain_Put.l0 k acc l (l.length : Int) (i : Int)) (acc ++ encP (l.drop i), true) := by
  induction d with
  | zero =>
    intro i acc hi ha
    obtain rfl : i = l.length := by omega
    rw [List.drop_length]
    refine Ev.step (f := fun _ => some (acc ++ encP [], true)) (fun k => ?_) (Ev.now _)
    simp only [plain_Put.l0]
    rw [if_neg (by omega)]
    simp [encP]
  | succ d ih =>
    intro i acc hi ha
    have hlt : i < l.length := by omega
    have hv := hl _ (rd_memT l i hlt)
    have hstep : ∀ k, plain_Put.l0 (k + 1) acc l (l.length : Int) (i : Int) = (plain_one.f k acc ((rd_T26 l (i : Int)).f0) ((rd_T26 l (i : Int)).f1) ((rd_T26 l (i : Int)).f2)).bind fun t133 => (plain_Put.l0 k t133 l (l.length : Int) ((i + 1 : Nat) : Int)) := by
      intro k
      simp only [plain_Put.l0]
      rw [if_pos (by omega), if_pos (by omega), if_pos (by omega), show wrap64 ((i : Int) + 1) = ((i + 1 : Nat) : Int) by unfold wrap64; omega]
    rw [drop_consT l i hlt]
    generalize rd_T26 l (i : Int) = v at *
    have hf := enc_le v hv.2
    have hih := ih (i + 1) (acc ++ enc v) (by omega) (by rw [List.length_append]; omega)
    rw [show acc ++ encP (v :: l.drop (i + 1)) = (acc ++ enc v) ++ encP (l.drop (i + 1)) by simp [encP]]
    exact Ev.step hstep (Ev.bind (one_ev v hv.1 hv.2 acc (by omega)) hih)
theorem put_any (t : Int) (l : List S26) (hok : ∀ v, v ∈ l → ok64 v.f1) (hn : l.length ≤ 1000) : Ev (fun k => plain_Put.f k t l) (putR t l) := by
  refine Ev.congr (f := fun k => (plain_of.f k t l).bind fun t130 => (if t130 = true then (plain_Put.l0 k ([] : List Int) l (l.length : Int) 0) else (some (([] : List Int), false)))) (fun k => rfl) (Ev.bind (of_ev t l hn) ?_)
  unfold putR
  by_cases hr : rightB t l = true
  · have h := put_loop l (fun v hv => ⟨hok v hv, Nat.le_trans (right_okv hr v hv).2.2 (by decide)⟩) hn l.length 0 [] (by omega) (by simp; omega)
    rw [List.nil_append, List.drop_zero] at h
    rw [if_pos hr]
    refine Ev.congr (fun k => ?_) h
    rw [if_pos hr]
    rfl
  · rw [if_neg hr]
    exact Ev.congr (fun k => by rw [if_neg hr]) (Ev.now _)
theorem enc_loop (l : List S26) (hl : ∀ v, v ∈ l → ok64 v.f1 ∧ v.f2.size ≤ 40) (hn : l.length ≤ 1000) (d : Nat) : ∀ (i : Nat) (acc : List Int), i + d = l.length → acc.length + 41 * d ≤ 100000 →
    Ev (fun k => rabbetref1_Encode.l0 k l acc (i : Int)) (acc ++ encP (l.drop i), true) := by
  induction d with
  | zero =>
    intro i acc hi ha
    obtain rfl : i = l.length := by omega
    rw [List.drop_length]
    refine Ev.step (f := fun _ => some (acc ++ encP [], true)) (fun k => ?_) (Ev.now _)
    simp only [rabbetref1_Encode.l0]
    rw [if_neg (by omega)]
    simp [encP]
  | succ d ih =>
    intro i acc hi ha
    have hlt : i < l.length := by omega
    have hv := hl _ (rd_memT l i hlt)
    have hstep : ∀ k, rabbetref1_Encode.l0 (k + 1) l acc (i : Int) = (rabbetref1_one.f k ((rd_T26 l (i : Int)).f0) ((rd_T26 l (i : Int)).f1) ((rd_T26 l (i : Int)).f2)).bind fun t133 => (if acc.length + t133.length < 140737488355328 then (rabbetref1_Encode.l0 k l (acc ++ t133) ((i + 1 : Nat) : Int)) else none) := by
      intro k
      simp only [rabbetref1_Encode.l0]
      rw [if_pos (by omega), if_pos (by omega), show wrap64 ((i : Int) + 1) = ((i + 1 : Nat) : Int) by unfold wrap64; omega]
    rw [drop_consT l i hlt]
    generalize rd_T26 l (i : Int) = v at *
    have hf := enc_le v hv.2
    have hih := ih (i + 1) (acc ++ enc v) (by omega) (by rw [List.length_append]; omega)
    rw [show acc ++ encP (v :: l.drop (i + 1)) = (acc ++ enc v) ++ encP (l.drop (i + 1)) by simp [encP]]
    exact Ev.step hstep (Ev.bind (rone_ev v hv.1 hv.2) (Ev.congr (fun k => by rw [if_pos (by omega)]) hih))
theorem enc_any (t : Int) (l : List S26) (hok : ∀ v, v ∈ l → ok64 v.f1) (hn : l.length ≤ 1000) : Ev (fun k => rabbetref1_Encode.f k 1 t l) (putR t l) := by
  refine Ev.congr (f := fun k => (rabbetref1_right.f k t l).bind _) (fun k => by simp only [rabbetref1_Encode.f]; rfl) (Ev.bind (right_ev t l hn) ?_)
  unfold putR
  by_cases hr : rightB t l = true
  · have h := enc_loop l (fun v hv => ⟨hok v hv, Nat.le_trans (right_okv hr v hv).2.2 (by decide)⟩) hn l.length 0 [] (by omega) (by simp; omega)
    rw [List.nil_append, List.drop_zero] at h
    rw [if_pos hr]
    have hj : Ev (fun k => rabbetref1_Encode.j0 k 1 l false) (encP l, true) := by
      refine Ev.step (fun k => ?_) h
      simp only [rabbetref1_Encode.j0, Bool.false_eq_true, if_false]
      rw [if_pos trivial]
      rfl
    refine Ev.congr (fun k => ?_) hj
    rw [if_pos hr, if_neg (by decide), if_neg (by decide)]
  · rw [if_neg hr]
    have hj : Ev (fun k => rabbetref1_Encode.j0 k 1 l true) ([], false) := by
      refine Ev.step (f := fun _ => some ([], false)) (fun k => ?_) (Ev.now _)
      simp only [rabbetref1_Encode.j0, if_true]
    exact Ev.congr (fun k => by rw [if_neg hr]) hj
-- theorem puts : BLPlainTurned.Puts := fun t l hl hok => ⟨putR t l, put_any t l (fun v hv => (hok v hv).1) (by omega), enc_any t l (fun v hv => (hok v hv).1) (by omega)⟩

/-! ### what bytes say -/
def readP (t : Int) : Nat → List Int → Option (List S26)
  | 0, _ => some []
  | n + 1, rest => match firstR t rest with
    | none => none
    | some (v, m) => (readP t n (rest.drop m)).map (fun r => v :: r)
def readQ (t : Int) : Nat → List Int → Option (List S26)
  | 0, _ => some []
  | n + 1, rest => match firstR t rest with
    | none => none
    | some (v, m) => if mayB v = true then (readQ t n (rest.drop m)).map (fun r => v :: r) else none
theorem wfb_drop {b : List Int} (h : wfb b) (m : Nat) : wfb (b.drop m) := fun x hx => h x (List.mem_of_mem_drop hx)
theorem readP_facts (t : Int) (n : Nat) : ∀ (rest : List Int) (l : List S26), wfb rest → readP t n rest = some l → l.length = n ∧ ∀ v, v ∈ l → v.f0 = t ∧ ok64 v.f1 := by
  induction n with
  | zero => intro rest l _ h; simp [readP] at h; subst h; exact ⟨rfl, fun v hv => by simp at hv⟩
  | succ n ih =>
    intro rest l hw h
    simp only [readP] at h
    cases hD : firstR t rest with
    | none => rw [hD] at h; cases h
    | some p =>
      obtain ⟨v0, m⟩ := p
      rw [hD] at h
      obtain ⟨r, hr, rfl⟩ := Option.map_eq_some_iff.1 h
      have h1 := ih _ _ (wfb_drop hw m) hr
      have h2 := firstR_facts t rest hw v0 m hD
      refine ⟨by rw [List.length_cons, h1.1], fun v hv => ?_⟩
      rcases List.mem_cons.1 hv with rfl | hv
      · exact ⟨h2.1, h2.2.1⟩
      · exact h1.2 v hv
theorem readQ_eq (t : Int) (n : Nat) : ∀ rest : List Int, readQ t n rest = match readP t n rest with | none => none | some l => if l.all mayB = true then some l else none := by
  induction n with
  | zero => intro rest; rfl
  | succ n ih =>
    intro rest
    simp only [readP, readQ]
    cases hD : firstR t rest with
    | none => rfl
    | some p =>
      obtain ⟨v, m⟩ := p
      dsimp only
      rw [ih]
      cases readP t n (rest.drop m) with
      | none => dsimp only [Option.map]; split <;> rfl
      | some l =>
        dsimp only [Option.map]
        rw [List.all_cons]
        by_cases hv : mayB v = true
        · rw [if_pos hv, hv, Bool.true_and]
          by_cases ha : l.all mayB = true
          · rw [if_pos ha, if_pos ha]
          · rw [if_neg ha, if_neg ha]
        · rw [if_neg hv]
          rw [if_neg]
          simp [hv]
def takeR (t n : Int) (b : List Int) : List S26 × Bool := if n < 0 ∨ 1000 < n then ([], false) else match readP t n.toNat b with
  | none => ([], false)
  | some l => if putR t l = (b, true) then (l, true) else ([], false)
theorem takeR_len (t n : Int) (b : List Int) (hb : wfb b) : (takeR t n b).1.length ≤ 1000 := by
  unfold takeR
  split
  · simp
  · split
    · simp
    · rename_i l hl
      split
      · show l.length ≤ 1000
        rw [(readP_facts _ _ _ _ hb hl).1]; omega
      · simp
theorem putR_wf (t : Int) (l : List S26) (hok : ∀ v, v ∈ l → ok64 v.f1) : wfb (putR t l).1 := by
  unfold putR
  split
  · exact encP_wf l hok
  · intro x hx; simp at hx
theorem equal_eq (a b : List Int) (ha : wfb a) (hb : wfb b) : bytes_Equal.f a b = some (decide (a = b)) := by
  unfold bytes_Equal.f
  rw [str_beq a b ha hb]
def endR (t : Int) (b : List Int) (l : List S26) : List S26 × Option Int := if putR t l = (b, true) then (l, none) else ([], some 6)
theorem take_loop (t : Int) (b : List Int) (hb : wfb b) (n : Nat) (hn : n ≤ 1000) (d : Nat) : ∀ (i : Nat) (acc : List S26) (rest : List Int), i + d = n → acc.length = i → wfb rest → (∀ v, v ∈ acc → ok64 v.f1) →
    ∃ r, Ev (fun k => plain_read.l0 k t b acc rest (n : Int) (i : Int)) r ∧ (match readP t d rest with | none => r.1 = [] ∧ ∃ c, r.2 = some c ∧ errG c = 1 | some q => r = endR t b (acc ++ q)) := by
  induction d with
  | zero =>
    intro i acc rest hi ha _ hacc
    refine ⟨endR t b acc, ?_, by show endR t b acc = endR t b (acc ++ []); rw [List.append_nil]⟩
    refine Ev.step (f := fun k => (plain_Put.f k t acc).bind _) (fun k => by simp only [plain_read.l0]; rw [if_neg (by omega)]) (Ev.bind (put_any t acc hacc (by omega)) ?_)
    have hw := putR_wf t acc hacc
    unfold endR
    generalize putR t acc = q at *
    obtain ⟨c, ok⟩ := q
    dsimp only at hw ⊢
    refine Ev.congr (f := fun _ => some (if (c, ok) = (b, true) then (acc, none) else ([], some 6))) (fun k => ?_) (Ev.now _)
    cases ok
    · rw [if_neg (by decide), if_neg (by simp)]
    · rw [if_pos rfl, equal_eq c b hw hb, Option.bind_some]
      by_cases hc : c = b
      · rw [decide_eq_true hc, if_pos rfl, if_pos (by rw [hc])]
      · rw [decide_eq_false hc, if_neg (by decide), if_neg (by intro h; exact hc (Prod.mk.inj h).1)]
  | succ d ih =>
    intro i acc rest hi ha hw hacc
    simp only [readP]
    cases hD : firstR t rest with
    | none =>
      obtain ⟨c, hc, he⟩ := first_none t rest hw hD
      refine ⟨([], some c), ?_, rfl, c, rfl, hc⟩
      refine Ev.step (f := fun k => (plain_first.f k t rest).bind _) (fun k => by simp only [plain_read.l0]; rw [if_pos (by omega)]) (Ev.bind he (Ev.congr (f := fun _ => some _) (fun k => ?_) (Ev.now _)))
      simp
    | some p =>
      obtain ⟨v, m⟩ := p
      have he := first_some t rest hw v m hD
      have hf := firstR_facts t rest hw v m hD
      obtain ⟨r, hr1, hr2⟩ := ih (i + 1) (acc ++ [v]) (rest.drop m) (by omega) (by rw [List.length_append]; simp; omega) (wfb_drop hw m) (fun z hz => by
        rcases List.mem_append.1 hz with h | h
        · exact hacc z h
        · simp at h; subst h; exact hf.2.1)
      refine ⟨r, ?_, ?_⟩
      · refine Ev.step (f := fun k => (plain_first.f k t rest).bind _) (fun k => by simp only [plain_read.l0]; rw [if_pos (by omega)]) (Ev.bind he (Ev.congr (fun k => ?_) hr1))
        dsimp only [Option.isNone]
        rw [if_pos rfl, if_pos (by omega), if_pos (by omega), if_pos (by omega), Int.toNat_natCast, show wrap64 ((i : Int) + 1) = ((i + 1 : Nat) : Int) by unfold wrap64; omega]
      · dsimp only
        cases hq : readP t d (rest.drop m) with
        | none => rw [hq] at hr2; exact hr2
        | some q => rw [hq] at hr2; dsimp only [Option.map] at hr2 ⊢; rw [hr2]; simp
theorem take_of (t n : Int) (b : List Int) (l : List S26) (c : Option Int) (h : Ev (fun k => plain_read.f k t n b) (l, c)) (hc : ∀ x, c = some x → errG x = 1) : Ev (fun k => plain_Take.f k t n b) (l, c.isNone) := by
  refine Ev.congr (f := fun k => (plain_read.f k t n b).bind _) (fun k => by simp only [plain_Take.f]; rfl) (Ev.bind h (Ev.congr (f := fun _ => some (l, c.isNone)) (fun k => ?_) (Ev.now _)))
  cases c with
  | none => simp [errors_IsN.f]
  | some x => simp [errors_IsS.f, hc x rfl]
theorem take_any (t n : Int) (b : List Int) (hb : wfb b) : Ev (fun k => plain_Take.f k t n b) (takeR t n b) := by
  by_cases hn : n < 0 ∨ 1000 < n
  · unfold takeR
    rw [if_pos hn]
    refine take_of t n b [] (some 5) ?_ (fun x hx => by injection hx with hx; subst hx; decide)
    have hj : Ev (fun k => plain_read.j0 k t n b ([] : List S26) true) ([], some 5) := by
      refine Ev.step (f := fun _ => some ([], some 5)) (fun k => ?_) (Ev.now _)
      simp only [plain_read.j0, if_true]
    refine Ev.congr (fun k => ?_) hj
    simp only [plain_read.f]
    by_cases h : n < 0
    · rw [if_pos h]
    · rw [if_neg h, decide_eq_true (by omega)]
  · obtain ⟨m, rfl⟩ := Int.eq_ofNat_of_zero_le (show 0 ≤ n by omega)
    obtain ⟨q, h, hq⟩ := take_loop t b hb m (by omega) m 0 [] b (by omega) rfl hb (fun v hv => by simp at hv)
    have hj : Ev (fun k => plain_read.f k t (m : Int) b) q := by
      refine Ev.congr (f := fun k => plain_read.j0 k t (m : Int) b ([] : List S26) false) (fun k => ?_) (Ev.step (fun k => ?_) h)
      · simp only [plain_read.f]
        rw [if_neg (by omega), decide_eq_false (by omega)]
      · simp only [plain_read.j0, Bool.false_eq_true, if_false]
        rfl
    unfold takeR
    rw [if_neg hn, Int.toNat_natCast]
    cases hr : readP t m b with
    | none =>
      rw [hr] at hq
      obtain ⟨h1, c, h2, h3⟩ := hq
      obtain ⟨q1, q2⟩ := q
      dsimp only at h1 h2
      subst h1 h2
      exact take_of t m b [] (some c) hj (fun x hx => by injection hx with hx; subst hx; exact h3)
    | some r =>
      rw [hr] at hq
      dsimp only at hq ⊢
      rw [List.nil_append] at hq
      subst hq
      unfold endR at hj
      by_cases hp : putR t r = (b, true)
      · rw [if_pos hp] at hj ⊢
        exact take_of t m b r none hj (fun x hx => by cases hx)
      · rw [if_neg hp] at hj ⊢
        exact take_of t m b [] (some 6) hj (fun x hx => by injection hx with hx; subst hx; decide)
theorem rread_loop (t : Int) (ht : isT t = true) (n : Nat) (hn : n ≤ 1000) (d : Nat) : ∀ (i : Nat) (acc : List S26) (rest : List Int), i + d = n → acc.length = i → wfb rest →
    Ev (fun k => rabbetref1_read.l0 k t (n : Int) rest acc) (match readQ t d rest with | none => ([], false) | some r => (acc ++ r, true)) := by
  induction d with
  | zero =>
    intro i acc rest hi ha _
    show Ev _ (acc ++ [], true)
    rw [List.append_nil]
    refine Ev.step (f := fun _ => some (acc, true)) (fun k => ?_) (Ev.now _)
    simp only [rabbetref1_read.l0]
    rw [if_neg (by omega)]
  | succ d ih =>
    intro i acc rest hi ha hw
    have he := takeOne_ev t rest hw
    simp only [readQ]
    cases hD : firstR t rest with
    | none =>
      have e : oneR t rest = (0, 0, (⟨#[]⟩ : ByteArray), 0, false) := by unfold oneR; rw [hD]
      rw [e] at he
      refine Ev.step (f := fun k => (rabbetref1_takeOne.f k t rest).bind _) (fun k => by simp only [rabbetref1_read.l0]; rw [if_pos (by omega)]) (Ev.bind he (Ev.congr (f := fun _ => some ([], false)) (fun k => ?_) (Ev.now _)))
      rw [if_neg (by decide)]
    | some p =>
      obtain ⟨v, m⟩ := p
      have hf := firstR_facts t rest hw v m hD
      have e : oneR t rest = (v.f0, v.f1, v.f2, (m : Int), mayB v) := by unfold oneR; rw [hD]; dsimp only; rw [ht, Bool.and_true]
      rw [e] at he
      dsimp only
      by_cases hv : mayB v = true
      · rw [if_pos hv]
        rw [hv] at he
        have hih := ih (i + 1) (acc ++ [v]) (rest.drop m) (by omega) (by rw [List.length_append]; simp; omega) (wfb_drop hw m)
        have e2 : (match (readQ t d (rest.drop m)).map (fun r => v :: r) with | none => (([] : List S26), false) | some r => (acc ++ r, true)) = (match readQ t d (rest.drop m) with | none => ([], false) | some r => (acc ++ [v] ++ r, true)) := by
          cases readQ t d (rest.drop m) with
          | none => rfl
          | some r => simp
        rw [e2]
        refine Ev.step (f := fun k => (rabbetref1_takeOne.f k t rest).bind _) (fun k => by simp only [rabbetref1_read.l0]; rw [if_pos (by omega)]) (Ev.bind he (Ev.congr (fun k => ?_) hih))
        dsimp only
        rw [if_pos rfl, if_pos (by omega), if_pos (by omega), if_pos (by omega), Int.toNat_natCast]
      · have hvf : mayB v = false := by simpa using hv
        rw [if_neg hv]
        rw [hvf] at he
        refine Ev.step (f := fun k => (rabbetref1_takeOne.f k t rest).bind _) (fun k => by simp only [rabbetref1_read.l0]; rw [if_pos (by omega)]) (Ev.bind he (Ev.congr (f := fun _ => some ([], false)) (fun k => ?_) (Ev.now _)))
        rw [if_neg (by simp)]
theorem dec_any (t n : Int) (b : List Int) (hb : wfb b) : Ev (fun k => rabbetref1_Decode.f k 1 t n b) (takeR t n b) := by
  have hno : Ev (fun k => rabbetref1_Decode.j0 k 1 t n b true) ([], false) := by
    refine Ev.step (f := fun _ => some ([], false)) (fun k => ?_) (Ev.now _)
    simp only [rabbetref1_Decode.j0, if_true]
  by_cases hn : n < 0 ∨ 1000 < n
  · unfold takeR
    rw [if_pos hn]
    refine Ev.congr (fun k => ?_) hno
    simp only [rabbetref1_Decode.f]
    by_cases h : n < 0
    · rw [if_pos h]
    · rw [if_neg h, if_pos (by omega)]
  · obtain ⟨m, rfl⟩ := Int.eq_ofNat_of_zero_le (show 0 ≤ n by omega)
    have hstep : ∀ k, rabbetref1_Decode.f k 1 t (m : Int) b = rabbetref1_Decode.j0 k 1 t (m : Int) b (!(isT t)) := by
      intro k
      simp only [rabbetref1_Decode.f]
      rw [if_neg (by omega), if_neg (by omega), isType_ev, Option.bind_some]
    refine Ev.congr hstep ?_
    unfold takeR
    rw [if_neg hn, Int.toNat_natCast]
    by_cases ht : isT t = true
    · rw [ht]
      have h := rread_loop t ht m (by omega) m 0 [] b (by omega) rfl hb
      have hrd : Ev (fun k => rabbetref1_read.f k 1 t (m : Int) b) (match readQ t m b with | none => ([], false) | some r => ([] ++ r, true)) := by
        refine Ev.congr (fun k => ?_) h
        simp only [rabbetref1_read.f]
        rw [if_pos trivial]
      have hfail : readQ t m b = none → Ev (fun k => rabbetref1_Decode.j0 k 1 t (m : Int) b (!true)) ([], false) := fun hq => by
        rw [hq] at hrd
        dsimp only at hrd
        refine Ev.step (f := fun k => (rabbetref1_read.f k 1 t (m : Int) b).bind _) (fun k => by simp only [rabbetref1_Decode.j0, Bool.not_true, Bool.false_eq_true, if_false]; rfl) (Ev.bind hrd ?_)
        refine Ev.bind (enc_any t [] (fun v hv => by simp at hv) (by simp)) (Ev.congr (f := fun _ => some ([], false)) (fun k => ?_) (Ev.now _))
        rw [if_neg (by decide)]
      have hq := readQ_eq t m b
      cases hr : readP t m b with
      | none =>
        rw [hr] at hq
        exact hfail hq
      | some r =>
        rw [hr] at hq
        dsimp only at hq ⊢
        have hfacts := readP_facts _ _ _ _ hb hr
        by_cases hall : r.all mayB = true
        · rw [if_pos hall] at hq
          rw [hq] at hrd
          dsimp only at hrd
          rw [List.nil_append] at hrd
          refine Ev.step (f := fun k => (rabbetref1_read.f k 1 t (m : Int) b).bind _) (fun k => by simp only [rabbetref1_Decode.j0, Bool.not_true, Bool.false_eq_true, if_false]; rfl) (Ev.bind hrd ?_)
          refine Ev.bind (enc_any t r (fun v hv => (hfacts.2 v hv).2) (by omega)) ?_
          have hw := putR_wf t r (fun v hv => (hfacts.2 v hv).2)
          generalize putR t r = q at *
          obtain ⟨c, ok⟩ := q
          dsimp only at hw ⊢
          refine Ev.congr (f := fun _ => some (if (c, ok) = (b, true) then (r, true) else ([], false))) (fun k => ?_) (Ev.now _)
          rw [if_pos rfl]
          cases ok
          · rw [if_neg (by decide), if_neg (by simp)]
          · rw [if_pos rfl, if_pos (by omega)]
            by_cases hc : c = b
            · rw [if_pos (by rw [hc]), if_pos (by rw [hc])]
            · rw [if_neg (fun h => hc ((MStr.str_eq c b hw hb).1 h)), if_neg (by intro h; exact hc (Prod.mk.inj h).1)]
        · rw [if_neg hall] at hq
          have hp : putR t r = ([], false) := by
            unfold putR
            rw [if_neg]
            intro h
            apply hall
            rw [List.all_eq_true]
            intro v hv
            exact (right_okv h v hv).2.1
          rw [hp, if_neg (by simp)]
          exact hfail hq
    · have hf : isT t = false := by simpa using ht
      rw [hf]
      have hpt : ∀ l, putR t l ≠ (b, true) := by
        intro l
        unfold putR rightB
        rw [hf, Bool.false_and, if_neg (by decide)]
        simp
      have hres : (match readP t m b with | none => (([] : List S26), false) | some l => if putR t l = (b, true) then (l, true) else ([], false)) = ([], false) := by
        cases readP t m b with
        | none => rfl
        | some l => dsimp only; rw [if_neg (hpt l)]
      rw [hres]
      exact hno
-- theorem takes : BLPlainTurned.Takes := fun t n b hb _ => ⟨takeR t n b, takeR_len t n b hb, take_any t n b hb, dec_any t n b hb⟩
theorem takesW (t n : Int) (b : List Int) (hb : wfb b) : ∃ r : List S26 × Bool, r.1.length ≤ 1000 ∧ Ev (fun k => plain_Take.f k t n b) r ∧ Ev (fun k => rabbetref1_Decode.f k 1 t n b) r := ⟨takeR t n b, takeR_len t n b hb, take_any t n b hb, dec_any t n b hb⟩
theorem encW (t : Int) (l : List S26) (hl : l.length ≤ 30) (hok : ∀ v, v ∈ l → okv v) : ∃ r : List Int × Bool, wfb r.1 ∧ Ev (fun k => rabbetref1_Encode.f k 1 t l) r := ⟨putR t l, putR_wf t l (fun v hv => (hok v hv).1), enc_any t l (fun v hv => (hok v hv).1) (by omega)⟩
end Go.Proofs.YtgbammocbjghjaaDoor.BDPlainTurned
