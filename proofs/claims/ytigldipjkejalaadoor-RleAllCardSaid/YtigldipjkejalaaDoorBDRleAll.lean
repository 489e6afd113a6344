/- rle: what is put and what is taken, by the program and by the document, of any values and any bytes. Conditions: none. -/
import Derived.Test.YtigldipjkejalaaDoorBORleAll
import Derived.Test.YtigldipjkejalaaDoorBLRleAll
import Derived.Test.YtigldipjkejalaaDoorPRleAllx13
namespace Go.Proofs.YtigldipjkejalaaDoor.BDRleAll
open Go.RowKit Go.Proofs.YtigldipjkejalaaDoor.PRleAll Go.Proofs.YtigldipjkejalaaDoorW.PrintWords Go.Proofs.YtigldipjkejalaaDoorW.PrintLast Go.Proofs.YtigldipjkejalaaDoorW.PrintMore Go.Proofs.YtigldipjkejalaaDoor.MNum Go.Proofs.YtigldipjkejalaaDoor.MStr Go.Proofs.YtigldipjkejalaaDoor.BWRleAll Go.Proofs.YtigldipjkejalaaDoor.BORleAll
set_option linter.unusedVariables false

/-! ### runs -/
def eqv (a b : S26) : Bool := (a.f0 == b.f0 && (a.f1 == b.f1 && (a.f2.toList == b.f2.toList)))
theorem str_inj (a b : ByteArray) (h : a.toList = b.toList) : a = b := by
  rw [ByteArray.toList_eq, ByteArray.toList_eq] at h
  obtain ⟨⟨l⟩⟩ := a
  obtain ⟨⟨m⟩⟩ := b
  have h' : l = m := h
  rw [h']
theorem eqv_eq (a b : S26) (h : eqv a b = true) : a = b := by
  unfold eqv at h
  rw [Bool.and_eq_true, Bool.and_eq_true] at h
  obtain ⟨h1, h2, h3⟩ := h
  obtain ⟨a0, a1, a2⟩ := a
  obtain ⟨b0, b1, b2⟩ := b
  dsimp only at h1 h2 h3
  rw [eq_of_beq h1, eq_of_beq h2, str_inj a2 b2 (eq_of_beq h3)]
def lead (v : S26) : List S26 → Nat
  | [] => 0
  | x :: r => if eqv x v = true then lead v r + 1 else 0
theorem lead_le (v : S26) : ∀ r : List S26, lead v r ≤ r.length
  | [] => Nat.le_refl _
  | x :: r => by
    have := lead_le v r
    unfold lead
    split
    · rw [List.length_cons]; omega
    · omega
theorem rd_succ (x : S26) (r : List S26) (j : Nat) : rd_T26 (x :: r) ((j + 1 : Nat) : Int) = rd_T26 r (j : Int) := rfl
theorem lead_at (v : S26) : ∀ (r : List S26) (j : Nat), j < lead v r → eqv (rd_T26 r (j : Int)) v = true
  | [], j, h => by simp [lead] at h
  | x :: r, j, h => by
    unfold lead at h
    by_cases e : eqv x v = true
    · rw [if_pos e] at h
      cases j with
      | zero => exact e
      | succ j => rw [rd_succ]; exact lead_at v r j (by omega)
    · rw [if_neg e] at h; omega
theorem lead_end (v : S26) : ∀ r : List S26, lead v r < r.length → eqv (rd_T26 r (lead v r : Int)) v = false
  | [], h => by simp at h
  | x :: r, h => by
    by_cases e : eqv x v = true
    · have e1 : lead v (x :: r) = lead v r + 1 := by rw [lead, if_pos e]
      rw [e1] at h ⊢
      rw [rd_succ]
      exact lead_end v r (by rw [List.length_cons] at h; omega)
    · have e1 : lead v (x :: r) = 0 := by rw [lead, if_neg e]
      rw [e1]
      exact (by simpa using e : eqv x v = false)
theorem lead_take (v : S26) : ∀ r : List S26, r.take (lead v r) = List.replicate (lead v r) v
  | [] => rfl
  | x :: r => by
    by_cases e : eqv x v = true
    · have e1 : lead v (x :: r) = lead v r + 1 := by rw [lead, if_pos e]
      rw [e1, List.take_succ_cons, List.replicate_succ, lead_take v r, eqv_eq x v e]
    · have e1 : lead v (x :: r) = 0 := by rw [lead, if_neg e]
      rw [e1]; rfl
theorem lead_back (v : S26) (r : List S26) : List.replicate (1 + lead v r) v ++ r.drop (lead v r) = v :: r := by
  rw [Nat.add_comm, List.replicate_succ, ← lead_take v r, List.cons_append, List.take_append_drop]
def encR : Nat → List S26 → List Int
  | 0, _ => []
  | _ + 1, [] => []
  | d + 1, v :: r => E 9 (1 + lead v r) ++ enc v ++ encR d (r.drop (lead v r))
theorem encR_wf (d : Nat) : ∀ l : List S26, (∀ v, v ∈ l → ok64 v.f1) → l.length ≤ 1000 → wfb (encR d l) := by
  induction d with
  | zero => intro l _ _ x hx; simp [encR] at hx
  | succ d ih =>
    intro l hl hn
    cases l with
    | nil => intro x hx; simp [encR] at hx
    | cons v r =>
      have := lead_le v r
      rw [List.length_cons] at hn
      unfold encR
      refine wfb_app (wfb_app (E_wf 9 _ (nine _ (by omega))) (enc_wf v (hl v List.mem_cons_self))) (ih _ (fun z hz => hl z (List.mem_cons_of_mem _ (List.mem_of_mem_drop hz))) (by rw [List.length_drop]; omega))
def putR (t : Int) (l : List S26) : List Int × Bool := if rightB t l = true then (encR l.length l, true) else ([], false)
theorem right_okv {t : Int} {l : List S26} (h : rightB t l = true) (v : S26) (hv : v ∈ l) : v.f0 = t ∧ mayB v = true ∧ v.f2.size ≤ 20 := by
  unfold rightB at h
  rw [Bool.and_eq_true] at h
  have := (List.all_eq_true.1 h.2) v hv
  unfold okB at this
  rw [Bool.and_eq_true] at this
  exact ⟨eq_of_beq this.1, this.2, may_size v this.2⟩
theorem wrap_nat (n : Nat) (h : n ≤ 100000) : IntKind.u64.wrap (n : Int) = (n : Int) := by rw [u64_wrap]; omega
theorem put_run (v : S26) (r : List S26) (acc : List Int) (hn : r.length ≤ 1000) (q : List Int × Bool)
    (hq : Ev (fun k => (num_Put.f k ((1 + lead v r : Nat) : Int)).bind fun x => (if acc.length + x.length < 140737488355328 then ((rle_one.f k (acc ++ x) v.f0 v.f1 v.f2).bind fun y => rle_Put.l0 k (r.drop (lead v r)) y) else none)) q) (d : Nat) :
    ∀ n : Nat, n + d = lead v r + 1 → 1 ≤ n → Ev (fun k => rle_Put.l1 k (v :: r) acc (n : Int)) q := by
  have hle := lead_le v r
  induction d with
  | zero =>
    intro n h h1
    obtain rfl : n = lead v r + 1 := by omega
    refine Ev.step (fun k => ?_) hq
    have e0 : rd_T26 (v :: r) 0 = v := rfl
    have ed : (v :: r).drop (((lead v r + 1 : Nat) : Int)).toNat = r.drop (lead v r) := by rw [Int.toNat_natCast, List.drop_succ_cons]
    simp only [rle_Put.l1]
    rw [e0, wrap_nat _ (by omega), ed, rd_succ]
    rw [show ((lead v r + 1 : Nat) : Int) = ((1 + lead v r : Nat) : Int) by omega]
    have hl : (v :: r).length = r.length + 1 := rfl
    by_cases hlt : lead v r < r.length
    · have he := lead_end v r hlt
      unfold eqv at he
      rw [if_pos (by omega), if_pos (by omega), if_pos (by omega), he, if_neg (by decide)]
      congr 1
      funext x
      congr 2
      funext y
      rw [if_pos (by omega)]
    · rw [if_neg (by omega)]
      congr 1
      funext x
      congr 1
      rw [if_pos (by omega)]
      congr 1
      funext y
      rw [if_pos (by omega), if_pos (by omega)]
  | succ d ih =>
    intro n h h1
    obtain ⟨j, rfl⟩ : ∃ j, n = j + 1 := ⟨n - 1, by omega⟩
    refine Ev.step (fun k => ?_) (ih (j + 1 + 1) (by omega) (by omega))
    have e0 : rd_T26 (v :: r) 0 = v := rfl
    have he := lead_at v r j (by omega)
    have hl : (v :: r).length = r.length + 1 := rfl
    unfold eqv at he
    simp only [rle_Put.l1]
    rw [e0, rd_succ, if_pos (by omega), if_pos (by omega), if_pos (by omega), if_pos he, show wrap64 (((j + 1 : Nat) : Int) + 1) = ((j + 1 + 1 : Nat) : Int) by unfold wrap64; omega]
theorem put_loop (d : Nat) : ∀ (l : List S26) (acc : List Int), l.length ≤ d → d ≤ 1000 → (∀ v, v ∈ l → ok64 v.f1 ∧ v.f2.size ≤ 40) → acc.length + 51 * d ≤ 100000 → Ev (fun k => rle_Put.l0 k l acc) (acc ++ encR d l, true) := by
  induction d with
  | zero =>
    intro l acc hl _ _ _
    obtain rfl : l = [] := List.eq_nil_of_length_eq_zero (by omega)
    refine Ev.step (f := fun _ => some (acc ++ encR 0 [], true)) (fun k => ?_) (Ev.now _)
    simp only [rle_Put.l0]
    rw [if_neg (by simp)]
    simp [encR]
  | succ d ih =>
    intro l acc hl hd hv ha
    cases l with
    | nil =>
      refine Ev.step (f := fun _ => some (acc ++ encR (d + 1) [], true)) (fun k => ?_) (Ev.now _)
      simp only [rle_Put.l0]
      rw [if_neg (by simp)]
      simp [encR]
    | cons v r =>
      rw [List.length_cons] at hl
      have hle := lead_le v r
      have h1 := hv v List.mem_cons_self
      have hE := E_le 9 (1 + lead v r)
      have hec := enc_le v h1.2
      refine Ev.step (fun k => ?_) (put_run v r acc (by omega) _ ?_ (lead v r) 1 (by omega) (by omega))
      · simp only [rle_Put.l0]
        rw [if_pos (by simp)]
        rfl
      · refine Ev.bind (BRleAll.put_ev (1 + lead v r) (by omega)) (Ev.congr (f := fun k => (rle_one.f k (acc ++ E 9 (1 + lead v r)) v.f0 v.f1 v.f2).bind fun y => rle_Put.l0 k (r.drop (lead v r)) y) (fun k => by rw [if_pos (by omega)]) (Ev.bind (one_ev v h1.1 h1.2 _ (by rw [List.length_append]; omega)) ?_))
        have hih := ih (r.drop (lead v r)) (acc ++ E 9 (1 + lead v r) ++ enc v) (by rw [List.length_drop]; omega) (by omega) (fun z hz => hv z (List.mem_cons_of_mem _ (List.mem_of_mem_drop hz))) (by rw [List.length_append, List.length_append]; omega)
        rw [encR, show acc ++ (E 9 (1 + lead v r) ++ enc v ++ encR d (r.drop (lead v r))) = acc ++ E 9 (1 + lead v r) ++ enc v ++ encR d (r.drop (lead v r)) by simp]
        exact hih
theorem put_any (t : Int) (l : List S26) (hok : ∀ v, v ∈ l → ok64 v.f1) (hn : l.length ≤ 1000) : Ev (fun k => rle_Put.f k t l) (putR t l) := by
  refine Ev.congr (f := fun k => (rle_of.f k t l).bind fun x => (if x = true then (rle_Put.l0 k l ([] : List Int)) else (some (([] : List Int), false)))) (fun k => rfl) (Ev.bind (of_ev t l hn) ?_)
  unfold putR
  by_cases hr : rightB t l = true
  · have h := put_loop l.length l [] (Nat.le_refl _) hn (fun v hv => ⟨hok v hv, Nat.le_trans (right_okv hr v hv).2.2 (by decide)⟩) (by simp; omega)
    rw [List.nil_append] at h
    rw [if_pos hr]
    refine Ev.congr (fun k => ?_) h
    rw [if_pos hr]
  · rw [if_neg hr]
    exact Ev.congr (fun k => by rw [if_neg hr]) (Ev.now _)

/-! ### by the document -/
theorem rd_drop (l : List S26) (i j : Nat) : rd_T26 l ((i + j : Nat) : Int) = rd_T26 (l.drop i) (j : Int) := by
  simp [rd_T26, List.getD_eq_getElem?_getD, List.getElem?_drop]
  try rfl
theorem enc_run (l : List S26) (hn : l.length ≤ 1000) (i : Nat) (v : S26) (r : List S26) (e : l.drop i = v :: r) (acc : List Int) (q : List Int × Bool)
    (hq : Ev (fun k => (rabbetref1_PutNum.f k ((1 + lead v r : Nat) : Int)).bind fun x => (if acc.length + x.length < 140737488355328 then ((rabbetref1_one.f k v.f0 v.f1 v.f2).bind fun y => (if (acc ++ x).length + y.length < 140737488355328 then (rabbetref1_Encode.l1 k l (acc ++ x ++ y) ((i + (1 + lead v r) : Nat) : Int)) else none)) else none)) q) (d : Nat) :
    ∀ n : Nat, n + d = lead v r + 1 → 1 ≤ n → Ev (fun k => rabbetref1_Encode.l2 k l acc (i : Int) (n : Int)) q := by
  have hle := lead_le v r
  have hlen : l.length = i + (r.length + 1) := by
    have h1 : (l.drop i).length = r.length + 1 := by rw [e]; rfl
    rw [List.length_drop] at h1
    omega
  have e0 : rd_T26 l (i : Int) = v := by
    have := rd_drop l i 0
    rw [Nat.add_zero, e] at this
    rw [this]; rfl
  have es : ∀ j : Nat, rd_T26 l (((i : Nat) : Int) + ((j + 1 : Nat) : Int)) = rd_T26 r (j : Int) := fun j => by
    have := rd_drop l i (j + 1)
    rw [e, rd_succ] at this
    rw [← this]
    congr 1
  induction d with
  | zero =>
    intro n h h1
    obtain rfl : n = lead v r + 1 := by omega
    refine Ev.step (fun k => ?_) hq
    have hw : wrap64 ((i : Int) + ((lead v r + 1 : Nat) : Int)) = (i : Int) + ((lead v r + 1 : Nat) : Int) := by unfold wrap64; omega
    simp only [rabbetref1_Encode.l2]
    rw [hw, es, e0, wrap_nat _ (by omega)]
    rw [show (i : Int) + ((lead v r + 1 : Nat) : Int) = ((i + (1 + lead v r) : Nat) : Int) by omega, show ((lead v r + 1 : Nat) : Int) = ((1 + lead v r : Nat) : Int) by omega]
    by_cases hlt : lead v r < r.length
    · have he := lead_end v r hlt
      unfold eqv at he
      rw [if_pos (by omega), if_pos (by omega), if_pos (by omega), if_pos (by omega), he, if_neg (by decide)]
      try rfl
    · rw [if_neg (by omega)]
      congr 1
      funext x
      congr 1
      rw [Option.bind_some, if_pos (by omega), if_pos (by omega)]
  | succ d ih =>
    intro n h h1
    obtain ⟨j, rfl⟩ : ∃ j, n = j + 1 := ⟨n - 1, by omega⟩
    refine Ev.step (fun k => ?_) (ih (j + 1 + 1) (by omega) (by omega))
    have hw : wrap64 ((i : Int) + ((j + 1 : Nat) : Int)) = (i : Int) + ((j + 1 : Nat) : Int) := by unfold wrap64; omega
    have he := lead_at v r j (by omega)
    unfold eqv at he
    simp only [rabbetref1_Encode.l2]
    rw [hw, es, e0, if_pos (by omega), if_pos (by omega), if_pos (by omega), if_pos (by omega), if_pos he, show wrap64 (((j + 1 : Nat) : Int) + 1) = ((j + 1 + 1 : Nat) : Int) by unfold wrap64; omega]
theorem enc_loop (l : List S26) (hl : ∀ v, v ∈ l → ok64 v.f1 ∧ v.f2.size ≤ 40) (hn : l.length ≤ 1000) (d : Nat) : ∀ (i : Nat) (acc : List Int), l.length ≤ i + d → i ≤ l.length → d ≤ 1000 → acc.length + 51 * d ≤ 100000 →
    Ev (fun k => rabbetref1_Encode.l1 k l acc (i : Int)) (acc ++ encR d (l.drop i), true) := by
  induction d with
  | zero =>
    intro i acc hi _ _ ha
    rw [List.drop_eq_nil_of_le (by omega)]
    refine Ev.step (f := fun _ => some (acc ++ encR 0 [], true)) (fun k => ?_) (Ev.now _)
    simp only [rabbetref1_Encode.l1]
    rw [if_neg (by omega)]
    simp [encR]
  | succ d ih =>
    intro i acc hi hle hd ha
    cases hdr : l.drop i with
    | nil =>
      have h0 : (l.drop i).length = 0 := by rw [hdr]; rfl
      rw [List.length_drop] at h0
      refine Ev.step (f := fun _ => some (acc ++ encR (d + 1) [], true)) (fun k => ?_) (Ev.now _)
      simp only [rabbetref1_Encode.l1]
      rw [if_neg (by omega)]
      simp [encR]
    | cons v r =>
      have h0 : (l.drop i).length = r.length + 1 := by rw [hdr]; rfl
      rw [List.length_drop] at h0
      have hld := lead_le v r
      have h1 := hl v (List.mem_of_mem_drop (by rw [hdr]; exact List.mem_cons_self) : v ∈ l)
      have hE := E_le 9 (1 + lead v r)
      have hec := enc_le v h1.2
      refine Ev.step (fun k => ?_) (enc_run l hn i v r hdr acc _ ?_ (lead v r) 1 (by omega) (by omega))
      · simp only [rabbetref1_Encode.l1]
        rw [if_pos (by omega)]
        rfl
      · refine Ev.bind (BRRleAll.rput_ev (1 + lead v r) (by omega)) (Ev.congr (f := fun k => (rabbetref1_one.f k v.f0 v.f1 v.f2).bind fun y => (if (acc ++ E 9 (1 + lead v r)).length + y.length < 140737488355328 then (rabbetref1_Encode.l1 k l (acc ++ E 9 (1 + lead v r) ++ y) ((i + (1 + lead v r) : Nat) : Int)) else none)) (fun k => by rw [if_pos (by omega)]) (Ev.bind (rone_ev v h1.1 h1.2) ?_))
        have hih := ih (i + (1 + lead v r)) (acc ++ E 9 (1 + lead v r) ++ enc v) (by omega) (by omega) (by omega) (by rw [List.length_append, List.length_append]; omega)
        have hdd : l.drop (i + (1 + lead v r)) = r.drop (lead v r) := by
          rw [← List.drop_drop, hdr, Nat.add_comm 1, List.drop_succ_cons]
        rw [hdd] at hih
        rw [encR, show acc ++ (E 9 (1 + lead v r) ++ enc v ++ encR d (r.drop (lead v r))) = acc ++ E 9 (1 + lead v r) ++ enc v ++ encR d (r.drop (lead v r)) by simp]
        exact Ev.congr (fun k => by rw [if_pos (by rw [List.length_append]; omega)]) hih
theorem enc_any (t : Int) (l : List S26) (hok : ∀ v, v ∈ l → ok64 v.f1) (hn : l.length ≤ 1000) : Ev (fun k => rabbetref1_Encode.f k 2 t l) (putR t l) := by
  refine Ev.congr (f := fun k => (rabbetref1_right.f k t l).bind _) (fun k => by simp only [rabbetref1_Encode.f]; rfl) (Ev.bind (right_ev t l hn) ?_)
  unfold putR
  by_cases hr : rightB t l = true
  · have h := enc_loop l (fun v hv => ⟨hok v hv, Nat.le_trans (right_okv hr v hv).2.2 (by decide)⟩) hn l.length 0 [] (by omega) (by omega) hn (by simp; omega)
    rw [List.nil_append, List.drop_zero] at h
    rw [if_pos hr]
    have hj : Ev (fun k => rabbetref1_Encode.j0 k 2 l false) (encR l.length l, true) := by
      refine Ev.step (fun k => ?_) h
      simp only [rabbetref1_Encode.j0, Bool.false_eq_true, if_false]
      rw [if_neg (by decide), if_pos trivial]
      rfl
    refine Ev.congr (fun k => ?_) hj
    rw [if_pos hr, if_neg (by decide), if_neg (by decide)]
  · rw [if_neg hr]
    have hj : Ev (fun k => rabbetref1_Encode.j0 k 2 l true) ([], false) := by
      refine Ev.step (f := fun _ => some ([], false)) (fun k => ?_) (Ev.now _)
      simp only [rabbetref1_Encode.j0, if_true]
    exact Ev.congr (fun k => by rw [if_neg hr]) hj
theorem puts : BLRleAll.Puts := fun t l hl hok => ⟨putR t l, put_any t l (fun v hv => (hok v hv).1) (by omega), enc_any t l (fun v hv => (hok v hv).1) (by omega)⟩

/-! ### one value, there and back -/
theorem may_facts (v : S26) (h : mayB v = true) : (v.f0 = 1 ∨ v.f0 = 2 → v.f2 = (⟨#[]⟩ : ByteArray)) ∧ (v.f0 = 3 → (v.f1 = 0 ∨ v.f1 = 1) ∧ v.f2 = (⟨#[]⟩ : ByteArray)) ∧ (v.f0 = 4 → v.f1 = 0) := by
  have he : ∀ s : ByteArray, (s.toList == ([] : List UInt8)) = true → s = (⟨#[]⟩ : ByteArray) := fun s hs => of_empty s (by simpa using hs)
  unfold mayB value_May.f at h
  by_cases h1 : v.f0 = 1
  · rw [if_pos h1] at h
    refine ⟨fun _ => ?_, fun h' => by omega, fun h' => by omega⟩
    by_cases h2 : v.f1 < -32768
    · rw [if_pos h2] at h; cases h
    rw [if_neg h2] at h
    by_cases h3 : v.f1 > 32767
    · rw [if_pos h3] at h; cases h
    rw [if_neg h3] at h
    exact he _ h
  rw [if_neg h1] at h
  by_cases h2 : v.f0 = 2
  · rw [if_pos h2] at h; exact ⟨fun _ => he _ h, fun h' => by omega, fun h' => by omega⟩
  rw [if_neg h2] at h
  by_cases h0 : v.f0 = 0
  · exact ⟨fun h' => by omega, fun h' => by omega, fun h' => by omega⟩
  rw [if_neg h0] at h
  by_cases h3 : v.f0 = 3
  · rw [if_pos h3] at h
    refine ⟨fun h' => by omega, fun _ => ?_, fun h' => by omega⟩
    by_cases h5 : v.f1 = 0
    · rw [if_pos h5] at h; exact ⟨.inl h5, he _ h⟩
    rw [if_neg h5] at h
    by_cases h6 : v.f1 = 1
    · rw [if_pos h6] at h; exact ⟨.inr h6, he _ h⟩
    · rw [if_neg h6] at h; cases h
  rw [if_neg h3] at h
  by_cases h4 : v.f0 = 4
  · rw [if_pos h4] at h
    refine ⟨fun h' => by omega, fun h' => by omega, fun _ => ?_⟩
    by_cases h5 : v.f1 = 0
    · exact h5
    · rw [if_neg h5] at h; cases h
  rw [if_neg h4] at h
  cases h
theorem str_bytes (s : ByteArray) : strOfNums (bytesOf s) = s := by
  have h : (bytesOf s).map (fun n => UInt8.ofNat n.toNat) = s.data.toList := by
    unfold bytesOf
    rw [List.map_map]
    conv => rhs; rw [← List.map_id s.data.toList]
    refine List.map_congr_left (fun b _ => ?_)
    simp
  unfold strOfNums
  rw [h]
theorem first_enc (t : Int) (ht : isT t = true) (v : S26) (h0 : v.f0 = t) (hm : mayB v = true) (hok : ok64 v.f1) (s : List Int) : firstR t (enc v ++ s) = some (v, (enc v).length) := by
  have h14 := of_decide_eq_true ht
  have hf := may_facts v hm
  have hsz := may_size v hm
  obtain ⟨v0, v1, v2⟩ := v
  dsimp only at h0 hf hsz hok
  subst h0
  by_cases h3 : v0 = 3
  · subst h3
    obtain ⟨h5, h6⟩ := hf.2.1 rfl
    subst h6
    have e : enc (⟨3, v1, (⟨#[]⟩ : ByteArray)⟩ : S26) = [v1] := by
      unfold enc
      rw [if_pos rfl]
      rcases h5 with h5 | h5 <;> subst h5 <;> rfl
    rw [e]
    unfold firstR
    rw [if_neg (by omega), if_neg (by simp), if_pos rfl]
    rfl
  by_cases h4 : v0 = 4
  · subst h4
    have h5 := hf.2.2 rfl
    subst h5
    have e : enc (⟨4, 0, v2⟩ : S26) = (v2.size : Int) :: bytesOf v2 := by
      unfold enc
      rw [if_neg (show ¬ (4 : Int) = 3 by decide), if_pos rfl]
      dsimp only
      rw [show (v2.size : Int) % 256 = (v2.size : Int) by omega]
    rw [e]
    unfold firstR
    have hr : rd ((v2.size : Int) :: bytesOf v2 ++ s) 0 = (v2.size : Int) := rfl
    have htk : ((v2.size : Int) :: bytesOf v2 ++ s).take (1 + (v2.size : Int)).toNat = (v2.size : Int) :: bytesOf v2 := by
      rw [show (1 + (v2.size : Int)).toNat = ((v2.size : Int) :: bytesOf v2).length by simp [bytesOf_length]; omega]
      exact List.take_left
    rw [if_neg (by omega), if_neg (by simp), if_neg (by decide), hr, if_neg (by simp [bytesOf_length]; omega), htk, List.drop_one, List.tail_cons, str_bytes]
    congr 2
    rw [List.length_cons, bytesOf_length]
    omega
  · have h6 := hf.1 (by omega)
    subst h6
    obtain ⟨u, h1, h2, e1⟩ := zig_nat v1 hok
    have e : enc (⟨v0, v1, (⟨#[]⟩ : ByteArray)⟩ : S26) = E 9 u := by
      unfold enc
      rw [if_neg h3, if_neg h4, e1]
    rw [e]
    unfold firstR
    rw [if_pos ⟨h3, h4⟩, D_E 9 u true s (nine u h2) (.inl rfl)]
    dsimp only
    rw [← h1, zag_zig]

theorem first_le (t : Int) (l : List Int) (hl : wfb l) (v : S26) (q : Nat) (h : firstR t l = some (v, q)) : q ≤ 256 := by
  unfold firstR at h
  by_cases c : t ≠ 3 ∧ t ≠ 4
  · rw [if_pos c] at h
    cases hD : D 10 true l with
    | none => rw [hD] at h; cases h
    | some p =>
      obtain ⟨u, m⟩ := p
      rw [hD] at h
      injection h with h
      injection h with h1 h2
      have := D_le 10 true l u m hD
      omega
  rw [if_neg c] at h
  by_cases c1 : l.length = 0
  · rw [if_pos c1] at h; cases h
  rw [if_neg c1] at h
  have h0 := rd0 l hl (by omega)
  by_cases c2 : t = 3
  · rw [if_pos c2] at h
    injection h with h
    injection h with h1 h2
    omega
  rw [if_neg c2] at h
  by_cases c3 : (l.length : Int) < 1 + rd l 0
  · rw [if_pos c3] at h; cases h
  rw [if_neg c3] at h
  injection h with h
  injection h with h1 h2
  omega

/-! ### what bytes say -/
theorem wfb_drop {b : List Int} (h : wfb b) (m : Nat) : wfb (b.drop m) := fun x hx => h x (List.mem_of_mem_drop hx)
def readR (t : Int) : Nat → Nat → List Int → Option (List S26)
  | 0, _, _ => none
  | d + 1, n, rest => if rest.length = 0 then some [] else match D 10 true rest with
    | none => none
    | some (u, m) => if n < u then none else match firstR t (rest.drop m) with
      | none => none
      | some (v, q) => (readR t d (n - u) (rest.drop (m + q))).map (fun r => List.replicate u v ++ r)
def readS (t : Int) : Nat → Nat → List Int → Option (List S26)
  | 0, n, _ => if n = 0 then some [] else none
  | d + 1, n, rest => if n = 0 then some [] else match D 10 true rest with
    | none => none
    | some (u, m) => if u = 0 ∨ n < u then none else match firstR t (rest.drop m) with
      | none => none
      | some (v, q) => if mayB v = true then (readS t d (n - u) (rest.drop (m + q))).map (fun r => List.replicate u v ++ r) else none
theorem readR_facts (t : Int) (d : Nat) : ∀ (n : Nat) (rest : List Int) (l : List S26), wfb rest → readR t d n rest = some l → l.length ≤ n ∧ ∀ v, v ∈ l → ok64 v.f1 := by
  induction d with
  | zero => intro n rest l _ h; simp [readR] at h
  | succ d ih =>
    intro n rest l hw h
    simp only [readR] at h
    by_cases h0 : rest.length = 0
    · rw [if_pos h0] at h
      injection h with h
      subst h
      exact ⟨by simp, fun v hv => by simp at hv⟩
    rw [if_neg h0] at h
    cases hD : D 10 true rest with
    | none => rw [hD] at h; cases h
    | some p =>
      obtain ⟨u, m⟩ := p
      rw [hD] at h
      dsimp only at h
      by_cases hu : n < u
      · rw [if_pos hu] at h; cases h
      rw [if_neg hu] at h
      cases hF : firstR t (rest.drop m) with
      | none => rw [hF] at h; cases h
      | some p =>
        obtain ⟨v0, q⟩ := p
        rw [hF] at h
        obtain ⟨r, hr, rfl⟩ := Option.map_eq_some_iff.1 h
        have h1 := ih _ _ _ (wfb_drop hw _) hr
        have h2 := firstR_facts t _ (wfb_drop hw m) v0 q hF
        refine ⟨by rw [List.length_append, List.length_replicate]; omega, fun v hv => ?_⟩
        rcases List.mem_append.1 hv with hv | hv
        · rw [(List.mem_replicate.1 hv).2]; exact h2.2.1
        · exact h1.2 v hv
theorem readS_facts (t : Int) (d : Nat) : ∀ (n : Nat) (rest : List Int) (l : List S26), wfb rest → readS t d n rest = some l → l.length = n ∧ ∀ v, v ∈ l → ok64 v.f1 := by
  induction d with
  | zero =>
    intro n rest l _ h
    simp only [readS] at h
    by_cases h0 : n = 0
    · rw [if_pos h0] at h
      injection h with h
      subst h
      exact ⟨h0.symm, fun v hv => by simp at hv⟩
    · rw [if_neg h0] at h; cases h
  | succ d ih =>
    intro n rest l hw h
    simp only [readS] at h
    by_cases h0 : n = 0
    · rw [if_pos h0] at h
      injection h with h
      subst h
      exact ⟨h0.symm, fun v hv => by simp at hv⟩
    rw [if_neg h0] at h
    cases hD : D 10 true rest with
    | none => rw [hD] at h; cases h
    | some p =>
      obtain ⟨u, m⟩ := p
      rw [hD] at h
      dsimp only at h
      by_cases hu : u = 0 ∨ n < u
      · rw [if_pos hu] at h; cases h
      rw [if_neg hu] at h
      cases hF : firstR t (rest.drop m) with
      | none => rw [hF] at h; cases h
      | some p =>
        obtain ⟨v0, q⟩ := p
        rw [hF] at h
        dsimp only at h
        by_cases hm : mayB v0 = true
        · rw [if_pos hm] at h
          obtain ⟨r, hr, rfl⟩ := Option.map_eq_some_iff.1 h
          have h1 := ih _ _ _ (wfb_drop hw _) hr
          have h2 := firstR_facts t _ (wfb_drop hw m) v0 q hF
          refine ⟨by rw [List.length_append, List.length_replicate]; omega, fun v hv => ?_⟩
          rcases List.mem_append.1 hv with hv | hv
          · rw [(List.mem_replicate.1 hv).2]; exact h2.2.1
          · exact h1.2 v hv
        · rw [if_neg hm] at h; cases h
theorem nine2 (u : Nat) (h : u ≤ 100000) : u < 2 * 128 ^ 9 := nine u (by omega)
theorem readR_enc (t : Int) (ht : isT t = true) (d : Nat) : ∀ (l : List S26) (f : Nat), l.length ≤ d → l.length ≤ 1000 → (∀ v, v ∈ l → v.f0 = t ∧ mayB v = true ∧ ok64 v.f1) → (encR d l).length < f → readR t f l.length (encR d l) = some l := by
  induction d with
  | zero =>
    intro l f hl _ _ hf
    obtain rfl : l = [] := List.eq_nil_of_length_eq_zero (by omega)
    cases f with
    | zero => omega
    | succ f => rfl
  | succ d ih =>
    intro l f hl hn hv hf
    cases f with
    | zero => omega
    | succ f =>
      cases l with
      | nil => rfl
      | cons v r =>
        rw [List.length_cons] at hl hn
        have hle := lead_le v r
        have h1 := hv v List.mem_cons_self
        have hEp := E_pos 9 (1 + lead v r)
        have hep := enc_pos v
        have hih := ih (r.drop (lead v r)) f (by rw [List.length_drop]; omega) (by rw [List.length_drop]; omega) (fun z hz => hv z (List.mem_cons_of_mem _ (List.mem_of_mem_drop hz))) (by rw [encR, List.length_append, List.length_append] at hf; omega)
        have hlen : (encR (d + 1) (v :: r)).length ≠ 0 := by rw [encR, List.length_append, List.length_append]; omega
        have hD : D 10 true (encR (d + 1) (v :: r)) = some (1 + lead v r, (E 9 (1 + lead v r)).length) := by
          rw [encR, List.append_assoc]
          exact D_E 9 (1 + lead v r) true _ (nine2 _ (by omega)) (.inl rfl)
        have hd1 : (encR (d + 1) (v :: r)).drop (E 9 (1 + lead v r)).length = enc v ++ encR d (r.drop (lead v r)) := by
          rw [encR, List.append_assoc, List.drop_left]
        have hd2 : (encR (d + 1) (v :: r)).drop ((E 9 (1 + lead v r)).length + (enc v).length) = encR d (r.drop (lead v r)) := by
          rw [← List.drop_drop, hd1, List.drop_left]
        simp only [readR]
        rw [if_neg hlen, hD]
        dsimp only
        rw [if_neg (by rw [List.length_cons]; omega), hd1, first_enc t ht v h1.1 h1.2.1 h1.2.2]
        dsimp only
        rw [hd2, show (v :: r).length - (1 + lead v r) = (r.drop (lead v r)).length by rw [List.length_cons, List.length_drop]; omega, hih]
        exact congrArg some (lead_back v r)
theorem readS_enc (t : Int) (ht : isT t = true) (d : Nat) : ∀ (l : List S26) (f : Nat), l.length ≤ d → l.length ≤ 1000 → (∀ v, v ∈ l → v.f0 = t ∧ mayB v = true ∧ ok64 v.f1) → l.length ≤ f → readS t f l.length (encR d l) = some l := by
  induction d with
  | zero =>
    intro l f hl _ _ hf
    obtain rfl : l = [] := List.eq_nil_of_length_eq_zero (by omega)
    cases f with
    | zero => rfl
    | succ f => rfl
  | succ d ih =>
    intro l f hl hn hv hf
    cases l with
    | nil => cases f with
      | zero => rfl
      | succ f => rfl
    | cons v r =>
      cases f with
      | zero => rw [List.length_cons] at hf; omega
      | succ f =>
        rw [List.length_cons] at hl hn hf
        have hle := lead_le v r
        have h1 := hv v List.mem_cons_self
        have hih := ih (r.drop (lead v r)) f (by rw [List.length_drop]; omega) (by rw [List.length_drop]; omega) (fun z hz => hv z (List.mem_cons_of_mem _ (List.mem_of_mem_drop hz))) (by rw [List.length_drop]; omega)
        have hD : D 10 true (encR (d + 1) (v :: r)) = some (1 + lead v r, (E 9 (1 + lead v r)).length) := by
          rw [encR, List.append_assoc]
          exact D_E 9 (1 + lead v r) true _ (nine2 _ (by omega)) (.inl rfl)
        have hd1 : (encR (d + 1) (v :: r)).drop (E 9 (1 + lead v r)).length = enc v ++ encR d (r.drop (lead v r)) := by
          rw [encR, List.append_assoc, List.drop_left]
        have hd2 : (encR (d + 1) (v :: r)).drop ((E 9 (1 + lead v r)).length + (enc v).length) = encR d (r.drop (lead v r)) := by
          rw [← List.drop_drop, hd1, List.drop_left]
        simp only [readS]
        rw [if_neg (by rw [List.length_cons]; omega), hD]
        dsimp only
        rw [if_neg (by rw [List.length_cons]; omega), hd1, first_enc t ht v h1.1 h1.2.1 h1.2.2]
        dsimp only
        rw [if_pos h1.2.1, hd2, show (v :: r).length - (1 + lead v r) = (r.drop (lead v r)).length by rw [List.length_cons, List.length_drop]; omega, hih]
        exact congrArg some (lead_back v r)
def takeR (t n : Int) (b : List Int) : List S26 × Bool := if n < 0 ∨ 1000 < n then ([], false) else match readR t (b.length + 1) n.toNat b with
  | none => ([], false)
  | some l => if putR t l = (b, true) ∧ (l.length : Int) = n then (l, true) else ([], false)
theorem putR_wf (t : Int) (l : List S26) (hok : ∀ v, v ∈ l → ok64 v.f1) (hn : l.length ≤ 1000) : wfb (putR t l).1 := by
  unfold putR
  split
  · exact encR_wf _ l hok hn
  · intro x hx; simp at hx
theorem put_right {t : Int} {l : List S26} {b : List Int} (h : putR t l = (b, true)) : rightB t l = true ∧ encR l.length l = b := by
  unfold putR at h
  by_cases hr : rightB t l = true
  · rw [if_pos hr] at h
    exact ⟨hr, (Prod.mk.inj h).1⟩
  · rw [if_neg hr] at h
    exact absurd (Prod.mk.inj h).2 (by decide)
theorem right_isT {t : Int} {l : List S26} (h : rightB t l = true) : isT t = true := by
  unfold rightB at h
  rw [Bool.and_eq_true] at h
  exact h.1
theorem put_readR (t : Int) (l : List S26) (b : List Int) (h : putR t l = (b, true)) (hn : l.length ≤ 1000) (hok : ∀ v, v ∈ l → ok64 v.f1) : readR t (b.length + 1) l.length b = some l := by
  obtain ⟨hr, rfl⟩ := put_right h
  exact readR_enc t (right_isT hr) l.length l _ (Nat.le_refl _) hn (fun v hv => ⟨(right_okv hr v hv).1, (right_okv hr v hv).2.1, hok v hv⟩) (Nat.lt_succ_self _)
theorem put_readS (t : Int) (l : List S26) (b : List Int) (h : putR t l = (b, true)) (hn : l.length ≤ 1000) (hok : ∀ v, v ∈ l → ok64 v.f1) : readS t l.length l.length b = some l := by
  obtain ⟨hr, rfl⟩ := put_right h
  exact readS_enc t (right_isT hr) l.length l _ (Nat.le_refl _) hn (fun v hv => ⟨(right_okv hr v hv).1, (right_okv hr v hv).2.1, hok v hv⟩) (Nat.le_refl _)
def endS (t : Int) (b : List Int) : Option (List S26) → List S26 × Bool
  | none => ([], false)
  | some l => if putR t l = (b, true) then (l, true) else ([], false)
theorem take_same (t : Int) (m : Nat) (hm : m ≤ 1000) (b : List Int) (hb : wfb b) : endS t b (readS t m m b) = takeR t (m : Int) b := by
  unfold takeR
  rw [if_neg (by omega), Int.toNat_natCast]
  cases hS : readS t m m b with
  | some l =>
    have hf := readS_facts t m m b l hb hS
    unfold endS
    dsimp only
    by_cases hp : putR t l = (b, true)
    · have hR := put_readR t l b hp (by omega) hf.2
      rw [hf.1] at hR
      rw [hR]
      dsimp only
      rw [if_pos hp, if_pos ⟨hp, by omega⟩]
    · rw [if_neg hp]
      cases hR : readR t (b.length + 1) m b with
      | none => rfl
      | some r =>
        dsimp only
        rw [if_neg]
        intro ⟨h1, h2⟩
        have hf2 := readR_facts t _ m b r hb hR
        have h3 := put_readS t r b h1 (by omega) hf2.2
        rw [show r.length = m by omega, hS] at h3
        injection h3 with h3
        subst h3
        exact hp h1
  | none =>
    unfold endS
    dsimp only
    cases hR : readR t (b.length + 1) m b with
    | none => rfl
    | some r =>
      dsimp only
      rw [if_neg]
      intro ⟨h1, h2⟩
      have hf2 := readR_facts t _ m b r hb hR
      have h3 := put_readS t r b h1 (by omega) hf2.2
      rw [show r.length = m by omega, hS] at h3
      cases h3
theorem takeR_len (t n : Int) (b : List Int) (hb : wfb b) : (takeR t n b).1.length ≤ 1000 := by
  unfold takeR
  split
  · simp
  · split
    · simp
    · rename_i l hl
      split
      · show l.length ≤ 1000
        have := (readR_facts _ _ _ _ _ hb hl).1; omega
      · simp
theorem equal_eq (a b : List Int) (ha : wfb a) (hb : wfb b) : bytes_Equal.f a b = some (decide (a = b)) := by
  unfold bytes_Equal.f
  rw [str_beq a b ha hb]
def endR (t : Int) (n : Int) (b : List Int) (l : List S26) : List S26 × Option Int := if putR t l = (b, true) ∧ (l.length : Int) = n then (l, none) else ([], some 7)
theorem rep_ev (v : S26) (u : Nat) (h : u ≤ 1000) : api_Value.f ([(⟨v.f0, v.f1, v.f2⟩ : S26)] : List S26) (wrap64 (u : Int)) = some (List.replicate u v) := by
  unfold api_Value.f
  rw [show wrap64 (u : Int) = (u : Int) by unfold wrap64; omega, if_pos ⟨rfl, by omega, by omega⟩, Int.toNat_natCast]
  rfl
theorem take_loop (t : Int) (b : List Int) (hb : wfb b) (n : Nat) (hn : n ≤ 1000) (d : Nat) : ∀ (acc : List S26) (rest : List Int), rest.length < d → acc.length ≤ n → wfb rest → (∀ v, v ∈ acc → ok64 v.f1) →
    ∃ r, Ev (fun k => rle_read.l0 k t (n : Int) b acc rest) r ∧ (match readR t d (n - acc.length) rest with | none => r.1 = [] ∧ ∃ c, r.2 = some c ∧ errG c = 1 | some q => r = endR t n b (acc ++ q)) := by
  induction d with
  | zero => intro acc rest h; omega
  | succ d ih =>
    intro acc rest hd ha hw hacc
    by_cases h0 : rest.length = 0
    · refine ⟨endR t n b acc, ?_, by simp only [readR]; rw [if_pos h0]; dsimp only; rw [List.append_nil]⟩
      refine Ev.step (f := fun k => (rle_Put.f k t acc).bind _) (fun k => by simp only [rle_read.l0]; rw [if_neg (by omega)]) (Ev.bind (put_any t acc hacc (by omega)) ?_)
      have hw := putR_wf t acc hacc (by omega)
      unfold endR
      generalize putR t acc = q at *
      obtain ⟨c, ok⟩ := q
      dsimp only at hw ⊢
      refine Ev.congr (f := fun _ => some (if (c, ok) = (b, true) ∧ (acc.length : Int) = (n : Int) then (acc, none) else ([], some 7))) (fun k => ?_) (Ev.now _)
      cases ok
      · rw [if_neg (by decide), if_neg (by simp)]
      · rw [if_pos rfl, equal_eq c b hw hb, Option.bind_some]
        by_cases hl : (acc.length : Int) = (n : Int)
        · rw [if_pos hl]
          by_cases hc : c = b
          · rw [decide_eq_true hc, if_pos rfl, if_pos ⟨by rw [hc], hl⟩]
          · rw [decide_eq_false hc, if_neg (by decide), if_neg (by intro h; exact hc (Prod.mk.inj h.1).1)]
        · rw [if_neg hl, if_neg (by intro h; exact hl h.2)]
    have he := BRleAll.take_ev rest hw
    have hbad : ∀ x y : Int, Ev (fun k => rle_read.j2 k t (n : Int) b acc rest x y true) ([], some 6) := fun x y => by
      refine Ev.step (f := fun _ => some ([], some 6)) (fun k => ?_) (Ev.now _)
      simp only [rle_read.j2, if_true]
    simp only [readR]
    rw [if_neg h0]
    cases hD : D 10 true rest with
    | none =>
      have htk : BRleAll.takeR rest = (0, 0, false) := by unfold BRleAll.takeR; rw [hD]
      rw [htk] at he
      refine ⟨([], some 6), ?_, rfl, 6, rfl, by decide⟩
      refine Ev.step (f := fun k => (num_Take.f k rest).bind _) (fun k => by simp only [rle_read.l0]; rw [if_pos (by omega)]) (Ev.bind he (Ev.congr (fun k => ?_) (hbad 0 0)))
      rw [if_neg (by decide)]
    | some p =>
      obtain ⟨u, m⟩ := p
      have hm := D_le 10 true rest u m hD
      have h64 := D64 rest hw u m hD
      have htk : BRleAll.takeR rest = ((u : Int), (m : Int), true) := by unfold BRleAll.takeR; rw [hD]
      rw [htk] at he
      have hwr : IntKind.u64.wrap (wrap64 ((n : Int) - (acc.length : Int))) = ((n - acc.length : Nat) : Int) := by
        rw [show wrap64 ((n : Int) - (acc.length : Int)) = ((n - acc.length : Nat) : Int) by unfold wrap64; omega]
        exact wrap_nat _ (by omega)
      have hstep : ∀ q, Ev (fun k => rle_read.j2 k t (n : Int) b acc rest (u : Int) (m : Int) (decide ((u : Int) > ((n - acc.length : Nat) : Int)))) q → Ev (fun k => rle_read.l0 k t (n : Int) b acc rest) q := fun q hq => by
        refine Ev.step (f := fun k => (num_Take.f k rest).bind _) (fun k => by simp only [rle_read.l0]; rw [if_pos (by omega)]) (Ev.bind he (Ev.congr (fun k => ?_) hq))
        dsimp only
        rw [if_pos rfl, hwr]
      dsimp only
      by_cases hu : n - acc.length < u
      · rw [if_pos hu]
        refine ⟨([], some 6), hstep _ ?_, rfl, 6, rfl, by decide⟩
        rw [decide_eq_true (by omega)]
        exact hbad _ _
      rw [if_neg hu]
      have hgo : ∀ q, Ev (fun k => (rle_first.f k t (rest.drop m)).bind fun bt => (if bt.2.2.2.2.isNone = true then ((api_Value.f (([(⟨bt.1, bt.2.1, bt.2.2.1⟩ : S26)] : List (S26))) (wrap64 (u : Int))).bind fun x => (if acc.length + x.length < 4398046511104 then (if 0 ≤ (wrap64 ((m : Int) + bt.2.2.2.1)) then (if (wrap64 ((m : Int) + bt.2.2.2.1)) ≤ (rest.length : Int) then (rle_read.l0 k t (n : Int) b (acc ++ x) (rest.drop ((wrap64 ((m : Int) + bt.2.2.2.1)) : Int).toNat)) else (none)) else (none)) else (none))) else (some (([] : List (S26)), some (bt.2.2.2.2.getD 0))))) q → Ev (fun k => rle_read.l0 k t (n : Int) b acc rest) q := fun q hq => by
        refine hstep q ?_
        rw [decide_eq_false (by omega)]
        refine Ev.step (fun k => ?_) hq
        simp only [rle_read.j2, Bool.false_eq_true, if_false]
        rw [if_pos (by omega), if_pos (by omega), Int.toNat_natCast]
      cases hF : firstR t (rest.drop m) with
      | none =>
        obtain ⟨c, hc, hf⟩ := first_none t _ (wfb_drop hw m) hF
        refine ⟨([], some c), hgo _ (Ev.bind hf (Ev.congr (f := fun _ => some _) (fun k => ?_) (Ev.now _))), rfl, c, rfl, hc⟩
        simp
      | some p =>
        obtain ⟨v, q⟩ := p
        have hf := first_some t _ (wfb_drop hw m) v q hF
        have hff := firstR_facts t _ (wfb_drop hw m) v q hF
        have hqq := first_le t _ (wfb_drop hw m) v q hF
        rw [List.length_drop] at hff
        obtain ⟨r, hr1, hr2⟩ := ih (acc ++ List.replicate u v) (rest.drop (m + q)) (by rw [List.length_drop]; omega) (by rw [List.length_append, List.length_replicate]; omega) (wfb_drop hw _) (fun z hz => by
          rcases List.mem_append.1 hz with h | h
          · exact hacc z h
          · rw [(List.mem_replicate.1 h).2]; exact hff.2.1)
        refine ⟨r, hgo _ (Ev.bind hf (Ev.congr (fun k => ?_) hr1)), ?_⟩
        · dsimp only [Option.isNone]
          have a0 : u ≤ 1000 := by omega
          have a1 : acc.length + (List.replicate u v).length < 4398046511104 := by rw [List.length_replicate]; omega
          have a2 : (0 : Int) ≤ ((m + q : Nat) : Int) := by omega
          have a3 : ((m + q : Nat) : Int) ≤ (rest.length : Int) := by omega
          have hw2 : wrap64 ((m : Int) + (q : Int)) = ((m + q : Nat) : Int) := by unfold wrap64; omega
          rw [if_pos rfl, rep_ev v u a0, Option.bind_some, if_pos a1, hw2, if_pos a2, if_pos a3, Int.toNat_natCast]
        · dsimp only
          rw [List.length_append, List.length_replicate, ← Nat.sub_sub] at hr2
          cases hq : readR t d (n - acc.length - u) (rest.drop (m + q)) with
          | none => rw [hq] at hr2; exact hr2
          | some z => rw [hq] at hr2; dsimp only [Option.map] at hr2 ⊢; rw [hr2, List.append_assoc]
theorem take_of (t n : Int) (b : List Int) (l : List S26) (c : Option Int) (h : Ev (fun k => rle_read.f k t n b) (l, c)) (hc : ∀ x, c = some x → errG x = 1) : Ev (fun k => rle_Take.f k t n b) (l, c.isNone) := by
  refine Ev.congr (f := fun k => (rle_read.f k t n b).bind _) (fun k => by simp only [rle_Take.f]; rfl) (Ev.bind h (Ev.congr (f := fun _ => some (l, c.isNone)) (fun k => ?_) (Ev.now _)))
  cases c with
  | none => simp [errors_IsN.f]
  | some x => simp [errors_IsS.f, hc x rfl]
theorem take_any (t n : Int) (b : List Int) (hb : wfb b) : Ev (fun k => rle_Take.f k t n b) (takeR t n b) := by
  by_cases hn : n < 0 ∨ 1000 < n
  · unfold takeR
    rw [if_pos hn]
    refine take_of t n b [] (some 5) ?_ (fun x hx => by injection hx with hx; subst hx; decide)
    have hj : Ev (fun k => rle_read.j0 k t n b ([] : List S26) true) ([], some 5) := by
      refine Ev.step (f := fun _ => some ([], some 5)) (fun k => ?_) (Ev.now _)
      simp only [rle_read.j0, if_true]
    refine Ev.congr (fun k => ?_) hj
    simp only [rle_read.f]
    by_cases h : n < 0
    · rw [if_pos h]
    · rw [if_neg h, decide_eq_true (by omega)]
  · obtain ⟨m, rfl⟩ := Int.eq_ofNat_of_zero_le (show 0 ≤ n by omega)
    obtain ⟨q, h, hq⟩ := take_loop t b hb m (by omega) (b.length + 1) [] b (by omega) (by simp) hb (fun v hv => by simp at hv)
    have hj : Ev (fun k => rle_read.f k t (m : Int) b) q := by
      refine Ev.congr (f := fun k => rle_read.j0 k t (m : Int) b ([] : List S26) false) (fun k => ?_) (Ev.step (fun k => ?_) h)
      · simp only [rle_read.f]
        rw [if_neg (by omega), decide_eq_false (by omega)]
      · simp only [rle_read.j0, Bool.false_eq_true, if_false]
    unfold takeR
    rw [if_neg hn, Int.toNat_natCast]
    rw [List.length_nil, Nat.sub_zero] at hq
    cases hr : readR t (b.length + 1) m b with
    | none =>
      rw [hr] at hq
      obtain ⟨h1, c, h2, h3⟩ := hq
      obtain ⟨q1, q2⟩ := q
      dsimp only at h1 h2
      subst h1 h2
      exact take_of t m b [] (some c) hj (fun x hx => by injection hx with hx; subst hx; exact h3)
    | some r =>
      rw [hr] at hq
      dsimp only at hq ⊢
      rw [List.nil_append] at hq
      subst hq
      unfold endR at hj
      by_cases hp : putR t r = (b, true) ∧ (r.length : Int) = (m : Int)
      · rw [if_pos hp] at hj ⊢
        exact take_of t m b r none hj (fun x hx => by cases hx)
      · rw [if_neg hp] at hj ⊢
        exact take_of t m b [] (some 7) hj (fun x hx => by injection hx with hx; subst hx; decide)

/-! ### by the document -/
theorem many_loop (t : Int) (n : Int) (rest : List Int) (m q : Nat) (hmq : m + q ≤ rest.length) (hl : m + q ≤ 1000) (v : S26) (u : Nat) (hu : u ≤ 1000) (r : List S26 × Bool) (d : Nat) : ∀ (i : Nat) (acc : List S26), i + d = u → acc.length + d ≤ 1000 →
    Ev (fun k => rabbetref1_read.l1 k t n (rest.drop (m + q)) (acc ++ List.replicate d v)) r → Ev (fun k => rabbetref1_read.l2 k t n rest acc (u : Int) (m : Int) (q : Int) (i : Int) v.f0 v.f1 v.f2) r := by
  induction d with
  | zero =>
    intro i acc hi ha h
    rw [List.replicate_zero, List.append_nil] at h
    refine Ev.step (fun k => ?_) h
    have a1 : ¬ (i : Int) < (u : Int) := by omega
    have a2 : (0 : Int) ≤ ((m + q : Nat) : Int) := by omega
    have a3 : ((m + q : Nat) : Int) ≤ (rest.length : Int) := by omega
    have hw2 : wrap64 ((m : Int) + (q : Int)) = ((m + q : Nat) : Int) := by unfold wrap64; omega
    simp only [rabbetref1_read.l2]
    rw [if_neg a1, hw2, if_pos a2, if_pos a3, Int.toNat_natCast]
  | succ d ih =>
    intro i acc hi ha h
    refine Ev.step (fun k => ?_) (ih (i + 1) (acc ++ [v]) (by omega) (by rw [List.length_append]; simp; omega) (by rw [List.append_assoc]; exact h))
    simp only [rabbetref1_read.l2]
    rw [if_pos (by omega), if_pos (by omega), show ((i : Int) + 1) = ((i + 1 : Nat) : Int) by omega, wrap_nat _ (by omega)]
theorem rread_loop (t : Int) (ht : isT t = true) (n : Nat) (hn : n ≤ 1000) (d : Nat) : ∀ (acc : List S26) (rest : List Int), n - acc.length ≤ d → acc.length ≤ n → wfb rest →
    Ev (fun k => rabbetref1_read.l1 k t (n : Int) rest acc) (match readS t d (n - acc.length) rest with | none => ([], false) | some r => (acc ++ r, true)) := by
  have hend : ∀ (d : Nat) (acc : List S26) (rest : List Int), ¬ acc.length < n → n - acc.length = 0 → Ev (fun k => rabbetref1_read.l1 k t (n : Int) rest acc) (match readS t d (n - acc.length) rest with | none => ([], false) | some r => (acc ++ r, true)) := fun d acc rest h h0 => by
    have e : readS t d (n - acc.length) rest = some [] := by
      rw [h0]
      cases d with
      | zero => rfl
      | succ d => rfl
    rw [e]
    dsimp only
    rw [List.append_nil]
    refine Ev.step (f := fun _ => some (acc, true)) (fun k => ?_) (Ev.now _)
    simp only [rabbetref1_read.l1]
    rw [if_neg (by omega)]
  induction d with
  | zero => intro acc rest hd ha _; exact hend 0 acc rest (by omega) (by omega)
  | succ d ih =>
    intro acc rest hd ha hw
    by_cases h0 : n - acc.length = 0
    · exact hend (d + 1) acc rest (by omega) h0
    have he := BRRleAll.rtake_ev rest hw (fun a b ha hb => MStr.str_eq a b ha hb)
    have hbad : ∀ x y : Int, Ev (fun k => rabbetref1_read.j1 k t (n : Int) rest acc x y true) ([], false) := fun x y => by
      refine Ev.step (f := fun _ => some ([], false)) (fun k => ?_) (Ev.now _)
      simp only [rabbetref1_read.j1, if_true]
    simp only [readS]
    rw [if_neg h0]
    cases hD : D 10 true rest with
    | none =>
      have htk : BRleAll.takeR rest = (0, 0, false) := by unfold BRleAll.takeR; rw [hD]
      rw [htk] at he
      refine Ev.step (f := fun k => (rabbetref1_TakeNum.f k rest).bind _) (fun k => by simp only [rabbetref1_read.l1]; rw [if_pos (by omega)]) (Ev.bind he (Ev.congr (fun k => ?_) (hbad 0 0)))
      rw [if_neg (by decide)]
    | some p =>
      obtain ⟨u, m⟩ := p
      have hm := D_le 10 true rest u m hD
      have h64 := D64 rest hw u m hD
      have htk : BRleAll.takeR rest = ((u : Int), (m : Int), true) := by unfold BRleAll.takeR; rw [hD]
      rw [htk] at he
      have hwr : IntKind.u64.wrap (wrap64 ((n : Int) - (acc.length : Int))) = ((n - acc.length : Nat) : Int) := by
        rw [show wrap64 ((n : Int) - (acc.length : Int)) = ((n - acc.length : Nat) : Int) by unfold wrap64; omega]
        exact wrap_nat _ (by omega)
      have hstep : ∀ q, Ev (fun k => rabbetref1_read.j1 k t (n : Int) rest acc (u : Int) (m : Int) (decide (u = 0 ∨ n - acc.length < u))) q → Ev (fun k => rabbetref1_read.l1 k t (n : Int) rest acc) q := fun q hq => by
        refine Ev.step (f := fun k => (rabbetref1_TakeNum.f k rest).bind _) (fun k => by simp only [rabbetref1_read.l1]; rw [if_pos (by omega)]) (Ev.bind he (Ev.congr (fun k => ?_) hq))
        dsimp only
        rw [if_pos rfl, hwr]
        by_cases hu0 : u = 0
        · rw [if_pos (by omega), decide_eq_true (.inl hu0)]
        · rw [if_neg (by omega)]
          congr 1
          rw [Bool.eq_iff_iff]
          simp only [decide_eq_true_eq]
          omega
      dsimp only
      by_cases hu : u = 0 ∨ n - acc.length < u
      · rw [if_pos hu]
        refine hstep _ ?_
        rw [decide_eq_true hu]
        exact hbad _ _
      rw [if_neg hu]
      have h1 := takeOne_ev t (rest.drop m) (wfb_drop hw m)
      have hgo : ∀ q, Ev (fun k => (rabbetref1_takeOne.f k t (rest.drop m)).bind fun bt => (if bt.2.2.2.2 = true then (rabbetref1_read.l2 k t (n : Int) rest acc (u : Int) (m : Int) bt.2.2.2.1 0 bt.1 bt.2.1 bt.2.2.1) else (some (([] : List (S26)), false)))) q → Ev (fun k => rabbetref1_read.l1 k t (n : Int) rest acc) q := fun q hq => by
        refine hstep q ?_
        rw [decide_eq_false hu]
        refine Ev.step (fun k => ?_) hq
        simp only [rabbetref1_read.j1, Bool.false_eq_true, if_false]
        rw [if_pos (by omega), if_pos (by omega), Int.toNat_natCast]
      cases hF : firstR t (rest.drop m) with
      | none =>
        have e : oneR t (rest.drop m) = (0, 0, (⟨#[]⟩ : ByteArray), 0, false) := by unfold oneR; rw [hF]
        rw [e] at h1
        refine hgo _ (Ev.bind h1 (Ev.congr (f := fun _ => some ([], false)) (fun k => ?_) (Ev.now _)))
        rw [if_neg (by decide)]
      | some p =>
        obtain ⟨v, q⟩ := p
        have hff := firstR_facts t _ (wfb_drop hw m) v q hF
        have hqq := first_le t _ (wfb_drop hw m) v q hF
        rw [List.length_drop] at hff
        have e : oneR t (rest.drop m) = (v.f0, v.f1, v.f2, (q : Int), mayB v) := by unfold oneR; rw [hF]; dsimp only; rw [ht, Bool.and_true]
        rw [e] at h1
        dsimp only
        by_cases hv : mayB v = true
        · rw [if_pos hv]
          rw [hv] at h1
          have hih := ih (acc ++ List.replicate u v) (rest.drop (m + q)) (by rw [List.length_append, List.length_replicate]; omega) (by rw [List.length_append, List.length_replicate]; omega) (wfb_drop hw _)
          rw [List.length_append, List.length_replicate, ← Nat.sub_sub] at hih
          have e2 : (match (readS t d (n - acc.length - u) (rest.drop (m + q))).map (fun r => List.replicate u v ++ r) with | none => (([] : List S26), false) | some r => (acc ++ r, true)) = (match readS t d (n - acc.length - u) (rest.drop (m + q)) with | none => ([], false) | some r => (acc ++ List.replicate u v ++ r, true)) := by
            cases readS t d (n - acc.length - u) (rest.drop (m + q)) with
            | none => rfl
            | some r => simp
          rw [e2]
          refine hgo _ (Ev.bind h1 (Ev.congr (fun k => ?_) (many_loop t (n : Int) rest m q (by omega) (by omega) v u (by omega) _ u 0 acc (by omega) (by omega) hih)))
          dsimp only
          rw [if_pos rfl]
          rfl
        · have hvf : mayB v = false := by simpa using hv
          rw [if_neg hv]
          rw [hvf] at h1
          refine hgo _ (Ev.bind h1 (Ev.congr (f := fun _ => some ([], false)) (fun k => ?_) (Ev.now _)))
          rw [if_neg (by simp)]
theorem dec_any (t n : Int) (b : List Int) (hb : wfb b) : Ev (fun k => rabbetref1_Decode.f k 2 t n b) (takeR t n b) := by
  have hno : Ev (fun k => rabbetref1_Decode.j0 k 2 t n b true) ([], false) := by
    refine Ev.step (f := fun _ => some ([], false)) (fun k => ?_) (Ev.now _)
    simp only [rabbetref1_Decode.j0, if_true]
  by_cases hn : n < 0 ∨ 1000 < n
  · unfold takeR
    rw [if_pos hn]
    refine Ev.congr (fun k => ?_) hno
    simp only [rabbetref1_Decode.f]
    by_cases h : n < 0
    · rw [if_pos h]
    · rw [if_neg h, if_pos (by omega)]
  · obtain ⟨m, rfl⟩ := Int.eq_ofNat_of_zero_le (show 0 ≤ n by omega)
    have hstep : ∀ k, rabbetref1_Decode.f k 2 t (m : Int) b = rabbetref1_Decode.j0 k 2 t (m : Int) b (!(isT t)) := by
      intro k
      simp only [rabbetref1_Decode.f]
      rw [if_neg (by omega), if_neg (by omega), isType_ev, Option.bind_some]
    refine Ev.congr hstep ?_
    by_cases ht : isT t = true
    · rw [ht, ← take_same t m (by omega) b hb]
      have h := rread_loop t ht m (by omega) m [] b (by simp) (by simp) hb
      rw [List.length_nil, Nat.sub_zero] at h
      have hrd : Ev (fun k => rabbetref1_read.f k 2 t (m : Int) b) (match readS t m m b with | none => ([], false) | some r => ([] ++ r, true)) := by
        refine Ev.congr (fun k => ?_) h
        simp only [rabbetref1_read.f]
        rw [if_neg (by decide), if_pos trivial]
      cases hr : readS t m m b with
      | none =>
        rw [hr] at hrd
        dsimp only at hrd
        unfold endS
        refine Ev.step (f := fun k => (rabbetref1_read.f k 2 t (m : Int) b).bind _) (fun k => by simp only [rabbetref1_Decode.j0, Bool.not_true, Bool.false_eq_true, if_false]; rfl) (Ev.bind hrd ?_)
        refine Ev.bind (enc_any t [] (fun v hv => by simp at hv) (by simp)) (Ev.congr (f := fun _ => some ([], false)) (fun k => ?_) (Ev.now _))
        rw [if_neg (by decide)]
      | some r =>
        rw [hr] at hrd
        dsimp only at hrd
        rw [List.nil_append] at hrd
        unfold endS
        have hf := readS_facts t m m b r hb hr
        refine Ev.step (f := fun k => (rabbetref1_read.f k 2 t (m : Int) b).bind _) (fun k => by simp only [rabbetref1_Decode.j0, Bool.not_true, Bool.false_eq_true, if_false]; rfl) (Ev.bind hrd ?_)
        refine Ev.bind (enc_any t r hf.2 (by omega)) ?_
        have hw := putR_wf t r hf.2 (by omega)
        dsimp only
        generalize putR t r = q at *
        obtain ⟨c, ok⟩ := q
        dsimp only at hw ⊢
        refine Ev.congr (f := fun _ => some (if (c, ok) = (b, true) then (r, true) else ([], false))) (fun k => ?_) (Ev.now _)
        rw [if_pos rfl]
        cases ok
        · rw [if_neg (by decide), if_neg (by simp)]
        · rw [if_pos rfl, if_pos (by omega)]
          by_cases hc : c = b
          · rw [if_pos (by rw [hc]), if_pos (by rw [hc])]
          · rw [if_neg (fun h => hc ((MStr.str_eq c b hw hb).1 h)), if_neg (by intro h; exact hc (Prod.mk.inj h).1)]
    · have hf : isT t = false := by simpa using ht
      rw [hf]
      have hres : takeR t (m : Int) b = ([], false) := by
        unfold takeR
        rw [if_neg hn]
        cases readR t (b.length + 1) (m : Int).toNat b with
        | none => rfl
        | some l =>
          dsimp only
          rw [if_neg]
          intro h
          have := right_isT (put_right h.1).1
          exact ht this
      rw [hres]
      exact hno
theorem takes : BLRleAll.Takes := fun t n b hb _ => ⟨takeR t n b, takeR_len t n b hb, take_any t n b hb, dec_any t n b hb⟩
theorem takesW (t n : Int) (b : List Int) (hb : wfb b) : ∃ r : List S26 × Bool, r.1.length ≤ 1000 ∧ Ev (fun k => rle_Take.f k t n b) r ∧ Ev (fun k => rabbetref1_Decode.f k 2 t n b) r := ⟨takeR t n b, takeR_len t n b hb, take_any t n b hb, dec_any t n b hb⟩
theorem encW (t : Int) (l : List S26) (hl : l.length ≤ 30) (hok : ∀ v, v ∈ l → okv v) : ∃ r : List Int × Bool, wfb r.1 ∧ Ev (fun k => rabbetref1_Encode.f k 2 t l) r := ⟨putR t l, putR_wf t l (fun v hv => (hok v hv).1) (by omega), enc_any t l (fun v hv => (hok v hv).1) (by omega)⟩
end Go.Proofs.YtigldipjkejalaaDoor.BDRleAll
