/- The document's numbers as bytes, and the plain ones. Conditions: none. -/
import Derived.Test.YtigldipjkejalaaDoorMNum
import Derived.Test.YtigldipjkejalaaDoorBRleAllnum
import Derived.Test.YtigldipjkejalaaDoorPRleAllx13
namespace Go.Proofs.YtigldipjkejalaaDoor.BRRleAll
open Go.RowKit Go.Proofs.YtigldipjkejalaaDoor.PRleAll Go.Proofs.YtigldipjkejalaaDoorW.PrintWords Go.Proofs.YtigldipjkejalaaDoorW.PrintLast Go.Proofs.YtigldipjkejalaaDoorW.PrintMore Go.Proofs.YtigldipjkejalaaDoor.MNum
set_option linter.unusedVariables false

def wfb (l : List Int) : Prop := ∀ x, x ∈ l → 0 ≤ x ∧ x < 256
theorem tmod128 (v : Nat) : Int.tmod (v : Int) 128 = ((v % 128 : Nat) : Int) := rfl
theorem tdiv128 (v : Nat) : Int.tdiv (v : Int) 128 = ((v / 128 : Nat) : Int) := rfl
theorem rput_loop (f : Nat) : ∀ (v : Nat) (x : List Int), v < 18446744073709551616 → v < 128 ^ (f + 1) → x.length + f < 1000 → Ev (fun k => rabbetref1_PutNum.l0 k (v : Int) x) (x ++ E f v) := by
  induction f with
  | zero =>
    intro v x h64 h hx
    have h' : v < 128 := by simpa using h
    refine Ev.step (f := fun _ => some (x ++ E 0 v)) (fun k => ?_) (Ev.now _)
    simp only [rabbetref1_PutNum.l0]
    rw [if_neg (by omega), if_pos (by omega)]
    simp only [E]
    rw [Int.emod_eq_of_lt (by omega) (by omega)]
  | succ f ih =>
    intro v x h64 h hx
    by_cases h1 : v < 128
    · refine Ev.step (f := fun _ => some (x ++ E (f + 1) v)) (fun k => ?_) (Ev.now _)
      simp only [rabbetref1_PutNum.l0]
      rw [if_neg (by omega), if_pos (by omega)]
      simp only [E]
      rw [if_pos h1, Int.emod_eq_of_lt (by omega) (by omega)]
    · have hih := ih (v / 128) (x ++ [((v % 128 + 128 : Nat) : Int)]) (by omega) (by rw [Nat.pow_succ] at h; omega) (by simp; omega)
      refine Ev.step (f := fun k => rabbetref1_PutNum.l0 k ((v / 128 : Nat) : Int) (x ++ [((v % 128 + 128 : Nat) : Int)])) (fun k => ?_) ?_
      · simp only [rabbetref1_PutNum.l0]
        rw [if_pos (by omega), if_pos (by omega), tmod128, tdiv128, u64_wrap]
        rw [show ((v / 128 : Nat) : Int) % 18446744073709551616 = ((v / 128 : Nat) : Int) by omega, show (((v % 128 : Nat) : Int) + 128) % 256 = ((v % 128 + 128 : Nat) : Int) by omega]
      · have e : x ++ E (f + 1) v = (x ++ [((v % 128 + 128 : Nat) : Int)]) ++ E f (v / 128) := by simp [E, if_neg h1]
        rw [e]; exact hih
theorem rput_ev (v : Nat) (h : v < 18446744073709551616) : Ev (fun k => rabbetref1_PutNum.f k (v : Int)) (E 9 v) := by
  have h2 := rput_loop 9 v [] h (Nat.lt_trans h (by decide)) (by decide)
  exact Ev.congr (fun k => by simp only [rabbetref1_PutNum.f]) h2
/-- The first byte below 128, of so many. -/
def fi : Nat → List Int → Option Nat
  | 0, _ => none
  | _ + 1, [] => none
  | m + 1, c :: r => if c < 128 then some 1 else (fi m r).map (· + 1)
theorem fi_le (m : Nat) : ∀ (l : List Int) (n : Nat), fi m l = some n → 0 < n ∧ n ≤ m ∧ n ≤ l.length := by
  induction m with
  | zero => intro l n h; simp [fi] at h
  | succ m ih =>
    intro l n h
    cases l with
    | nil => simp [fi] at h
    | cons c r =>
      simp only [fi] at h
      by_cases hc : c < 128
      · rw [if_pos hc] at h; injection h with h; subst h; simp
      · rw [if_neg hc] at h
        obtain ⟨q, hq, rfl⟩ := Option.map_eq_some_iff.1 h
        have := ih r q hq
        simp only [List.length_cons]; omega
theorem fi_E (m : Nat) : ∀ (v : Nat) (s : List Int), v < 2 * 128 ^ m → fi (m + 1) (E m v ++ s) = some (E m v).length := by
  induction m with
  | zero => intro v s h; simp at h; simp only [E, fi, List.cons_append]; rw [if_pos (by omega)]; rfl
  | succ m ih =>
    intro v s h
    by_cases h1 : v < 128
    · simp only [E, if_pos h1, fi, List.cons_append]; rw [if_pos (by omega)]; rfl
    · have e : E (m + 1) v = ((v % 128 + 128 : Nat) : Int) :: E m (v / 128) := by simp [E, if_neg h1]
      rw [e, List.cons_append]
      simp only [fi]
      rw [if_neg (by omega), ih (v / 128) s (by rw [Nat.pow_succ] at h; omega)]
      rfl
/-- A byte more in front. -/
def g (c a : Int) : Int := IntKind.u64.wrap ((IntKind.u64.wrap (a * 128)) + (IntKind.u64.wrap (Int.tmod c 128)))
theorem g_eq (c a : Nat) (h : a * 128 + c % 128 < 18446744073709551616) : g (c : Int) (a : Int) = ((a * 128 + c % 128 : Nat) : Int) := by
  unfold g
  rw [tmod128]
  simp only [u64_wrap]
  omega
theorem g_range (c a : Int) : 0 ≤ g c a ∧ g c a < 18446744073709551616 := by unfold g; simp only [u64_wrap]; omega
theorem fold_E (m : Nat) : ∀ v : Nat, v < 2 * 128 ^ m → v < 18446744073709551616 → (E m v).foldr g 0 = (v : Int) := by
  induction m with
  | zero =>
    intro v h _
    simp at h
    show g (v : Int) ((0 : Nat) : Int) = _
    rw [g_eq _ _ (by omega), show 0 * 128 + v % 128 = v by omega]
  | succ m ih =>
    intro v h h64
    by_cases h1 : v < 128
    · simp only [E, if_pos h1]
      show g (v : Int) ((0 : Nat) : Int) = _
      rw [g_eq _ _ (by omega), show 0 * 128 + v % 128 = v by omega]
    · have e : E (m + 1) v = ((v % 128 + 128 : Nat) : Int) :: E m (v / 128) := by simp [E, if_neg h1]
      rw [e, List.foldr_cons, ih (v / 128) (by rw [Nat.pow_succ] at h; omega) (by omega), g_eq _ _ (by omega)]
      congr 1
      omega
theorem fold_range (l : List Int) : 0 ≤ l.foldr g 0 ∧ l.foldr g 0 < 18446744073709551616 := by
  cases l with
  | nil => simp
  | cons c r => exact g_range _ _
theorem rd_at (l : List Int) (i : Nat) (h : i < l.length) : rd l (i : Int) = l[i] := by simp [rd, List.getD_eq_getElem?_getD, List.getElem?_eq_getElem h]
/-- What the document's answer says at the first byte below 128. -/
def told (l : List Int) (n : Nat) : Int × Int × Bool := if (strOfNums (E 9 ((l.take n).foldr g 0).toNat)).toList = (strOfNums (l.take n)).toList then ((l.take n).foldr g 0, (n : Int), true) else (0, 0, false)
theorem back_loop (l : List Int) (n : Nat) (hn : n ≤ l.length) (hn2 : n ≤ 10) (i : Nat) : i ≤ n → ∀ a : Int, a = ((l.take n).drop i).foldr g 0 →
    Ev (fun k => rabbetref1_TakeNum.l1 k l (n : Int) a ((i : Int) - 1)) (told l n) := by
  induction i with
  | zero =>
    intro _ a ha
    rw [List.drop_zero] at ha
    have hr := fold_range (l.take n)
    rw [← ha] at hr
    obtain ⟨u, hu⟩ := Int.eq_ofNat_of_zero_le hr.1
    have hp := rput_ev u (by omega)
    refine Ev.step (f := fun k => (rabbetref1_PutNum.f k a).bind _) (fun k => by simp only [rabbetref1_TakeNum.l1]; rw [if_neg (by omega)]) ?_
    rw [hu]
    refine Ev.bind hp (Ev.congr (f := fun _ => some (told l n)) (fun k => ?_) (Ev.now _))
    rw [if_pos (by omega), if_pos (by omega), Int.toNat_natCast]
    unfold told
    rw [← ha, hu, Int.toNat_natCast]
    by_cases hc : (strOfNums (E 9 u)).toList = (strOfNums (l.take n)).toList
    · rw [if_pos hc, if_pos hc]
    · rw [if_neg hc, if_neg hc]
  | succ i ih =>
    intro hi a ha
    have hlt : i < (l.take n).length := by rw [List.length_take]; omega
    have hrd : (l.take n)[i] = rd l (i : Int) := by rw [rd_at l i (by omega), List.getElem_take]
    have hd : ((l.take n).drop i).foldr g 0 = g (rd l (i : Int)) a := by
      rw [List.drop_eq_getElem_cons hlt, List.foldr_cons, ← ha, hrd]
    refine Ev.step (fun k => ?_) (ih (by omega) (g (rd l (i : Int)) a) hd.symm)
    simp only [rabbetref1_TakeNum.l1]
    rw [show (((i + 1 : Nat) : Int) - 1) = (i : Int) by omega, if_pos (by omega), if_pos (by omega), if_pos (by omega), show wrap64 ((i : Int) - 1) = (i : Int) - 1 by unfold wrap64; omega]
    rfl
theorem rtake_loop (l : List Int) (hl : wfb l) (m : Nat) : ∀ i : Nat, i + m = 10 → i ≤ l.length →
    Ev (fun k => rabbetref1_TakeNum.l0 k l ((i + 1 : Nat) : Int)) (match fi m (l.drop i) with | none => (0, 0, false) | some q => told l (i + q)) := by
  have hno : ∀ i : Nat, Ev (fun k => rabbetref1_TakeNum.j1 k l ((i + 1 : Nat) : Int) false) (0, 0, false) := fun i => by
    refine Ev.step (f := fun _ => some _) (fun k => ?_) (Ev.now _)
    simp only [rabbetref1_TakeNum.j1]
    rw [if_neg (by decide)]
  induction m with
  | zero =>
    intro i hi _
    refine Ev.step (fun k => ?_) (hno i)
    simp only [rabbetref1_TakeNum.l0]
    rw [if_neg (by omega)]
  | succ m ih =>
    intro i hi hil
    by_cases hlt : i < l.length
    · have e1 : wrap64 (((i + 1 : Nat) : Int) - 1) = (i : Int) := by unfold wrap64; omega
      have hstep : ∀ k, rabbetref1_TakeNum.l0 (k + 1) l ((i + 1 : Nat) : Int) = rabbetref1_TakeNum.j1 k l ((i + 1 : Nat) : Int) true := by
        intro k
        simp only [rabbetref1_TakeNum.l0]
        rw [if_pos (by omega), decide_eq_true (by omega)]
      refine Ev.step hstep ?_
      rw [List.drop_eq_getElem_cons hlt]
      have hrd := rd_at l i hlt
      by_cases hc : l[i] < 128
      · simp only [fi]
        rw [if_pos hc]
        refine Ev.step (fun k => ?_) (back_loop l (i + 1) (by omega) (by omega) (i + 1) (Nat.le_refl _) 0 (by rw [List.drop_eq_nil_of_le (by rw [List.length_take]; omega)]; rfl))
        simp only [rabbetref1_TakeNum.j1, if_true]
        rw [e1, if_pos (by omega), if_pos (by omega), hrd, if_neg (by omega), show (((i + 1 : Nat) : Int) - 1) = (i : Int) by omega]
      · have hih := ih (i + 1) (by omega) (by omega)
        refine Ev.step (f := fun k => rabbetref1_TakeNum.l0 k l ((i + 1 + 1 : Nat) : Int)) (fun k => ?_) ?_
        · simp only [rabbetref1_TakeNum.j1, if_true]
          rw [e1, if_pos (by omega), if_pos (by omega), hrd, if_pos (by omega), show wrap64 (((i + 1 : Nat) : Int) + 1) = ((i + 1 + 1 : Nat) : Int) by unfold wrap64; omega]
        · simp only [fi]
          rw [if_neg hc]
          cases hf : fi m (l.drop (i + 1)) with
          | none => rw [hf] at hih; exact hih
          | some q =>
            rw [hf] at hih
            show Ev _ (told l (i + (q + 1)))
            rw [show i + (q + 1) = i + 1 + q by omega]
            exact hih
    · rw [List.drop_eq_nil_of_le (by omega)]
      refine Ev.step (fun k => ?_) (hno i)
      simp only [rabbetref1_TakeNum.l0]
      rw [if_pos (by omega), decide_eq_false (by omega)]
theorem rtake_eq (l : List Int) (hl : wfb l) (hstr : ∀ a b : List Int, wfb a → wfb b → ((strOfNums a).toList = (strOfNums b).toList ↔ a = b)) : (match fi 10 l with | none => ((0 : Int), (0 : Int), false) | some q => told l q) = BRleAll.takeR l := by
  have htw : ∀ n, wfb (l.take n) := fun n x hx => hl x (List.mem_of_mem_take hx)
  have nine : ∀ u : Nat, u < 18446744073709551616 → u < 2 * 128 ^ 9 := fun u h => Nat.lt_of_lt_of_le h (by decide)
  have back : ∀ v n, D 10 true l = some (v, n) → v < 18446744073709551616 ∧ E 9 v = l.take n ∧ fi 10 l = some n := fun v n h => by
    obtain ⟨h1, h2, _⟩ := E_D 9 true l v n hl h
    have h3 := D_le 10 true l v n h
    have h4 : v < 18446744073709551616 := by
      have : (2 : Nat) * 128 ^ 9 = 18446744073709551616 := by decide
      omega
    have h5 := fi_E 9 v (l.drop n) h1
    rw [h2, List.take_append_drop, List.length_take, Nat.min_eq_left h3.2.2] at h5
    exact ⟨h4, h2, h5⟩
  unfold BRleAll.takeR
  cases hD : D 10 true l with
  | some p =>
    obtain ⟨v, n⟩ := p
    obtain ⟨h1, h2, h3⟩ := back v n hD
    rw [h3]
    show told l n = _
    unfold told
    rw [← h2, fold_E 9 v (nine v h1) h1, Int.toNat_natCast, if_pos rfl]
  | none =>
    cases hf : fi 10 l with
    | none => rfl
    | some n =>
      show told l n = _
      obtain ⟨_, _, hn⟩ := fi_le 10 l n hf
      have hr := fold_range (l.take n)
      obtain ⟨u, hu⟩ := Int.eq_ofNat_of_zero_le hr.1
      unfold told
      rw [hu, Int.toNat_natCast]
      rw [if_neg]
      intro hs
      have he := (hstr _ _ (E_wf 9 u (nine u (by omega))) (htw n)).1 hs
      have h2 := D_E 9 u true (l.drop n) (nine u (by omega)) (.inl rfl)
      rw [he, List.take_append_drop, hD] at h2
      cases h2
theorem rtake_ev (l : List Int) (hl : wfb l) (hstr : ∀ a b : List Int, wfb a → wfb b → ((strOfNums a).toList = (strOfNums b).toList ↔ a = b)) : Ev (fun k => rabbetref1_TakeNum.f k l) (BRleAll.takeR l) := by
  have h := rtake_loop l hl 10 0 (by omega) (by omega)
  rw [List.drop_zero] at h
  have e := rtake_eq l hl hstr
  rw [← e]
  refine Ev.congr (fun k => ?_) (show Ev _ _ from by
    have e2 : (match fi 10 l with | none => ((0 : Int), (0 : Int), false) | some q => told l (0 + q)) = (match fi 10 l with | none => ((0 : Int), (0 : Int), false) | some q => told l q) := by
      cases fi 10 l with
      | none => rfl
      | some q => simp only [Nat.zero_add]
    rw [e2] at h
    exact h)
  simp only [rabbetref1_TakeNum.f]
  rfl
theorem rzig_eq (v : Int) (h1 : -9223372036854775808 ≤ v) (h2 : v ≤ 9223372036854775807) : rabbetref1_Zig.f v = some (zig v) := by
  unfold rabbetref1_Zig.f zig
  simp only [u64_wrap]
  by_cases h : v < 0
  · rw [if_pos h, if_pos h]
    congr 1
    unfold wrap64; omega
  · rw [if_neg h, if_neg h]
    congr 1
    omega
theorem rzag_eq (u : Nat) (h : u < 18446744073709551616) : rabbetref1_Zag.f (u : Int) = some (zag (u : Int)) := by
  unfold rabbetref1_Zag.f zag
  rw [show Int.tmod (u : Int) 2 = ((u % 2 : Nat) : Int) from rfl, show Int.tdiv (u : Int) 2 = ((u / 2 : Nat) : Int) from rfl]
  simp only [u64_wrap]
  by_cases h1 : u % 2 = 1
  · rw [if_pos (by omega), if_pos (by omega)]
    congr 1
    unfold wrap64; omega
  · rw [if_neg (by omega), if_neg (by omega)]
    congr 1
    unfold wrap64; omega
end Go.Proofs.YtigldipjkejalaaDoor.BRRleAll
