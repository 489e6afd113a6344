/- pack: what is put and what is taken, by the program and by the document, of any values and any bytes. Conditions: none. -/
import Derived.Test.YtigldipjkejalaaDoorBWPackTurned
-- import Derived.Test.YtigldipjkejalaaDoorBLPackTurned
import Derived.Test.YtigldipjkejalaaDoorBRPackTurned
import Derived.Test.YtigldipjkejalaaDoorBRBPackTurned
import Derived.Test.YtigldipjkejalaaDoorMStr
import Derived.Test.YtigldipjkejalaaDoorPPackTurnedx14
namespace Go.Proofs.YtigldipjkejalaaDoor.BDPackTurned
open Go.RowKit Go.Proofs.YtigldipjkejalaaDoor.PPackTurned Go.Proofs.YtigldipjkejalaaDoorW.PrintWords Go.Proofs.YtigldipjkejalaaDoorW.PrintLast Go.Proofs.YtigldipjkejalaaDoorW.PrintMore Go.Proofs.YtigldipjkejalaaDoor.MNum Go.Proofs.YtigldipjkejalaaDoor.MStr Go.Proofs.YtigldipjkejalaaDoor.BWPackTurned
set_option linter.unusedVariables false

def minL (x : Int) (l : List S26) : Int := l.foldl (fun a v => mn a v.f1) x
def low : List S26 → Int
  | [] => 0
  | v :: r => minL v.f1 (v :: r)
def ab (l : List S26) : List Int := l.map fun v => v.f1 - low l
def encK (l : List S26) : List Int := if l.length = 0 then [] else E 9 (zig (low l)).toNat ++ (((MBits.W (ab l) : Nat) : Int) :: MBits.putS (ab l) (MBits.W (ab l)))
theorem nine (u : Nat) (h : u < 18446744073709551616) : u < 2 * 128 ^ 9 := Nat.lt_of_lt_of_le h (by decide)
theorem minL_facts (l : List S26) : ∀ x : Int, ok64 x → (∀ v, v ∈ l → ok64 v.f1) → minL x l ≤ x ∧ (∀ v, v ∈ l → minL x l ≤ v.f1) ∧ ok64 (minL x l) := by
  induction l with
  | nil => intro x hx _; exact ⟨Int.le_refl _, fun v hv => by simp at hv, hx⟩
  | cons a r ih =>
    intro x hx hl
    have ha := hl a List.mem_cons_self
    have hm : mn x a.f1 ≤ x ∧ mn x a.f1 ≤ a.f1 ∧ ok64 (mn x a.f1) := by
      unfold mn
      split
      · exact ⟨by omega, by omega, by first | exact ha | exact hx⟩
      · exact ⟨by omega, by omega, by first | exact hx | exact ha⟩
    obtain ⟨h1, h2, h3⟩ := ih (mn x a.f1) hm.2.2 (fun v hv => hl v (List.mem_cons_of_mem _ hv))
    have e : minL x (a :: r) = minL (mn x a.f1) r := rfl
    rw [e]
    refine ⟨by omega, fun v hv => ?_, h3⟩
    rcases List.mem_cons.1 hv with rfl | hv
    · omega
    · exact h2 v hv
theorem low_facts (l : List S26) (h0 : 0 < l.length) (hl : ∀ v, v ∈ l → ok64 v.f1) : (∀ v, v ∈ l → low l ≤ v.f1) ∧ ok64 (low l) := by
  cases l with
  | nil => simp at h0
  | cons a r =>
    obtain ⟨_, h2, h3⟩ := minL_facts (a :: r) a.f1 (hl a List.mem_cons_self) hl
    exact ⟨h2, h3⟩
theorem ab_wf (l : List S26) (h0 : 0 < l.length) (hl : ∀ v, v ∈ l → ok64 v.f1) : BBPackTurned.wf64 (ab l) := by
  obtain ⟨h1, h2⟩ := low_facts l h0 hl
  intro x hx
  obtain ⟨v, hv, rfl⟩ := List.mem_map.1 hx
  have := h1 v hv
  have := hl v hv
  unfold ok64 at *
  omega
/-- The end of Put, behind the numbers above the least. -/
def fin (k : Nat) (m : Int) (a : List Int) : Option (List Int × Bool) := (bits_Width.f k a).bind fun t130 => ((bits_Put.f k a t130).bind fun bt131 => ((num_Zig.f m).bind fun t135 => ((num_Put.f k t135).bind fun t136 => (if t136.length < 140737488355328 then ((some (t136 ++ [(t130) % 256] : List Int)).bind fun y139 => (if y139.length + bt131.1.length < 140737488355328 then (some ((y139 ++ bt131.1), bt131.2)) else (none))) else (none)))))
theorem fin_ev (m : Int) (hm : ok64 m) (a : List Int) (ha : BBPackTurned.wf64 a) (hn : a.length ≤ 1000) : Ev (fun k => fin k m a) (E 9 (zig m).toNat ++ (((MBits.W a : Nat) : Int) :: MBits.putS a (MBits.W a)), true) := by
  have hW := MBits.W_max a
  have h1 := BBPackTurned.width_ev a ha (by omega)
  have h2 := BBPackTurned.put_ev a ha (by omega) ((MBits.W a : Nat) : Int)
  have hR : BBPackTurned.putR a ((MBits.W a : Nat) : Int) = (MBits.putS a (MBits.W a), true) := by
    unfold BBPackTurned.putR
    rw [if_neg (by omega), if_neg (by omega), Int.toNat_natCast]
  rw [hR] at h2
  have hz := zig_range m hm.1 hm.2
  obtain ⟨u, hu⟩ := Int.eq_ofNat_of_zero_le hz.1
  have h3 := BPackTurned.put_ev u (by omega)
  have hE := E_le 9 u
  have hlen : (MBits.putS a (MBits.W a)).length ≤ 100000 := by
    have h1 : (MBits.putS a (MBits.W a)).length = (a.length * (MBits.W a) + 7) / 8 := MBits.bytesT_length _ _ _
    have h2 : a.length * MBits.W a ≤ 1000 * 64 := Nat.mul_le_mul hn hW
    omega
  rw [hu, Int.toNat_natCast]
  generalize MBits.putS a (MBits.W a) = s at *
  generalize E 9 u = z at *
  obtain ⟨w, hw⟩ : ∃ w, MBits.W a = w := ⟨_, rfl⟩
  rw [hw] at h1 h2 hW ⊢
  unfold fin
  refine Ev.bind h1 (Ev.bind h2 ?_)
  refine Ev.congr (f := fun k => (num_Put.f k (u : Int)).bind fun t136 => (if t136.length < 140737488355328 then ((some (t136 ++ [((w : Nat) : Int) % 256] : List Int)).bind fun y139 => (if y139.length + s.length < 140737488355328 then (some ((y139 ++ s), true)) else (none))) else (none))) (fun k => ?_) (Ev.bind h3 (Ev.congr (f := fun _ => some (z ++ (((w : Nat) : Int) :: s), true)) (fun k => ?_) (Ev.now _)))
  · have hz2 : num_Zig.f m = some (u : Int) := by unfold num_Zig.f; rw [zig_eq _ hm.1 hm.2, hu]
    rw [hz2]
    rfl
  · rw [if_pos (by omega), Option.bind_some, if_pos (by rw [List.length_append]; simp; omega), show ((w : Nat) : Int) % 256 = (w : Int) by omega]
    simp
theorem min_loop (l : List S26) (hn : l.length ≤ 1000) (r : List Int × Bool) (d : Nat) : ∀ (i : Nat) (x : Int), i + d = l.length → Ev (fun k => pack_Put.l1 k (minL x (l.drop i)) ([] : List Int) l (l.length : Int) 0) r → Ev (fun k => pack_Put.l0 k l x l (l.length : Int) (i : Int)) r := by
  induction d with
  | zero =>
    intro i x hi h
    obtain rfl : i = l.length := by omega
    rw [List.drop_length] at h
    refine Ev.step (fun k => ?_) h
    simp only [pack_Put.l0]
    rw [if_neg (by omega)]
    rfl
  | succ d ih =>
    intro i x hi h
    rw [drop_consT l i (by omega)] at h
    refine Ev.step (fun k => ?_) (ih (i + 1) (mn x (rd_T26 l (i : Int)).f1) (by omega) h)
    simp only [pack_Put.l0]
    rw [if_pos (by omega), if_pos (by omega), if_pos (by omega), show wrap64 ((i : Int) + 1) = ((i + 1 : Nat) : Int) by unfold wrap64; omega]
theorem above_eq (x m : Int) (hx : ok64 x) (hm : ok64 m) (h : m ≤ x) : IntKind.u64.wrap ((IntKind.u64.wrap x) - (IntKind.u64.wrap m)) = x - m := by
  simp only [MBits.u64_wrap]; unfold ok64 at *; omega
theorem ab_loop (l : List S26) (hn : l.length ≤ 1000) (m : Int) (hm : ok64 m) (hl : ∀ v, v ∈ l → ok64 v.f1 ∧ m ≤ v.f1) (r : List Int × Bool) (d : Nat) : ∀ (i : Nat) (acc : List Int), i + d = l.length → acc.length = i → Ev (fun k => fin k m (acc ++ (l.drop i).map fun v => v.f1 - m)) r → Ev (fun k => pack_Put.l1 k m acc l (l.length : Int) (i : Int)) r := by
  induction d with
  | zero =>
    intro i acc hi ha h
    obtain rfl : i = l.length := by omega
    rw [List.drop_length, List.map_nil, List.append_nil] at h
    refine Ev.step (fun k => ?_) h
    simp only [pack_Put.l1]
    rw [if_neg (by omega)]
    rfl
  | succ d ih =>
    intro i acc hi ha h
    have hv := hl _ (rd_memT l i (by omega))
    rw [drop_consT l i (by omega), List.map_cons] at h
    refine Ev.step (fun k => ?_) (ih (i + 1) (acc ++ [(rd_T26 l (i : Int)).f1 - m]) (by omega) (by rw [List.length_append]; simp; omega) (by rw [List.append_assoc]; exact h))
    simp only [pack_Put.l1]
    rw [if_pos (by omega), if_pos (by omega), if_pos (by omega), if_pos (by omega), above_eq _ _ hv.1 hm hv.2, show wrap64 ((i : Int) + 1) = ((i + 1 : Nat) : Int) by unfold wrap64; omega]

def nT (t : Int) : Bool := decide (1 ≤ t ∧ t ≤ 3)
def putR (t : Int) (l : List S26) : List Int × Bool := if (nT t && l.all (okB t)) = true then (encK l, true) else ([], false)
theorem encK_wf (l : List S26) (hok : ∀ v, v ∈ l → ok64 v.f1) : wfb (encK l) := by
  unfold encK
  by_cases h0 : l.length = 0
  · rw [if_pos h0]; intro x hx; simp at hx
  rw [if_neg h0]
  obtain ⟨f1, f2⟩ := low_facts l (by omega) hok
  have hz := zig_range (low l) f2.1 f2.2
  obtain ⟨u, hu⟩ := Int.eq_ofNat_of_zero_le hz.1
  have hW := MBits.W_max (ab l)
  rw [hu, Int.toNat_natCast]
  intro x hx
  rcases List.mem_append.1 hx with hx | hx
  · exact E_wf 9 u (nine u (by omega)) x hx
  · rcases List.mem_cons.1 hx with hx | hx
    · omega
    · exact MBits.bytesT_wf _ (MBits.bitf_le _ _) _ _ x hx
theorem num_loop (t : Int) (l : List S26) (hn : l.length ≤ 1000) (d : Nat) : ∀ i : Nat, i + d = l.length → Ev (fun k => pack_numbers.l0 k t l (l.length : Int) (i : Int)) ((l.drop i).all (okB t)) := by
  induction d with
  | zero =>
    intro i hi
    refine Ev.step (f := fun _ => some _) (fun k => ?_) (Ev.now _)
    simp only [pack_numbers.l0]
    rw [if_neg (by omega), List.drop_eq_nil_of_le (by omega)]
    rfl
  | succ d ih =>
    intro i hi
    have hih := ih (i + 1) (by omega)
    rw [drop_consT l i (by omega), List.all_cons]
    have hw : wrap64 ((i : Int) + 1) = ((i + 1 : Nat) : Int) := by unfold wrap64; omega
    by_cases hv : okB t (rd_T26 l (i : Int)) = true
    · rw [hv, Bool.true_and]
      refine Ev.step (fun k => ?_) hih
      unfold okB at hv
      rw [Bool.and_eq_true] at hv
      simp only [pack_numbers.l0]
      rw [if_pos (by omega), if_pos (by omega), if_pos (by omega), if_pos (eq_of_beq hv.1), may_ev, Option.bind_some, if_pos hv.2, hw]
    · have hf : okB t (rd_T26 l (i : Int)) = false := by simpa using hv
      rw [hf, Bool.false_and]
      refine Ev.step (f := fun _ => some false) (fun k => ?_) (Ev.now _)
      simp only [pack_numbers.l0]
      rw [if_pos (by omega), if_pos (by omega), if_pos (by omega)]
      unfold okB at hf
      by_cases h0 : (rd_T26 l (i : Int)).f0 = t
      · rw [if_pos h0, may_ev, Option.bind_some]
        rw [h0, beq_self_eq_true, Bool.true_and] at hf
        rw [hf, if_neg (by decide)]
      · rw [if_neg h0]
theorem num_ev (t : Int) (l : List S26) (hn : l.length ≤ 1000) : Ev (fun k => pack_numbers.f k t l) (nT t && l.all (okB t)) := by
  by_cases ht : nT t = true
  · rw [ht, Bool.true_and]
    have h14 := of_decide_eq_true ht
    have hj : Ev (fun k => pack_numbers.j0 k t l false) (l.all (okB t)) := by
      refine Ev.step (fun k => ?_) (num_loop t l hn l.length 0 (by omega))
      simp only [pack_numbers.j0, Bool.false_eq_true, if_false]
      rfl
    refine Ev.congr (fun k => ?_) hj
    simp only [pack_numbers.f]
    rw [if_neg (by omega), decide_eq_false (by omega)]
  · have hf : nT t = false := by simpa using ht
    rw [hf, Bool.false_and]
    have h14 := of_decide_eq_false hf
    have hj : Ev (fun k => pack_numbers.j0 k t l true) false := by
      refine Ev.step (f := fun _ => some false) (fun k => ?_) (Ev.now _)
      simp only [pack_numbers.j0, if_true]
    refine Ev.congr (fun k => ?_) hj
    simp only [pack_numbers.f]
    by_cases h1 : t < 1
    · rw [if_pos h1]
    · rw [if_neg h1, decide_eq_true (by omega)]
theorem put_any (t : Int) (l : List S26) (hok : ∀ v, v ∈ l → ok64 v.f1) (hn : l.length ≤ 1000) : Ev (fun k => pack_Put.f k t l) (putR t l) := by
  refine Ev.congr (f := fun k => (pack_numbers.f k t l).bind _) (fun k => by simp only [pack_Put.f]; rfl) (Ev.bind (num_ev t l hn) ?_)
  unfold putR
  by_cases hr : (nT t && l.all (okB t)) = true
  · rw [if_pos hr]
    by_cases h0 : l.length = 0
    · refine Ev.congr (f := fun _ => some (encK l, true)) (fun k => ?_) (Ev.now _)
      unfold encK
      rw [if_pos hr, if_pos (by omega), if_pos h0]
    · obtain ⟨f1, f2⟩ := low_facts l (by omega) hok
      have hfin := fin_ev (low l) f2 (ab l) (ab_wf l (by omega) hok) (by unfold ab; rw [List.length_map]; exact hn)
      have he : encK l = E 9 (zig (low l)).toNat ++ (((MBits.W (ab l) : Nat) : Int) :: MBits.putS (ab l) (MBits.W (ab l))) := by unfold encK; rw [if_neg h0]
      rw [← he] at hfin
      have h1 := ab_loop l hn (low l) f2 (fun v hv => ⟨hok v hv, f1 v hv⟩) (encK l, true) l.length 0 [] (by omega) rfl (by rw [List.nil_append, List.drop_zero]; exact hfin)
      have hlow : low l = minL (rd_T26 l 0).f1 (l.drop 0) := by
        cases l with
        | nil => simp at h0
        | cons a r => rfl
      rw [hlow] at h1
      have h2 := min_loop l hn (encK l, true) l.length 0 (rd_T26 l 0).f1 (by omega) h1
      refine Ev.congr (fun k => ?_) h2
      rw [if_pos hr, if_neg (by omega), if_pos (by omega)]
      rfl
  · rw [if_neg hr]
    exact Ev.congr (fun k => by rw [if_neg hr]) (Ev.now _)

/-! ### the document's bytes -/
def rfin (k : Nat) (m : Int) (a : List Int) : Option (List Int) := (rabbetref1_Width.f k a).bind fun t270 => ((rabbetref1_PutBits.f k a t270).bind fun bt271 => ((rabbetref1_Zig.f m).bind fun t275 => ((rabbetref1_PutNum.f k t275).bind fun t276 => ((rabbetref1_Width.f k a).bind fun t279 => (if t276.length < 140737488355328 then ((some (t276 ++ [(t279) % 256] : List Int)).bind fun y280 => (if y280.length + bt271.1.length < 140737488355328 then (some (y280 ++ bt271.1)) else (none))) else (none))))))
theorem rfin_ev (m : Int) (hm : ok64 m) (a : List Int) (ha : BBPackTurned.wf64 a) (hn : a.length ≤ 1000) : Ev (fun k => rfin k m a) (E 9 (zig m).toNat ++ (((MBits.W a : Nat) : Int) :: MBits.putS a (MBits.W a))) := by
  have hW := MBits.W_max a
  have h1 := BRBPackTurned.rwidth_ev a ha (by omega)
  have h2 := BRBPackTurned.rput_ev a ha (by omega) ((MBits.W a : Nat) : Int)
  have hR : BBPackTurned.putR a ((MBits.W a : Nat) : Int) = (MBits.putS a (MBits.W a), true) := by
    unfold BBPackTurned.putR
    rw [if_neg (by omega), if_neg (by omega), Int.toNat_natCast]
  rw [hR] at h2
  have hz := zig_range m hm.1 hm.2
  obtain ⟨u, hu⟩ := Int.eq_ofNat_of_zero_le hz.1
  have h3 := BRPackTurned.rput_ev u (by omega)
  have hE := E_le 9 u
  have hlen : (MBits.putS a (MBits.W a)).length ≤ 100000 := by
    have h1 : (MBits.putS a (MBits.W a)).length = (a.length * (MBits.W a) + 7) / 8 := MBits.bytesT_length _ _ _
    have h2 : a.length * MBits.W a ≤ 1000 * 64 := Nat.mul_le_mul hn hW
    omega
  rw [hu, Int.toNat_natCast]
  generalize MBits.putS a (MBits.W a) = s at *
  generalize E 9 u = z at *
  obtain ⟨w, hw⟩ : ∃ w, MBits.W a = w := ⟨_, rfl⟩
  rw [hw] at h1 h2 hW ⊢
  unfold rfin
  refine Ev.bind h1 (Ev.bind h2 ?_)
  have hz2 := BRPackTurned.rzig_eq m hm.1 hm.2
  rw [hu] at hz2
  refine Ev.congr (fun k => by rw [hz2, Option.bind_some]) (Ev.bind h3 (Ev.bind h1 (Ev.congr (f := fun _ => some (z ++ (((w : Nat) : Int) :: s))) (fun k => ?_) (Ev.now _))))
  rw [if_pos (by omega), Option.bind_some, if_pos (by rw [List.length_append]; simp; omega), show ((w : Nat) : Int) % 256 = (w : Int) by omega]
  simp
theorem rmin_loop (l : List S26) (hn : l.length ≤ 1000) (r : List Int) (d : Nat) : ∀ (i : Nat) (x : Int), i + d = l.length → Ev (fun k => rabbetref1_pack.l1 k l (minL x (l.drop i)) ([] : List Int) 0) r → Ev (fun k => rabbetref1_pack.l0 k l x (i : Int)) r := by
  induction d with
  | zero =>
    intro i x hi h
    obtain rfl : i = l.length := by omega
    rw [List.drop_length] at h
    refine Ev.step (fun k => ?_) h
    simp only [rabbetref1_pack.l0]
    rw [if_neg (by omega)]
    rfl
  | succ d ih =>
    intro i x hi h
    rw [drop_consT l i (by omega)] at h
    refine Ev.step (fun k => ?_) (ih (i + 1) (mn x (rd_T26 l (i : Int)).f1) (by omega) h)
    simp only [rabbetref1_pack.l0]
    rw [if_pos (by omega), if_pos (by omega), show wrap64 ((i : Int) + 1) = ((i + 1 : Nat) : Int) by unfold wrap64; omega]
theorem rab_loop (l : List S26) (hn : l.length ≤ 1000) (m : Int) (hm : ok64 m) (hl : ∀ v, v ∈ l → ok64 v.f1 ∧ m ≤ v.f1) (r : List Int) (d : Nat) : ∀ (i : Nat) (acc : List Int), i + d = l.length → acc.length = i → Ev (fun k => rfin k m (acc ++ (l.drop i).map fun v => v.f1 - m)) r → Ev (fun k => rabbetref1_pack.l1 k l m acc (i : Int)) r := by
  induction d with
  | zero =>
    intro i acc hi ha h
    obtain rfl : i = l.length := by omega
    rw [List.drop_length, List.map_nil, List.append_nil] at h
    refine Ev.step (fun k => ?_) h
    simp only [rabbetref1_pack.l1]
    rw [if_neg (by omega)]
    rfl
  | succ d ih =>
    intro i acc hi ha h
    have hv := hl _ (rd_memT l i (by omega))
    rw [drop_consT l i (by omega), List.map_cons] at h
    refine Ev.step (fun k => ?_) (ih (i + 1) (acc ++ [(rd_T26 l (i : Int)).f1 - m]) (by omega) (by rw [List.length_append]; simp; omega) (by rw [List.append_assoc]; exact h))
    simp only [rabbetref1_pack.l1]
    rw [if_pos (by omega), if_pos (by omega), if_pos (by omega), above_eq _ _ hv.1 hm hv.2, show wrap64 ((i : Int) + 1) = ((i + 1 : Nat) : Int) by unfold wrap64; omega]
theorem rpack_ev (l : List S26) (hok : ∀ v, v ∈ l → ok64 v.f1) (hn : l.length ≤ 1000) : Ev (fun k => rabbetref1_pack.f k l) (encK l) := by
  by_cases h0 : l.length = 0
  · refine Ev.congr (f := fun _ => some (encK l)) (fun k => ?_) (Ev.now _)
    unfold encK
    simp only [rabbetref1_pack.f]
    rw [if_pos (by omega), if_pos h0]
  · obtain ⟨f1, f2⟩ := low_facts l (by omega) hok
    have hfin := rfin_ev (low l) f2 (ab l) (ab_wf l (by omega) hok) (by unfold ab; rw [List.length_map]; exact hn)
    have he : encK l = E 9 (zig (low l)).toNat ++ (((MBits.W (ab l) : Nat) : Int) :: MBits.putS (ab l) (MBits.W (ab l))) := by unfold encK; rw [if_neg h0]
    rw [← he] at hfin
    have h1 := rab_loop l hn (low l) f2 (fun v hv => ⟨hok v hv, f1 v hv⟩) (encK l) l.length 0 [] (by omega) rfl (by rw [List.nil_append, List.drop_zero]; exact hfin)
    have hlow : low l = minL (rd_T26 l 0).f1 (l.drop 0) := by
      cases l with
      | nil => simp at h0
      | cons a r => rfl
    rw [hlow] at h1
    have h2 := rmin_loop l hn (encK l) l.length 0 (rd_T26 l 0).f1 (by omega) h1
    refine Ev.congr (fun k => ?_) h2
    simp only [rabbetref1_pack.f]
    rw [if_neg (by omega), if_pos (by omega)]
    rfl
theorem number_ev (t : Int) : rabbetref1_number.f t = some (nT t) := by
  unfold rabbetref1_number.f nT
  by_cases h1 : t = 1
  · rw [if_pos h1, decide_eq_true (by omega)]
  by_cases h2 : t = 2
  · rw [if_neg h1, if_pos h2, decide_eq_true (by omega)]
  rw [if_neg h1, if_neg h2]
  by_cases h3 : t = 3
  · rw [decide_eq_true (by omega), h3]; rfl
  · rw [decide_eq_false (by omega), beq_eq_false_iff_ne.mpr h3]
theorem enc_any (t : Int) (l : List S26) (hok : ∀ v, v ∈ l → ok64 v.f1) (hn : l.length ≤ 1000) : Ev (fun k => rabbetref1_Encode.f k 4 t l) (putR t l) := by
  have hno : Ev (fun k => rabbetref1_Encode.j0 k 4 l true) ([], false) := by
    refine Ev.step (f := fun _ => some ([], false)) (fun k => ?_) (Ev.now _)
    simp only [rabbetref1_Encode.j0, if_true]
  refine Ev.congr (f := fun k => (rabbetref1_right.f k t l).bind _) (fun k => by simp only [rabbetref1_Encode.f]; rfl) (Ev.bind (right_ev t l hn) ?_)
  by_cases hr : rightB t l = true
  · by_cases ht : nT t = true
    · have hp : putR t l = (encK l, true) := by
        unfold putR
        unfold rightB at hr
        rw [Bool.and_eq_true] at hr
        rw [ht, Bool.true_and, if_pos hr.2]
      rw [hp]
      have hj : Ev (fun k => rabbetref1_Encode.j0 k 4 l false) (encK l, true) := by
        refine Ev.step (f := fun k => (rabbetref1_pack.f k l).bind fun x => some (x, true)) (fun k => ?_) (Ev.bind (rpack_ev l hok hn) (Ev.now _))
        simp only [rabbetref1_Encode.j0, Bool.false_eq_true, if_false]
        rw [if_neg (by decide), if_neg (by decide), if_neg (by decide), if_pos trivial]
      refine Ev.congr (fun k => ?_) hj
      rw [if_pos hr, if_pos (by trivial), number_ev, Option.bind_some, if_pos ht, if_neg (by decide)]
    · have hf : nT t = false := by simpa using ht
      have hp : putR t l = ([], false) := by
        unfold putR
        rw [hf, Bool.false_and, if_neg (by decide)]
      rw [hp]
      refine Ev.congr (fun k => ?_) hno
      rw [if_pos hr, if_pos (by trivial), number_ev, Option.bind_some, if_neg ht]
  · have hf : rightB t l = false := by simpa using hr
    have hp : putR t l = ([], false) := by
      unfold putR
      rw [if_neg]
      intro h
      rw [Bool.and_eq_true] at h
      unfold rightB at hf
      rw [h.2, Bool.and_true] at hf
      have h1 := of_decide_eq_true h.1
      have h2 := of_decide_eq_false hf
      omega
    rw [hp]
    refine Ev.congr (fun k => ?_) hno
    rw [if_neg hr]
-- theorem puts : BLPackTurned.Puts := fun t l hl hok => ⟨putR t l, put_any t l (fun v hv => (hok v hv).1) (by omega), enc_any t l (fun v hv => (hok v hv).1) (by omega)⟩

/-! ### what bytes say -/
def mk1 (t : Int) (u : Nat) (a : Int) : S26 := ⟨t, wrap64 (IntKind.u64.wrap ((IntKind.u64.wrap (zag (u : Int))) + a)), (⟨#[]⟩ : ByteArray)⟩
def readK (t : Int) (n : Nat) (b : List Int) : Option (List S26) := if n = 0 then some [] else match D 10 true b with
  | none => none
  | some (u, m) => if m = b.length then none else if (BBPackTurned.takeR (b.drop (m + 1)) (n : Int) (rd b (m : Int))).2 = true then some ((BBPackTurned.takeR (b.drop (m + 1)) (n : Int) (rd b (m : Int))).1.map (mk1 t u)) else none
theorem takeB_len (b : List Int) (n : Nat) (w : Int) (h : (BBPackTurned.takeR b (n : Int) w).2 = true) : (BBPackTurned.takeR b (n : Int) w).1.length = n := by
  unfold BBPackTurned.takeR at h ⊢
  split at h
  · cases h
  · split at h
    · rename_i h1 h2
      rw [if_neg h1, if_pos h2]
      show (MBits.takeS _ _ _).length = n
      unfold MBits.takeS
      rw [MBits.numsT_length, Int.toNat_natCast]
    · cases h
theorem readK_facts (t : Int) (n : Nat) (b : List Int) (l : List S26) (h : readK t n b = some l) : l.length = n ∧ ∀ v, v ∈ l → ok64 v.f1 := by
  unfold readK at h
  by_cases h0 : n = 0
  · rw [if_pos h0] at h
    injection h with h
    subst h
    exact ⟨h0.symm, fun v hv => by simp at hv⟩
  rw [if_neg h0] at h
  cases hD : D 10 true b with
  | none => rw [hD] at h; cases h
  | some p =>
    obtain ⟨u, m⟩ := p
    rw [hD] at h
    dsimp only at h
    by_cases h1 : m = b.length
    · rw [if_pos h1] at h; cases h
    rw [if_neg h1] at h
    by_cases h2 : (BBPackTurned.takeR (b.drop (m + 1)) (n : Int) (rd b (m : Int))).2 = true
    · rw [if_pos h2] at h
      injection h with h
      subst h
      refine ⟨by rw [List.length_map]; exact takeB_len _ _ _ h2, fun v hv => ?_⟩
      obtain ⟨a, _, rfl⟩ := List.mem_map.1 hv
      show ok64 (wrap64 _)
      unfold ok64 wrap64; omega
    · rw [if_neg h2] at h; cases h
def takeR (t n : Int) (b : List Int) : List S26 × Bool := if n < 0 ∨ 1000 < n then ([], false) else match readK t n.toNat b with
  | none => ([], false)
  | some l => if putR t l = (b, true) then (l, true) else ([], false)
theorem takeR_len (t n : Int) (b : List Int) : (takeR t n b).1.length ≤ 1000 := by
  unfold takeR
  split
  · simp
  · split
    · simp
    · rename_i l hl
      split
      · show l.length ≤ 1000
        rw [(readK_facts _ _ _ _ hl).1]; omega
      · simp
theorem putR_wf (t : Int) (l : List S26) (hok : ∀ v, v ∈ l → ok64 v.f1) : wfb (putR t l).1 := by
  unfold putR
  split
  · exact encK_wf l hok
  · intro x hx; simp at hx
theorem equal_eq (a b : List Int) (ha : wfb a) (hb : wfb b) : bytes_Equal.f a b = some (decide (a = b)) := by
  unfold bytes_Equal.f
  rw [str_beq a b ha hb]
theorem wfb_drop {b : List Int} (h : wfb b) (m : Nat) : wfb (b.drop m) := fun x hx => h x (List.mem_of_mem_drop hx)
def endR (t : Int) (b : List Int) (l : List S26) : List S26 × Option Int := if putR t l = (b, true) then (l, none) else ([], some 5)
theorem j3_ev (t : Int) (b : List Int) (hb : wfb b) (l : List S26) (hok : ∀ v, v ∈ l → ok64 v.f1) (hn : l.length ≤ 1000) : Ev (fun k => pack_read.j3 k t b l) (endR t b l) := by
  refine Ev.step (f := fun k => (pack_Put.f k t l).bind _) (fun k => by simp only [pack_read.j3]; rfl) (Ev.bind (put_any t l hok hn) ?_)
  have hw := putR_wf t l hok
  unfold endR
  generalize putR t l = q at *
  obtain ⟨c, ok⟩ := q
  dsimp only at hw ⊢
  refine Ev.congr (f := fun _ => some (if (c, ok) = (b, true) then (l, none) else ([], some 5))) (fun k => ?_) (Ev.now _)
  cases ok
  · rw [if_neg (by decide), if_neg (by simp)]
  · rw [if_pos rfl, equal_eq c b hw hb, Option.bind_some]
    by_cases hc : c = b
    · rw [decide_eq_true hc, if_pos rfl, if_pos (by rw [hc])]
    · rw [decide_eq_false hc, if_neg (by decide), if_neg (by intro h; exact hc (Prod.mk.inj h).1)]
theorem build_loop (t : Int) (b : List Int) (u : Nat) (hu : u < 18446744073709551616) (q : List Int) (hq : q.length ≤ 1000) (r : List S26 × Option Int) (d : Nat) : ∀ (i : Nat) (acc : List S26), i + d = q.length → acc.length = i → Ev (fun k => pack_read.j3 k t b (acc ++ (q.drop i).map (mk1 t u))) r →
    Ev (fun k => pack_read.l0 k t b acc (u : Int) q (q.length : Int) (i : Int)) r := by
  induction d with
  | zero =>
    intro i acc hi ha h
    rw [List.drop_eq_nil_of_le (by omega), List.map_nil, List.append_nil] at h
    refine Ev.step (fun k => ?_) h
    simp only [pack_read.l0]
    rw [if_neg (by omega)]
  | succ d ih =>
    intro i acc hi ha h
    rw [BBPackTurned.drop_cons q i (by omega), List.map_cons] at h
    refine Ev.step (fun k => ?_) (ih (i + 1) (acc ++ [mk1 t u (rd q (i : Int))]) (by omega) (by rw [List.length_append]; simp; omega) (by rw [List.append_assoc]; exact h))
    have hz : num_Zag.f (u : Int) = some (zag (u : Int)) := by unfold num_Zag.f; rw [zag_eq _ (by omega) (by omega)]
    simp only [pack_read.l0]
    rw [if_pos (by omega), if_pos (by omega), if_pos (by omega), hz, Option.bind_some, if_pos (by omega), show wrap64 ((i : Int) + 1) = ((i + 1 : Nat) : Int) by unfold wrap64; omega]
    rfl
theorem D64 (l : List Int) (hl : wfb l) (u m : Nat) (h : D 10 true l = some (u, m)) : u < 18446744073709551616 := by
  have h1 := (E_D 9 true l u m hl h).1
  have : (2 : Nat) * 128 ^ 9 = 18446744073709551616 := by decide
  omega
theorem rd_byte (b : List Int) (hb : wfb b) (i : Nat) (h : i < b.length) : 0 ≤ rd b (i : Int) ∧ rd b (i : Int) < 256 := hb _ (BBPackTurned.rd_mem b i h)
theorem take_of (t n : Int) (b : List Int) (l : List S26) (c : Option Int) (h : Ev (fun k => pack_read.f k t n b) (l, c)) (hc : ∀ x, c = some x → errG x = 0) : Ev (fun k => pack_Take.f k t n b) (l, c.isNone) := by
  refine Ev.congr (f := fun k => (pack_read.f k t n b).bind _) (fun k => by simp only [pack_Take.f]; rfl) (Ev.bind h (Ev.congr (f := fun _ => some (l, c.isNone)) (fun k => ?_) (Ev.now _)))
  cases c with
  | none => simp [errors_IsN.f]
  | some x => simp [errors_IsS.f, hc x rfl]
theorem take_any (t n : Int) (b : List Int) (hb : wfb b) : Ev (fun k => pack_Take.f k t n b) (takeR t n b) := by
  by_cases hn : n < 0 ∨ 1000 < n
  · unfold takeR
    rw [if_pos hn]
    refine take_of t n b [] (some 2) ?_ (fun x hx => by injection hx with hx; subst hx; decide)
    have hj : Ev (fun k => pack_read.j0 k t n b ([] : List S26) true) ([], some 2) := by
      refine Ev.step (f := fun _ => some ([], some 2)) (fun k => ?_) (Ev.now _)
      simp only [pack_read.j0, if_true]
    refine Ev.congr (fun k => ?_) hj
    simp only [pack_read.f]
    by_cases h : n < 0
    · rw [if_pos h]
    · rw [if_neg h, decide_eq_true (by omega)]
  · obtain ⟨m, rfl⟩ := Int.eq_ofNat_of_zero_le (show 0 ≤ n by omega)
    have hend : ∀ l, readK t m b = some l → Ev (fun k => pack_read.f k t (m : Int) b) (endR t b l) → Ev (fun k => pack_Take.f k t (m : Int) b) (takeR t (m : Int) b) := fun l hl h => by
      unfold takeR
      rw [if_neg hn, Int.toNat_natCast, hl]
      dsimp only
      unfold endR at h
      by_cases hp : putR t l = (b, true)
      · rw [if_pos hp] at h ⊢
        exact take_of t m b l none h (fun x hx => by cases hx)
      · rw [if_neg hp] at h ⊢
        exact take_of t m b [] (some 5) h (fun x hx => by injection hx with hx; subst hx; decide)
    have hfail : readK t m b = none → ∀ c, errG c = 0 → Ev (fun k => pack_read.f k t (m : Int) b) ([], some c) → Ev (fun k => pack_Take.f k t (m : Int) b) (takeR t (m : Int) b) := fun hl c hc h => by
      unfold takeR
      rw [if_neg hn, Int.toNat_natCast, hl]
      exact take_of t m b [] (some c) h (fun x hx => by injection hx with hx; subst hx; exact hc)
    have hbegin : ∀ r, Ev (fun k => pack_read.j0 k t (m : Int) b ([] : List S26) false) r → Ev (fun k => pack_read.f k t (m : Int) b) r := fun r h => by
      refine Ev.congr (fun k => ?_) h
      simp only [pack_read.f]
      rw [if_neg (by omega), decide_eq_false (by omega)]
    by_cases h0 : m = 0
    · subst h0
      refine hend [] (by unfold readK; rw [if_pos rfl]) (hbegin _ ?_)
      refine Ev.step (fun k => ?_) (j3_ev t b hb [] (fun v hv => by simp at hv) (by simp))
      simp only [pack_read.j0, Bool.false_eq_true, if_false]
      rw [if_neg (by omega)]
    have he := BPackTurned.take_ev b hb
    have hj0 : ∀ r, Ev (fun k => (num_Take.f k b).bind fun bt166 => (if bt166.2.2 = true then (pack_read.j1 k t (m : Int) b [] bt166.1 bt166.2.1 (bt166.2.1 == (b.length : Int))) else (pack_read.j1 k t (m : Int) b [] bt166.1 bt166.2.1 true))) r → Ev (fun k => pack_read.f k t (m : Int) b) r := fun r h => by
      refine hbegin r (Ev.step (fun k => ?_) h)
      simp only [pack_read.j0, Bool.false_eq_true, if_false]
      rw [if_pos (by omega)]
    have j1_true : ∀ x y : Int, Ev (fun k => pack_read.j1 k t (m : Int) b ([] : List S26) x y true) ([], some 3) := fun x y => by
      refine Ev.step (f := fun _ => some ([], some 3)) (fun k => ?_) (Ev.now _)
      simp only [pack_read.j1, if_true]
    cases hD : D 10 true b with
    | none =>
      have ht : BPackTurned.takeR b = (0, 0, false) := by unfold BPackTurned.takeR; rw [hD]
      rw [ht] at he
      refine hfail (by unfold readK; rw [if_neg h0, hD]) 3 (by decide) (hj0 _ (Ev.bind he (Ev.congr (fun k => ?_) (j1_true 0 0))))
      rw [if_neg (by decide)]
    | some p =>
      obtain ⟨u, q⟩ := p
      have h64 := D64 b hb u q hD
      have hq := D_le 10 true b u q hD
      have ht : BPackTurned.takeR b = ((u : Int), (q : Int), true) := by unfold BPackTurned.takeR; rw [hD]
      rw [ht] at he
      by_cases h1 : q = b.length
      · refine hfail (by unfold readK; rw [if_neg h0, hD]; dsimp only; rw [if_pos h1]) 3 (by decide) (hj0 _ (Ev.bind he (Ev.congr (fun k => ?_) (j1_true (u : Int) (q : Int)))))
        dsimp only
        rw [if_pos rfl, h1, beq_self_eq_true]
      have hw := rd_byte b hb q (by omega)
      have htk := BBPackTurned.take_ev (b.drop (q + 1)) (wfb_drop hb _) (m : Int) (rd b (q : Int)) (by omega) (by omega) (by omega) (by omega)
      have hrk : readK t m b = if (BBPackTurned.takeR (b.drop (q + 1)) (m : Int) (rd b (q : Int))).2 = true then some ((BBPackTurned.takeR (b.drop (q + 1)) (m : Int) (rd b (q : Int))).1.map (mk1 t u)) else none := by
        unfold readK
        rw [if_neg h0, hD]
        dsimp only
        rw [if_neg h1]
      have hlen := takeB_len (b.drop (q + 1)) m (rd b (q : Int))
      have hfacts := readK_facts t m b
      generalize BBPackTurned.takeR (b.drop (q + 1)) (m : Int) (rd b (q : Int)) = x at *
      obtain ⟨l, ok⟩ := x
      dsimp only at hrk hlen
      have hj1 : ∀ r, Ev (fun k => if ok = true then (pack_read.l0 k t b [] (u : Int) l (l.length : Int) 0) else (some (([] : List S26), some 4))) r → Ev (fun k => pack_read.f k t (m : Int) b) r := fun r h => by
        refine hj0 r (Ev.bind he (Ev.congr (fun k => ?_) (show Ev (fun k => pack_read.j1 k t (m : Int) b ([] : List S26) (u : Int) (q : Int) false) r from ?_)))
        · dsimp only
          rw [if_pos rfl, beq_eq_false_iff_ne.mpr (by omega)]
        · refine Ev.step (f := fun k => (bits_Take.f k (b.drop (q + 1)) (m : Int) (rd b (q : Int))).bind fun x => (if x.2 = true then (pack_read.l0 k t b [] (u : Int) x.1 (x.1.length : Int) 0) else (some (([] : List S26), some 4)))) (fun k => ?_) (Ev.bind htk h)
          have e1 : wrap64 ((q : Int) + 1) = ((q + 1 : Nat) : Int) := by unfold wrap64; omega
          have e2 : wrap64 (rd b (q : Int)) = rd b (q : Int) := by unfold wrap64; omega
          simp only [pack_read.j1, Bool.false_eq_true, if_false]
          rw [e1, e2, if_pos (by omega), if_pos (by omega), if_pos (by omega), if_pos (by omega), Int.toNat_natCast]
      cases ok
      · rw [if_neg (by decide)] at hrk
        exact hfail hrk 4 (by decide) (hj1 _ (Ev.congr (fun k => by rw [if_neg (by decide)]) (Ev.now _)))
      · rw [if_pos rfl] at hrk
        have hf := hfacts _ hrk
        have hll := hlen rfl
        have hb2 := build_loop t b u h64 l (by omega) _ l.length 0 [] (by omega) rfl (by rw [List.nil_append, List.drop_zero]; exact j3_ev t b hb _ hf.2 (by rw [hf.1]; omega))
        exact hend _ hrk (hj1 _ (Ev.congr (fun k => by rw [if_pos rfl]; rfl) hb2))

/-! ### the document's reading -/
theorem rbuild_loop (t : Int) (n : Nat) (u : Nat) (hu : u < 18446744073709551616) (q : List Int) (hq : q.length = n) (hn : n ≤ 1000) (d : Nat) : ∀ (i : Nat) (acc : List S26), i + d = n → acc.length = i →
    Ev (fun k => rabbetref1_readPack.l0 k t (n : Int) (u : Int) q acc (i : Int)) (acc ++ (q.drop i).map (mk1 t u), true) := by
  induction d with
  | zero =>
    intro i acc hi ha
    rw [List.drop_eq_nil_of_le (by omega), List.map_nil, List.append_nil]
    refine Ev.step (f := fun _ => some (acc, true)) (fun k => ?_) (Ev.now _)
    simp only [rabbetref1_readPack.l0]
    rw [if_neg (by omega)]
  | succ d ih =>
    intro i acc hi ha
    have hih := ih (i + 1) (acc ++ [mk1 t u (rd q (i : Int))]) (by omega) (by rw [List.length_append]; simp; omega)
    rw [BBPackTurned.drop_cons q i (by omega), List.map_cons]
    rw [List.append_assoc] at hih
    refine Ev.step (fun k => ?_) hih
    have hz := BRPackTurned.rzag_eq u hu
    simp only [rabbetref1_readPack.l0]
    rw [if_pos (by omega), hz, Option.bind_some, if_pos (by omega), if_pos (by omega), if_pos (by omega), show wrap64 ((i : Int) + 1) = ((i + 1 : Nat) : Int) by unfold wrap64; omega]
    rfl
theorem rread_ev (t : Int) (m : Nat) (hm : m ≤ 1000) (b : List Int) (hb : wfb b) (h0 : m ≠ 0) : Ev (fun k => rabbetref1_readPack.f k t (m : Int) b) (match readK t m b with | none => ([], false) | some l => (l, true)) := by
  have he := BRPackTurned.rtake_ev b hb (fun a b ha hb => MStr.str_eq a b ha hb)
  have j_true : ∀ x y : Int, Ev (fun k => rabbetref1_readPack.j0 k t (m : Int) b x y true) ([], false) := fun x y => by
    refine Ev.step (f := fun _ => some ([], false)) (fun k => ?_) (Ev.now _)
    simp only [rabbetref1_readPack.j0, if_true]
  refine Ev.congr (f := fun k => (rabbetref1_TakeNum.f k b).bind _) (fun k => by simp only [rabbetref1_readPack.f]; rw [if_neg (by omega)]) ?_
  unfold readK
  rw [if_neg h0]
  cases hD : D 10 true b with
  | none =>
    have ht : BPackTurned.takeR b = (0, 0, false) := by unfold BPackTurned.takeR; rw [hD]
    rw [ht] at he
    refine Ev.bind he (Ev.congr (fun k => ?_) (j_true 0 0))
    rw [if_neg (by decide)]
  | some p =>
    obtain ⟨u, q⟩ := p
    have h64 := D64 b hb u q hD
    have hq := D_le 10 true b u q hD
    have ht : BPackTurned.takeR b = ((u : Int), (q : Int), true) := by unfold BPackTurned.takeR; rw [hD]
    rw [ht] at he
    dsimp only
    by_cases h1 : q = b.length
    · rw [if_pos h1]
      refine Ev.bind he (Ev.congr (fun k => ?_) (j_true (u : Int) (q : Int)))
      dsimp only
      rw [if_pos rfl, decide_eq_true (by omega)]
    rw [if_neg h1]
    have hw := rd_byte b hb q (by omega)
    have htk := BRBPackTurned.rtake_ev (b.drop (q + 1)) (wfb_drop hb _) (m : Int) (rd b (q : Int))
    have hlen := takeB_len (b.drop (q + 1)) m (rd b (q : Int))
    generalize BBPackTurned.takeR (b.drop (q + 1)) (m : Int) (rd b (q : Int)) = x at *
    obtain ⟨l, ok⟩ := x
    dsimp only at hlen ⊢
    refine Ev.bind he (Ev.congr (fun k => ?_) (show Ev (fun k => rabbetref1_readPack.j0 k t (m : Int) b (u : Int) (q : Int) false) _ from ?_))
    · dsimp only
      rw [if_pos rfl, decide_eq_false (by omega)]
    · have e1 : wrap64 ((q : Int) + 1) = ((q + 1 : Nat) : Int) := by unfold wrap64; omega
      have e2 : wrap64 (rd b (q : Int)) = rd b (q : Int) := by unfold wrap64; omega
      refine Ev.step (f := fun k => (rabbetref1_TakeBits.f k (b.drop (q + 1)) (m : Int) (rd b (q : Int))).bind fun x => (if x.2 = true then (rabbetref1_readPack.l0 k t (m : Int) (u : Int) x.1 ([] : List S26) 0) else (some (([] : List S26), false)))) (fun k => ?_) (Ev.bind htk ?_)
      · simp only [rabbetref1_readPack.j0, Bool.false_eq_true, if_false]
        rw [e1, e2, if_pos (by omega), if_pos (by omega), if_pos (by omega), if_pos (by omega), Int.toNat_natCast]
      · cases ok
        · refine Ev.congr (f := fun _ => some ([], false)) (fun k => ?_) (Ev.now _)
          rw [if_neg (by simp)]
        · have hb2 := rbuild_loop t m u h64 l (hlen rfl) hm m 0 [] (by omega) rfl
          rw [List.nil_append, List.drop_zero] at hb2
          rw [if_pos rfl]
          refine Ev.congr (fun k => ?_) hb2
          rw [if_pos rfl]
          rfl
theorem dec_any (t n : Int) (b : List Int) (hb : wfb b) : Ev (fun k => rabbetref1_Decode.f k 4 t n b) (takeR t n b) := by
  have hno : Ev (fun k => rabbetref1_Decode.j0 k 4 t n b true) ([], false) := by
    refine Ev.step (f := fun _ => some ([], false)) (fun k => ?_) (Ev.now _)
    simp only [rabbetref1_Decode.j0, if_true]
  by_cases hn : n < 0 ∨ 1000 < n
  · unfold takeR
    rw [if_pos hn]
    refine Ev.congr (fun k => ?_) hno
    simp only [rabbetref1_Decode.f]
    by_cases h : n < 0
    · rw [if_pos h]
    · rw [if_neg h, if_pos (by omega)]
  · obtain ⟨m, rfl⟩ := Int.eq_ofNat_of_zero_le (show 0 ≤ n by omega)
    have hstep : ∀ k, rabbetref1_Decode.f k 4 t (m : Int) b = rabbetref1_Decode.j0 k 4 t (m : Int) b (!(isT t)) := by
      intro k
      simp only [rabbetref1_Decode.f]
      rw [if_neg (by omega), if_neg (by omega), isType_ev, Option.bind_some]
    refine Ev.congr hstep ?_
    unfold takeR
    rw [if_neg hn, Int.toNat_natCast]
    by_cases ht : isT t = true
    · rw [ht]
      have hread : ∀ r, Ev (fun k => rabbetref1_readPack.f k t (m : Int) b) r → Ev (fun k => rabbetref1_read.f k 4 t (m : Int) b) r := fun r h => by
        refine Ev.congr (f := fun k => (rabbetref1_readPack.f k t (m : Int) b).bind fun x => some (x.1, x.2)) (fun k => ?_) (Ev.bind h (Ev.now _))
        simp only [rabbetref1_read.f]
        rw [if_neg (by decide), if_neg (by decide), if_neg (by decide), if_pos trivial]
      have hfail : Ev (fun k => rabbetref1_read.f k 4 t (m : Int) b) ([], false) → Ev (fun k => rabbetref1_Decode.j0 k 4 t (m : Int) b (!true)) ([], false) := fun hrd => by
        refine Ev.step (f := fun k => (rabbetref1_read.f k 4 t (m : Int) b).bind _) (fun k => by simp only [rabbetref1_Decode.j0, Bool.not_true, Bool.false_eq_true, if_false]; rfl) (Ev.bind hrd ?_)
        refine Ev.bind (enc_any t [] (fun v hv => by simp at hv) (by simp)) (Ev.congr (f := fun _ => some ([], false)) (fun k => ?_) (Ev.now _))
        rw [if_neg (by decide)]
      have hgood : ∀ r : List S26, r.length = m → (∀ v, v ∈ r → ok64 v.f1) → Ev (fun k => rabbetref1_read.f k 4 t (m : Int) b) (r, true) → Ev (fun k => rabbetref1_Decode.j0 k 4 t (m : Int) b (!true)) (if putR t r = (b, true) then (r, true) else ([], false)) := fun r hlen hok hrd => by
        refine Ev.step (f := fun k => (rabbetref1_read.f k 4 t (m : Int) b).bind _) (fun k => by simp only [rabbetref1_Decode.j0, Bool.not_true, Bool.false_eq_true, if_false]; rfl) (Ev.bind hrd ?_)
        refine Ev.bind (enc_any t r hok (by omega)) ?_
        have hw := putR_wf t r hok
        generalize putR t r = q at *
        obtain ⟨c, ok⟩ := q
        dsimp only at hw ⊢
        refine Ev.congr (f := fun _ => some (if (c, ok) = (b, true) then (r, true) else ([], false))) (fun k => ?_) (Ev.now _)
        rw [if_pos rfl]
        cases ok
        · rw [if_neg (by decide), if_neg (by simp)]
        · rw [if_pos rfl, if_pos (by omega)]
          by_cases hc : c = b
          · rw [if_pos (by rw [hc]), if_pos (by rw [hc])]
          · rw [if_neg (fun h => hc ((MStr.str_eq c b hw hb).1 h)), if_neg (by intro h; exact hc (Prod.mk.inj h).1)]
      by_cases h0 : m = 0
      · subst h0
        have hr : readK t 0 b = some [] := by unfold readK; rw [if_pos rfl]
        rw [hr]
        dsimp only
        have hr0 : Ev (fun k => rabbetref1_readPack.f k t ((0 : Nat) : Int) b) ([], (b.length : Int) == 0) := by
          refine Ev.congr (f := fun _ => some _) (fun k => ?_) (Ev.now _)
          simp only [rabbetref1_readPack.f]
          rw [if_pos (by omega)]
        by_cases hl : b.length = 0
        · rw [show ((b.length : Int) == 0) = true by rw [hl]; rfl] at hr0
          exact hgood [] rfl (fun v hv => by simp at hv) (hread _ hr0)
        · rw [show ((b.length : Int) == 0) = false by rw [beq_eq_false_iff_ne]; omega] at hr0
          have hp : ¬ putR t [] = (b, true) := by
            unfold putR
            intro h
            split at h
            · have := (Prod.mk.inj h).1
              rw [show encK ([] : List S26) = [] by unfold encK; rw [if_pos (by rfl)]] at this
              rw [← this] at hl
              simp at hl
            · simp at h
          rw [if_neg hp]
          exact hfail (hread _ hr0)
      have h := rread_ev t m (by omega) b hb h0
      cases hr : readK t m b with
      | none => rw [hr] at h; exact hfail (hread _ h)
      | some r =>
        rw [hr] at h
        have hf := readK_facts _ _ _ _ hr
        exact hgood r hf.1 hf.2 (hread _ h)
    · have hf : isT t = false := by simpa using ht
      rw [hf]
      have hpt : ∀ l, putR t l ≠ (b, true) := by
        intro l
        unfold putR
        have : nT t = false := by
          have := of_decide_eq_false hf
          unfold nT
          rw [decide_eq_false (by omega)]
        rw [this, Bool.false_and, if_neg (by decide)]
        simp
      have hres : (match readK t m b with | none => (([] : List S26), false) | some l => if putR t l = (b, true) then (l, true) else ([], false)) = ([], false) := by
        cases readK t m b with
        | none => rfl
        | some l => dsimp only; rw [if_neg (hpt l)]
      rw [hres]
      exact hno
-- theorem takes : BLPackTurned.Takes := fun t n b hb _ => ⟨takeR t n b, takeR_len t n b, take_any t n b hb, dec_any t n b hb⟩
theorem takesW (t n : Int) (b : List Int) (hb : wfb b) : ∃ r : List S26 × Bool, r.1.length ≤ 1000 ∧ Ev (fun k => pack_Take.f k t n b) r ∧ Ev (fun k => rabbetref1_Decode.f k 4 t n b) r := ⟨takeR t n b, takeR_len t n b, take_any t n b hb, dec_any t n b hb⟩
theorem encW (t : Int) (l : List S26) (hl : l.length ≤ 30) (hok : ∀ v, v ∈ l → okv v) : ∃ r : List Int × Bool, wfb r.1 ∧ Ev (fun k => rabbetref1_Encode.f k 4 t l) r := ⟨putR t l, putR_wf t l (fun v hv => (hok v hv).1), enc_any t l (fun v hv => (hok v hv).1) (by omega)⟩
end Go.Proofs.YtigldipjkejalaaDoor.BDPackTurned
