/- pack's printed functions and the plain ones. Conditions: none. -/
import Derived.Test.YtigldipjkejalaaDoorMStr
import Derived.Test.YtigldipjkejalaaDoorMBits
import Derived.Test.YtigldipjkejalaaDoorBAPackMoved
import Derived.Test.YtigldipjkejalaaDoorBBPackMoved
import Derived.Test.YtigldipjkejalaaDoorBPackMovednum
namespace Go.Proofs.YtigldipjkejalaaDoor.BDPackMoved
open Go.RowKit Go.Proofs.YtigldipjkejalaaDoor.PPackMoved Go.Proofs.YtigldipjkejalaaDoorW.PrintWords Go.Proofs.YtigldipjkejalaaDoorW.PrintLast Go.Proofs.YtigldipjkejalaaDoorW.PrintMore Go.Proofs.YtigldipjkejalaaDoor.MNum Go.Proofs.YtigldipjkejalaaDoor.MStr Go.Proofs.YtigldipjkejalaaDoor.BAPackMoved
set_option linter.unusedVariables false

def minL (x : Int) (l : List S26) : Int := l.foldl (fun a v => mn a v.f1) x
def low : List S26 → Int
  | [] => 0
  | v :: r => minL v.f1 (v :: r)
def ab (l : List S26) : List Int := l.map fun v => v.f1 - low l
def encK (l : List S26) : List Int := if l.length = 0 then [] else E 9 (zig (low l)).toNat ++ (((MBits.W (ab l) : Nat) : Int) :: MBits.putS (ab l) (MBits.W (ab l)))
theorem nine (u : Nat) (h : u < 18446744073709551616) : u < 2 * 128 ^ 9 := Nat.lt_of_lt_of_le h (by decide)
theorem minL_facts (l : List S26) : ∀ x : Int, ok64 x → (∀ v, v ∈ l → ok64 v.f1) → minL x l ≤ x ∧ (∀ v, v ∈ l → minL x l ≤ v.f1) ∧ ok64 (minL x l) := by
  induction l with
  | nil => intro x hx _; exact ⟨Int.le_refl _, fun v hv => by simp at hv, hx⟩
  | cons a r ih =>
    intro x hx hl
    have ha := hl a List.mem_cons_self
    have hm : mn x a.f1 ≤ x ∧ mn x a.f1 ≤ a.f1 ∧ ok64 (mn x a.f1) := by
      unfold mn
      split
      · exact ⟨by omega, by omega, by first | exact ha | exact hx⟩
      · exact ⟨by omega, by omega, by first | exact hx | exact ha⟩
    obtain ⟨h1, h2, h3⟩ := ih (mn x a.f1) hm.2.2 (fun v hv => hl v (List.mem_cons_of_mem _ hv))
    have e : minL x (a :: r) = minL (mn x a.f1) r := rfl
    rw [e]
    refine ⟨by omega, fun v hv => ?_, h3⟩
    rcases List.mem_cons.1 hv with rfl | hv
    · omega
    · exact h2 v hv
theorem low_facts (l : List S26) (h0 : 0 < l.length) (hl : ∀ v, v ∈ l → ok64 v.f1) : (∀ v, v ∈ l → low l ≤ v.f1) ∧ ok64 (low l) := by
  cases l with
  | nil => simp at h0
  | cons a r =>
    obtain ⟨_, h2, h3⟩ := minL_facts (a :: r) a.f1 (hl a List.mem_cons_self) hl
    exact ⟨h2, h3⟩
theorem ab_wf (l : List S26) (h0 : 0 < l.length) (hl : ∀ v, v ∈ l → ok64 v.f1) : BBPackMoved.wf64 (ab l) := by
  obtain ⟨h1, h2⟩ := low_facts l h0 hl
  intro x hx
  obtain ⟨v, hv, rfl⟩ := List.mem_map.1 hx
  have := h1 v hv
  have := hl v hv
  unfold ok64 at *
  omega
theorem num_loop (t : Int) (ht : t = 1 ∨ t = 2 ∨ t = 3 ∨ t = 4) (l : List S26) (hl : ∀ v, v ∈ l → good t v) (hn : l.length ≤ 1000) (d : Nat) : ∀ i : Nat, i + d = l.length → Ev (fun k => pack_numbers.l0 k t l (l.length : Int) (i : Int)) true := by
  induction d with
  | zero =>
    intro i hi
    refine Ev.step (f := fun _ => some true) (fun k => ?_) (Ev.now _)
    simp only [pack_numbers.l0]
    rw [if_neg (by omega)]
  | succ d ih =>
    intro i hi
    have hv := hl _ (rd_memT l i (by omega))
    refine Ev.step (fun k => ?_) (ih (i + 1) (by omega))
    simp only [pack_numbers.l0]
    rw [if_pos (by omega), if_pos (by omega), if_pos (by omega), if_pos hv.1, may_ok t ht _ hv, Option.bind_some, if_pos rfl, show wrap64 ((i : Int) + 1) = ((i + 1 : Nat) : Int) by unfold wrap64; omega]
theorem num_ev (t : Int) (ht : t = 1 ∨ t = 2 ∨ t = 3) (l : List S26) (hl : ∀ v, v ∈ l → good t v) (hn : l.length ≤ 1000) : Ev (fun k => pack_numbers.f k t l) true := by
  have hj : Ev (fun k => pack_numbers.j0 k t l false) true := by
    refine Ev.step (fun k => ?_) (num_loop t (by omega) l hl hn l.length 0 (by omega))
    simp only [pack_numbers.j0, Bool.false_eq_true, if_false]
    rfl
  refine Ev.congr (fun k => ?_) hj
  simp only [pack_numbers.f]
  rw [if_neg (by omega), decide_eq_false (by omega)]
theorem put_text (l : List S26) : Ev (fun k => pack_Put.f k 4 l) ([], false) := by
  have hj : Ev (fun k => pack_numbers.f k 4 l) false := by
    refine Ev.congr (f := fun k => pack_numbers.j0 k 4 l true) (fun k => ?_) (Ev.step (f := fun _ => some false) (fun k => ?_) (Ev.now _))
    · simp only [pack_numbers.f]
      rw [if_neg (by decide)]
      rfl
    · simp only [pack_numbers.j0, if_true]
  refine Ev.congr (f := fun k => (pack_numbers.f k 4 l).bind _) (fun k => by simp only [pack_Put.f]; rfl) (Ev.bind hj (Ev.congr (f := fun _ => some ([], false)) (fun k => ?_) (Ev.now _)))
  simp
/-- The end of Put, behind the numbers above the least. -/
def fin (k : Nat) (m : Int) (a : List Int) : Option (List Int × Bool) := (bits_Width.f k a).bind fun t130 => ((bits_Put.f k a t130).bind fun bt131 => ((num_Zig.f m).bind fun t135 => ((num_Put.f k t135).bind fun t136 => (if t136.length < 140737488355328 then ((some (t136 ++ [(t130) % 256] : List Int)).bind fun y139 => (if y139.length + bt131.1.length < 140737488355328 then (some ((y139 ++ bt131.1), bt131.2)) else (none))) else (none)))))
theorem fin_ev (m : Int) (hm : ok64 m) (a : List Int) (ha : BBPackMoved.wf64 a) (hn : a.length ≤ 1000) : Ev (fun k => fin k m a) (E 9 (zig m).toNat ++ (((MBits.W a : Nat) : Int) :: MBits.putS a (MBits.W a)), true) := by
  have hW := MBits.W_max a
  have h1 := BBPackMoved.width_ev a ha (by omega)
  have h2 := BBPackMoved.put_ev a ha (by omega) ((MBits.W a : Nat) : Int)
  have hR : BBPackMoved.putR a ((MBits.W a : Nat) : Int) = (MBits.putS a (MBits.W a), true) := by
    unfold BBPackMoved.putR
    rw [if_neg (by omega), if_neg (by omega), Int.toNat_natCast]
  rw [hR] at h2
  have hz := zig_range m hm.1 hm.2
  obtain ⟨u, hu⟩ := Int.eq_ofNat_of_zero_le hz.1
  have h3 := BPackMoved.put_ev u (by omega)
  have hE := E_le 9 u
  have hlen : (MBits.putS a (MBits.W a)).length ≤ 100000 := by
    have h1 : (MBits.putS a (MBits.W a)).length = (a.length * (MBits.W a) + 7) / 8 := MBits.bytesT_length _ _ _
    have h2 : a.length * MBits.W a ≤ 1000 * 64 := Nat.mul_le_mul hn hW
    omega
  rw [hu, Int.toNat_natCast]
  generalize MBits.putS a (MBits.W a) = s at *
  generalize E 9 u = z at *
  obtain ⟨w, hw⟩ : ∃ w, MBits.W a = w := ⟨_, rfl⟩
  rw [hw] at h1 h2 hW ⊢
  unfold fin
  refine Ev.bind h1 (Ev.bind h2 ?_)
  refine Ev.congr (f := fun k => (num_Put.f k (u : Int)).bind fun t136 => (if t136.length < 140737488355328 then ((some (t136 ++ [((w : Nat) : Int) % 256] : List Int)).bind fun y139 => (if y139.length + s.length < 140737488355328 then (some ((y139 ++ s), true)) else (none))) else (none))) (fun k => ?_) (Ev.bind h3 (Ev.congr (f := fun _ => some (z ++ (((w : Nat) : Int) :: s), true)) (fun k => ?_) (Ev.now _)))
  · have hz2 : num_Zig.f m = some (u : Int) := by unfold num_Zig.f; rw [zig_eq _ hm.1 hm.2, hu]
    rw [hz2]
    rfl
  · rw [if_pos (by omega), Option.bind_some, if_pos (by rw [List.length_append]; simp; omega), show ((w : Nat) : Int) % 256 = (w : Int) by omega]
    simp
theorem min_loop (l : List S26) (hn : l.length ≤ 1000) (r : List Int × Bool) (d : Nat) : ∀ (i : Nat) (x : Int), i + d = l.length → Ev (fun k => pack_Put.l1 k (minL x (l.drop i)) ([] : List Int) l (l.length : Int) 0) r → Ev (fun k => pack_Put.l0 k l x l (l.length : Int) (i : Int)) r := by
  induction d with
  | zero =>
    intro i x hi h
    obtain rfl : i = l.length := by omega
    rw [List.drop_length] at h
    refine Ev.step (fun k => ?_) h
    simp only [pack_Put.l0]
    rw [if_neg (by omega)]
    rfl
  | succ d ih =>
    intro i x hi h
    rw [drop_consT l i (by omega)] at h
    refine Ev.step (fun k => ?_) (ih (i + 1) (mn x (rd_T26 l (i : Int)).f1) (by omega) h)
    simp only [pack_Put.l0]
    rw [if_pos (by omega), if_pos (by omega), if_pos (by omega), show wrap64 ((i : Int) + 1) = ((i + 1 : Nat) : Int) by unfold wrap64; omega]
theorem above_eq (x m : Int) (hx : ok64 x) (hm : ok64 m) (h : m ≤ x) : IntKind.u64.wrap ((IntKind.u64.wrap x) - (IntKind.u64.wrap m)) = x - m := by
  simp only [MBits.u64_wrap]; unfold ok64 at *; omega
theorem ab_loop (l : List S26) (hn : l.length ≤ 1000) (m : Int) (hm : ok64 m) (hl : ∀ v, v ∈ l → ok64 v.f1 ∧ m ≤ v.f1) (r : List Int × Bool) (d : Nat) : ∀ (i : Nat) (acc : List Int), i + d = l.length → acc.length = i → Ev (fun k => fin k m (acc ++ (l.drop i).map fun v => v.f1 - m)) r → Ev (fun k => pack_Put.l1 k m acc l (l.length : Int) (i : Int)) r := by
  induction d with
  | zero =>
    intro i acc hi ha h
    obtain rfl : i = l.length := by omega
    rw [List.drop_length, List.map_nil, List.append_nil] at h
    refine Ev.step (fun k => ?_) h
    simp only [pack_Put.l1]
    rw [if_neg (by omega)]
    rfl
  | succ d ih =>
    intro i acc hi ha h
    have hv := hl _ (rd_memT l i (by omega))
    rw [drop_consT l i (by omega), List.map_cons] at h
    refine Ev.step (fun k => ?_) (ih (i + 1) (acc ++ [(rd_T26 l (i : Int)).f1 - m]) (by omega) (by rw [List.length_append]; simp; omega) (by rw [List.append_assoc]; exact h))
    simp only [pack_Put.l1]
    rw [if_pos (by omega), if_pos (by omega), if_pos (by omega), if_pos (by omega), above_eq _ _ hv.1 hm hv.2, show wrap64 ((i : Int) + 1) = ((i + 1 : Nat) : Int) by unfold wrap64; omega]
theorem put_all (t : Int) (ht : t = 1 ∨ t = 2 ∨ t = 3) (l : List S26) (hl : ∀ v, v ∈ l → good t v) (hn : l.length ≤ 1000) : Ev (fun k => pack_Put.f k t l) (encK l, true) := by
  refine Ev.congr (f := fun k => (pack_numbers.f k t l).bind _) (fun k => by simp only [pack_Put.f]; rfl) (Ev.bind (num_ev t ht l hl hn) ?_)
  by_cases h0 : l.length = 0
  · refine Ev.congr (f := fun _ => some (encK l, true)) (fun k => ?_) (Ev.now _)
    unfold encK
    rw [if_pos rfl, if_pos (by omega), if_pos h0]
  · have hok : ∀ v, v ∈ l → ok64 v.f1 := fun v hv => (hl v hv).2.1
    obtain ⟨f1, f2⟩ := low_facts l (by omega) hok
    have hfin := fin_ev (low l) f2 (ab l) (ab_wf l (by omega) hok) (by unfold ab; rw [List.length_map]; exact hn)
    have he : encK l = E 9 (zig (low l)).toNat ++ (((MBits.W (ab l) : Nat) : Int) :: MBits.putS (ab l) (MBits.W (ab l))) := by unfold encK; rw [if_neg h0]
    rw [← he] at hfin
    have h1 := ab_loop l hn (low l) f2 (fun v hv => ⟨hok v hv, f1 v hv⟩) (encK l, true) l.length 0 [] (by omega) rfl (by rw [List.nil_append, List.drop_zero]; exact hfin)
    have hlow : low l = minL (rd_T26 l 0).f1 (l.drop 0) := by
      cases l with
      | nil => simp at h0
      | cons a r => rfl
    rw [hlow] at h1
    have h2 := min_loop l hn (encK l, true) l.length 0 (rd_T26 l 0).f1 (by omega) h1
    refine Ev.congr (fun k => ?_) h2
    rw [if_pos rfl, if_neg (by omega), if_pos (by omega)]
    rfl
theorem equal_eq (a b : List Int) (ha : wfb a) (hb : wfb b) : bytes_Equal.f a b = some (decide (a = b)) := by
  unfold bytes_Equal.f
  rw [str_beq a b ha hb]
theorem rd_mid (a r : List Int) (w : Int) : rd (a ++ (w :: r)) (a.length : Int) = w := by
  unfold rd
  rw [Int.toNat_natCast, List.getD_eq_getElem?_getD, List.getElem?_append_right (Nat.le_refl _), Nat.sub_self]
  rfl
theorem drop_mid (a r : List Int) (w : Int) : (a ++ (w :: r)).drop (a.length + 1) = r := by
  rw [show a ++ (w :: r) = (a ++ [w]) ++ r by simp]
  exact List.drop_left' (by simp)
theorem read_begin (t : Int) (b : List Int) (n : Nat) (h0 : 0 < n) (hn : n ≤ 1000) (r : List S26 × Option Int) (h : Ev (fun k => (num_Take.f k b).bind fun bt166 => (if bt166.2.2 = true then (pack_read.j1 k t (n : Int) b [] bt166.1 bt166.2.1 (bt166.2.1 == (b.length : Int))) else (pack_read.j1 k t (n : Int) b [] bt166.1 bt166.2.1 true))) r) : Ev (fun k => pack_read.f k t (n : Int) b) r := by
  have hj : Ev (fun k => pack_read.j0 k t (n : Int) b ([] : List S26) false) r := by
    refine Ev.step (fun k => ?_) h
    simp only [pack_read.j0, Bool.false_eq_true, if_false]
    rw [if_pos (by omega)]
  refine Ev.congr (fun k => ?_) hj
  simp only [pack_read.f]
  rw [if_neg (by omega), decide_eq_false (by omega)]
theorem j1_true (t : Int) (b : List Int) (n u m : Int) : Ev (fun k => pack_read.j1 k t n b ([] : List S26) u m true) ([], some 3) := by
  refine Ev.step (f := fun _ => some _) (fun k => ?_) (Ev.now _)
  simp only [pack_read.j1, if_true]
theorem read_num (t : Int) (b rest : List Int) (u : Nat) (w : Int) (n : Nat) (r : List S26 × Option Int) (hb : b = E 9 u ++ (w :: rest)) (hu : u < 18446744073709551616) (hw0 : 0 ≤ w) (hw1 : w < 256) (hrest : wfb rest) (hlen : rest.length ≤ 1000000) (h0 : 0 < n) (hn : n ≤ 1000)
    (h : Ev (fun k => (bits_Take.f k rest (n : Int) w).bind fun bt171 => (if bt171.2 = true then (pack_read.l0 k t b [] (u : Int) bt171.1 (bt171.1.length : Int) 0) else (some (([] : List S26), some 4)))) r) : Ev (fun k => pack_read.f k t (n : Int) b) r := by
  have hE := E_le 9 u
  have hwb : wfb b := by
    rw [hb]
    refine wfb_app (E_wf 9 u (nine u hu)) (fun x hx => ?_)
    rcases List.mem_cons.1 hx with hx | hx
    · omega
    · exact hrest x hx
  have hbl : b.length = (E 9 u).length + 1 + rest.length := by rw [hb, List.length_append, List.length_cons]; omega
  have he := BPackMoved.take_ev b hwb
  have htk : BPackMoved.takeR b = ((u : Int), ((E 9 u).length : Int), true) := by
    rw [hb]; unfold BPackMoved.takeR; rw [D_E 9 u true _ (nine u hu) (.inl rfl)]
  rw [htk] at he
  have hrd : rd b ((E 9 u).length : Int) = w := by rw [hb]; exact rd_mid _ _ _
  have hdr : b.drop ((E 9 u).length + 1) = rest := by rw [hb]; exact drop_mid _ _ _
  refine read_begin t b n h0 hn r (Ev.bind he ?_)
  dsimp only
  refine Ev.congr (f := fun k => pack_read.j1 k t (n : Int) b ([] : List S26) (u : Int) ((E 9 u).length : Int) false) (fun k => ?_) (Ev.step (fun k => ?_) h)
  · rw [if_pos rfl, show (((E 9 u).length : Int) == (b.length : Int)) = false by simp; omega]
  · simp only [pack_read.j1, Bool.false_eq_true, if_false]
    have hw : wrap64 (((E 9 u).length : Int) + 1) = (((E 9 u).length + 1 : Nat) : Int) := by unfold wrap64; omega
    rw [hw, if_pos (by omega), if_pos (by omega), if_pos (by omega), if_pos (by omega), hrd, Int.toNat_natCast, hdr, show wrap64 w = w by unfold wrap64; omega]
theorem back_eq (x m : Int) (hx : ok64 x) (hm : ok64 m) (h : m ≤ x) : wrap64 (IntKind.u64.wrap ((IntKind.u64.wrap m) + (x - m))) = x := by
  simp only [MBits.u64_wrap]; unfold ok64 at *; unfold wrap64; omega
theorem eta (t : Int) (h4 : t ≠ 4) (v : S26) (h : good t v) : (⟨t, v.f1, (⟨#[]⟩ : ByteArray)⟩ : S26) = v := by
  obtain ⟨h0, _, h2, _⟩ := h
  have h2 := h2 h4
  cases v
  simp only at h0 h2
  rw [h0, h2]
theorem build_loop (t : Int) (h4 : t ≠ 4) (l : List S26) (hl : ∀ v, v ∈ l → good t v) (hn : l.length ≤ 1000) (b : List Int) (m : Int) (u : Nat) (hu : u < 18446744073709551616) (hmu : zag (u : Int) = m) (hm : ok64 m) (hlow : ∀ v, v ∈ l → m ≤ v.f1) (r : List S26 × Option Int) (h : Ev (fun k => pack_read.j3 k t b l) r) (d : Nat) :
    ∀ i : Nat, i + d = l.length → Ev (fun k => pack_read.l0 k t b (l.take i) (u : Int) (l.map fun v => v.f1 - m) (l.length : Int) (i : Int)) r := by
  induction d with
  | zero =>
    intro i hi
    obtain rfl : i = l.length := by omega
    refine Ev.step (fun k => ?_) h
    simp only [pack_read.l0]
    rw [if_neg (by omega), List.take_length]
  | succ d ih =>
    intro i hi
    have hlt : i < l.length := by omega
    have hmem := rd_memT l i hlt
    have hv := hl _ hmem
    have hlo := hlow _ hmem
    have htk := take_succT l i hlt
    have hrd : rd (l.map fun v => v.f1 - m) (i : Int) = (rd_T26 l (i : Int)).f1 - m := by
      unfold rd rd_T26
      rw [Int.toNat_natCast, List.getD_eq_getElem?_getD, List.getD_eq_getElem?_getD, List.getElem?_map, List.getElem?_eq_getElem hlt]
      rfl
    generalize rd_T26 l (i : Int) = v at *
    refine Ev.step (fun k => ?_) (ih (i + 1) (by omega))
    simp only [pack_read.l0]
    have hz : num_Zag.f (u : Int) = some m := by unfold num_Zag.f; rw [zag_eq _ (by omega) (by omega), hmu]
    rw [if_pos (by omega), if_pos (by omega), if_pos (by rw [List.length_map]; omega), hz, Option.bind_some, if_pos (by rw [List.length_take]; omega), hrd, back_eq _ _ hv.2.1 hm hlo, eta t h4 v hv, htk, show wrap64 ((i : Int) + 1) = ((i + 1 : Nat) : Int) by unfold wrap64; omega]
theorem take_of (t : Int) (n : Nat) (b : List Int) (l : List S26) (c : Option Int) (h : Ev (fun k => pack_read.f k t (n : Int) b) (l, c)) (hc : ∀ x, c = some x → errG x = 0) : Ev (fun k => pack_Take.f k t (n : Int) b) (l, c.isNone) := by
  refine Ev.congr (f := fun k => (pack_read.f k t (n : Int) b).bind _) (fun k => by simp only [pack_Take.f]; rfl) (Ev.bind h (Ev.congr (f := fun _ => some (l, c.isNone)) (fun k => ?_) (Ev.now _)))
  cases c with
  | none => simp [errors_IsN.f]
  | some x => simp [errors_IsS.f, hc x rfl]
/-- Reading no values. -/
theorem read_zero (t : Int) (b : List Int) (r : List S26 × Option Int) (h : Ev (fun k => pack_read.j3 k t b []) r) : Ev (fun k => pack_read.f k t ((0 : Nat) : Int) b) r := by
  have hj : Ev (fun k => pack_read.j0 k t ((0 : Nat) : Int) b ([] : List S26) false) r := by
    refine Ev.step (fun k => ?_) h
    simp only [pack_read.j0, Bool.false_eq_true, if_false]
    rw [if_neg (by omega)]
  refine Ev.congr (fun k => ?_) hj
  simp only [pack_read.f]
  rw [if_neg (by omega), decide_eq_false (by omega)]
theorem j3_ev (t : Int) (ht : t = 1 ∨ t = 2 ∨ t = 3) (l : List S26) (hl : ∀ v, v ∈ l → good t v) (hn : l.length ≤ 1000) (b : List Int) (hb : wfb b) (hk : wfb (encK l)) : Ev (fun k => pack_read.j3 k t b l) (if encK l = b then (l, none) else ([], some 5)) := by
  refine Ev.step (f := fun k => (pack_Put.f k t l).bind _) (fun k => by simp only [pack_read.j3]; rfl) (Ev.bind (put_all t ht l hl hn) (Ev.congr (f := fun _ => some _) (fun k => ?_) (Ev.now _)))
  dsimp only
  rw [if_pos rfl, equal_eq _ _ hk hb, Option.bind_some]
  by_cases h : encK l = b
  · rw [if_pos (by simp [h]), if_pos h]
  · rw [if_neg (by simp [h]), if_neg h]
/-- What is known of the bytes of numbers. -/
structure Parts (l : List S26) (u w : Nat) (s : List Int) : Prop where
  e : encK l = E 9 u ++ ((w : Int) :: s)
  hu : u < 18446744073709551616
  z : zag (u : Int) = low l
  w64 : w ≤ 64
  sb : s = MBits.putS (ab l) w
  sl : s.length = (l.length * w + 7) / 8
  swf : wfb s
  back : MBits.takeS s l.length w = ab l
theorem parts (l : List S26) (h0 : 0 < l.length) (hok : ∀ v, v ∈ l → ok64 v.f1) : ∃ u w s, Parts l u w s := by
  obtain ⟨f1, f2⟩ := low_facts l h0 hok
  have hz := zig_range (low l) f2.1 f2.2
  obtain ⟨u, hu⟩ := Int.eq_ofNat_of_zero_le hz.1
  have hal : (ab l).length = l.length := by unfold ab; rw [List.length_map]
  have hawf := ab_wf l h0 hok
  have hlt := (MBits.W_le (ab l) hawf (MBits.W (ab l))).1 (Nat.le_refl _)
  refine ⟨u, MBits.W (ab l), MBits.putS (ab l) (MBits.W (ab l)), ⟨?_, by omega, by rw [← hu, zag_zig], MBits.W_max _, rfl, ?_, MBits.bytesT_wf _ (MBits.bitf_le _ _) _ _, ?_⟩⟩
  · unfold encK
    rw [if_neg (by omega), hu, Int.toNat_natCast]
  · have h1 : (MBits.putS (ab l) (MBits.W (ab l))).length = ((ab l).length * (MBits.W (ab l)) + 7) / 8 := MBits.bytesT_length _ _ _
    rw [h1, hal]
  · have := MBits.takeS_putS (ab l) (MBits.W (ab l)) (fun x hx => ⟨(hawf x hx).1, hlt x hx⟩)
    rw [hal] at this
    exact this
theorem Parts.wf {l : List S26} {u w : Nat} {s : List Int} (p : Parts l u w s) : wfb (encK l) := by
  rw [p.e]
  refine wfb_app (E_wf 9 u (nine u p.hu)) (fun x hx => ?_)
  rcases List.mem_cons.1 hx with hx | hx
  · have := p.w64; omega
  · exact p.swf x hx
theorem Parts.short {l : List S26} {u w : Nat} {s : List Int} (p : Parts l u w s) (hn : l.length ≤ 1000) : s.length ≤ 100000 := by
  have h2 : l.length * w ≤ 1000 * 64 := Nat.mul_le_mul hn p.w64
  have := p.sl
  omega
theorem encK_wf (l : List S26) (hok : ∀ v, v ∈ l → ok64 v.f1) : wfb (encK l) := by
  by_cases h0 : l.length = 0
  · unfold encK; rw [if_pos h0]; intro x hx; simp at hx
  · obtain ⟨u, w, s, p⟩ := parts l (by omega) hok
    exact p.wf
theorem take_none (t : Int) (rest : List Int) (hr : wfb rest) (n w : Nat) (hn : n ≤ 1000) (hw : w ≤ 64) (hl : rest.length ≠ (n * w + 7) / 8) : Ev (fun k => bits_Take.f k rest (n : Int) (w : Int)) ([], false) := by
  have h := BBPackMoved.take_ev rest hr (n : Int) (w : Int) (by omega) (by omega) (by omega) (by omega)
  have ht : BBPackMoved.takeR rest (n : Int) (w : Int) = ([], false) := by
    unfold BBPackMoved.takeR
    rw [Int.toNat_natCast, Int.toNat_natCast, if_pos (.inr (.inr (.inr (.inr hl))))]
  rw [ht] at h
  exact h
theorem take_all (t : Int) (ht : t = 1 ∨ t = 2 ∨ t = 3) (l : List S26) (hl : ∀ v, v ∈ l → good t v) (hn : l.length ≤ 1000) : Ev (fun k => pack_Take.f k t (l.length : Int) (encK l)) (l, true) := by
  have hok : ∀ v, v ∈ l → ok64 v.f1 := fun v hv => (hl v hv).2.1
  have hwf := encK_wf l hok
  have h3 := j3_ev t ht l hl hn (encK l) hwf hwf
  rw [if_pos rfl] at h3
  refine take_of t l.length (encK l) l none ?_ (fun x hx => by cases hx)
  by_cases h0 : l.length = 0
  · obtain rfl : l = [] := List.eq_nil_of_length_eq_zero h0
    exact read_zero t _ _ h3
  · obtain ⟨u, w, s, p⟩ := parts l (by omega) hok
    obtain ⟨f1, f2⟩ := low_facts l (by omega) hok
    have hw := p.w64
    have hs := p.short hn
    refine read_num t (encK l) s u (w : Int) l.length (l, none) p.e p.hu (by omega) (by omega) p.swf (by omega) (by omega) hn ?_
    have hb := BBPackMoved.take_ev s p.swf (l.length : Int) (w : Int) (by omega) (by omega) (by omega) (by omega)
    have hal : (ab l).length = l.length := by unfold ab; rw [List.length_map]
    have ht2 : BBPackMoved.takeR s (l.length : Int) (w : Int) = (ab l, true) := by
      unfold BBPackMoved.takeR
      rw [Int.toNat_natCast, Int.toNat_natCast, if_neg (by have := p.sl; omega), p.back, if_pos p.sb.symm]
    rw [ht2] at hb
    refine Ev.bind hb (Ev.congr (fun k => ?_) (build_loop t (by omega) l hl hn (encK l) (low l) u p.hu p.z f2 f1 (l, none) h3 l.length 0 (by omega)))
    dsimp only
    rw [if_pos rfl, hal]
    rfl
theorem take_long (t : Int) (ht : t = 1 ∨ t = 2 ∨ t = 3) (l : List S26) (hl : ∀ v, v ∈ l → good t v) (hn : l.length ≤ 1000) (c : Int) (h0 : 0 ≤ c) (h1 : c < 256) : Ev (fun k => pack_Take.f k t (l.length : Int) (encK l ++ [c])) ([], false) := by
  have hok : ∀ v, v ∈ l → ok64 v.f1 := fun v hv => (hl v hv).2.1
  have hwf := encK_wf l hok
  have hc : wfb [c] := fun x hx => by simp at hx; omega
  by_cases hl0 : l.length = 0
  · have h3 := j3_ev t ht l hl hn (encK l ++ [c]) (wfb_app hwf hc) hwf
    rw [if_neg (by simp)] at h3
    obtain rfl : l = [] := List.eq_nil_of_length_eq_zero hl0
    exact take_of t 0 _ [] (some 5) (read_zero t _ _ h3) (fun x hx => by cases hx; decide)
  · obtain ⟨u, w, s, p⟩ := parts l (by omega) hok
    have hw := p.w64
    have hs := p.short hn
    refine take_of t l.length _ [] (some 4) ?_ (fun x hx => by cases hx; decide)
    have hsc : wfb (s ++ [c]) := wfb_app p.swf hc
    refine read_num t (encK l ++ [c]) (s ++ [c]) u (w : Int) l.length _ (by rw [p.e]; simp) p.hu (by omega) (by omega) hsc (by simp; omega) (by omega) hn ?_
    refine Ev.bind (take_none t (s ++ [c]) hsc l.length w hn hw (by rw [List.length_append, p.sl]; simp)) (Ev.congr (f := fun _ => some _) (fun k => ?_) (Ev.now _))
    dsimp only
    rw [if_neg (by decide)]
theorem take_short (t : Int) (ht : t = 1 ∨ t = 2 ∨ t = 3) (l : List S26) (hl : ∀ v, v ∈ l → good t v) (hn : l.length ≤ 1000) (j : Nat) (hj : j < (encK l).length) : Ev (fun k => pack_Take.f k t (l.length : Int) ((encK l).take j)) ([], false) := by
  have hok : ∀ v, v ∈ l → ok64 v.f1 := fun v hv => (hl v hv).2.1
  have hl0 : l.length ≠ 0 := fun h => by unfold encK at hj; rw [if_pos h] at hj; simp at hj
  obtain ⟨u, w, s, p⟩ := parts l (by omega) hok
  have hw := p.w64
  have hs := p.short hn
  have hwf := p.wf
  have hEl := E_le 9 u
  rw [p.e] at hj ⊢
  rw [List.length_append, List.length_cons] at hj
  by_cases h1 : j < (E 9 u).length
  · refine take_of t l.length _ [] (some 3) ?_ (fun x hx => by cases hx; decide)
    rw [List.take_append_of_le_length (by omega)]
    have hx : wfb ((E 9 u).take j) := fun x hx => E_wf 9 u (nine u p.hu) x (List.mem_of_mem_take hx)
    have he := BPackMoved.take_ev _ hx
    have htk : BPackMoved.takeR ((E 9 u).take j) = (0, 0, false) := by unfold BPackMoved.takeR; rw [D_cut 9 u true j h1]
    rw [htk] at he
    refine read_begin t _ l.length (by omega) hn _ (Ev.bind he (Ev.congr (fun k => ?_) (j1_true t ((E 9 u).take j) (l.length : Int) 0 0)))
    dsimp only
    rw [if_neg (by decide)]
  · by_cases h2 : j = (E 9 u).length
    · refine take_of t l.length _ [] (some 3) ?_ (fun x hx => by cases hx; decide)
      rw [h2, List.take_left]
      have hx : wfb (E 9 u) := E_wf 9 u (nine u p.hu)
      have he := BPackMoved.take_ev _ hx
      have htk : BPackMoved.takeR (E 9 u) = ((u : Int), ((E 9 u).length : Int), true) := by
        have := D_E 9 u true [] (nine u p.hu) (.inl rfl)
        rw [List.append_nil] at this
        unfold BPackMoved.takeR; rw [this]
      rw [htk] at he
      refine read_begin t _ l.length (by omega) hn _ (Ev.bind he (Ev.congr (fun k => ?_) (j1_true t (E 9 u) (l.length : Int) (u : Int) ((E 9 u).length : Int))))
      dsimp only
      rw [if_pos rfl, show (((E 9 u).length : Int) == ((E 9 u).length : Int)) = true by simp]
    · obtain ⟨i, rfl⟩ : ∃ i, j = (E 9 u).length + 1 + i := ⟨j - (E 9 u).length - 1, by omega⟩
      have e2 : (E 9 u ++ ((w : Int) :: s)).take ((E 9 u).length + 1 + i) = E 9 u ++ ((w : Int) :: s.take i) := by
        rw [List.take_append, List.take_of_length_le (by omega), show (E 9 u).length + 1 + i - (E 9 u).length = i + 1 by omega, List.take_succ_cons]
      rw [e2]
      have hst : wfb (s.take i) := fun x hx => p.swf x (List.mem_of_mem_take hx)
      refine take_of t l.length _ [] (some 4) ?_ (fun x hx => by cases hx; decide)
      refine read_num t _ (s.take i) u (w : Int) l.length _ rfl p.hu (by omega) (by omega) hst (by rw [List.length_take]; omega) (by omega) hn ?_
      refine Ev.bind (take_none t (s.take i) hst l.length w hn hw (by rw [List.length_take]; have := p.sl; omega)) (Ev.congr (f := fun _ => some _) (fun k => ?_) (Ev.now _))
      dsimp only
      rw [if_neg (by decide)]
theorem encK_le (l : List S26) (hok : ∀ v, v ∈ l → ok64 v.f1) (hn : l.length ≤ 1000) : (encK l).length ≤ 200000 := by
  by_cases h0 : l.length = 0
  · unfold encK; rw [if_pos h0]; simp
  · obtain ⟨u, w, s, p⟩ := parts l (by omega) hok
    have := p.short hn
    have := E_le 9 u
    rw [p.e, List.length_append, List.length_cons]
    omega
end Go.Proofs.YtigldipjkejalaaDoor.BDPackMoved
