/- tag: what a load's block is, and what a block's load is. Conditions: none. -/
import Derived.Test.YtokmildjniploaaDoorMStr
import Derived.Test.YtokmildjniploaaDoorPLogx1
namespace Go.Proofs.YtokmildjniploaaDoor.BGLog
open Go.RowKit Go.Proofs.YtokmildjniploaaDoor.PLog Go.Proofs.YtokmildjniploaaDoorW.PrintWords Go.Proofs.YtokmildjniploaaDoorW.PrintLast Go.Proofs.YtokmildjniploaaDoorW.PrintMore Go.Proofs.YtokmildjniploaaDoor.MStr
set_option linter.unusedVariables false

def wfb (l : List Int) : Prop := ∀ x, x ∈ l → 0 ≤ x ∧ x < 256
theorem wfb_app {a b : List Int} (ha : wfb a) (hb : wfb b) : wfb (a ++ b) := fun x hx => by
  rcases List.mem_append.1 hx with h | h
  · exact ha x h
  · exact hb x h
def u32 (a : Int) : Prop := 0 ≤ a ∧ a < 4294967296
def F4 (a : Int) : List Int := [(a / 16777216) % 256, (a / 65536) % 256, (a / 256) % 256, (a) % 256]
theorem F4_len (a : Int) : (F4 a).length = 4 := rfl
theorem F4_wf (a : Int) : wfb (F4 a) := fun x hx => by
  simp only [F4, List.mem_cons, List.not_mem_nil, or_false] at hx
  rcases hx with h | h | h | h <;> omega
theorem F4_inj (a b : Int) (ha : u32 a) (hb : u32 b) (h : F4 a = F4 b) : a = b := by
  unfold F4 at h
  injection h with h1 h
  injection h with h2 h
  injection h with h3 h
  injection h with h4 h
  unfold u32 at ha hb
  omega
def putT (g s : Int) (l : List Int) : List Int := (F4 g ++ F4 s) ++ ([(l.length : Int) % 256] ++ l ++ List.replicate (111 - l.length) 0) ++ (F4 g ++ F4 s)
theorem putT_len (g s : Int) (l : List Int) (h : l.length ≤ 110) : (putT g s l).length = 128 := by
  unfold putT
  simp only [List.length_append, F4_len, List.length_replicate, List.length_cons, List.length_nil]
  omega
theorem putT_wf (g s : Int) (l : List Int) (hl : wfb l) : wfb (putT g s l) := by
  unfold putT
  refine wfb_app (wfb_app (wfb_app (F4_wf g) (F4_wf s)) (wfb_app (wfb_app (fun x hx => ?_) hl) (fun x hx => ?_))) (wfb_app (F4_wf g) (F4_wf s))
  · simp at hx; omega
  · rw [(List.mem_replicate.1 hx).2]; omega
theorem cc (l : List (List Int)) (h1 : l.length ≤ 1000) (h2 : l.flatten.length ≤ 1000000) : slices_Concat_byte_byte.f l = some l.flatten := by
  unfold slices_Concat_byte_byte.f
  rw [if_pos ⟨h1, h2⟩]
theorem put_eq (g s : Int) (l : List Int) (hl : l.length ≤ 110) : tag_Put.f g s l = some (putT g s l, true) := by
  have e0 : ∀ a, tag_four.f a = some (F4 a) := fun a => rfl
  have e1 : slices_Concat_byte_byte.f [F4 g, F4 s] = some (F4 g ++ F4 s) := by
    rw [cc _ (by simp) (by simp [F4_len])]
    simp
  have e2 : slices_Concat_byte_byte.f [F4 g ++ F4 s, [(l.length : Int) % 256], l] = some (F4 g ++ F4 s ++ ([(l.length : Int) % 256] ++ l)) := by
    rw [cc _ (by simp) (by simp [F4_len]; omega)]
    simp
  have hlen : (F4 g ++ F4 s ++ ([(l.length : Int) % 256] ++ l)).length = 9 + l.length := by
    simp only [List.length_append, F4_len, List.length_cons, List.length_nil]
    omega
  have e3 : slices_Concat_byte_byte.f [F4 g ++ F4 s ++ ([(l.length : Int) % 256] ++ l), List.replicate (111 - l.length) 0, F4 g ++ F4 s] = some (putT g s l) := by
    have hf : [F4 g ++ F4 s ++ ([(l.length : Int) % 256] ++ l), List.replicate (111 - l.length) 0, F4 g ++ F4 s].flatten = putT g s l := by unfold putT; simp
    rw [cc _ (by simp) (by rw [hf, putT_len g s l hl]; omega), hf]
  have hw : wrap64 (120 - ((9 + l.length : Nat) : Int)) = ((111 - l.length : Nat) : Int) := by unfold wrap64; omega
  unfold tag_Put.f
  rw [if_neg (by omega), e0, e0, Option.bind_some, Option.bind_some, e1, Option.bind_some, e2, Option.bind_some, hlen, hw, Int.toNat_natCast, if_pos (by omega), if_pos (by omega), e3, Option.bind_some]
theorem put_no (g s : Int) (l : List Int) (hl : 110 < l.length) : tag_Put.f g s l = some ([], false) := by
  unfold tag_Put.f
  rw [if_pos (by omega)]
/-- A block's load, if it is one. -/
def ld (b : List Int) : List Int := (b.take (9 + rd b 8).toNat).drop 9
def okT (g s : Int) (b : List Int) : Prop := b.length = 128 ∧ rd b 8 ≤ 110 ∧ putT g s (ld b) = b
instance (g s : Int) (b : List Int) : Decidable (okT g s b) := by unfold okT; exact inferInstance
def takeT (g s : Int) (b : List Int) : List Int × Bool := if okT g s b then (ld b, true) else ([], false)
theorem rd_at (l : List Int) (i : Nat) (h : i < l.length) : rd l (i : Int) = l[i] := by simp [rd, List.getD_eq_getElem?_getD, List.getElem?_eq_getElem h]
theorem rd8 (b : List Int) (hb : wfb b) (h : 8 < b.length) : 0 ≤ rd b 8 ∧ rd b 8 < 256 := by
  have e := rd_at b 8 h
  rw [show ((8 : Nat) : Int) = 8 from rfl] at e
  rw [e]
  exact hb _ (List.getElem_mem h)
theorem ld_len (b : List Int) (hb : wfb b) (h : b.length = 128) (h8 : rd b 8 ≤ 110) : ((ld b).length : Int) = rd b 8 := by
  have h0 := rd8 b hb (by omega)
  unfold ld
  rw [List.length_drop, List.length_take]
  omega
theorem ld_wf (b : List Int) (hb : wfb b) : wfb (ld b) := fun x hx => hb x (List.mem_of_mem_take (List.mem_of_mem_drop hx))
theorem equal_eq (a b : List Int) (ha : wfb a) (hb : wfb b) : bytes_Equal.f a b = some (decide (a = b)) := by
  unfold bytes_Equal.f
  rw [str_beq a b ha hb]
theorem take_of (g s : Int) (b l : List Int) (c : Option Int) (hc : ∀ x, c = some x → errG x = 1) (h : Ev (fun k => tag_read.f k g s b) (l, c)) : Ev (fun k => tag_Take.f k g s b) (l, c.isNone) := by
  refine Ev.congr (f := fun k => (tag_read.f k g s b).bind _) (fun k => by simp only [tag_Take.f]; rfl) (Ev.bind h (Ev.congr (f := fun _ => some (l, c.isNone)) (fun k => ?_) (Ev.now _)))
  cases c with
  | none => simp [errors_IsN.f]
  | some x =>
    have : errG x = 1 := hc x rfl
    simp [errors_IsS.f, this]
theorem take_ev (g s : Int) (b : List Int) (hb : wfb b) : Ev (fun k => tag_Take.f k g s b) (takeT g s b) := by
  have hbad : Ev (fun k => tag_read.j0 k g s b true) ([], some 0) := by
    refine Ev.step (f := fun _ => some ([], some 0)) (fun k => ?_) (Ev.now _)
    simp only [tag_read.j0, if_true]
  unfold takeT
  by_cases h1 : b.length = 128
  · have h0 := rd8 b hb (by omega)
    have hw : wrap64 (rd b 8) = rd b 8 := by unfold wrap64; omega
    have hstep : ∀ k, tag_read.f k g s b = tag_read.j0 k g s b (decide (rd b 8 > 110)) := fun k => by
      unfold tag_read.f
      rw [if_pos (by omega), if_pos (by omega), hw]
    by_cases h2 : rd b 8 ≤ 110
    · have hl := ld_len b hb h1 h2
      have hp := put_eq g s (ld b) (by omega)
      have hq := equal_eq (putT g s (ld b)) b (putT_wf g s _ (ld_wf b hb)) hb
      have hw2 : wrap64 (9 + rd b 8) = 9 + rd b 8 := by unfold wrap64; omega
      have hc : bytes_Clone.f (ld b) = some (ld b) := by unfold bytes_Clone.f; rw [if_pos (by omega)]
      have hread : Ev (fun k => tag_read.f k g s b) (if putT g s (ld b) = b then (ld b, none) else ([], some 1)) := by
        refine Ev.congr hstep ?_
        rw [decide_eq_false (by omega)]
        refine Ev.step (f := fun _ => some (if putT g s (ld b) = b then (ld b, none) else ([], some 1))) (fun k => ?_) (Ev.now _)
        simp only [tag_read.j0, Bool.false_eq_true, if_false]
        rw [if_pos (by omega), hw, hw2, if_pos (by omega), if_pos (by omega)]
        show (bytes_Clone.f (ld b)).bind _ = _
        rw [hc, Option.bind_some, hp, Option.bind_some]
        dsimp only
        rw [hq, Option.bind_some]
        by_cases he : putT g s (ld b) = b
        · rw [decide_eq_true he, if_pos rfl, if_pos he]
        · rw [decide_eq_false he, if_neg (by decide), if_neg he]
      by_cases he : putT g s (ld b) = b
      · rw [if_pos he] at hread
        rw [if_pos (show okT g s b from ⟨h1, h2, he⟩)]
        exact take_of g s b _ none (fun x h => by cases h) hread
      · rw [if_neg he] at hread
        rw [if_neg (fun h : okT g s b => he h.2.2)]
        exact take_of g s b _ (some 1) (fun x h => by cases h; rfl) hread
    · rw [if_neg (fun h : okT g s b => h2 h.2.1)]
      refine take_of g s b [] (some 0) (fun x h => by cases h; rfl) (Ev.congr hstep ?_)
      rw [decide_eq_true (by omega)]
      exact hbad
  · rw [if_neg (fun h : okT g s b => h1 h.1)]
    refine take_of g s b [] (some 0) (fun x h => by cases h; rfl) (Ev.congr (fun k => ?_) hbad)
    unfold tag_read.f
    rw [if_neg (by omega)]
/-! ### there and back -/
theorem rd_put (g s : Int) (l : List Int) (hl : l.length ≤ 110) : rd (putT g s l) 8 = (l.length : Int) := by
  have : rd (putT g s l) 8 = (l.length : Int) % 256 := rfl
  rw [this]
  omega
theorem ld_put (g s : Int) (l : List Int) (hl : l.length ≤ 110) : ld (putT g s l) = l := by
  unfold ld
  rw [rd_put g s l hl, show (9 + (l.length : Int)).toNat = (F4 g ++ F4 s ++ [(l.length : Int) % 256] ++ l).length by simp only [List.length_append, F4_len, List.length_cons, List.length_nil]; omega]
  have e : putT g s l = (F4 g ++ F4 s ++ [(l.length : Int) % 256] ++ l) ++ (List.replicate (111 - l.length) 0 ++ (F4 g ++ F4 s)) := by unfold putT; simp
  rw [e, List.take_left]
  rfl
theorem take_put (g s g' s' : Int) (hg : u32 g) (hs : u32 s) (hg' : u32 g') (hs' : u32 s') (l : List Int) (hl : l.length ≤ 110) : takeT g' s' (putT g s l) = if g' = g ∧ s' = s then (l, true) else ([], false) := by
  unfold takeT
  by_cases h : g' = g ∧ s' = s
  · obtain ⟨rfl, rfl⟩ := h
    have hk : okT g' s' (putT g' s' l) := ⟨putT_len _ _ l hl, by rw [rd_put _ _ l hl]; omega, by rw [ld_put _ _ l hl]⟩
    rw [if_pos hk, ld_put _ _ l hl, if_pos ⟨rfl, rfl⟩]
  · rw [if_neg h, if_neg]
    intro ⟨_, _, h3⟩
    rw [ld_put _ _ l hl] at h3
    unfold putT at h3
    have h4 := (List.append_inj h3 (by simp only [List.length_append, F4_len])).1
    have h4 := (List.append_inj h4 (by simp only [List.length_append, F4_len])).1
    have h5 := List.append_inj h4 (by simp only [F4_len])
    exact h ⟨F4_inj g' g hg' hg h5.1, F4_inj s' s hs' hs h5.2⟩
theorem put_end (g s : Int) (l : List Int) (hl : l.length ≤ 110) : (putT g s l).drop 120 = F4 g ++ F4 s := by
  unfold putT
  rw [List.drop_append_of_le_length (by simp only [List.length_append, F4_len, List.length_replicate, List.length_cons, List.length_nil]; omega), List.drop_eq_nil_of_le (by simp only [List.length_append, F4_len, List.length_replicate, List.length_cons, List.length_nil]; omega), List.nil_append]
end Go.Proofs.YtokmildjniploaaDoor.BGLog
