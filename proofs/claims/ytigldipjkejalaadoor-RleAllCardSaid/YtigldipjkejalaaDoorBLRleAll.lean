/- The loops of a law over all types: what is put and what is taken is the document's. Conditions: none. -/
import Derived.Test.YtigldipjkejalaaDoorBWRleAll
import Derived.Test.YtigldipjkejalaaDoorPRleAllx13
namespace Go.Proofs.YtigldipjkejalaaDoor.BLRleAll
open Go.RowKit Go.Proofs.YtigldipjkejalaaDoor.PRleAll Go.Proofs.YtigldipjkejalaaDoorW.PrintWords Go.Proofs.YtigldipjkejalaaDoorW.PrintLast Go.Proofs.YtigldipjkejalaaDoorW.PrintMore Go.Proofs.YtigldipjkejalaaDoor.BWRleAll
set_option linter.unusedVariables false

def Puts : Prop := ∀ (t : Int) (l : List S26), l.length ≤ 30 → (∀ v, v ∈ l → okv v) → ∃ r : List Int × Bool, Ev (fun k => rle_Put.f k t l) r ∧ Ev (fun k => rabbetref1_Encode.f k 2 t l) r
def Takes : Prop := ∀ (t n : Int) (b : List Int), wfb b → b.length ≤ 60 → ∃ r : List S26 × Bool, r.1.length ≤ 1000 ∧ Ev (fun k => rle_Take.f k t n b) r ∧ Ev (fun k => rabbetref1_Decode.f k 2 t n b) r
theorem lot_step (hP : Puts) (p : List Int) (l : List S26) (n : Int) (b ts : List Int) (i : Nat) (hi : i < ts.length) (lots : List (List S26)) (j : Nat) (hj : j < 2) (hl2 : lots.length = 2) (hlen : (rd_L4 lots (j : Int)).length ≤ 30) (hok : ∀ v, v ∈ rd_L4 lots (j : Int) → okv v)
    (h : Ev (fun k => rabbetlaw6_RleAll.l2 k p l n b ts (i : Int) lots ((j + 1 : Nat) : Int)) true) : Ev (fun k => rabbetlaw6_RleAll.l2 k p l n b ts (i : Int) lots (j : Int)) true := by
  obtain ⟨r, h1, h2⟩ := hP (rd ts (i : Int)) _ hlen hok
  refine Ev.step (f := fun k => (rle_Put.f k (rd ts (i : Int)) (rd_L4 lots (j : Int))).bind _) (fun k => by simp only [rabbetlaw6_RleAll.l2]; rw [if_pos (by omega), if_pos (by omega), if_pos (by omega), if_pos (by omega), if_pos (by omega)]) (Ev.bind h1 (Ev.bind h2 (Ev.congr (fun k => ?_) h)))
  rw [if_pos rfl, if_neg (by simp), show wrap64 ((j : Int) + 1) = ((j + 1 : Nat) : Int) by unfold wrap64; omega]
theorem types_loop (hP : Puts) (hT : Takes) (p : List Int) (hp : wfb p) (hpn : p.length ≤ 1000) (l : List S26) (hl : l.length ≤ 30) (hok : ∀ v, v ∈ l → okv v) (n : Int) (b : List Int) (hb : wfb b) (hbn : b.length ≤ 60) (ts : List Int) (hts : ts.length ≤ 1000) (d : Nat) :
    ∀ i : Nat, i + d = ts.length → Ev (fun k => rabbetlaw6_RleAll.l1 k p l n b ts (i : Int)) true := by
  induction d with
  | zero =>
    intro i hi
    refine Ev.step (f := fun _ => some true) (fun k => ?_) (Ev.now _)
    simp only [rabbetlaw6_RleAll.l1]
    rw [if_neg (by omega)]
  | succ d ih =>
    intro i hi
    have hih := ih (i + 1) (by omega)
    obtain ⟨s, hs1, hs2, hs3⟩ := some_ev (rd ts (i : Int)) p hp hpn
    refine Ev.step (f := fun k => (rabbetlaw6_some.f k p (rd ts (i : Int)) 30).bind _) (fun k => by simp only [rabbetlaw6_RleAll.l1]; rw [if_pos (by omega), if_pos (by omega)]) (Ev.bind hs3 ?_)
    have e2 : Ev (fun k => rabbetlaw6_RleAll.l2 k p l n b ts (i : Int) [l, s] ((2 : Nat) : Int)) true := by
      obtain ⟨r, hr, h1, h2⟩ := hT (rd ts (i : Int)) n b hb hbn
      have hH : rabbetlaw0_Handed.f b = some b := by unfold rabbetlaw0_Handed.f; rw [if_pos (by omega)]
      have hS : rabbetlaw0_Same.f b b = some true := by unfold rabbetlaw0_Same.f; rw [if_pos rfl]
      refine Ev.step (f := fun k => (rle_Take.f k (rd ts (i : Int)) n b).bind _) (fun k => by simp only [rabbetlaw6_RleAll.l2]; rw [if_neg (by omega), hH, Option.bind_some, if_pos (by omega), if_pos (by omega)]) (Ev.bind h1 (Ev.bind h2 ?_))
      refine Ev.congr (f := fun k => (rabbetref1_SameValues.f k r.1 r.1).bind _) (fun k => by rw [if_neg (by simp)]) (Ev.bind (same_ev r.1 hr) (Ev.congr (fun k => ?_) hih))
      rw [if_pos rfl, hS, Option.bind_some, if_pos rfl, show wrap64 ((i : Int) + 1) = ((i + 1 : Nat) : Int) by unfold wrap64; omega]
    have e1 := lot_step hP p l n b ts i (by omega) [l, s] 1 (by omega) rfl (show s.length ≤ 30 from hs1) hs2 e2
    exact lot_step hP p l n b ts i (by omega) [l, s] 0 (by omega) rfl (show l.length ≤ 30 from hl) hok e1
theorem sizes_loop (t : Int) (p : List Int) (l : List S26) (hl : l.length ≤ 1000) (n : Int) (b : List Int) (hrest : (∀ v, v ∈ l → v.f2.size ≤ 40) → Ev (fun k => rabbetlaw6_RleAll.l1 k p l n b [t, 1, 2, 3, 4] 0) true) (d : Nat) :
    ∀ i : Nat, i + d = l.length → (∀ v, v ∈ l.take i → v.f2.size ≤ 40) → Ev (fun k => rabbetlaw6_RleAll.l0 k t p l n b (i : Int)) true := by
  induction d with
  | zero =>
    intro i hi hs
    refine Ev.step (fun k => ?_) (hrest (fun v hv => hs v (by rw [List.take_of_length_le (by omega)]; exact hv)))
    simp only [rabbetlaw6_RleAll.l0]
    rw [if_neg (by omega)]
  | succ d ih =>
    intro i hi hs
    have hlt : i < l.length := by omega
    by_cases hc : ((rd_T26 l (i : Int)).f2.size : Int) > 40
    · refine Ev.step (f := fun _ => some true) (fun k => ?_) (Ev.now _)
      simp only [rabbetlaw6_RleAll.l0]
      rw [if_pos (by omega), if_pos (by omega), if_pos hc]
    · refine Ev.step (fun k => ?_) (ih (i + 1) (by omega) (fun v hv => by
        rw [← take_succT l i hlt] at hv
        rcases List.mem_append.1 hv with h | h
        · exact hs v h
        · simp at h; subst h; omega))
      simp only [rabbetlaw6_RleAll.l0]
      rw [if_pos (by omega), if_pos (by omega), if_neg hc, show wrap64 ((i : Int) + 1) = ((i + 1 : Nat) : Int) by unfold wrap64; omega]
theorem law (hB : Ev rabbetlaw6_begun.f true) (hP : Puts) (hT : Takes) (t : Int) (p : List Int) (hp : wfb p) (l : List S26) (hok : ∀ v, v ∈ l → ok64 v.f1) (n : Int) (b : List Int) (hb : wfb b) : ∃ k, rabbetlaw6_RleAll.f k t p l n b = some true := by
  have skip : Ev (fun k => rabbetlaw6_RleAll.j0 k t p l n b true) true := by
    refine Ev.step (f := fun _ => some true) (fun k => ?_) (Ev.now _)
    simp only [rabbetlaw6_RleAll.j0, if_true]
  refine Ev.rounds (g := fun k => rabbetlaw6_RleAll.f k t p l n b) ?_
  refine Ev.congr (f := fun k => (rabbetlaw6_begun.f k).bind _) (fun k => by unfold rabbetlaw6_RleAll.f; rfl) (Ev.bind hB ?_)
  by_cases h1 : (p.length : Int) > 60
  · exact Ev.congr (fun k => by rw [if_pos rfl, if_pos h1]) skip
  by_cases h2 : (l.length : Int) > 20
  · exact Ev.congr (fun k => by rw [if_pos rfl, if_neg h1, if_pos h2]) skip
  by_cases h3 : (b.length : Int) > 60
  · exact Ev.congr (fun k => by rw [if_pos rfl, if_neg h1, if_neg h2, decide_eq_true h3]) skip
  have main : Ev (fun k => rabbetlaw6_RleAll.j0 k t p l n b false) true := by
    refine Ev.step (fun k => ?_) (sizes_loop t p l (by omega) n b (fun hs => types_loop hP hT p hp (by omega) l (by omega) (fun v hv => ⟨hok v hv, hs v hv⟩) n b hb (by omega) [t, 1, 2, 3, 4] (by simp) 5 0 rfl) l.length 0 (by omega) (fun v hv => by simp at hv))
    simp only [rabbetlaw6_RleAll.j0, Bool.false_eq_true, if_false]
    rfl
  exact Ev.congr (fun k => by rw [if_pos rfl, if_neg h1, if_neg h2, decide_eq_false h3]) main
end Go.Proofs.YtigldipjkejalaaDoor.BLRleAll
