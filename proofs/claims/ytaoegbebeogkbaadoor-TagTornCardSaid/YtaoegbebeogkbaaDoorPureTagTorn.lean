/- TagTorn's plain law: a block that was torn over another one is none, or whole. Conditions: none. -/
import Derived.Test.YtaoegbebeogkbaaDoorBGTagTorn
import Derived.Test.YtaoegbebeogkbaaDoorPTagTornx2
import Derived.OpenShut
namespace Go.Proofs.YtaoegbebeogkbaaDoor.Pure
open Go.RowKit Go.Proofs.YtaoegbebeogkbaaDoor.PTagTorn Go.Proofs.YtaoegbebeogkbaaDoorW.PrintWords Go.Proofs.YtaoegbebeogkbaaDoorW.PrintLast Go.Proofs.YtaoegbebeogkbaaDoorW.PrintMore Go.Proofs.YtaoegbebeogkbaaDoor.MStr Go.Proofs.YtaoegbebeogkbaaDoor.BGTagTorn
set_option linter.unusedVariables false
set_option maxRecDepth 1000000 in
theorem tag_begun : Ev rabbetlaw20_begun.f true := Ev.of rabbetlaw20_begun.mono (k := 6) (by decide +kernel)
theorem putT_lenA (g s : Int) (l : List Int) : (putT g s l).length = 17 + l.length + (111 - l.length) := by
  unfold putT
  simp only [List.length_append, F4_len, List.length_replicate, List.length_cons, List.length_nil]
  omega
/-- Torn over what has other last bytes: none, or whole. -/
theorem torn (g s : Int) (a y : List Int) (ha : a.length ≤ 110) (hy : y.length = 128) (hne : y.drop 120 ≠ F4 g ++ F4 s) (k : Nat) (hk : k ≤ 128) (hw : wfb ((putT g s a).take k ++ y.drop k)) :
    takeT g s ((putT g s a).take k ++ y.drop k) = if (putT g s a).take k ++ y.drop k = putT g s a then (a, true) else ([], false) := by
  have hx := putT_len g s a ha
  by_cases h : (putT g s a).take k ++ y.drop k = putT g s a
  · rw [if_pos h, h]
    unfold BGTagTorn.takeT
    rw [if_pos (show okT g s (putT g s a) from ⟨hx, by rw [rd_put g s a ha]; omega, by rw [ld_put g s a ha]⟩), ld_put g s a ha]
  · rw [if_neg h]
    unfold BGTagTorn.takeT
    rw [if_neg]
    intro ⟨h1, h2, h3⟩
    apply h
    have hll : (ld ((putT g s a).take k ++ y.drop k)).length ≤ 110 := by
      have := ld_len _ hw h1 h2
      omega
    have hend := put_end g s _ hll
    rw [h3] at hend
    have hxl : ((putT g s a).take k).length = k := by rw [List.length_take]; omega
    by_cases hk2 : k ≤ 120
    · exfalso
      apply hne
      rw [← hend]
      have e : ((putT g s a).take k ++ y.drop k).drop 120 = (y.drop k).drop (120 - k) := by
        rw [show (120 : Nat) = ((putT g s a).take k).length + (120 - k) by omega, List.drop_append, hxl]
        have : ((putT g s a).take k).drop (k + (120 - k)) = [] := List.drop_eq_nil_of_le (by omega)
        rw [this, List.nil_append]
      rw [e, List.drop_drop, show k + (120 - k) = 120 by omega]
    · have e1 : ((putT g s a).take k ++ y.drop k).take 120 = (putT g s a).take 120 := by
        rw [List.take_append_of_le_length (by omega), List.take_take, show min 120 k = 120 by omega]
      rw [← List.take_append_drop 120 ((putT g s a).take k ++ y.drop k), e1, hend, ← put_end g s a ha, List.take_append_drop]
theorem fin_ev (g s : Int) (a y : List Int) (hwa : wfb a) (ha : a.length ≤ 110) (hwy : wfb y) (hy : y.length = 128) (hne : y.drop 120 ≠ F4 g ++ F4 s) (k : Nat) (hk : k ≤ 128) :
    Ev (fun n => (tag_Take.f n g s ((putT g s a).take k ++ y.drop k)).bind fun bt => (if (bt.2 == ((strOfNums ((putT g s a).take k ++ y.drop k)).toList == (strOfNums (putT g s a)).toList)) = true then (if bt.2 = true then (some ((strOfNums bt.1).toList == (strOfNums a).toList)) else (some true)) else (none))) true := by
  have hwx := putT_wf g s a hwa
  have hwt : wfb ((putT g s a).take k ++ y.drop k) := wfb_app (fun x hx => hwx x (List.mem_of_mem_take hx)) (fun x hx => hwy x (List.mem_of_mem_drop hx))
  have t := take_ev g s _ hwt
  rw [torn g s a y ha hy hne k hk hwt] at t
  refine Ev.bind t (Ev.congr (f := fun _ => some true) (fun n => ?_) (Ev.now _))
  rw [str_beq _ _ hwt hwx]
  by_cases h : (putT g s a).take k ++ y.drop k = putT g s a
  · rw [if_pos h, decide_eq_true h]
    dsimp only
    rw [if_pos (by rfl), if_pos rfl, beq_self_eq_true]
  · rw [if_neg h, decide_eq_false h]
    dsimp only
    rw [if_pos (by rfl), if_neg (by decide)]
theorem zeros_wf (n : Nat) : wfb (List.replicate n 0) := fun x hx => by rw [(List.mem_replicate.1 hx).2]; omega
set_option maxRecDepth 1000000 in
theorem TagTorn : rabbetlaw20_TagTorn.Pure := by
  intro g s m n a b at0 no hg hs hm hn _ _ hla _ _ hlb hat
  have bg := bounds_u32 hg
  have bs := bounds_u32 hs
  have bm := bounds_u32 hm
  have bn := bounds_u32 hn
  have ba := bounds_u8 hat
  have hwa : wfb a := fun x hx => by have := bounds_u8 (hla x hx); omega
  have hwb : wfb b := fun x hx => by have := bounds_u8 (hlb x hx); omega
  have ug : u32 g := ⟨by omega, by omega⟩
  have us : u32 s := ⟨by omega, by omega⟩
  have ug2 : u32 ((g + m) % 4294967296) := ⟨by omega, by omega⟩
  have us2 : u32 ((s + n) % 4294967296) := ⟨by omega, by omega⟩
  have hbad : Ev (fun k => rabbetlaw20_TagTorn.j0 k g s m n a b at0 no true) true := by
    refine Ev.step (f := fun _ => some true) (fun k => ?_) (Ev.now _)
    simp only [rabbetlaw20_TagTorn.j0, if_true]
  refine Ev.rounds (g := fun k => rabbetlaw20_TagTorn.f k g s m n a b at0 no) ?_
  refine Ev.congr (f := fun k => (rabbetlaw20_begun.f k).bind _) (fun k => by unfold rabbetlaw20_TagTorn.f; rfl) (Ev.bind tag_begun ?_)
  by_cases h1 : (a.length : Int) > 110
  · exact Ev.congr (fun k => by rw [if_pos rfl, if_pos h1]) hbad
  by_cases h2 : (b.length : Int) > 110
  · exact Ev.congr (fun k => by rw [if_pos rfl, if_neg h1, if_pos h2]) hbad
  obtain ⟨at1, hat1⟩ := Int.eq_ofNat_of_zero_le ba.1
  subst hat1
  obtain ⟨q, hq⟩ : ∃ q : Nat, q = at1 % 129 := ⟨_, rfl⟩
  have hq2 : q ≤ 128 := by have := Nat.mod_lt at1 (show 0 < 129 by omega); omega
  have hmod : ∀ _ : Unit, Int.tmod (wrap64 (at1 : Int)) 129 = (q : Int) := by
    intro _
    rw [show wrap64 (at1 : Int) = (at1 : Int) by unfold wrap64; omega, hq]
    rfl
  clear hq
  have hxl := putT_len g s a (by omega)
  have hyl := putT_len ((g + m) % 4294967296) ((s + n) % 4294967296) b (by omega)
  have hgo : ¬ (g = 0 ∧ s = 0) → ¬ (m = 0 ∧ n = 0 ∧ no = false) → Ev (fun k => rabbetlaw20_TagTorn.j0 k g s m n a b (at1 : Int) no false) true := fun hz hne => by
    refine Ev.step (f := fun k => rabbetlaw20_TagTorn.j1 k g s a (at1 : Int) no (putT g s a) (putT ((g + m) % 4294967296) ((s + n) % 4294967296) b) false) (fun k => ?_) ?_
    · simp only [rabbetlaw20_TagTorn.j0, Bool.false_eq_true, if_false]
      rw [put_eq g s a (by omega), Option.bind_some, put_eq _ _ b (by omega), Option.bind_some]
      dsimp only
      rw [if_pos rfl, if_pos rfl, if_pos (by rw [hxl]; rfl), hyl]
      rfl
    · cases no
      · have hd : (putT ((g + m) % 4294967296) ((s + n) % 4294967296) b).drop 120 ≠ F4 g ++ F4 s := fun h => by
          rw [put_end _ _ b (by omega)] at h
          have h5 := List.append_inj h (by simp only [F4_len])
          have e1 := F4_inj _ _ ug2 ug h5.1
          have e2 := F4_inj _ _ us2 us h5.2
          exact hne ⟨by omega, by omega, rfl⟩
        have hwy := putT_wf ((g + m) % 4294967296) ((s + n) % 4294967296) b hwb
        generalize putT ((g + m) % 4294967296) ((s + n) % 4294967296) b = y at *
        refine Ev.step (fun k => ?_) (fin_ev g s a y hwa (by omega) hwy hyl hd q hq2)
        simp only [rabbetlaw20_TagTorn.j1, Bool.false_eq_true, if_false]
        rw [hmod (), Int.toNat_natCast, Option.bind_some, if_pos (by omega), if_pos (by rw [hxl]; omega), Option.bind_some, if_pos (by rw [List.length_nil, List.length_take, hxl]; omega), Option.bind_some, if_pos (by rw [hyl]; omega), Option.bind_some, if_pos (by rw [List.nil_append, List.length_take, List.length_drop, hxl, hyl]; omega), Option.bind_some, List.nil_append]
      · have hz8 : (List.replicate 128 (0 : Int)).drop 120 = F4 0 ++ F4 0 := rfl
        have hd : (List.replicate 128 (0 : Int)).drop 120 ≠ F4 g ++ F4 s := fun h => by
          rw [hz8] at h
          have h5 := List.append_inj h (by simp only [F4_len])
          have u0 : u32 0 := ⟨by omega, by omega⟩
          have e1 := F4_inj _ _ u0 ug h5.1
          have e2 := F4_inj _ _ u0 us h5.2
          exact hz ⟨e1.symm, e2.symm⟩
        have hzl : (List.replicate 128 (0 : Int)).length = 128 := List.length_replicate
        have hzw := zeros_wf 128
        obtain ⟨y, hy⟩ : ∃ y, y = List.replicate 128 (0 : Int) := ⟨_, rfl⟩
        rw [← hy] at hd hzl hzw
        refine Ev.step (fun k => ?_) (fin_ev g s a y hwa (by omega) hzw hzl hd q hq2)
        simp only [rabbetlaw20_TagTorn.j1, Bool.false_eq_true, if_false, if_true, -List.reduceReplicate]
        rw [← hy, if_pos (by omega), hmod (), Int.toNat_natCast, Option.bind_some, Option.bind_some, if_pos (by omega), if_pos (by rw [hxl]; omega), Option.bind_some, if_pos (by rw [List.length_nil, List.length_take, hxl]; omega), Option.bind_some, if_pos (by rw [hzl]; omega), Option.bind_some, if_pos (by rw [List.nil_append, List.length_take, List.length_drop, hxl, hzl]; omega), Option.bind_some, List.nil_append]
  have hS : ¬ (m = 0 ∧ n = 0 ∧ no = false) → Ev (fun k => if g = 0 then (rabbetlaw20_TagTorn.j0 k g s m n a b (at1 : Int) no (s == 0)) else (rabbetlaw20_TagTorn.j0 k g s m n a b (at1 : Int) no false)) true := fun hne => by
    by_cases hg0 : g = 0
    · by_cases hs0 : s = 0
      · exact Ev.congr (fun k => by rw [if_pos hg0, hs0]; try rfl) (by rw [hs0] at hbad; exact hbad)
      · exact Ev.congr (fun k => by rw [if_pos hg0, beq_eq_false_iff_ne.mpr hs0]) (hgo (fun h => hs0 h.2) hne)
    · exact Ev.congr (fun k => by rw [if_neg hg0]) (hgo (fun h => hg0 h.1) hne)
  by_cases hm0 : m = 0
  · by_cases hn0 : n = 0
    · cases hno : no
      · rw [hno] at hbad
        exact Ev.congr (fun k => by rw [if_pos rfl, if_neg h1, if_neg h2, if_pos hm0, if_pos hn0, if_neg (by decide)]) hbad
      · rw [hno] at hS
        exact Ev.congr (fun k => by rw [if_pos rfl, if_neg h1, if_neg h2, if_pos hm0, if_pos hn0, if_pos rfl]) (hS (fun h => by cases h.2.2))
    · exact Ev.congr (fun k => by rw [if_pos rfl, if_neg h1, if_neg h2, if_pos hm0, if_neg hn0]) (hS (fun h => hn0 h.2.1))
  · exact Ev.congr (fun k => by rw [if_pos rfl, if_neg h1, if_neg h2, if_neg hm0]) (hS (fun h => hm0 h.1))
end Go.Proofs.YtaoegbebeogkbaaDoor.Pure
