/- TagBack's plain law: a load comes back, of its own numbers alone. Conditions: none. -/
import Derived.Test.YtaoegbebeogkbaaDoorBGTagBack
import Derived.Test.YtaoegbebeogkbaaDoorPTagBackx2
import Derived.OpenShut
namespace Go.Proofs.YtaoegbebeogkbaaDoor.Pure
open Go.RowKit Go.Proofs.YtaoegbebeogkbaaDoor.PTagBack Go.Proofs.YtaoegbebeogkbaaDoorW.PrintWords Go.Proofs.YtaoegbebeogkbaaDoorW.PrintLast Go.Proofs.YtaoegbebeogkbaaDoorW.PrintMore Go.Proofs.YtaoegbebeogkbaaDoor.BGTagBack
set_option linter.unusedVariables false
set_option maxRecDepth 1000000 in
theorem tag_begun : Ev rabbetlaw20_begun.f true := Ev.of rabbetlaw20_begun.mono (k := 6) (by decide +kernel)
theorem TagBack : rabbetlaw20_TagBack.Pure := by
  intro g s l m n hg hs _ _ hl hm hn
  have bg := bounds_u32 hg
  have bs := bounds_u32 hs
  have bm := bounds_u8 hm
  have bn := bounds_u8 hn
  have hwl : wfb l := fun x hx => by have := bounds_u8 (hl x hx); omega
  refine Ev.rounds (g := fun k => rabbetlaw20_TagBack.f k g s l m n) ?_
  refine Ev.congr (f := fun k => (rabbetlaw20_begun.f k).bind _) (fun k => by unfold rabbetlaw20_TagBack.f; rfl) (Ev.bind tag_begun ?_)
  by_cases h1 : (l.length : Int) > 150
  · exact Ev.congr (fun k => by rw [if_pos rfl, if_pos h1]) (Ev.now _)
  by_cases h2 : l.length ≤ 110
  · have ug : u32 g := ⟨by omega, by omega⟩
    have us : u32 s := ⟨by omega, by omega⟩
    have ug2 : u32 ((g + m) % 4294967296) := ⟨by omega, by omega⟩
    have us2 : u32 ((s + n) % 4294967296) := ⟨by omega, by omega⟩
    have hb := putT_wf g s l hwl
    have t1 := take_ev g s (putT g s l) hb
    have t2 := take_ev ((g + m) % 4294967296) ((s + n) % 4294967296) (putT g s l) hb
    rw [take_put g s g s ug us ug us l h2, if_pos ⟨rfl, rfl⟩] at t1
    rw [take_put g s _ _ ug us ug2 us2 l h2] at t2
    have hz : (((g + m) % 4294967296 = g ∧ (s + n) % 4294967296 = s) ↔ (m = 0 ∧ n = 0)) := by omega
    have hj : Ev (fun k => rabbetlaw20_TagBack.j0 k g s l m n (putT g s l) true false) true := by
      refine Ev.step (f := fun k => (tag_Take.f k g s (putT g s l)).bind _) (fun k => by simp only [rabbetlaw20_TagBack.j0, Bool.false_eq_true, if_false]; rfl) (Ev.bind t1 (Ev.bind t2 (Ev.congr (f := fun _ => some true) (fun k => ?_) (Ev.now _))))
      dsimp only
      rw [if_pos rfl, if_pos rfl]
      by_cases h3 : m = 0
      · rw [if_pos h3]
        by_cases h4 : n = 0
        · rw [if_pos (hz.2 ⟨h3, h4⟩), h4]; rfl
        · rw [if_neg (fun h => h4 (hz.1 h).2), beq_eq_false_iff_ne.mpr h4]; rfl
      · rw [if_neg h3, if_neg (fun h => h3 (hz.1 h).1)]; rfl
    refine Ev.congr (fun k => ?_) hj
    rw [if_pos rfl, if_neg h1, put_eq g s l h2, Option.bind_some, decide_eq_true (by omega)]
    rfl
  · have hj : Ev (fun k => rabbetlaw20_TagBack.j0 k g s l m n ([] : List Int) false true) true := by
      refine Ev.step (f := fun _ => some true) (fun k => ?_) (Ev.now _)
      simp only [rabbetlaw20_TagBack.j0, if_true, Bool.false_eq_true, if_false]
      rfl
    refine Ev.congr (fun k => ?_) hj
    rw [if_pos rfl, if_neg h1, put_no g s l (by omega), Option.bind_some, decide_eq_false (by omega)]
    rfl
end Go.Proofs.YtaoegbebeogkbaaDoor.Pure
