/- TagAll's plain law: which blocks loads are, and which loads blocks, by the program and by the document. Conditions: none. -/
import Derived.Test.YtaoegbebeogkbaaDoorBGTagAll
import Derived.Test.YtaoegbebeogkbaaDoorPTagAllx3
import Derived.OpenShut
namespace Go.Proofs.YtaoegbebeogkbaaDoor.Pure
open Go.RowKit Go.Proofs.YtaoegbebeogkbaaDoor.PTagAll Go.Proofs.YtaoegbebeogkbaaDoorW.PrintWords Go.Proofs.YtaoegbebeogkbaaDoorW.PrintLast Go.Proofs.YtaoegbebeogkbaaDoorW.PrintMore Go.Proofs.YtaoegbebeogkbaaDoor.MStr Go.Proofs.YtaoegbebeogkbaaDoor.BGTagAll
set_option linter.unusedVariables false
set_option maxRecDepth 1000000 in
theorem tag_begun : Ev rabbetlaw20_begun.f true := Ev.of rabbetlaw20_begun.mono (k := 6) (by decide +kernel)
theorem u64_wrap (n : Int) : IntKind.u64.wrap n = n % 18446744073709551616 := by simp [IntKind.wrap, IntKind.bits, IntKind.signed]
theorem high_step (v : Nat) (hv : v < 4294967296) (x : List Int) (i : Nat) (hi : i < x.length) (hx : x.length ≤ 1000) (r : List Int) (h : Ev (fun k => rabbetref1_High.l0 k ((v / 256 : Nat) : Int) (x.set i ((v % 256 : Nat) : Int)) ((i : Int) - 1)) r) : Ev (fun k => rabbetref1_High.l0 k (v : Int) x (i : Int)) r := by
  refine Ev.step (fun k => ?_) h
  have e1 : IntKind.u64.wrap (Int.tdiv (v : Int) 256) = ((v / 256 : Nat) : Int) := by
    rw [show Int.tdiv (v : Int) 256 = ((v / 256 : Nat) : Int) from rfl, u64_wrap]; omega
  have e2 : (Int.tmod (v : Int) 256) % 256 = ((v % 256 : Nat) : Int) := by
    rw [show Int.tmod (v : Int) 256 = ((v % 256 : Nat) : Int) from rfl]; omega
  have e3 : wrap64 ((i : Int) - 1) = (i : Int) - 1 := by unfold wrap64; omega
  have a1 : (i : Int) ≥ 0 := by omega
  have a2 : (i : Int) < (x.length : Int) := by omega
  simp only [rabbetref1_High.l0]
  rw [if_pos a1, if_pos a1, if_pos a2, Int.toNat_natCast, e1, e2, e3]
theorem high_ev (a : Int) (ha : u32 a) : Ev (fun k => rabbetref1_High.f k (IntKind.u64.wrap a) 4) (F4 a) := by
  obtain ⟨v, rfl⟩ := Int.eq_ofNat_of_zero_le ha.1
  have hv : v < 4294967296 := by have := ha.2; omega
  have hend : ∀ (n : Nat) (x : List Int), Ev (fun k => rabbetref1_High.l0 k (n : Int) x (((0 : Nat) : Int) - 1)) x := fun n x => by
    refine Ev.step (f := fun _ => some x) (fun k => ?_) (Ev.now _)
    simp only [rabbetref1_High.l0]
    rw [if_neg (by omega)]
  have h0 := high_step (v / 256 / 256 / 256) (by omega) ((([0, 0, 0, 0] : List Int).set 3 ((v % 256 : Nat) : Int)).set 2 ((v / 256 % 256 : Nat) : Int) |>.set 1 ((v / 256 / 256 % 256 : Nat) : Int)) 0 (by simp) (by simp) _ (hend _ _)
  have h1 := high_step (v / 256 / 256) (by omega) ((([0, 0, 0, 0] : List Int).set 3 ((v % 256 : Nat) : Int)).set 2 ((v / 256 % 256 : Nat) : Int)) 1 (by simp) (by simp) _ h0
  have h2 := high_step (v / 256) (by omega) (([0, 0, 0, 0] : List Int).set 3 ((v % 256 : Nat) : Int)) 2 (by simp) (by simp) _ h1
  have h3 := high_step v hv ([0, 0, 0, 0] : List Int) 3 (by simp) (by simp) _ h2
  have e : (((([0, 0, 0, 0] : List Int).set 3 ((v % 256 : Nat) : Int)).set 2 ((v / 256 % 256 : Nat) : Int) |>.set 1 ((v / 256 / 256 % 256 : Nat) : Int)).set 0 ((v / 256 / 256 / 256 % 256 : Nat) : Int)) = F4 (v : Int) := by
    show [((v / 256 / 256 / 256 % 256 : Nat) : Int), ((v / 256 / 256 % 256 : Nat) : Int), ((v / 256 % 256 : Nat) : Int), ((v % 256 : Nat) : Int)] = F4 (v : Int)
    simp only [F4, List.cons.injEq, and_true]
    refine ⟨?_, ?_, ?_, ?_⟩ <;> omega
  rw [e] at h3
  refine Ev.congr (fun k => ?_) h3
  have e4 : IntKind.u64.wrap (v : Int) = (v : Int) := by rw [u64_wrap]; omega
  unfold rabbetref1_High.f
  rw [e4, if_pos (by omega), if_pos (by omega), show wrap64 (4 - 1) = ((3 : Nat) : Int) by unfold wrap64; omega]
  rfl
def rputT (g s : Int) (l : List Int) : List Int × Bool := if l.length ≤ 110 then (putT g s l, true) else ([], false)
theorem put_any (g s : Int) (l : List Int) : tag_Put.f g s l = some (rputT g s l) := by
  unfold rputT
  by_cases h : l.length ≤ 110
  · rw [if_pos h, put_eq g s l h]
  · rw [if_neg h, put_no g s l (by omega)]
theorem rput_ev (g s : Int) (hg : u32 g) (hs : u32 s) (l : List Int) : Ev (fun k => rabbetref18_PutTag.f k g s l) (rputT g s l) := by
  unfold rputT
  by_cases h : l.length ≤ 110
  · rw [if_pos h]
    refine Ev.congr (f := fun k => (rabbetref1_High.f k (IntKind.u64.wrap g) 4).bind _) (fun k => by unfold rabbetref18_PutTag.f; exact if_neg (by omega)) (Ev.bind (high_ev g hg) (Ev.bind (high_ev s hs) (Ev.congr (f := fun _ => some (putT g s l, true)) (fun k => ?_) (Ev.now _))))
    have hl2 : (([] ++ (F4 g ++ F4 s) ++ [(l.length : Int) % 256] ++ l : List Int)).length = 9 + l.length := by
      simp only [List.length_append, F4_len, List.length_cons, List.length_nil]
      try omega
    have hw : wrap64 (120 - ((9 + l.length : Nat) : Int)) = ((111 - l.length : Nat) : Int) := by unfold wrap64; omega
    rw [if_pos (by simp only [F4_len]; omega), Option.bind_some, Option.bind_some, if_pos (by simp only [List.length_append, F4_len, List.length_nil]; omega), Option.bind_some, if_pos (by simp only [List.length_append, F4_len, List.length_nil]; omega), Option.bind_some, if_pos (by simp only [List.length_append, F4_len, List.length_cons, List.length_nil]; omega), Option.bind_some, hl2, hw, Int.toNat_natCast, if_pos (by omega), if_pos (by omega), Option.bind_some, if_pos (by simp only [List.length_append, F4_len, List.length_cons, List.length_nil, List.length_replicate]; omega)]
    congr 2
    all_goals (unfold putT; simp)
  · rw [if_neg h]
    refine Ev.congr (f := fun _ => some ([], false)) (fun k => ?_) (Ev.now _)
    unfold rabbetref18_PutTag.f
    rw [if_pos (by omega)]
theorem rtake_ev (g s : Int) (hg : u32 g) (hs : u32 s) (b : List Int) (hb : wfb b) : Ev (fun k => rabbetref18_TakeTag.f k g s b) (BGTagAll.takeT g s b) := by
  have hbad : Ev (fun k => rabbetref18_TakeTag.j0 k g s b true) ([], false) := by
    refine Ev.step (f := fun _ => some ([], false)) (fun k => ?_) (Ev.now _)
    simp only [rabbetref18_TakeTag.j0, if_true]
  unfold BGTagAll.takeT
  by_cases h1 : b.length = 128
  · have h0 := rd8 b hb (by omega)
    have hw : wrap64 (rd b 8) = rd b 8 := by unfold wrap64; omega
    have hstep : ∀ k, rabbetref18_TakeTag.f k g s b = rabbetref18_TakeTag.j0 k g s b (decide (rd b 8 > 110)) := fun k => by
      unfold rabbetref18_TakeTag.f
      rw [if_pos (by omega), if_pos (by omega), hw]
    by_cases h2 : rd b 8 ≤ 110
    · have hl := ld_len b hb h1 h2
      have hp := rput_ev g s hg hs (ld b)
      have hr : rputT g s (ld b) = (putT g s (ld b), true) := by unfold rputT; rw [if_pos (by omega)]
      rw [hr] at hp
      have hq := str_eq (putT g s (ld b)) b (putT_wf g s _ (ld_wf b hb)) hb
      have a0 : (8 : Int) < (b.length : Int) := by omega
      have a1 : (9 : Int) ≤ 9 + rd b 8 := by omega
      have a2 : 9 + rd b 8 ≤ (b.length : Int) := by omega
      have a3 : ([] : List Int).length + (ld b).length < 140737488355328 := by rw [List.length_nil]; omega
      have hw2 : wrap64 (9 + rd b 8) = 9 + rd b 8 := by unfold wrap64; omega
      refine Ev.congr hstep ?_
      rw [decide_eq_false (by omega)]
      refine Ev.step (f := fun k => (rabbetref18_PutTag.f k g s (ld b)).bind fun bt => (if (strOfNums bt.1).toList = (strOfNums b).toList then (some (ld b, true)) else (some (([] : List Int), false)))) (fun k => ?_) (Ev.bind hp (Ev.congr (f := fun _ => some (if okT g s b then (ld b, true) else ([], false))) (fun k => ?_) (Ev.now _)))
      · simp only [rabbetref18_TakeTag.j0, Bool.false_eq_true, if_false]
        rw [Option.bind_some, if_pos a0, hw, hw2, if_pos a1, if_pos a2]
        show (if ([] : List Int).length + (ld b).length < 140737488355328 then _ else _) = _
        rw [if_pos a3, Option.bind_some]
        rfl
      · dsimp only
        by_cases he : putT g s (ld b) = b
        · rw [if_pos (hq.2 he), if_pos (show okT g s b from ⟨h1, h2, he⟩)]
        · rw [if_neg (fun h => he (hq.1 h)), if_neg (fun h : okT g s b => he h.2.2)]
    · rw [if_neg (fun h : okT g s b => h2 h.2.1)]
      refine Ev.congr hstep ?_
      rw [decide_eq_true (by omega)]
      exact hbad
  · rw [if_neg (fun h : okT g s b => h1 h.1)]
    refine Ev.congr (fun k => ?_) hbad
    unfold rabbetref18_TakeTag.f
    rw [if_neg (by omega)]
theorem TagAll : rabbetlaw20_TagAll.Pure := by
  intro g s l b hg hs _ _ hl _ _ hb
  have bg := bounds_u32 hg
  have bs := bounds_u32 hs
  have ug : u32 g := ⟨by omega, by omega⟩
  have us : u32 s := ⟨by omega, by omega⟩
  have hwb : wfb b := fun x hx => by have := bounds_u8 (hb x hx); omega
  have hbad : Ev (fun k => rabbetlaw20_TagAll.j0 k g s l b true) true := by
    refine Ev.step (f := fun _ => some true) (fun k => ?_) (Ev.now _)
    simp only [rabbetlaw20_TagAll.j0, if_true]
  refine Ev.rounds (g := fun k => rabbetlaw20_TagAll.f k g s l b) ?_
  refine Ev.congr (f := fun k => (rabbetlaw20_begun.f k).bind _) (fun k => by unfold rabbetlaw20_TagAll.f; rfl) (Ev.bind tag_begun ?_)
  by_cases h1 : (l.length : Int) > 150
  · exact Ev.congr (fun k => by rw [if_pos rfl, if_pos h1]) hbad
  by_cases h2 : (b.length : Int) > 150
  · exact Ev.congr (fun k => by rw [if_pos rfl, if_neg h1, decide_eq_true h2]) hbad
  have k1 : rabbetlaw0_Handed.f l = some l := by unfold rabbetlaw0_Handed.f; rw [if_pos (by omega)]
  have k2 : rabbetlaw0_Handed.f b = some b := by unfold rabbetlaw0_Handed.f; rw [if_pos (by omega)]
  have k3 : ∀ x, rabbetlaw0_Same.f x x = some true := fun x => by unfold rabbetlaw0_Same.f; rw [if_pos rfl]
  have hj : Ev (fun k => rabbetlaw20_TagAll.j0 k g s l b false) true := by
    refine Ev.step (f := fun k => (rabbetref18_PutTag.f k g s l).bind _) (fun k => by simp only [rabbetlaw20_TagAll.j0, Bool.false_eq_true, if_false]; rw [k1, Option.bind_some, k2, Option.bind_some, put_any, Option.bind_some]) (Ev.bind (rput_ev g s ug us l) (Ev.bind (take_ev g s b hwb) (Ev.bind (rtake_ev g s ug us b hwb) (Ev.congr (f := fun _ => some true) (fun k => ?_) (Ev.now _)))))
    rw [if_pos rfl, if_pos (by rw [beq_self_eq_true]), if_pos rfl, if_pos (by rw [beq_self_eq_true]), k3, Option.bind_some, if_pos rfl, k3, Option.bind_some]
  refine Ev.congr (fun k => ?_) hj
  rw [if_pos rfl, if_neg h1, decide_eq_false h2]
end Go.Proofs.YtaoegbebeogkbaaDoor.Pure
