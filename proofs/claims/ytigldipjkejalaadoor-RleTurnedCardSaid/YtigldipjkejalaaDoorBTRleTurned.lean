/- The loops of a law over bytes that were turned: what is taken is the document's. Conditions: none. -/
import Derived.Test.YtigldipjkejalaaDoorBWRleTurned
import Derived.Test.YtigldipjkejalaaDoorPRleTurnedx13
namespace Go.Proofs.YtigldipjkejalaaDoor.BTRleTurned
open Go.RowKit Go.Proofs.YtigldipjkejalaaDoor.PRleTurned Go.Proofs.YtigldipjkejalaaDoorW.PrintWords Go.Proofs.YtigldipjkejalaaDoorW.PrintLast Go.Proofs.YtigldipjkejalaaDoorW.PrintMore Go.Proofs.YtigldipjkejalaaDoor.BWRleTurned
set_option linter.unusedVariables false

def Takes : Prop := ∀ (t n : Int) (b : List Int), wfb b → ∃ r : List S26 × Bool, r.1.length ≤ 1000 ∧ Ev (fun k => rle_Take.f k t n b) r ∧ Ev (fun k => rabbetref1_Decode.f k 2 t n b) r
def Encs : Prop := ∀ (t : Int) (l : List S26), l.length ≤ 30 → (∀ v, v ∈ l → okv v) → ∃ r : List Int × Bool, wfb r.1 ∧ Ev (fun k => rabbetref1_Encode.f k 2 t l) r
def byte (x : Int) : Prop := 0 ≤ x ∧ x < 256
theorem rd3 {a b c : Int} (ha : byte a) (hb : byte b) (hc : byte c) (i : Nat) (hi : i < 3) : byte (rd ([a, b, c] : List Int) (i : Int)) := by
  have h3 : i = 0 ∨ i = 1 ∨ i = 2 := by omega
  rcases h3 with rfl | rfl | rfl
  · exact ha
  · exact hb
  · exact hc
theorem wfb_set {b : List Int} (h : wfb b) (i : Nat) (x : Int) (hx : 0 ≤ x ∧ x < 256) : wfb (b.set i x) := fun y hy => by
  rcases List.mem_or_eq_of_mem_set hy with h1 | h1
  · exact h y h1
  · rw [h1]; exact hx
theorem ns_loop (hT : Takes) (t : Int) (l : List S26) (hl : l.length ≤ 30) (b : List Int) (hb : wfb b) (i p0 p1 p2 q0 q1 q2 : Int) (hend : Ev (fun k => rabbetlaw6_RleTurned.l0 k t l b (wrap64 (i + 1)) p0 p1 p2 q0 q1 q2) true) (d : Nat) :
    ∀ n : Int, n + d = l.length + 2 → -5 ≤ n → Ev (fun k => rabbetlaw6_RleTurned.l1 k t l b i n p0 p1 p2 q0 q1 q2) true := by
  have e1 : wrap64 ((l.length : Int) + 1) = (l.length : Int) + 1 := by unfold wrap64; omega
  induction d with
  | zero =>
    intro n hn _
    refine Ev.step (fun k => ?_) hend
    simp only [rabbetlaw6_RleTurned.l1]
    rw [e1, if_neg (by omega)]
  | succ d ih =>
    intro n hn hlo
    obtain ⟨r, hr, h1, h2⟩ := hT t n b hb
    refine Ev.step (f := fun k => (rle_Take.f k t n b).bind _) (fun k => by simp only [rabbetlaw6_RleTurned.l1]; rw [e1, if_pos (by omega)]) (Ev.bind h1 (Ev.bind h2 ?_))
    refine Ev.congr (f := fun k => (rabbetref1_SameValues.f k r.1 r.1).bind _) (fun k => by rw [if_neg (by simp)]) (Ev.bind (same_ev r.1 hr) (Ev.congr (fun k => ?_) (ih (n + 1) (by omega) (by omega))))
    rw [if_pos rfl, show wrap64 (n + 1) = n + 1 by unfold wrap64; omega]
theorem three_loop (hT : Takes) (t : Int) (l : List S26) (hl : l.length ≤ 30) (p0 p1 p2 q0 q1 q2 : Int) (hp0 : byte p0) (hp1 : byte p1) (hp2 : byte p2) (hq0 : byte q0) (hq1 : byte q1) (hq2 : byte q2) (d : Nat) :
    ∀ (i : Nat) (b : List Int), i + d = 3 → wfb b → Ev (fun k => rabbetlaw6_RleTurned.l0 k t l b (i : Int) p0 p1 p2 q0 q1 q2) true := by
  have stop : ∀ (b : List Int) (i : Int), Ev (fun k => rabbetlaw6_RleTurned.j1 k t l b i false p0 p1 p2 q0 q1 q2) true := fun b i => by
    refine Ev.step (f := fun _ => some true) (fun k => ?_) (Ev.now _)
    simp only [rabbetlaw6_RleTurned.j1, Bool.false_eq_true, if_false]
  induction d with
  | zero =>
    intro i b hi hb
    refine Ev.step (fun k => ?_) (stop b (i : Int))
    simp only [rabbetlaw6_RleTurned.l0]
    rw [if_neg (by omega)]
  | succ d ih =>
    intro i b hi hb
    by_cases h0 : b.length = 0
    · refine Ev.step (fun k => ?_) (stop b (i : Int))
      simp only [rabbetlaw6_RleTurned.l0]
      rw [if_pos (by omega), decide_eq_false (by omega)]
    have hw : wrap64 ((i : Int) + 1) = ((i + 1 : Nat) : Int) := by unfold wrap64; omega
    have next : ∀ b2 : List Int, wfb b2 → Ev (fun k => rabbetlaw6_RleTurned.j2 k t l b2 (i : Int) p0 p1 p2 q0 q1 q2) true := fun b2 hb2 => by
      refine Ev.step (fun k => ?_) (ns_loop hT t l hl b2 hb2 (i : Int) p0 p1 p2 q0 q1 q2 (by rw [hw]; exact ih (i + 1) b2 (by omega) hb2) 3 ((l.length : Int) - 1) (by omega) (by omega))
      simp only [rabbetlaw6_RleTurned.j2]
      rw [show wrap64 ((l.length : Int) - 1) = (l.length : Int) - 1 by unfold wrap64; omega]
    have hp := rd3 hp0 hp1 hp2 i (by omega)
    have hq := rd3 hq0 hq1 hq2 i (by omega)
    refine Ev.step (f := fun k => rabbetlaw6_RleTurned.j1 k t l b (i : Int) true p0 p1 p2 q0 q1 q2) (fun k => ?_) ?_
    · simp only [rabbetlaw6_RleTurned.l0]
      rw [if_pos (by omega), decide_eq_true (by omega)]
    have hj : ∀ k, rabbetlaw6_RleTurned.j1 (k + 1) t l b (i : Int) true p0 p1 p2 q0 q1 q2 = (if (Int.tmod (rd ([q0, q1, q2] : List Int) (i : Int)) 4) > 0 then (rabbetlaw6_RleTurned.j2 k t l (b.set ((Int.tmod (rd ([p0, p1, p2] : List Int) (i : Int)) (b.length : Int)) : Int).toNat ((Int.tdiv (rd ([q0, q1, q2] : List Int) (i : Int)) 2) % 256)) (i : Int) p0 p1 p2 q0 q1 q2) else (rabbetlaw6_RleTurned.j2 k t l b (i : Int) p0 p1 p2 q0 q1 q2)) := by
      intro k
      simp only [rabbetlaw6_RleTurned.j1, if_true]
      rw [if_pos (by omega), if_pos (by omega)]
      generalize rd ([p0, p1, p2] : List Int) (i : Int) = x at *
      obtain ⟨c, hc⟩ := Int.eq_ofNat_of_zero_le hp.1
      have hx : wrap64 x = x := by have := hp; unfold byte at this; unfold wrap64; omega
      have e3 : Int.tmod x (b.length : Int) = ((c % b.length : Nat) : Int) := by rw [hc]; rfl
      have hlt := Nat.mod_lt c (show 0 < b.length by omega)
      rw [hx, e3]
      by_cases h4 : (Int.tmod (rd ([q0, q1, q2] : List Int) (i : Int)) 4) > 0
      · rw [if_pos h4, if_pos h4, if_neg (by omega), if_pos (by omega), if_pos (by omega)]
      · rw [if_neg h4, if_neg h4]
    refine Ev.step hj ?_
    by_cases h4 : (Int.tmod (rd ([q0, q1, q2] : List Int) (i : Int)) 4) > 0
    · refine Ev.congr (fun k => by rw [if_pos h4]) (next _ (wfb_set hb _ _ (by omega)))
    · exact Ev.congr (fun k => by rw [if_neg h4]) (next b hb)
theorem law (hB : Ev rabbetlaw6_begun.f true) (hE : Encs) (hT : Takes) (t : Int) (ht : byte t) (p : List Int) (hp : wfb p) (p0 p1 p2 q0 q1 q2 : Int) (hp0 : byte p0) (hp1 : byte p1) (hp2 : byte p2) (hq0 : byte q0) (hq1 : byte q1) (hq2 : byte q2) : ∃ k, rabbetlaw6_RleTurned.f k t p p0 p1 p2 q0 q1 q2 = some true := by
  refine Ev.rounds (g := fun k => rabbetlaw6_RleTurned.f k t p p0 p1 p2 q0 q1 q2) ?_
  refine Ev.congr (f := fun k => (rabbetlaw6_begun.f k).bind _) (fun k => by unfold rabbetlaw6_RleTurned.f; rfl) (Ev.bind hB ?_)
  by_cases h1 : (p.length : Int) > 60
  · exact Ev.congr (fun k => by rw [if_pos rfl, if_pos h1]) (Ev.now _)
  obtain ⟨s, hs1, hs2, hs3⟩ := some_ev (wrap64 (1 + (wrap64 (Int.tmod t 4)))) p hp (by omega)
  obtain ⟨r, hr1, hr2⟩ := hE (wrap64 (1 + (wrap64 (Int.tmod t 4)))) s hs1 hs2
  refine Ev.congr (f := fun k => (rabbetlaw6_some.f k p (wrap64 (1 + (wrap64 (Int.tmod t 4)))) 30).bind _) (fun k => by rw [if_pos rfl, if_neg h1]) (Ev.bind hs3 (Ev.bind hr2 ?_))
  exact three_loop hT _ s hs1 p0 p1 p2 q0 q1 q2 hp0 hp1 hp2 hq0 hq1 hq2 3 0 r.1 rfl hr1
end Go.Proofs.YtigldipjkejalaaDoor.BTRleTurned
