/- DevSure's plain part: what is sure stays, but for blocks that were written since. Conditions: none. -/
import Derived.Test.YtaoegbebeogkbaaDevS
namespace Go.Proofs.Ytaoegbebeogkbaa.PDev
open Go.RowKit Go.Proofs.YtaoegbebeogkbaaW.PrintWords Go.Proofs.YtaoegbebeogkbaaW.PrintLast Go.Proofs.YtaoegbebeogkbaaW.PrintMore
open Go.Extern.Stop Go.Stop Go.Extern
set_option linter.unusedVariables false
set_option linter.unusedSimpArgs false
theorem light_loop (l : List S34) (hl : l.length ≤ 9223372036854775807) (d : Nat) : ∀ (k i : Nat), i + d = l.length → d < k → ∃ r, rabbetlaw18_light.l0 k l (i : Int) = some r ∧ (r = true → l.length ≤ 40 ∧ ∀ (j : Nat) (hj : j < l.length), i ≤ j → l[j].f5.length ≤ 200 ∧ l[j].f6.length ≤ 20) := by
  induction d with
  | zero =>
    intro k i hi hk
    obtain ⟨k, rfl⟩ : ∃ q, k = q + 1 := ⟨k - 1, by omega⟩
    refine ⟨decide ((l.length : Int) ≤ 40), ?_, fun h => ⟨by have := of_decide_eq_true h; omega, fun j hj hh => by omega⟩⟩
    simp only [rabbetlaw18_light.l0]
    rw [if_neg (by omega)]
  | succ d ih =>
    intro k i hi hk
    obtain ⟨k, rfl⟩ : ∃ q, k = q + 1 := ⟨k - 1, by omega⟩
    obtain ⟨r, hr, h⟩ := ih k (i + 1) (by omega) (by omega)
    have hlt : i < l.length := by omega
    have hg : rd_T34 l (i : Int) = l[i] := by simp [rd_T34, List.getD_eq_getElem?_getD, List.getElem?_eq_getElem hlt]
    simp only [rabbetlaw18_light.l0, hg]
    rw [if_pos (by omega), if_pos (by omega)]
    by_cases c1 : (l[i].f5.length : Int) > 200
    · exact ⟨false, by rw [if_pos c1], fun h => by cases h⟩
    · rw [if_neg c1]
      by_cases c2 : (l[i].f6.length : Int) > 20
      · exact ⟨false, by rw [if_pos c2], fun h => by cases h⟩
      · rw [if_neg c2, show wrap64 ((i : Int) + 1) = ((i + 1 : Nat) : Int) by unfold wrap64; omega]
        refine ⟨r, hr, fun ht => ⟨(h ht).1, fun j hj hij => ?_⟩⟩
        by_cases cj : j = i
        · subst cj; exact ⟨by omega, by omega⟩
        · exact (h ht).2 j hj (by omega)
theorem light (A : Option Addr) (c : Nat) (l : List S34) (w : World) (h : Kd.C k34 w A l.length l) (hc : l.length ≤ c) :
    ∃ r : Bool, (r = true → l.length ≤ 40 ∧ ∀ x, x ∈ l → x.f5.length ≤ 200 ∧ x.f6.length ≤ 20) ∧ ∀ w' : World, Kd.C k34 w' A l.length l → Calls Try.prog 8 #[.slice A l.length c] w' fun e w'' => e = .returned (.bool r) ∧ Drawn0 w' w'' := by
  obtain ⟨r, hr, hh⟩ := light_loop l (Kd.C_max h) l.length (l.length + 1) 0 (by omega) (by omega)
  refine ⟨r, fun ht => ⟨(hh ht).1, fun x hx => ?_⟩, fun w' hC => rabbetlaw18_light.calls (l.length + 1) A c l r w' hC hc hr⟩
  obtain ⟨j, hj, rfl⟩ := List.getElem_of_mem hx
  exact (hh ht).2 j hj (Nat.zero_le _)
theorem and7 (x : Int) : ∃ y : Nat, bits BinOp.and IntKind.i64 x 7 = (y : Int) ∧ y < 8 := by
  have h : (BitVec.ofInt 64 x &&& BitVec.ofInt 64 7).toNat ≤ 7 := by
    rw [BitVec.toNat_and]
    exact Nat.and_le_right
  have h2 : bits BinOp.and IntKind.i64 x 7 = IntKind.i64.wrap ((BitVec.ofInt 64 x &&& BitVec.ofInt 64 7).toNat : Int) := rfl
  rw [h2]
  generalize (BitVec.ofInt 64 x &&& BitVec.ofInt 64 7).toNat = n at *
  exact ⟨n, by rw [IntKind.wrap_i64]; omega, by omega⟩
theorem crashS_other (keep : List Int) (torn : Int) (T j : Nat) (l : List (Int × List Int)) : ∀ (i : Nat) (s : List (List Int)), (∀ x, x ∈ l → x.1.toNat ≠ j) → (crashS keep torn T i l s)[j]? = s[j]? := by
  induction l with
  | nil => intro i s _; rfl
  | cons x l ih =>
    intro i s h
    have hx := h x List.mem_cons_self
    simp only [crashS]
    rw [ih (i + 1) _ (fun y hy => h y (List.mem_cons_of_mem _ hy))]
    split
    · rw [List.getElem?_set_ne hx]
    · split
      · rw [List.getElem?_set_ne hx]
      · rfl
/-- A device that goes on: it takes every block. -/
theorem u_write {n m : Nat} {D : Dat} (hg : Good n m D) (hl : D.left = -1) (i : Nat) (b : List Int) (hi : i < n) (hb : b.length = 128) : D.write (i : Int) b = (true, D.wrote i b) ∧ Good n (m + 1) (D.wrote i b) ∧ (D.wrote i b).left = -1 ∧ (D.wrote i b).writes = D.writes + 1 ∧ (D.wrote i b).seen = D.seen.set i b ∧ (D.wrote i b).sure = D.sure ∧ (D.wrote i b).later = D.later ++ [((i : Int), b)] := by
  have hs := hg.seen
  refine ⟨?_, good_wrote hg i b hi, ?_, rfl, rfl, rfl, rfl⟩
  · unfold Dat.write
    rw [if_pos ⟨by omega, by omega, hb⟩, if_neg (by omega), Int.toNat_natCast]
  · show (if 0 < D.left then D.left - 1 else D.left) = -1
    rw [if_neg (by omega), hl]
theorem u_flush {D : Dat} (hl : D.left = -1) : D.flush = { D with sure := D.seen, later := [] } := by
  unfold Dat.flush
  rw [if_neg (by omega)]
theorem seen_len {W : World} {ok : Nat → Prop} {g : Nat} {D : Dat} (h : DevAt W ok g D) {i : Nat} {r : List Int} (hr : D.seen[i]? = some r) : r.length = 128 := by
  obtain ⟨vs, vu, vl, hs, hu, hl, h⟩ := h
  have hi : i < D.seen.length := by
    rcases Nat.lt_or_ge i D.seen.length with c | c
    · exact c
    · rw [List.getElem?_eq_none c] at hr; cases hr
  obtain ⟨x, hx, hb⟩ := h.es.at_ i hi
  rw [List.getElem?_eq_getElem hi] at hr
  obtain rfl := Option.some.inj hr
  exact hb.len
def wstrs (ws : List (List Int)) : List Value := ws.map fun r => Value.string (strOfNums r)
/-- What the law holds. -/
structure Su (w0 W : World) (g : Nat) (D : Dat) (bw bt : Nat) (ws : List (List Int)) (ts : List Bool) : Prop where
  dev : DevAt W (fun k => w0.heap.size ≤ k) g D
  want : W.heap[bw]? = some (.cells (wstrs ws).toArray 29 (0, 0))
  turn : W.heap[bt]? = some (.cells (bools ts).toArray 30 (0, 0))
  hw : w0.heap.size ≤ bw
  ht : w0.heap.size ≤ bt
  below : Below w0.heap.size w0 W
section
variable {w0 W W1 : World} {g bw bt : Nat} {D D' : Dat} {ws : List (List Int)} {ts : List Bool}
theorem Su.step_below (h : Su w0 W g D bw bt ws ts) (hb : Below W.heap.size W W1) : Su w0 W1 g D bw bt ws ts :=
  ⟨h.dev.below hb, blk_below h.want hb, blk_below h.turn hb, h.hw, h.ht, below_step h.below hb⟩
theorem Su.step_dev (h : Su w0 W g D bw bt ws ts) (hd : DevAt W1 (fun k => w0.heap.size ≤ k) g D') (hf : Fr (fun k => w0.heap.size ≤ k) devT W W1) : Su w0 W1 g D' bw bt ws ts :=
  ⟨hd, (hf.typed _ _ _ _ h.want (by decide)).trans h.want, (hf.typed _ _ _ _ h.turn (by decide)).trans h.turn, h.hw, h.ht, hf.below h.below h.below.size (fun k hk => hk)⟩
theorem Su.put_want (h : Su w0 W g D bw bt ws ts) (i : Nat) (r : List Int) : Su w0 (W.setCell ⟨bw, i, none⟩ (.string (strOfNums r))) g D bw bt (ws.set i r) ts := by
  have hf : Fr (fun k => w0.heap.size ≤ k) [29] W (W.setCell ⟨bw, i, none⟩ (.string (strOfNums r))) := Fr.set (p := ⟨bw, i, none⟩) h.want h.hw (by simp) _
  refine ⟨h.dev.frT hf (by decide), blk_put h.want i _ ?_, blk_far h.turn (blk_ne h.turn h.want (by decide)) _, h.hw, h.ht, below_set h.below h.hw⟩
  rw [List.setIfInBounds_toArray]
  simp [wstrs, List.map_set]
theorem Su.put_turn (h : Su w0 W g D bw bt ws ts) (i : Nat) : Su w0 (W.setCell ⟨bt, i, none⟩ (.bool true)) g D bw bt ws (ts.set i true) := by
  have hf : Fr (fun k => w0.heap.size ≤ k) [30] W (W.setCell ⟨bt, i, none⟩ (.bool true)) := Fr.set (p := ⟨bt, i, none⟩) h.turn h.ht (by simp) _
  refine ⟨h.dev.frT hf (by decide), blk_far h.want (blk_ne h.want h.turn (by decide)) _, blk_put h.turn i _ ?_, h.hw, h.ht, below_set h.below h.ht⟩
  rw [List.setIfInBounds_toArray]
  simp [bools, List.map_set]
theorem Su.want_at (h : Su w0 W g D bw bt ws ts) (i : Nat) (r : List Int) (hr : ws[i]? = some r) : W.cell? ⟨bw, i, none⟩ = some (.string (strOfNums r)) ∧ W.frozen? ⟨bw, i, none⟩ = false :=
  ⟨(blk_cell h.want i).trans (by simp [wstrs, hr]), blk_frozen h.want i⟩
theorem Su.turn_at (h : Su w0 W g D bw bt ws ts) (i : Nat) (b : Bool) (hb : ts[i]? = some b) : W.cell? ⟨bt, i, none⟩ = some (.bool b) ∧ W.frozen? ⟨bt, i, none⟩ = false :=
  ⟨(blk_cell h.turn i).trans (by simp [bools, hb]), blk_frozen h.turn i⟩
end
end Go.Proofs.Ytaoegbebeogkbaa.PDev
