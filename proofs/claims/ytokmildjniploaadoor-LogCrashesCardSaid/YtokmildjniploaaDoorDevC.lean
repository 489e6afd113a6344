/- dev: a device in memory: rows of blocks that are shared and never written, as plain lists. Conditions: none. -/
import Derived.Test.YtokmildjniploaaDoorPLogx1
import Derived.BigQuiet
import Derived.Outline
namespace Go.Proofs.YtokmildjniploaaDoor.PLog
open Go.RowKit Go.Proofs.YtokmildjniploaaDoorW.PrintWords Go.Proofs.YtokmildjniploaaDoorW.PrintLast Go.Proofs.YtokmildjniploaaDoorW.PrintMore
set_option linter.unusedVariables false
set_option linter.unusedSimpArgs false
/-- What may change: blocks of ok, of these types; all that is new. -/
structure Fr (ok : Nat → Prop) (Ts : List Nat) (w w' : World) : Prop where
  os : w'.os = w.os
  tape : w'.tape = w.tape
  output : w'.output = w.output
  size : w.heap.size ≤ w'.heap.size
  block : ∀ k, k < w.heap.size → ¬ ok k → w'.heap[k]? = w.heap[k]?
  typed : ∀ (k : Nat) (cs : Array Value) (t : TypeId) (fr : Nat × Nat), w.heap[k]? = some (Obj.cells cs t fr) → t ∉ Ts → w'.heap[k]? = w.heap[k]?
theorem heap_lt' {w : World} {k : Nat} {o : Obj} (h : w.heap[k]? = some o) : k < w.heap.size := (Array.getElem?_eq_some_iff.1 h).1
theorem Fr.refl (ok : Nat → Prop) (Ts : List Nat) (w : World) : Fr ok Ts w w := ⟨rfl, rfl, rfl, Nat.le_refl _, fun _ _ _ => rfl, fun _ _ _ _ _ _ => rfl⟩
theorem Fr.trans {ok : Nat → Prop} {Ts : List Nat} {a b c : World} (h : Fr ok Ts a b) (k : Fr ok Ts b c) : Fr ok Ts a c :=
  ⟨k.os.trans h.os, k.tape.trans h.tape, k.output.trans h.output, Nat.le_trans h.size k.size, fun i hi hn => (k.block i (Nat.lt_of_lt_of_le hi h.size) hn).trans (h.block i hi hn),
    fun i cs t fr hc ht => (k.typed i cs t fr ((h.typed i cs t fr hc ht).trans hc) ht).trans (h.typed i cs t fr hc ht)⟩
theorem Fr.of_below {ok : Nat → Prop} {Ts : List Nat} {a b : World} (h : Below a.heap.size a b) : Fr ok Ts a b :=
  ⟨h.os, h.tape, h.output, h.size, fun i hi _ => h.block i hi, fun i _ _ _ hc _ => h.block i (heap_lt' hc)⟩
theorem Fr.grown {ok : Nat → Prop} {Ts : List Nat} {a b : World} {row : Option Nat} (hg : a.grownBy b row) (hr : ∀ k, row = some k → ok k ∧ (k < a.heap.size → ∃ (cs : Array Value) (t : TypeId) (fr : Nat × Nat), a.heap[k]? = some (.cells cs t fr) ∧ t ∈ Ts)) : Fr ok Ts a b :=
  ⟨hg.os, hg.tape, hg.output, hg.size, fun i hi hn => hg.block i hi (fun e => hn (hr i e.symm).1), fun i cs t fr hc ht => hg.block i (heap_lt' hc) (fun e => by
    obtain ⟨cs', t', fr', h1, h2⟩ := (hr i e.symm).2 (heap_lt' hc)
    rw [hc] at h1
    injection h1 with h1
    injection h1 with _ h1 _
    exact ht (h1 ▸ h2))⟩
theorem grown_setCell (a : World) (p : Addr) (u : Value) : a.grownBy (a.setCell p u) (some p.block) :=
  ⟨rfl, rfl, rfl, by show _ ≤ (a.heap.modify _ _).size; rw [Array.size_modify]; exact Nat.le_refl _, fun k hk hn => Below.heap_setCell _ _ _ _ (fun e => hn (by rw [e]))⟩
theorem Fr.set {ok : Nat → Prop} {Ts : List Nat} {a : World} {p : Addr} {cs : Array Value} {t : TypeId} {fr : Nat × Nat} (hb : a.heap[p.block]? = some (.cells cs t fr)) (hk : ok p.block) (ht : t ∈ Ts) (u : Value) : Fr ok Ts a (a.setCell p u) :=
  Fr.grown (grown_setCell a p u) (fun k e => by obtain rfl := Option.some.inj e; exact ⟨hk, fun _ => ⟨cs, t, fr, hb, ht⟩⟩)
theorem Fr.mono {ok ok' : Nat → Prop} {Ts Ts' : List Nat} {a b : World} (h : Fr ok Ts a b) (h1 : ∀ k, ok k → ok' k) (h2 : ∀ t, t ∈ Ts → t ∈ Ts') : Fr ok' Ts' a b :=
  ⟨h.os, h.tape, h.output, h.size, fun i hi hn => h.block i hi (fun e => hn (h1 i e)), fun i cs t fr hc ht => h.typed i cs t fr hc (fun e => ht (h2 t e))⟩
theorem Fr.below {ok : Nat → Prop} {Ts : List Nat} {w0 a b : World} {B : Nat} (h : Fr ok Ts a b) (hB : Below B w0 a) (hBs : B ≤ a.heap.size) (hok : ∀ k, ok k → B ≤ k) : Below B w0 b :=
  hB.trans ⟨h.os, h.tape, h.output, h.size, fun i hi => h.block i (Nat.lt_of_lt_of_le hi hBs) (fun e => by have := hok i e; omega)⟩
theorem Fr.drew {ok : Nat → Prop} {Ts : List Nat} {a b : World} (h : Fr ok Ts a b) : Fr ok Ts a b.drew := h.trans (Fr.of_below (below_drew (Below.refl _ _)))
theorem Fr.drewN {ok : Nat → Prop} {Ts : List Nat} {a b : World} (h : Fr ok Ts a b) (n : Nat) : Fr ok Ts a (b.drewN n) := h.trans (Fr.of_below (pw_below_drewN (Below.refl _ _) n))
/-- A block of 128 bytes, by where it lies and its capacity. -/
abbrev Bk := Nat × Nat
def encB (b : Bk) : Value := .slice (some ⟨b.1, 0, none⟩) 128 b.2
def kB : Kd Bk := Kd.scalar encB (fun _ => rfl)
def kW : Kd (Int × Bk) := Kd.pair (Kd.int .i64) kB
def Blk (W : World) (b : Bk) (l : List Int) : Prop := Kd.R (Kd.int .u8) 5 W 0 (fun _ => True) (encB b) l
theorem Blk.len {W : World} {b : Bk} {l : List Int} (h : Blk W b l) : l.length = 128 := (Kd.R_reads' h).1.symm
theorem Blk.cap {W : World} {b : Bk} {l : List Int} (h : Blk W b l) : 128 ≤ b.2 := (Kd.R_reads' h).2.1
theorem Blk.typed {W : World} {b : Bk} {l : List Int} (h : Blk W b l) : ∃ cs, W.heap[b.1]? = some (.cells cs 5 (0, 0)) := Kd.R_typed h b.1 rfl
theorem Blk.move {W W1 : World} {b : Bk} {l : List Int} (h : Blk W b l) (hm : W1.heap[b.1]? = W.heap[b.1]?) : Blk W1 b l :=
  Kd.R_mono (Kd.R_move (ok := fun k => k = b.1) (Kd.R_mono (Kd.R_tight rfl h) (fun k hk => (Option.some.inj hk))) (fun k hk => by rw [hk]; exact hm)) (fun _ _ => trivial)
theorem Blk.fr {W W1 : World} {b : Bk} {l : List Int} {ok : Nat → Prop} {Ts : List Nat} (h : Blk W b l) (hf : Fr ok Ts W W1) (ht : 5 ∉ Ts) : Blk W1 b l := by
  obtain ⟨cs, hc⟩ := h.typed
  exact h.move (hf.typed _ _ _ _ hc ht)
theorem Blk.below {W W1 : World} {b : Bk} {l : List Int} (h : Blk W b l) (hb : Below W.heap.size W W1) : Blk W1 b l := h.fr (ok := fun _ => True) (Ts := []) (Fr.of_below hb) (by simp)
/-- Rows of blocks, as lists of bytes. -/
def Each {α β : Type} (P : α → β → Prop) (xs : List α) (ys : List β) : Prop := xs.length = ys.length ∧ ∀ (i : Nat) (x : α) (y : β), xs[i]? = some x → ys[i]? = some y → P x y
section
variable {α β : Type} {P Q : α → β → Prop} {xs xs' : List α} {ys ys' : List β} {x : α} {y : β}
theorem Each.imp (h : Each P xs ys) (hi : ∀ x y, P x y → Q x y) : Each Q xs ys := ⟨h.1, fun i x y h1 h2 => hi _ _ (h.2 i x y h1 h2)⟩
theorem Each.nil : Each P [] [] := ⟨rfl, fun i x y h => by simp at h⟩
theorem Each.snoc (h : Each P xs ys) (hp : P x y) : Each P (xs ++ [x]) (ys ++ [y]) := by
  refine ⟨by simp [h.1], fun i a b h1 h2 => ?_⟩
  by_cases hi : i < xs.length
  · rw [List.getElem?_append_left hi] at h1
    rw [List.getElem?_append_left (by rw [← h.1]; exact hi)] at h2
    exact h.2 i a b h1 h2
  · rw [List.getElem?_append_right (by omega)] at h1
    rw [List.getElem?_append_right (by rw [← h.1]; omega), ← h.1] at h2
    have hz : i - xs.length = 0 := by
      rcases Nat.eq_zero_or_pos (i - xs.length) with hz | hz
      · exact hz
      · rw [List.getElem?_eq_none (by show 1 ≤ _; omega)] at h1; cases h1
    rw [hz] at h1 h2
    obtain rfl := Option.some.inj h1
    obtain rfl := Option.some.inj h2
    exact hp
theorem Each.set (h : Each P xs ys) (n : Nat) (hp : P x y) : Each P (xs.set n x) (ys.set n y) := by
  refine ⟨by simp [h.1], fun i a b h1 h2 => ?_⟩
  by_cases hi : n = i
  · subst hi
    rw [List.getElem?_set_self'] at h1 h2
    cases hx : xs[n]? with
    | none => rw [hx] at h1; cases h1
    | some u =>
      rw [hx] at h1
      cases hy : ys[n]? with
      | none => rw [hy] at h2; cases h2
      | some v =>
        rw [hy] at h2
        obtain rfl := Option.some.inj h1
        obtain rfl := Option.some.inj h2
        exact hp
  · rw [List.getElem?_set_ne hi] at h1 h2
    exact h.2 i a b h1 h2
theorem Each.at_ (h : Each P xs ys) (i : Nat) (hi : i < ys.length) : ∃ x, xs[i]? = some x ∧ P x ys[i] := by
  have hx : i < xs.length := by rw [h.1]; exact hi
  exact ⟨xs[i], List.getElem?_eq_getElem hx, h.2 i _ _ (List.getElem?_eq_getElem hx) (List.getElem?_eq_getElem hi)⟩
end
/-- A device, as plain lists. -/
structure Dat where
  seen : List (List Int)
  sure : List (List Int)
  later : List (Int × List Int)
  writes : Int
  left : Int
def PW (W : World) (x : Int × Bk) (y : Int × List Int) : Prop := x.1 = y.1 ∧ Blk W x.2 y.2
def devT : List Nat := [54, 35, 75]
/-- The same with what lies in its block told. -/
structure DevRaw (W : World) (ok : Nat → Prop) (g : Nat) (D : Dat) (vs vu vl : Value) (hs hu : List Bk) (hl : List (Int × Bk)) : Prop where
  here : ok g
  blk : W.heap[g]? = some (.cells #[vs, vu, vl, .int .i64 D.writes, .int .i64 D.left] 54 (0, 0))
  rs : Kd.R kB 35 W 0 ok vs hs
  ru : Kd.R kB 35 W 0 ok vu hu
  rl : Kd.R kW 75 W 0 ok vl hl
  ne : ∀ k, vs.ownBlock = some k → vu.ownBlock ≠ some k
  es : Each (Blk W) hs D.seen
  eu : Each (Blk W) hu D.sure
  el : Each (PW W) hl D.later
def DevAt (W : World) (ok : Nat → Prop) (g : Nat) (D : Dat) : Prop := ∃ vs vu vl hs hu hl, DevRaw W ok g D vs vu vl hs hu hl
theorem kB_E : kB.E = [] := rfl
theorem kW_E : kW.E = [] := rfl
section
variable {W W1 : World} {ok ok' ok2 : Nat → Prop} {g : Nat} {D : Dat} {Ts : List Nat} {vs vu vl : Value} {hs hu : List Bk} {hl : List (Int × Bk)}
theorem DevRaw.mono (h : DevRaw W ok g D vs vu vl hs hu hl) (hk : ∀ k, ok k → ok' k) : DevRaw W ok' g D vs vu vl hs hu hl :=
  ⟨hk _ h.here, h.blk, Kd.R_mono h.rs hk, Kd.R_mono h.ru hk, Kd.R_mono h.rl hk, h.ne, h.es, h.eu, h.el⟩
theorem DevAt.mono (h : DevAt W ok g D) (hk : ∀ k, ok k → ok' k) : DevAt W ok' g D := by
  obtain ⟨vs, vu, vl, hs, hu, hl, h⟩ := h
  exact ⟨vs, vu, vl, hs, hu, hl, h.mono hk⟩
theorem DevAt.bound (h : DevAt W ok g D) : DevAt W (fun k => ok k ∧ k < W.heap.size) g D := by
  obtain ⟨vs, vu, vl, hs, hu, hl, h⟩ := h
  exact ⟨vs, vu, vl, hs, hu, hl, ⟨h.here, blk_lt h.blk⟩, h.blk, Kd.R_mono (Kd.R_bound h.rs) (fun k hk => ⟨hk.1, hk.2.2.1⟩), Kd.R_mono (Kd.R_bound h.ru) (fun k hk => ⟨hk.1, hk.2.2.1⟩), Kd.R_mono (Kd.R_bound h.rl) (fun k hk => ⟨hk.1, hk.2.2.1⟩), h.ne, h.es, h.eu, h.el⟩
/-- Behind what leaves its blocks alone. -/
theorem DevRaw.step (h : DevRaw W ok g D vs vu vl hs hu hl) (hm : ∀ (k : Nat) (cs : Array Value) (t : TypeId), ok k → W.heap[k]? = some (Obj.cells cs t (0, 0)) → t ∈ devT → W1.heap[k]? = W.heap[k]?) (hy : ∀ (k : Nat) (cs : Array Value), W.heap[k]? = some (Obj.cells cs 5 (0, 0)) → W1.heap[k]? = W.heap[k]?) : DevRaw W1 ok g D vs vu vl hs hu hl := by
  have hbl : ∀ b l, Blk W b l → Blk W1 b l := fun b l hb => by
    obtain ⟨cs, hc⟩ := hb.typed
    exact hb.move (hy _ _ hc)
  refine ⟨h.here, (hm _ _ _ h.here h.blk (by decide)).trans h.blk, ?_, ?_, ?_, h.ne, h.es.imp hbl, h.eu.imp hbl, h.el.imp (fun x y hp => ⟨hp.1, hbl _ _ hp.2⟩)⟩
  · exact Kd.R_mono (Kd.R_move (Kd.R_bound h.rs) (fun k hk => by
      obtain ⟨q, hq, cs, hc⟩ := hk.2.2.2
      exact hm _ _ _ hk.1 hc (by rw [kB_E, List.mem_singleton] at hq; subst hq; decide))) (fun _ hk => hk.1)
  · exact Kd.R_mono (Kd.R_move (Kd.R_bound h.ru) (fun k hk => by
      obtain ⟨q, hq, cs, hc⟩ := hk.2.2.2
      exact hm _ _ _ hk.1 hc (by rw [kB_E, List.mem_singleton] at hq; subst hq; decide))) (fun _ hk => hk.1)
  · exact Kd.R_mono (Kd.R_move (Kd.R_bound h.rl) (fun k hk => by
      obtain ⟨q, hq, cs, hc⟩ := hk.2.2.2
      exact hm _ _ _ hk.1 hc (by rw [kW_E, List.mem_singleton] at hq; subst hq; decide))) (fun _ hk => hk.1)
theorem DevRaw.below (h : DevRaw W ok g D vs vu vl hs hu hl) (hb : Below W.heap.size W W1) : DevRaw W1 ok g D vs vu vl hs hu hl := h.step (fun k _ _ _ hc _ => hb.block k (heap_lt' hc)) (fun k _ hc => hb.block k (heap_lt' hc))
theorem DevAt.step (h : DevAt W ok g D) (hm : ∀ (k : Nat) (cs : Array Value) (t : TypeId), ok k → W.heap[k]? = some (Obj.cells cs t (0, 0)) → t ∈ devT → W1.heap[k]? = W.heap[k]?) (hy : ∀ (k : Nat) (cs : Array Value), W.heap[k]? = some (Obj.cells cs 5 (0, 0)) → W1.heap[k]? = W.heap[k]?) : DevAt W1 ok g D := by
  obtain ⟨vs, vu, vl, hs, hu, hl, h⟩ := h
  exact ⟨vs, vu, vl, hs, hu, hl, h.step hm hy⟩
/-- One of its own numbers is written. -/
theorem DevRaw.set_num (h : DevRaw W ok g D vs vu vl hs hu hl) (x : Int) (j : Nat) (D' : Dat) (hc : (#[vs, vu, vl, Value.int .i64 D.writes, .int .i64 D.left] : Array Value).setIfInBounds j (.int .i64 x) = #[vs, vu, vl, Value.int .i64 D'.writes, .int .i64 D'.left]) (h1 : D'.seen = D.seen) (h2 : D'.sure = D.sure) (h3 : D'.later = D.later) :
    DevRaw (W.setCell ⟨g, j, none⟩ (.int .i64 x)) ok g D' vs vu vl hs hu hl ∧ Fr ok devT W (W.setCell ⟨g, j, none⟩ (.int .i64 x)) := by
  have hf : Fr (fun k => k = g) [54] W (W.setCell ⟨g, j, none⟩ (.int .i64 x)) := Fr.set (ok := fun k => k = g) (p := ⟨g, j, none⟩) (Ts := [54]) h.blk rfl (by simp) _
  have hbl : ∀ b l, Blk W b l → Blk (W.setCell ⟨g, j, none⟩ (.int .i64 x)) b l := fun b l hb => hb.fr hf (by decide)
  have ht : ∀ {α : Type} {d : Kd α} {e : Nat} {v : Value} {xs : List α}, Kd.R d e W 0 ok v xs → (∀ q, q ∈ e :: d.E → q ≠ 54) → Kd.R d e (W.setCell ⟨g, j, none⟩ (.int .i64 x)) 0 ok v xs := fun hR hq => Kd.R_mono (Kd.R_far (Kd.R_types hR h.blk hq) (fun k hk => hk.2) _) (fun _ hk => hk.1)
  refine ⟨⟨h.here, (blk_set h.blk j (.int .i64 x)).trans (by rw [hc]), ht h.rs (by rw [kB_E]; simp), ht h.ru (by rw [kB_E]; simp), ht h.rl (by rw [kW_E]; simp), h.ne, by rw [h1]; exact h.es.imp hbl, by rw [h2]; exact h.eu.imp hbl, by rw [h3]; exact h.el.imp (fun x y hp => ⟨hp.1, hbl _ _ hp.2⟩)⟩, hf.mono (fun k e => e ▸ h.here) (by decide)⟩
/-- A block of those that are seen is another. -/
theorem DevRaw.set_seen {sb n cs : Nat} (h : DevRaw W ok g D (.slice (some ⟨sb, 0, none⟩) n cs) vu vl hs hu hl) (i : Nat) (bk : Bk) (b : List Int) (hb : Blk W bk b) :
    DevRaw (W.setCell ⟨sb, i, none⟩ (encB bk)) ok g { D with seen := D.seen.set i b } (.slice (some ⟨sb, 0, none⟩) n cs) vu vl (hs.set i bk) hu hl ∧ Fr ok devT W (W.setCell ⟨sb, i, none⟩ (encB bk)) := by
  obtain ⟨cells, hsb⟩ := Kd.R_typed h.rs sb rfl
  have hok : ok sb := h.rs.1 sb rfl
  have hf : Fr (fun k => k = sb) [35] W (W.setCell ⟨sb, i, none⟩ (encB bk)) := Fr.set (ok := fun k => k = sb) (p := ⟨sb, i, none⟩) (Ts := [35]) hsb rfl (by simp) _
  have hbl : ∀ b l, Blk W b l → Blk (W.setCell ⟨sb, i, none⟩ (encB bk)) b l := fun b l hb => hb.fr hf (by decide)
  have hg : g ≠ sb := fun e => by
    have := h.blk
    rw [e, hsb] at this
    injection this with this
    injection this with _ this
    exact absurd this (by decide)
  have hp := Kd.R_putg h.rs (i : Int) bk
  rw [Int.toNat_natCast] at hp
  refine ⟨⟨h.here, blk_far h.blk hg _, hp.1, ?_, ?_, h.ne, (h.es.imp hbl).set i (hbl _ _ hb), h.eu.imp hbl, h.el.imp (fun x y hp => ⟨hp.1, hbl _ _ hp.2⟩)⟩, hf.mono (fun k e => e ▸ hok) (by decide)⟩
  · exact Kd.R_drop (Kd.R_far (p := ⟨sb, i, none⟩) (Kd.R_far1 h.ru rfl (fun e => h.ne sb rfl e.symm)) (fun k hk => hk.2) _)
  · exact Kd.R_mono (Kd.R_far (p := ⟨sb, i, none⟩) (Kd.R_types h.rl hsb (by rw [kW_E]; simp)) (fun k hk => hk.2) _) (fun _ hk => hk.1)
/-- A block of those that are sure is another. -/
theorem DevRaw.set_sure {sb n cs : Nat} (h : DevRaw W ok g D vs (.slice (some ⟨sb, 0, none⟩) n cs) vl hs hu hl) (i : Nat) (bk : Bk) (b : List Int) (hb : Blk W bk b) :
    DevRaw (W.setCell ⟨sb, i, none⟩ (encB bk)) ok g { D with sure := D.sure.set i b } vs (.slice (some ⟨sb, 0, none⟩) n cs) vl hs (hu.set i bk) hl ∧ Fr ok devT W (W.setCell ⟨sb, i, none⟩ (encB bk)) := by
  obtain ⟨cells, hsb⟩ := Kd.R_typed h.ru sb rfl
  have hok : ok sb := h.ru.1 sb rfl
  have hf : Fr (fun k => k = sb) [35] W (W.setCell ⟨sb, i, none⟩ (encB bk)) := Fr.set (ok := fun k => k = sb) (p := ⟨sb, i, none⟩) (Ts := [35]) hsb rfl (by simp) _
  have hbl : ∀ b l, Blk W b l → Blk (W.setCell ⟨sb, i, none⟩ (encB bk)) b l := fun b l hb => hb.fr hf (by decide)
  have hg : g ≠ sb := fun e => by
    have := h.blk
    rw [e, hsb] at this
    injection this with this
    injection this with _ this
    exact absurd this (by decide)
  have hp := Kd.R_putg h.ru (i : Int) bk
  rw [Int.toNat_natCast] at hp
  refine ⟨⟨h.here, blk_far h.blk hg _, ?_, hp.1, ?_, h.ne, h.es.imp hbl, (h.eu.imp hbl).set i (hbl _ _ hb), h.el.imp (fun x y hp => ⟨hp.1, hbl _ _ hp.2⟩)⟩, hf.mono (fun k e => e ▸ hok) (by decide)⟩
  · exact Kd.R_drop (Kd.R_far (p := ⟨sb, i, none⟩) (Kd.R_far1 h.rs rfl (fun e => h.ne sb e.symm rfl)) (fun k hk => hk.2) _)
  · exact Kd.R_mono (Kd.R_far (p := ⟨sb, i, none⟩) (Kd.R_types h.rl hsb (by rw [kW_E]; simp)) (fun k hk => hk.2) _) (fun _ hk => hk.1)
/-- A write more waits. -/
theorem DevRaw.set_later {vl' : Value} {hl' : List (Int × Bk)} {ls : List (Int × List Int)} (h : DevRaw W ok g D vs vu vl hs hu hl) (hg : W.grownBy W1 vl.ownBlock) (hr : Kd.R kW 75 W1 0 ok vl' hl') (he : Each (PW W1) hl' ls) :
    DevRaw (W1.setCell ⟨g, 2, none⟩ vl') ok g { D with later := ls } vs vu vl' hs hu hl' ∧ Fr ok devT W (W1.setCell ⟨g, 2, none⟩ vl') := by
  have hf0 : Fr ok [75] W W1 := Fr.grown hg (fun k hk => ⟨h.rl.1 k hk, fun _ => by
    obtain ⟨cs, hc⟩ := Kd.R_typed h.rl k hk
    exact ⟨cs, _, _, hc, by simp⟩⟩)
  have hb1 : W1.heap[g]? = some (.cells #[vs, vu, vl, .int .i64 D.writes, .int .i64 D.left] 54 (0, 0)) := blk_grown h.blk hg (Kd.R_ne h.rl h.blk (by decide))
  have hf1 : Fr (fun k => k = g) [54] W1 (W1.setCell ⟨g, 2, none⟩ vl') := Fr.set (ok := fun k => k = g) (p := ⟨g, 2, none⟩) (Ts := [54]) hb1 rfl (by simp) _
  have hbl : ∀ b l, Blk W b l → Blk (W1.setCell ⟨g, 2, none⟩ vl') b l := fun b l hb => (hb.fr hf0 (by decide)).fr hf1 (by decide)
  have hty : ∀ k, vl.ownBlock = some k → ∃ cells, W.heap[k]? = some (.cells cells 75 (0, 0)) := Kd.R_typed h.rl
  have ht : ∀ {α : Type} {d : Kd α} {e : Nat} {v : Value} {xs : List α}, Kd.R d e W1 0 ok v xs → (∀ q, q ∈ e :: d.E → q ≠ 54) → Kd.R d e (W1.setCell ⟨g, 2, none⟩ vl') 0 ok v xs := fun hR hq => Kd.R_mono (Kd.R_far (p := ⟨g, 2, none⟩) (Kd.R_types hR hb1 hq) (fun k hk => hk.2) _) (fun _ hk => hk.1)
  refine ⟨⟨h.here, by simpa using blk_set hb1 2 vl', ht (Kd.R_over' h.rs hty (by rw [kB_E]; simp) hg) (by rw [kB_E]; simp), ht (Kd.R_over' h.ru hty (by rw [kB_E]; simp) hg) (by rw [kB_E]; simp), ht hr (by rw [kW_E]; simp), h.ne, h.es.imp hbl, h.eu.imp hbl, he.imp (fun x y hp => ⟨hp.1, hp.2.fr hf1 (by decide)⟩)⟩, ?_⟩
  exact (hf0.mono (fun _ h => h) (by decide)).trans (hf1.mono (fun k e => e ▸ h.here) (by decide))
theorem DevAt.below (h : DevAt W ok g D) (hb : Below W.heap.size W W1) : DevAt W1 ok g D := h.step (fun k _ _ _ hc _ => hb.block k (heap_lt' hc)) (fun k _ hc => hb.block k (heap_lt' hc))
/-- Behind what writes other types' blocks. -/
theorem DevAt.frT (h : DevAt W ok g D) (hf : Fr ok2 Ts W W1) (ht : ∀ t, t ∈ 5 :: devT → t ∉ Ts) : DevAt W1 ok g D :=
  h.step (fun k _ t _ hc hd => hf.typed _ _ _ _ hc (ht t (List.mem_cons_of_mem _ hd))) (fun k _ hc => hf.typed _ _ _ _ hc (ht _ List.mem_cons_self))
/-- Behind what writes others' blocks. -/
theorem DevAt.frO (h : DevAt W ok g D) (hf : Fr ok2 Ts W W1) (ho : ∀ k, ok k → ¬ ok2 k) (ht : 5 ∉ Ts) : DevAt W1 ok g D :=
  h.step (fun k _ t hk hc _ => hf.block k (heap_lt' hc) (ho k hk)) (fun k _ hc => hf.typed _ _ _ _ hc ht)
end
end Go.Proofs.YtokmildjniploaaDoor.PLog
