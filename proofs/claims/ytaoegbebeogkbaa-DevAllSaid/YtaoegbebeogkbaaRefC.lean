/- the document's device: texts in rows, as the same plain lists; what its small functions do. Conditions: none. -/
import Derived.Test.YtaoegbebeogkbaaDevU
import Derived.Test.YtaoegbebeogkbaaXB
namespace Go.Proofs.Ytaoegbebeogkbaa.PDev
open Go.RowKit Go.Proofs.YtaoegbebeogkbaaW.PrintWords Go.Proofs.YtaoegbebeogkbaaW.PrintLast Go.Proofs.YtaoegbebeogkbaaW.PrintMore
attribute [local go_sem] max2_int min2_int max_two min_two   -- for this text's walks alone
set_option linter.unusedVariables false
set_option linter.unusedSimpArgs false
def encS (r : List Int) : Value := .string (strOfNums r)
def kS : Kd (List Int) := Kd.scalar encS (fun _ => rfl)
def kP : Kd (Int × List Int) := Kd.pair (Kd.int .i64) kS
def refT : List Nat := [50, 9, 62]
theorem kS_E : kS.E = [] := rfl
theorem kP_E : kP.E = [] := rfl
/-- The document's device, as plain lists, with what lies in its block told. -/
structure RefRaw (W : World) (ok : Nat → Prop) (g : Nat) (D : Dat) (vu vs vl : Value) : Prop where
  here : ok g
  blk : W.heap[g]? = some (.cells #[vu, vs, vl, .int .i64 D.writes, .int .i64 D.left] 50 (0, 0))
  ru : Kd.R kS 9 W 0 ok vu D.sure
  rs : Kd.R kS 9 W 0 ok vs D.seen
  rl : Kd.R kP 62 W 0 ok vl D.later
  ne : ∀ k, vs.ownBlock = some k → vu.ownBlock ≠ some k
def RefAt (W : World) (ok : Nat → Prop) (g : Nat) (D : Dat) : Prop := ∃ vu vs vl, RefRaw W ok g D vu vs vl
section
variable {W W1 : World} {ok ok' ok2 : Nat → Prop} {g : Nat} {D : Dat} {Ts : List Nat} {vu vs vl : Value}
theorem RefRaw.mono (h : RefRaw W ok g D vu vs vl) (hk : ∀ k, ok k → ok' k) : RefRaw W ok' g D vu vs vl :=
  ⟨hk _ h.here, h.blk, Kd.R_mono h.ru hk, Kd.R_mono h.rs hk, Kd.R_mono h.rl hk, h.ne⟩
theorem RefAt.mono (h : RefAt W ok g D) (hk : ∀ k, ok k → ok' k) : RefAt W ok' g D := by
  obtain ⟨vu, vs, vl, h⟩ := h
  exact ⟨vu, vs, vl, h.mono hk⟩
theorem RefRaw.step (h : RefRaw W ok g D vu vs vl) (hm : ∀ (k : Nat) (cs : Array Value) (t : TypeId), ok k → W.heap[k]? = some (Obj.cells cs t (0, 0)) → t ∈ refT → W1.heap[k]? = W.heap[k]?) : RefRaw W1 ok g D vu vs vl := by
  refine ⟨h.here, (hm _ _ _ h.here h.blk (by decide)).trans h.blk, ?_, ?_, ?_, h.ne⟩
  · exact Kd.R_mono (Kd.R_move (Kd.R_bound h.ru) (fun k hk => by
      obtain ⟨q, hq, cs, hc⟩ := hk.2.2.2
      exact hm _ _ _ hk.1 hc (by rw [kS_E, List.mem_singleton] at hq; subst hq; decide))) (fun _ hk => hk.1)
  · exact Kd.R_mono (Kd.R_move (Kd.R_bound h.rs) (fun k hk => by
      obtain ⟨q, hq, cs, hc⟩ := hk.2.2.2
      exact hm _ _ _ hk.1 hc (by rw [kS_E, List.mem_singleton] at hq; subst hq; decide))) (fun _ hk => hk.1)
  · exact Kd.R_mono (Kd.R_move (Kd.R_bound h.rl) (fun k hk => by
      obtain ⟨q, hq, cs, hc⟩ := hk.2.2.2
      exact hm _ _ _ hk.1 hc (by rw [kP_E, List.mem_singleton] at hq; subst hq; decide))) (fun _ hk => hk.1)
theorem RefRaw.below (h : RefRaw W ok g D vu vs vl) (hb : Below W.heap.size W W1) : RefRaw W1 ok g D vu vs vl := h.step (fun k _ _ _ hc _ => hb.block k (heap_lt' hc))
theorem RefRaw.frT (h : RefRaw W ok g D vu vs vl) (hf : Fr ok2 Ts W W1) (ht : ∀ t, t ∈ refT → t ∉ Ts) : RefRaw W1 ok g D vu vs vl := h.step (fun k _ t _ hc hd => hf.typed _ _ _ _ hc (ht t hd))
theorem RefAt.below (h : RefAt W ok g D) (hb : Below W.heap.size W W1) : RefAt W1 ok g D := by
  obtain ⟨vu, vs, vl, h⟩ := h
  exact ⟨vu, vs, vl, h.below hb⟩
theorem RefAt.frT (h : RefAt W ok g D) (hf : Fr ok2 Ts W W1) (ht : ∀ t, t ∈ refT → t ∉ Ts) : RefAt W1 ok g D := by
  obtain ⟨vu, vs, vl, h⟩ := h
  exact ⟨vu, vs, vl, h.frT hf ht⟩
theorem RS_set {cs : Array Value} {v : Value} {xs : List (List Int)} (h : Kd.R kS 9 W 0 ok v xs) (hb : W.heap[g]? = some (.cells cs 50 (0, 0))) (j : Nat) (u : Value) : Kd.R kS 9 (W.setCell ⟨g, j, none⟩ u) 0 ok v xs :=
  Kd.R_mono (Kd.R_far (p := ⟨g, j, none⟩) (Kd.R_types h hb (by rw [kS_E]; simp)) (fun k hk => hk.2) _) (fun _ hk => hk.1)
theorem RP_set {cs : Array Value} {v : Value} {xs : List (Int × List Int)} (h : Kd.R kP 62 W 0 ok v xs) (hb : W.heap[g]? = some (.cells cs 50 (0, 0))) (j : Nat) (u : Value) : Kd.R kP 62 (W.setCell ⟨g, j, none⟩ u) 0 ok v xs :=
  Kd.R_mono (Kd.R_far (p := ⟨g, j, none⟩) (Kd.R_types h hb (by rw [kP_E]; simp)) (fun k hk => hk.2) _) (fun _ hk => hk.1)
theorem fr_setr {cs : Array Value} (hb : W.heap[g]? = some (.cells cs 50 (0, 0))) (hg : ok g) (j : Nat) (u : Value) : Fr ok refT W (W.setCell ⟨g, j, none⟩ u) :=
  Fr.set (p := ⟨g, j, none⟩) hb hg (by decide) u
theorem RefRaw.set_num (h : RefRaw W ok g D vu vs vl) (x : Int) (j : Nat) (D' : Dat) (hc : (#[vu, vs, vl, Value.int .i64 D.writes, .int .i64 D.left] : Array Value).setIfInBounds j (.int .i64 x) = #[vu, vs, vl, Value.int .i64 D'.writes, .int .i64 D'.left]) (h1 : D'.seen = D.seen) (h2 : D'.sure = D.sure) (h3 : D'.later = D.later) :
    RefRaw (W.setCell ⟨g, j, none⟩ (.int .i64 x)) ok g D' vu vs vl ∧ Fr ok refT W (W.setCell ⟨g, j, none⟩ (.int .i64 x)) :=
  ⟨⟨h.here, (blk_set h.blk j (.int .i64 x)).trans (by rw [hc]), by rw [h2]; exact RS_set h.ru h.blk _ _, by rw [h1]; exact RS_set h.rs h.blk _ _, by rw [h3]; exact RP_set h.rl h.blk _ _, h.ne⟩, fr_setr h.blk h.here _ _⟩
theorem RefRaw.set_seen {sb n cs : Nat} (h : RefRaw W ok g D vu (.slice (some ⟨sb, 0, none⟩) n cs) vl) (i : Nat) (b : List Int) :
    RefRaw (W.setCell ⟨sb, i, none⟩ (encS b)) ok g { D with seen := D.seen.set i b } vu (.slice (some ⟨sb, 0, none⟩) n cs) vl ∧ Fr ok refT W (W.setCell ⟨sb, i, none⟩ (encS b)) := by
  obtain ⟨cells, hsb⟩ := Kd.R_typed h.rs sb rfl
  have hok : ok sb := h.rs.1 sb rfl
  have hg : g ≠ sb := fun e => by
    have := h.blk
    rw [e, hsb] at this
    injection this with this
    injection this with _ this
    exact absurd this (by decide)
  have hp := Kd.R_putg h.rs (i : Int) b
  rw [Int.toNat_natCast] at hp
  refine ⟨⟨h.here, blk_far h.blk hg _, ?_, hp.1, ?_, h.ne⟩, Fr.set (p := ⟨sb, i, none⟩) hsb hok (by decide) _⟩
  · exact Kd.R_drop (Kd.R_far (p := ⟨sb, i, none⟩) (Kd.R_far1 h.ru rfl (fun e => h.ne sb rfl e.symm)) (fun k hk => hk.2) _)
  · exact Kd.R_mono (Kd.R_far (p := ⟨sb, i, none⟩) (Kd.R_types h.rl hsb (by rw [kP_E]; simp)) (fun k hk => hk.2) _) (fun _ hk => hk.1)
theorem RefRaw.set_sure {sb n cs : Nat} (h : RefRaw W ok g D (.slice (some ⟨sb, 0, none⟩) n cs) vs vl) (i : Nat) (b : List Int) :
    RefRaw (W.setCell ⟨sb, i, none⟩ (encS b)) ok g { D with sure := D.sure.set i b } (.slice (some ⟨sb, 0, none⟩) n cs) vs vl ∧ Fr ok refT W (W.setCell ⟨sb, i, none⟩ (encS b)) := by
  obtain ⟨cells, hsb⟩ := Kd.R_typed h.ru sb rfl
  have hok : ok sb := h.ru.1 sb rfl
  have hg : g ≠ sb := fun e => by
    have := h.blk
    rw [e, hsb] at this
    injection this with this
    injection this with _ this
    exact absurd this (by decide)
  have hp := Kd.R_putg h.ru (i : Int) b
  rw [Int.toNat_natCast] at hp
  refine ⟨⟨h.here, blk_far h.blk hg _, hp.1, ?_, ?_, h.ne⟩, Fr.set (p := ⟨sb, i, none⟩) hsb hok (by decide) _⟩
  · exact Kd.R_drop (Kd.R_far (p := ⟨sb, i, none⟩) (Kd.R_far1 h.rs rfl (fun e => h.ne sb e.symm rfl)) (fun k hk => hk.2) _)
  · exact Kd.R_mono (Kd.R_far (p := ⟨sb, i, none⟩) (Kd.R_types h.rl hsb (by rw [kP_E]; simp)) (fun k hk => hk.2) _) (fun _ hk => hk.1)
theorem RefRaw.set_later {vl' : Value} {ls : List (Int × List Int)} (h : RefRaw W ok g D vu vs vl) (hg : W.grownBy W1 vl.ownBlock) (hr : Kd.R kP 62 W1 0 ok vl' ls) :
    RefRaw (W1.setCell ⟨g, 2, none⟩ vl') ok g { D with later := ls } vu vs vl' ∧ Fr ok refT W (W1.setCell ⟨g, 2, none⟩ vl') := by
  have hf0 : Fr ok refT W W1 := Fr.grown hg (fun k hk => ⟨h.rl.1 k hk, fun _ => by
    obtain ⟨cs, hc⟩ := Kd.R_typed h.rl k hk
    exact ⟨cs, _, _, hc, by decide⟩⟩)
  have hb1 := blk_grown h.blk hg (Kd.R_ne h.rl h.blk (by decide))
  have hty : ∀ k, vl.ownBlock = some k → ∃ cells, W.heap[k]? = some (.cells cells 62 (0, 0)) := Kd.R_typed h.rl
  exact ⟨⟨h.here, by simpa using blk_set hb1 2 vl', RS_set (Kd.R_over' h.ru hty (by rw [kS_E]; simp) hg) hb1 _ _, RS_set (Kd.R_over' h.rs hty (by rw [kS_E]; simp) hg) hb1 _ _, RP_set hr hb1 _ _, h.ne⟩, hf0.trans (fr_setr hb1 h.here _ _)⟩
theorem RefRaw.set_row {vu' : Value} {ls : List (List Int)} (h : RefRaw W ok g D vu (.slice none 0 0) vl) (hs0 : D.seen = []) (hg : W.grownBy W1 vu.ownBlock) (hr : Kd.R kS 9 W1 0 ok vu' ls) :
    RefRaw (W1.setCell ⟨g, 0, none⟩ vu') ok g { D with sure := ls } vu' (.slice none 0 0) vl ∧ Fr ok refT W (W1.setCell ⟨g, 0, none⟩ vu') := by
  have hf0 : Fr ok refT W W1 := Fr.grown hg (fun k hk => ⟨h.ru.1 k hk, fun _ => by
    obtain ⟨cs, hc⟩ := Kd.R_typed h.ru k hk
    exact ⟨cs, _, _, hc, by decide⟩⟩)
  have hb1 := blk_grown h.blk hg (Kd.R_ne h.ru h.blk (by decide))
  have hty : ∀ k, vu.ownBlock = some k → ∃ cells, W.heap[k]? = some (.cells cells 9 (0, 0)) := Kd.R_typed h.ru
  refine ⟨⟨h.here, by simpa using blk_set hb1 0 vu', RS_set hr hb1 _ _, ?_, RP_set (Kd.R_over' h.rl hty (by rw [kP_E]; simp) hg) hb1 _ _, fun k hk => by simp [Value.ownBlock] at hk⟩, hf0.trans (fr_setr hb1 h.here _ _)⟩
  show Kd.R kS 9 _ 0 ok (.slice none 0 0) D.seen
  rw [hs0]
  exact Kd.R_nil _ _ _ _ _
theorem RefRaw.made {v2 : Value} {ls : List (List Int)} (h : RefRaw W ok g D vu vs vl) (hr : Kd.R kS 9 W 0 ok v2 ls) (hne : ∀ k, v2.ownBlock = some k → vu.ownBlock ≠ some k) :
    RefRaw (W.setCell ⟨g, 1, none⟩ v2) ok g { D with seen := ls } vu v2 vl ∧ Fr ok refT W (W.setCell ⟨g, 1, none⟩ v2) :=
  ⟨⟨h.here, by simpa using blk_set h.blk 1 v2, RS_set h.ru h.blk _ _, RS_set hr h.blk _ _, RP_set h.rl h.blk _ _, hne⟩, fr_setr h.blk h.here _ _⟩
theorem RefRaw.flushed {v2 : Value} {ls : List (List Int)} (h : RefRaw W ok g D vu vs vl) (hr : Kd.R kS 9 W 0 ok v2 ls) (hne : ∀ k, vs.ownBlock = some k → v2.ownBlock ≠ some k) :
    RefRaw ((W.setCell ⟨g, 0, none⟩ v2).setCell ⟨g, 2, none⟩ (.slice none 0 0)) ok g { D with sure := ls, later := [] } v2 vs (.slice none 0 0) ∧ Fr ok refT W ((W.setCell ⟨g, 0, none⟩ v2).setCell ⟨g, 2, none⟩ (.slice none 0 0)) := by
  have hb1 := blk_set h.blk 0 v2
  have hb2 := blk_set hb1 2 (.slice none 0 0)
  exact ⟨⟨h.here, by simpa using hb2, RS_set (RS_set hr h.blk _ _) hb1 _ _, RS_set (RS_set h.rs h.blk _ _) hb1 _ _, Kd.R_nil _ _ _ _ _, hne⟩, (fr_setr (ok := ok) h.blk h.here 0 v2).trans (fr_setr (ok := ok) hb1 h.here 2 (.slice none 0 0))⟩
theorem RefRaw.crashed {v2 : Value} {ls : List (List Int)} (h : RefRaw W ok g D vu vs vl) (hr : Kd.R kS 9 W 0 ok v2 ls) (hne : ∀ k, v2.ownBlock = some k → vu.ownBlock ≠ some k) :
    RefRaw (((W.setCell ⟨g, 1, none⟩ v2).setCell ⟨g, 2, none⟩ (.slice none 0 0)).setCell ⟨g, 4, none⟩ (.int .i64 (-1))) ok g { D with seen := ls, later := [], left := -1 } vu v2 (.slice none 0 0) ∧ Fr ok refT W (((W.setCell ⟨g, 1, none⟩ v2).setCell ⟨g, 2, none⟩ (.slice none 0 0)).setCell ⟨g, 4, none⟩ (.int .i64 (-1))) := by
  have hb1 := blk_set h.blk 1 v2
  have hb2 := blk_set hb1 2 (.slice none 0 0)
  have hb3 := blk_set hb2 4 (.int .i64 (-1))
  exact ⟨⟨h.here, by simpa using hb3, RS_set (RS_set (RS_set h.ru h.blk _ _) hb1 _ _) hb2 _ _, RS_set (RS_set (RS_set hr h.blk _ _) hb1 _ _) hb2 _ _, Kd.R_nil _ _ _ _ _, hne⟩, ((fr_setr (ok := ok) h.blk h.here 1 v2).trans (fr_setr (ok := ok) hb1 h.here 2 (.slice none 0 0))).trans (fr_setr (ok := ok) hb2 h.here 4 (.int .i64 (-1)))⟩
end
set_option maxHeartbeats 8000000 in
set_option maxRecDepth 100000 in
theorem Ref_Stopped (ok : Nat → Prop) (g : Nat) (D : Dat) (w : World) (h : RefAt w ok g D) :
    Calls Try.prog 27 #[.pointer (some ⟨g, 0, none⟩)] w fun e w' => e = .returned (.bool (D.left == 0)) ∧ w = w' := by
  obtain ⟨vu, vs, vl, ⟨h0, hb, h1, h2, h3, h4⟩⟩ := h
  have x0 := blk_cell hb 4
  clear hb h1 h2 h3 h4 h0
  go_enter Try.func27, Try.ntmps27
  go_wp2
  go_ret
  exact ⟨rfl, rfl⟩
theorem RefAt.set_left {W : World} {ok : Nat → Prop} {g : Nat} {D : Dat} (h : RefAt W ok g D) (x : Int) : RefAt (W.setCell ⟨g, 4, none⟩ (.int .i64 x)) ok g { D with left := x } ∧ Fr ok refT W (W.setCell ⟨g, 4, none⟩ (.int .i64 x)) := by
  obtain ⟨vu, vs, vl, h⟩ := h
  have := h.set_num x 4 { D with left := x } rfl rfl rfl rfl
  exact ⟨⟨_, _, _, this.1⟩, this.2⟩
set_option maxHeartbeats 8000000 in
set_option maxRecDepth 100000 in
theorem Ref_Stop (ok : Nat → Prop) (g : Nat) (D : Dat) (n : Int) (w : World) (h : RefAt w ok g D) :
    Calls Try.prog 19 #[.pointer (some ⟨g, 0, none⟩), .int .i64 n] w fun e w' => e = .returned (.tuple #[]) ∧ RefAt w' ok g (D.stop n) ∧ Fr ok refT w w' := by
  have HD := Aside0.mk h
  obtain ⟨vu, vs, vl, ⟨h0, hb, h1, h2, h3, h4⟩⟩ := h
  have x0 := blk_cell hb 4
  have f0 := blk_frozen hb 4
  clear hb h1 h2 h3 h4 h0
  go_enter Try.func19, Try.ntmps19
  go_wp2
  all_goals
    go_end0
    first
      | (have hn : n < -1 := by assumption
         have := HD.out.set_left (-1)
         exact ⟨rfl, by unfold Dat.stop; rw [if_pos hn]; exact this.1, this.2⟩)
      | (have hn : ¬ n < -1 := by omega
         have := HD.out.set_left n
         exact ⟨rfl, by unfold Dat.stop; rw [if_neg hn]; exact this.1, this.2⟩)
set_option maxHeartbeats 8000000 in
set_option maxRecDepth 100000 in
theorem Ref_Read_no (ok : Nat → Prop) (g : Nat) (D : Dat) (i : Int) (w : World) (h : RefAt w ok g D) (hi : ¬ (0 ≤ i ∧ i < D.seen.length)) :
    Calls Try.prog 25 #[.pointer (some ⟨g, 0, none⟩), .int .i64 i] w fun e w' => e = .returned (.tuple #[.slice none 0 0, .bool false]) ∧ w = w' := by
  obtain ⟨vu, vs, vl, ⟨h0, hb, h1, h2, h3, h4⟩⟩ := h
  obtain ⟨A, c, rfl⟩ := Kd.R_slice h2
  have x0 := blk_cell hb 1
  have HI := Aside0.mk hi
  clear hi hb h1 h2 h3 h4 h0
  by_cases h0 : i < 0
  · have d0 : decide (i < 0) = true := decide_eq_true h0
    go_enter Try.func25, Try.ntmps25
    go_wp2
    go_ret2
    exact ⟨rfl, rfl⟩
  · have d0 : decide (i < 0) = false := decide_eq_false h0
    have h1 : (D.seen.length : Int) ≤ i := by have := HI.out; omega
    have d1 : decide ((D.seen.length : Int) ≤ i) = true := decide_eq_true h1
    go_enter Try.func25, Try.ntmps25
    go_wp2
    go_ret2
    exact ⟨rfl, rfl⟩
theorem str_back (t : ByteArray) : strOfNums (bytesOf t) = t := by
  cases t with
  | mk d =>
    have h : ∀ l : List UInt8, l.map ((fun n : Int => UInt8.ofNat n.toNat) ∘ fun x : UInt8 => (x.toNat : Int)) = l := by
      intro l
      induction l with
      | nil => rfl
      | cons x r ih => simp [ih]
    simp [strOfNums, bytesOf, h]
set_option maxHeartbeats 8000000 in
set_option maxRecDepth 100000 in
theorem Ref_Read_at (ok : Nat → Prop) (g : Nat) (D : Dat) (i : Nat) (row : List Int) (n : Nat) (w : World) (h : RefAt w ok g D) (hr : D.seen[i]? = some row) (hn : row.length = n) (hn2 : n ≤ 1000000) (hm : D.seen.length ≤ 1000000) :
    Calls Try.prog 25 #[.pointer (some ⟨g, 0, none⟩), .int .i64 (i : Int)] w fun e w' => ∃ A c l, e = .returned (.tuple #[.slice A n c, .bool true]) ∧ n ≤ c ∧ l.length = n ∧ strOfNums l = strOfNums row ∧ Kd.C (Kd.int .u8) w' A n l ∧ Below w.heap.size w w' := by
  obtain ⟨vu, vs, vl, ⟨h0, hb, h1, h2, h3, h4⟩⟩ := h
  have hi : i < D.seen.length := by
    rcases Nat.lt_or_ge i D.seen.length with c | c
    · exact c
    · rw [List.getElem?_eq_none c] at hr; cases hr
  obtain ⟨b, c, rfl, _, _, _⟩ := Kd.R_form h2 (by omega)
  have x0 := blk_cell hb 1
  have hx := (Kd.R_celln (d := ([] : List Int)) h2 (i : Int) (by omega) (by omega)).1
  rw [Int.toNat_natCast] at hx
  have hrd : rdOf ([] : List Int) D.seen (i : Int) = row := by unfold rdOf; rw [Int.toNat_natCast, List.getD_eq_getElem?_getD, hr]; rfl
  rw [hrd] at hx
  have hx2 : w.cell? ⟨b, i, none⟩ = some (.string (strOfNums row)) := hx
  have d0 : decide ((i : Int) < 0) = false := decide_eq_false (by omega)
  have d1 : decide ((D.seen.length : Int) ≤ (i : Int)) = false := decide_eq_false (by omega)
  have d1n : decide (D.seen.length ≤ i) = false := decide_eq_false (by omega)
  have d2 : (i : Int) < (D.seen.length : Int) := by omega
  have d2n : decide (i < D.seen.length) = true := decide_eq_true hi
  have hcv := fun W => x_bytes (P := Try.prog) 9 23 5 Try.underlying9 Try.underlying23 Try.underlying5 (strOfNums row) W
  have hsz : (strOfNums row).size = n := by rw [strOfNums_size, hn]
  have hC := x_cbytes w 5 (strOfNums row) (by omega)
  have hL : (bytesOf (strOfNums row)).length = n := by rw [bytesOf_length, hsz]
  rw [hL] at hC
  have hrm := x_room w 5 (strOfNums row)
  rw [hL, hsz] at hrm
  have HRM := Aside0.mk hrm
  have HC := Aside0.mk hC
  have HL := Aside0.mk hL
  rw [hL, hsz] at hcv
  clear hb h1 h2 h3 h4 h0 hrd hr hx hi hsz hC hL hrm
  have HS := Aside0.mk (str_back (strOfNums row))
  generalize strOfNums row = s at hx2 hcv HC HL HS ⊢
  go_enter Try.func25, Try.ntmps25
  go_wp2
  go_ret2
  exact ⟨_, _, _, rfl, HRM.out, HL.out, HS.out, HC.out, below_drew1 (below_alloc (Below.refl _ _) _)⟩
end Go.Proofs.Ytaoegbebeogkbaa.PDev
