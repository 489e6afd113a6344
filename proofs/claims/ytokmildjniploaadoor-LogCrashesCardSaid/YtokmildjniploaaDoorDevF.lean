/- dev: what its small functions do: Blocks, Writes, Stopped, Stop, Read. Conditions: none. -/
import Derived.Test.YtokmildjniploaaDoorDevC
namespace Go.Proofs.YtokmildjniploaaDoor.PLog
open Go.RowKit Go.Proofs.YtokmildjniploaaDoorW.PrintWords Go.Proofs.YtokmildjniploaaDoorW.PrintLast Go.Proofs.YtokmildjniploaaDoorW.PrintMore
attribute [local go_sem] max2_int min2_int max_two min_two   -- for this text's walks alone
set_option linter.unusedVariables false
set_option linter.unusedSimpArgs false
set_option maxHeartbeats 8000000 in
set_option maxRecDepth 100000 in
theorem Blocks (ok : Nat → Prop) (g : Nat) (D : Dat) (w : World) (h : DevAt w ok g D) :
    Calls Tryd.prog 35 #[.pointer (some ⟨g, 0, none⟩)] w fun e w' => e = .returned (.int .i64 (D.seen.length : Int)) ∧ w = w' := by
  obtain ⟨vs, vu, vl, hs, hu, hl, ⟨h0, hb, h1, h2, h3, h4, h5, h6, h7⟩⟩ := h
  obtain ⟨A, c, rfl⟩ := Kd.R_slice h1
  have x0 := blk_cell hb 0
  have hl := h5.1
  rw [hl] at x0
  clear hb h1 h2 h3 h4 h5 h6 h7 h0 hl
  go_enter Tryd.func35, Tryd.ntmps35
  go_wp2
  go_ret
  exact ⟨rfl, rfl⟩
set_option maxHeartbeats 8000000 in
set_option maxRecDepth 100000 in
theorem Stopped (ok : Nat → Prop) (g : Nat) (D : Dat) (w : World) (h : DevAt w ok g D) :
    Calls Tryd.prog 19 #[.pointer (some ⟨g, 0, none⟩)] w fun e w' => e = .returned (.bool (D.left == 0)) ∧ w = w' := by
  obtain ⟨vs, vu, vl, hs, hu, hl, ⟨h0, hb, h1, h2, h3, h4, h5, h6, h7⟩⟩ := h
  have x0 := blk_cell hb 4
  clear hb h1 h2 h3 h4 h5 h6 h7 h0
  go_enter Tryd.func19, Tryd.ntmps19
  go_wp2
  go_ret
  exact ⟨rfl, rfl⟩
def Dat.stop (D : Dat) (n : Int) : Dat := { D with left := if n < -1 then -1 else n }
theorem DevAt.set_left {W : World} {ok : Nat → Prop} {g : Nat} {D : Dat} (h : DevAt W ok g D) (x : Int) : DevAt (W.setCell ⟨g, 4, none⟩ (.int .i64 x)) ok g { D with left := x } ∧ Fr ok devT W (W.setCell ⟨g, 4, none⟩ (.int .i64 x)) := by
  obtain ⟨vs, vu, vl, hs, hu, hl, h⟩ := h
  have := h.set_num x 4 { D with left := x } rfl rfl rfl rfl
  exact ⟨⟨_, _, _, _, _, _, this.1⟩, this.2⟩
theorem DevAt.set_writes {W : World} {ok : Nat → Prop} {g : Nat} {D : Dat} (h : DevAt W ok g D) (x : Int) : DevAt (W.setCell ⟨g, 3, none⟩ (.int .i64 x)) ok g { D with writes := x } ∧ Fr ok devT W (W.setCell ⟨g, 3, none⟩ (.int .i64 x)) := by
  obtain ⟨vs, vu, vl, hs, hu, hl, h⟩ := h
  have := h.set_num x 3 { D with writes := x } rfl rfl rfl rfl
  exact ⟨⟨_, _, _, _, _, _, this.1⟩, this.2⟩
set_option maxHeartbeats 8000000 in
set_option maxRecDepth 100000 in
theorem Stop (ok : Nat → Prop) (g : Nat) (D : Dat) (n : Int) (w : World) (h : DevAt w ok g D) :
    Calls Tryd.prog 18 #[.pointer (some ⟨g, 0, none⟩), .int .i64 n] w fun e w' => e = .returned (.tuple #[]) ∧ DevAt w' ok g (D.stop n) ∧ Fr ok devT w w' := by
  have HD := Aside0.mk h
  obtain ⟨vs, vu, vl, hs, hu, hl, ⟨h0, hb, h1, h2, h3, h4, h5, h6, h7⟩⟩ := h
  have x0 := blk_cell hb 4
  have f0 := blk_frozen hb 4
  have hbb := Aside0.mk hb
  clear hb h1 h2 h3 h4 h5 h6 h7 h0
  go_enter Tryd.func18, Tryd.ntmps18
  go_wp2
  all_goals
    go_end0
    first
      | (have hn : n < -1 := by assumption
         have := HD.out.set_left (-1)
         exact ⟨rfl, by unfold Dat.stop; rw [if_pos hn]; exact this.1, this.2⟩)
      | (have hn : ¬ n < -1 := by omega
         have := HD.out.set_left n
         exact ⟨rfl, by unfold Dat.stop; rw [if_neg hn]; exact this.1, this.2⟩)
theorem clone128 (bk : Bk) (row : List Int) (w : World) (h : Blk w bk row) :
    Calls Tryd.prog 44 #[.slice (some ⟨bk.1, 0, none⟩) 128 bk.2] w fun e w' => ∃ v, e = .returned v ∧ Kd.R (Kd.int .u8) 5 w' w.heap.size (fun _ => True) v row ∧ Below w.heap.size w w' := by
  have hl := h.len
  have := bytes_Clone.calls (some ⟨bk.1, 0, none⟩) bk.2 row row w (Kd.R_reads' h).2.2 (by rw [hl]; exact h.cap) (by unfold bytes_Clone.f; rw [if_pos (by rw [hl]; decide)])
  rw [hl] at this
  exact this
set_option maxHeartbeats 8000000 in
set_option maxRecDepth 100000 in
theorem Read_no (ok : Nat → Prop) (g : Nat) (D : Dat) (i : Int) (w : World) (h : DevAt w ok g D) (hi : ¬ (0 ≤ i ∧ i < D.seen.length)) :
    Calls Tryd.prog 36 #[.pointer (some ⟨g, 0, none⟩), .int .i64 i] w fun e w' => e = .returned (.tuple #[.slice none 0 0, .bool false]) ∧ w = w' := by
  have HD := Aside0.mk h
  clear h
  have HI := Aside0.mk hi
  clear hi
  by_cases h0 : i < 0
  · have d0 : decide (i < 0) = true := decide_eq_true h0
    go_enter Tryd.func36, Tryd.ntmps36
    go_wp2
    go_ret2
    exact ⟨rfl, rfl⟩
  · have d0 : decide (i < 0) = false := decide_eq_false h0
    have h1 : (D.seen.length : Int) ≤ i := by have := HI.out; omega
    have d1 : decide ((D.seen.length : Int) ≤ i) = true := decide_eq_true h1
    go_enter Tryd.func36, Tryd.ntmps36
    go_wp2_with (go_at_call 35; (refine (Blocks ok g D _ HD.out).mono ?_); rintro e w1 ⟨rfl, rfl⟩)
    go_ret2
    exact ⟨rfl, rfl⟩
set_option maxHeartbeats 8000000 in
set_option maxRecDepth 100000 in
theorem Read_yes (ok : Nat → Prop) (g : Nat) (D : Dat) (i : Nat) (w : World) (h : DevAt w ok g D) (hi : i < D.seen.length) (hm : D.seen.length ≤ 1000000) :
    Calls Tryd.prog 36 #[.pointer (some ⟨g, 0, none⟩), .int .i64 (i : Int)] w fun e w' => ∃ v, e = .returned (.tuple #[v, .bool true]) ∧ Kd.R (Kd.int .u8) 5 w' w.heap.size (fun _ => True) v D.seen[i] ∧ Below w.heap.size w w' := by
  have HD := Aside0.mk h
  obtain ⟨vs, vu, vl, hs, hu, hl, ⟨h0, hb, h1, h2, h3, h4, h5, h6, h7⟩⟩ := h
  obtain ⟨bk, hbk, hBl⟩ := h5.at_ i hi
  have hil : i < hs.length := by rw [h5.1]; exact hi
  obtain ⟨b, c, rfl, _, _, _⟩ := Kd.R_form h1 (by omega)
  have x0 := blk_cell hb 0
  have hx := (Kd.R_celln (d := (0, 0)) h1 (i : Int) (by omega) (by omega)).1
  rw [Int.toNat_natCast] at hx
  have hrd : rdOf (0, 0) hs (i : Int) = bk := by unfold rdOf; rw [Int.toNat_natCast, List.getD_eq_getElem?_getD, hbk]; rfl
  rw [hrd] at hx
  rw [h5.1] at x0
  have HBl := Aside0.mk hBl
  have d0 : decide ((i : Int) < 0) = false := decide_eq_false (by omega)
  have d1 : decide ((D.seen.length : Int) ≤ (i : Int)) = false := decide_eq_false (by omega)
  have d1n : decide (D.seen.length ≤ i) = false := decide_eq_false (by omega)
  have d2 : (i : Int) < (D.seen.length : Int) := by omega
  have hcl : bytes_Clone.f D.seen[i] = some D.seen[i] := by unfold bytes_Clone.f; rw [if_pos (by rw [hBl.len]; decide)]
  have HC := Aside0.mk hcl
  have hlen := hBl.len
  have HLen := Aside0.mk hlen
  obtain ⟨row, hrow⟩ : ∃ row, row = D.seen[i] := ⟨_, rfl⟩
  rw [← hrow] at HBl HC HLen ⊢
  have hx2 : w.cell? ⟨b, i, none⟩ = some (.slice (some ⟨bk.1, 0, none⟩) 128 bk.2) := hx
  clear hb h1 h2 h3 h4 h5 h6 h7 h0 hrow hlen hcl hBl hrd hbk hx hil
  go_enter Tryd.func36, Tryd.ntmps36
  go_wp2_with (first | (go_at_call 35; (refine (Blocks ok g D _ HD.out).mono ?_); rintro e w1 ⟨rfl, rfl⟩) | (go_at_call 44; (refine (clone128 bk row _ HBl.out).mono ?_); rintro e w1 ⟨v, rfl, ho, hb⟩; have HO := Aside0.mk ho; have HB := Aside0.mk hb; clear ho hb))
  go_ret2
  exact ⟨_, rfl, HO.out, HB.out⟩
end Go.Proofs.YtokmildjniploaaDoor.PLog
