-- Written by xprint.py (a program of this project) out of the translation. Not trusted: Lean checks it.
import Derived.Test.YtaoegbebeogkbaaPDevx0
import Derived.Test.YtaoegbebeogkbaaPDevx1
namespace Go.Proofs.Ytaoegbebeogkbaa.PDev
open Go.RowKit Go.Proofs.YtaoegbebeogkbaaW.PrintWords Go.Proofs.YtaoegbebeogkbaaW.PrintLast Go.Proofs.YtaoegbebeogkbaaW.PrintMore
attribute [local go_sem] max2_int min2_int max_two min_two max_three min_three max_four min_four   -- for this text's walks alone
set_option linter.unusedVariables false
set_option linter.unusedSimpArgs false

/-! ### rabbetlaw0_Same: function 24 -/
def rabbetlaw0_Same.f (l0 : List Int) (l1 : List Int) : Option Bool := if l0 = l1 then some true else none
theorem rabbetlaw0_Same.info : (Try.prog.info? 5).map (fun i => (i.zero, i.size, i.bytes)) = some (some (.int .u8 0), 1, 1) := by kernel_rfl
theorem rabbetlaw0_Same.cut (A : Option Addr) (n c : Nat) (hc : n + 5 ≤ c) : ∀ W : World, (Instr.slice 23 (.slice A n c) none (some (.int .i64 ((n : Int) + 5))) none).run Try.prog W = .ok (.slice A (n + 5) c) W := by
  intro W
  obtain ⟨i0, hi0, hz⟩ := Option.map_eq_some_iff.1 rabbetlaw0_Same.info
  simp only [Prod.mk.injEq] at hz
  have hel : Try.prog.elem 23 = 5 := by simp [Program.elem, Try.underlying23]
  have hu : Try.prog.underlying 23 = some (.slice (Try.prog.elem 23)) := by rw [hel]; exact Try.underlying23
  rw [run_slice_h W 23 A n c hu .i64 ((n : Int) + 5) (by omega) (by omega), hel]
  simp [sizeOf, typeInfo, hi0, hz.2.1, sliced, Result.andThen]
  refine ⟨fun _ => ?_, by omega⟩
  cases A <;> simp [Addr.add_zero']
set_option maxHeartbeats 4000000 in
set_option maxRecDepth 100000 in
theorem rabbetlaw0_Same.calls (A0 : Option Addr) (c0 : Nat) (l0 : List Int) (A1 : Option Addr) (c1 : Nat) (l1 : List Int) (r : Bool) (w : World) (hr0 : ∃ base ok, Kd.H (Kd.int .u8) 5 w base ok (.slice A0 l0.length c0) l0) (hc0 : l0.length ≤ c0) (hr1 : Kd.C (Kd.int .u8) w A1 l1.length l1) (hc1 : l1.length ≤ c1) (h : rabbetlaw0_Same.f l0 l1 = some r) :
    Calls Try.prog 24 #[.slice A0 l0.length c0, .slice A1 l1.length c1] w fun e w' => e = .returned (.bool r) ∧ Drawn0 w w' := by
  unfold rabbetlaw0_Same.f at h
  by_cases hl : l0 = l1
  · rw [if_pos hl] at h
    obtain rfl := Option.some.inj h
    subst hl
    clear h
    obtain ⟨base, ok, hH⟩ := hr0
    have hC0 := (Kd.R_reads' hH.1).2.2
    obtain ⟨inner, hown⟩ := Kd.R_own hH.1
    obtain ⟨g, cap, hv, hcap, hsp⟩ := hH.2
    injection hv with hA hn hcp
    subst hA hcp
    have hmax : c0 ≤ 9223372036854775807 := by
      rcases hown.2 with ⟨hnil, _⟩ | ⟨g2, cap2, cur, he, _, _, _, hcm, _⟩
      · cases hnil
      · injection he with _ _ he3
        rw [he3]; exact hcm
    have hcv0 := Kd.C_string (P := Try.prog) (c := c0) Try.underlying23 Try.underlying5 Try.underlying9 hC0
    have hcv1 := Kd.C_string (P := Try.prog) (c := c1) Try.underlying23 Try.underlying5 Try.underlying9 hr1
    have hcut := rabbetlaw0_Same.cut (some ⟨g, 0, none⟩) l0.length c0 hcap
    have hd : decide ((c0 : Int) < (l0.length : Int) + 5) = false := decide_eq_false (by omega)
    have hs : IntKind.i64.wrap ((l0.length : Int) + 5) = (l0.length : Int) + 5 := by simp only [i64_w]; unfold wrap64; omega
    have HSP := Aside0.mk hsp
    have HM := Aside0.mk hmax
    have HCP := Aside0.mk hcap
    clear hH hown hC0 hr1 hsp hmax hcap hc0 hc1
    go_enter Try.func24, Try.ntmps24
    go_wp2
    go_loopg [6] 6 (fun kq v6 w' => ∃ i : Nat, v6 = .int .i64 (i : Int) ∧ Aside0 (i ≤ 5 ∧ 5 < kq + i) ∧ w' = w)
    case atStart => exact ⟨0, rfl, ⟨by omega, by omega⟩, rfl⟩
    case round =>
      clear hcv0 hcv1 hcut hd hs
      obtain ⟨i, rfl, HI, rfl⟩ := hrel
      have hi1 := HI.out.1
      have hm := HM.out
      have hcp := HCP.out
      by_cases hlt : i < 5
      · have hg := HSP.out i hlt
        have hd : decide ((i : Int) < 5) = true := decide_eq_true (by omega)
        have hlt3 : (i : Int) < 5 := by omega
        have hin2 : decide (l0.length + i < l0.length + 5) = true := decide_eq_true (by omega)
        rw [show ((161 + i : Nat) : Int) = 161 + (i : Int) by omega] at hg
        go_wp2
        go_roundg (5 - i)
        case measure => have := HI.out; omega
        case rel => exact ⟨i + 1, by go_num, ⟨by omega, by have := HI.out; omega⟩, rfl⟩
      · have hie : i = 5 := by omega
        subst hie
        go_wp2
        go_ret
        exact ⟨rfl, Drawn0.refl _⟩
  · rw [if_neg hl] at h; cases h

-- NOT PRINTED: function 25 (rabbetref18_Dev_Read)

/-! ### rabbetref18_Dev_Stopped: function 27 -/
def rabbetref18_Dev_Stopped.f (s0_0 : List ByteArray) (s0_1 : List ByteArray) (s0_2 : List (S62)) (s0_3 : Int) (s0_4 : Int) : Option (Bool × Int × Int) := some ((s0_4 == 0), s0_3, s0_4)
set_option maxHeartbeats 8000000 in
set_option maxRecDepth 100000 in
theorem rabbetref18_Dev_Stopped.calls (g : Nat) (s0_0 : List ByteArray) (s0_1 : List ByteArray) (s0_2 : List (S62)) (s0_3 : Int) (s0_4 : Int) (r1 : Bool) (r2 : Int) (r3 : Int) (w0 w : World) (hI : IsS50 w0 w g s0_0 s0_1 s0_2 s0_3 s0_4) (hB : Below w0.heap.size w0 w) (h : rabbetref18_Dev_Stopped.f s0_0 s0_1 s0_2 s0_3 s0_4 = some (r1, r2, r3)) :
    Calls Try.prog 27 #[.pointer (some ⟨g, 0, none⟩)] w fun e w' => e = .returned (.bool r1) ∧ IsS50 w0 w' g s0_0 s0_1 s0_2 r2 r3 ∧ Below w0.heap.size w0 w' ∧ KeepBut w w' g none := by
  have HI0 := Aside0.mk hI
  have HK := Aside0.mk (KeepBut.refl w g none)
  have HL := Aside0.mk hB.size
  clear hI
  have HW0 := Aside0.mk hB.size
  have HB := Aside0.mk hB
  clear hB
  have H : (some ((s0_4 == 0), s0_3, s0_4)) = some (r1, r2, r3) := h
  clear h
  simp only [Option.some.injEq, Prod.mk.injEq] at H
  obtain ⟨rfl, rfl, rfl⟩ := H
  obtain ⟨ASz2_0, cSz2_0, ASz2_1, cSz2_1, ASz2_2, cSz2_2, HGz2, hgz2, HSz2_0, HSz2_1, HSz2_2⟩ := HI0.out
  have hcz2_0 := cellS50_0 HGz2
  have hcz2_1 := cellS50_1 HGz2
  have hcz2_2 := cellS50_2 HGz2
  have hcz2_3 := cellS50_3 HGz2
  have hcz2_4 := cellS50_4 HGz2
  have hfz2_3 := blk_frozen HGz2 3
  have hfz2_4 := blk_frozen HGz2 4
  clear HGz2 hgz2
  go_enter Try.func27, Try.ntmps27
  go_wp2
  go_ret
  exact ⟨by first | rfl | (simp [errW_none, errW_some] <;> rfl) | (simp [*, errW_none, errW_some] <;> rfl), by repeat (first | (with_reducible first | exact HI0.out | apply IsS50.alloc | apply IsS50.drewN | apply IsS50.drew | apply IsS50.set_3 | apply IsS50.set_4) | exact HI0.out), by repeat (first | (with_reducible first | exact HB.out | apply below_alloc | apply pw_below_drewN | apply below_drew1 | refine below_set ?_ (IsS50.ge HI0.out)) | exact HB.out), by repeat (first | (with_reducible first | exact HK.out | apply KeepBut.set_ | apply keep_drewN | apply keep_drew | apply keep_alloc) | exact HK.out)⟩

-- NOT PRINTED: function 5 (rabbetlaw18_DevAll)

end Go.Proofs.Ytaoegbebeogkbaa.PDev
