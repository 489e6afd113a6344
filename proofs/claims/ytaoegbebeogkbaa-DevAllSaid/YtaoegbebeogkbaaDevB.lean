/- dev: begun says yes. Conditions: none. -/
import Derived.Test.YtaoegbebeogkbaaDevP
namespace Go.Proofs.Ytaoegbebeogkbaa.PDev
open Go.RowKit Go.Proofs.YtaoegbebeogkbaaW.PrintWords Go.Proofs.YtaoegbebeogkbaaW.PrintLast Go.Proofs.YtaoegbebeogkbaaW.PrintMore
open Go.Extern.Stop Go.Stop Go.Extern
set_option linter.unusedVariables false
set_option linter.unusedSimpArgs false
def bbb : List Int := (z128.set 0 7).set 127 8
def bD1 : Dat := ((newD 3).write 1 bbb).2
def bD2 : Dat := bD1.crash [1] 0 5
def bD3 : Dat := (bD2.write 2 bbb).2
def bD4 : Dat := bD3.flush
def bD5 : Dat := bD4.crash [] (-1) 0
def byy : List Int := bbb.take 5 ++ z128.drop 5
theorem bfacts : ((newD 3).write 1 bbb).1 = true ∧ bD1.seen[1]? = some bbb ∧ bD2.seen[1]? = some byy ∧ bD5.seen[2]? = some bbb ∧ bD5.writes = 2 ∧ (bD5.left == 0) = false ∧ rd byy 0 = 7 ∧ rd byy 127 = 0 ∧ byy.length = 128 ∧ bbb.length = 128 := by decide +kernel
theorem bgood : Good 3 1 bD1 ∧ Good 3 1 bD2 ∧ Good 3 2 bD3 ∧ Good 3 2 bD4 ∧ Good 3 2 bD5 := by
  have g1 : Good 3 1 bD1 := good_write (good_new 3) 1 bbb
  have g2 : Good 3 1 bD2 := good_crash g1 [1] 0 5
  have g3 : Good 3 2 bD3 := good_write g2 2 bbb
  have g4 : Good 3 2 bD4 := good_flush g3
  exact ⟨g1, g2, g3, g4, good_crash g4 [] (-1) 0⟩
set_option maxHeartbeats 16000000 in
set_option maxRecDepth 100000 in
theorem begun (w : World) : Calls Try.prog 7 #[] w fun e w' => e = .returned (.bool true) ∧ Below w.heap.size w w' := by
  have hmk := mk128
  have HFC := Aside0.mk bfacts
  have HGD := Aside0.mk bgood
  generalize hD1 : bD1 = D1 at HFC HGD
  generalize hD2 : bD2 = D2 at HFC HGD
  generalize hD3 : bD3 = D3 at HFC HGD
  generalize hD4 : bD4 = D4 at HFC HGD
  generalize hD5 : bD5 = D5 at HFC HGD
  have HE := Aside0.mk (show ((newD 3).write 1 bbb).2 = D1 ∧ D1.crash [1] 0 5 = D2 ∧ (D2.write 2 bbb).2 = D3 ∧ D3.flush = D4 ∧ D4.crash [] (-1) 0 = D5 from by subst hD1 hD2 hD3 hD4 hD5; exact ⟨rfl, rfl, rfl, rfl, rfl⟩)
  clear hD1 hD2 hD3 hD4 hD5
  have HB0 := Aside0.mk (Below.refl w.heap.size w)
  go_enter Try.func7, Try.ntmps7
  go_upto_region 4 with (go_at_call 9; (refine (New 3 _ (by decide) (by decide)).mono ?_); rintro e w1 ⟨g, rfl, hd, hb⟩; have HD := Aside0.mk hd; have HB := Aside0.mk hb; clear hd hb)
  go_upto_region 6 with (fail)
  rw [show (((nums .u8 z128).set 0 (.int .u8 7)).set 127 (.int .u8 8)) = nums .u8 bbb by simp [nums, bbb, List.map_set]]
  have hal := below_alloc (Below.refl w1.heap.size w1) (.cells (nums .u8 bbb).toArray 5)
  have HBK := Aside0.mk (show Kd.R (Kd.int .u8) 5 (w1.alloc (.cells (nums .u8 bbb).toArray 5)) 0 (fun _ => True) (.slice (some ⟨w1.heap.size, 0, none⟩) 128 128) bbb by have h := lit_row w1 bbb (by decide); exact h)
  have n0 := Aside0.mk (HD.out.below hal)
  have n1 := Aside0.mk (below_step HB.out hal)
  clear HD HB hal HB0 hmk
  have HD := n0
  have HB := n1
  clear n0 n1
  generalize w1.alloc (.cells (nums .u8 bbb).toArray 5) = w2 at HD HB HBK ⊢
  generalize w1.heap.size = gb at HBK ⊢
  go_upto_region 7 with (go_at_call 11; (refine (Write _ g (newD 3) 1 (some ⟨gb, 0, none⟩) 128 128 bbb _ HD.out (fun k hk => Nat.le_trans HB.out.size hk) (by decide) (by decide) (by decide) (by decide) (fun w' hf => by have := (Kd.R_reads' (row_fr HBK.out hf (by decide))).2.2; rwa [HFC.out.2.2.2.2.2.2.2.2.2] at this) (by decide)).mono ?_); rintro e w3 ⟨rfl, hd, hf⟩; rw [HE.out.1] at hd; rw [HFC.out.1]; have n0 := Aside0.mk hd; have n1 := Aside0.mk (hf.below HB.out HB.out.size (fun k hk => hk)); have n2 := Aside0.mk (row_fr HBK.out hf (by decide)); clear HD HB HBK  hd hf; have HD := n0; have HB := n1; have HBK := n2; clear n0 n1 n2 )
  go_upto_region 8 with (go_at_call 14; (refine (Read_at _ g D1 1 bbb 128 _ HD.out HFC.out.2.1 HFC.out.2.2.2.2.2.2.2.2.2 (by have := HGD.out.1.seen; omega)).mono ?_); rintro e w4 ⟨AX, cX, rfl, hcX, hR, hb⟩; have HX := Aside0.mk hR; have n0 := Aside0.mk (HD.out.below hb); have n1 := Aside0.mk (below_step HB.out hb); have n2 := Aside0.mk (row_fr HBK.out (Fr.of_below (ok := fun _ => True) (Ts := []) hb) (by simp)); clear HD HB HBK  hR hb; have HD := n0; have HB := n1; have HBK := n2; clear n0 n1 n2)
  have HK := Aside0.mk (lit_row w4 [1] (by decide))
  have hal := below_alloc (Below.refl w4.heap.size w4) (.cells (nums .u8 [1]).toArray 5)
  have n0 := Aside0.mk (HD.out.below hal)
  have n1 := Aside0.mk (below_step HB.out hal)
  have n2 := Aside0.mk (row_fr HBK.out (Fr.of_below (ok := fun _ => True) (Ts := []) hal) (by simp))
  have n3 := Aside0.mk (row_fr HX.out (Fr.of_below (ok := fun _ => True) (Ts := []) hal) (by simp))
  clear HD HB HBK HX hal
  have HD := n0
  have HB := n1
  have HBK := n2
  have HX := n3
  clear n0 n1 n2 n3
  go_upto_region 9 with (go_at_call 13; (refine (Crash _ g D1 (some ⟨w4.heap.size, 0, none⟩) 1 [1] 0 5 _ HD.out (fun k hk => Nat.le_trans HB.out.size hk) (by have := HGD.out.1.seen; omega) (HGD.out.1.sure.trans HGD.out.1.seen.symm) (by have := HGD.out.1.later; omega) HGD.out.1.idx (fun w' hf => (Kd.R_reads' (row_fr HK.out hf (by decide))).2.2) (by decide) (by decide) (fun x hx => by rw [List.mem_singleton] at hx; subst hx; decide) (by have := HGD.out.1.seen; omega)).mono ?_); rintro e w5 ⟨rfl, hd, hf⟩; rw [HE.out.2.1] at hd; have n0 := Aside0.mk hd; have n1 := Aside0.mk (hf.below HB.out HB.out.size (fun k hk => hk)); have n2 := Aside0.mk (row_fr HBK.out hf (by decide)); have kHX := Aside0.mk (row_fr HX.out hf (by decide)); clear HD HB HBK HX hd hf; have HD := n0; have HB := n1; have HBK := n2; have HX := kHX; clear n0 n1 n2 kHX)
  clear HK
  go_upto_region 10 with (go_at_call 14; (refine (Read_at _ g D2 1 byy 128 _ HD.out HFC.out.2.2.1 HFC.out.2.2.2.2.2.2.2.2.1 (by have := HGD.out.2.1.seen; omega)).mono ?_); rintro e w6 ⟨AY, cY, rfl, hcY, hR, hb⟩; have HY := Aside0.mk hR; have n0 := Aside0.mk (HD.out.below hb); have n1 := Aside0.mk (below_step HB.out hb); have n2 := Aside0.mk (row_fr HBK.out (Fr.of_below (ok := fun _ => True) (Ts := []) hb) (by simp)); have kHX := Aside0.mk (row_fr HX.out (Fr.of_below (ok := fun _ => True) (Ts := []) hb) (by simp)); clear HD HB HBK HX hR hb; have HD := n0; have HB := n1; have HBK := n2; have HX := kHX; clear n0 n1 n2 kHX)
  go_upto_region 11 with (go_at_call 11; (refine (Write _ g D2 2 (some ⟨gb, 0, none⟩) 128 128 bbb _ HD.out (fun k hk => Nat.le_trans HB.out.size hk) (by have := HGD.out.2.1.seen; omega) (by have := HGD.out.2.1.later; omega) ⟨by have := HGD.out.2.1.l0; omega, HGD.out.2.1.l1⟩ ⟨HGD.out.2.1.w0, by have := HGD.out.2.1.w1; omega⟩ (fun w' hf => by have := (Kd.R_reads' (row_fr HBK.out hf (by decide))).2.2; rwa [HFC.out.2.2.2.2.2.2.2.2.2] at this) (by decide)).mono ?_); rintro e w7 ⟨rfl, hd, hf⟩; rw [HE.out.2.2.1] at hd; have n0 := Aside0.mk hd; have n1 := Aside0.mk (hf.below HB.out HB.out.size (fun k hk => hk)); have n2 := Aside0.mk (row_fr HBK.out hf (by decide)); have kHX := Aside0.mk (row_fr HX.out hf (by decide)); have kHY := Aside0.mk (row_fr HY.out hf (by decide)); clear HD HB HBK HX HY hd hf; have HD := n0; have HB := n1; have HBK := n2; have HX := kHX; have HY := kHY; clear n0 n1 n2 kHX kHY)
  go_upto_region 12 with (go_at_call 12; (refine (Flush _ g D3 _ HD.out (fun k hk => Nat.le_trans HB.out.size hk) (by have := HGD.out.2.2.1.seen; omega)).mono ?_); rintro e w8 ⟨rfl, hd, hf⟩; rw [HE.out.2.2.2.1] at hd; have n0 := Aside0.mk hd; have n1 := Aside0.mk (hf.below HB.out HB.out.size (fun k hk => hk)); have n2 := Aside0.mk (row_fr HBK.out hf (by decide)); have kHX := Aside0.mk (row_fr HX.out hf (by decide)); have kHY := Aside0.mk (row_fr HY.out hf (by decide)); clear HD HB HBK HX HY hd hf; have HD := n0; have HB := n1; have HBK := n2; have HX := kHX; have HY := kHY; clear n0 n1 n2 kHX kHY)
  go_upto_region 13 with (go_at_call 13; (refine (Crash _ g D4 none 0 [] (-1) 0 _ HD.out (fun k hk => Nat.le_trans HB.out.size hk) (by have := HGD.out.2.2.2.1.seen; omega) (HGD.out.2.2.2.1.sure.trans HGD.out.2.2.2.1.seen.symm) (by have := HGD.out.2.2.2.1.later; omega) HGD.out.2.2.2.1.idx (fun w' hf => (Kd.R_reads' (Kd.R_nil (Kd.int .u8) 5 w' 0 (fun _ => True))).2.2) (by decide) (by decide) (fun x hx => by cases hx) (by have := HGD.out.2.2.2.1.seen; omega)).mono ?_); rintro e w9 ⟨rfl, hd, hf⟩; rw [HE.out.2.2.2.2] at hd; have n0 := Aside0.mk hd; have n1 := Aside0.mk (hf.below HB.out HB.out.size (fun k hk => hk)); have n2 := Aside0.mk (row_fr HBK.out hf (by decide)); have kHX := Aside0.mk (row_fr HX.out hf (by decide)); have kHY := Aside0.mk (row_fr HY.out hf (by decide)); clear HD HB HBK HX HY hd hf; have HD := n0; have HB := n1; have HBK := n2; have HX := kHX; have HY := kHY; clear n0 n1 n2 kHX kHY)
  go_upto_region 14 with (go_at_call 14; (refine (Read_at _ g D5 2 bbb 128 _ HD.out HFC.out.2.2.2.1 HFC.out.2.2.2.2.2.2.2.2.2 (by have := HGD.out.2.2.2.2.seen; omega)).mono ?_); rintro e w10 ⟨AZ, cZ, rfl, hcZ, hR, hb⟩; have HZ := Aside0.mk hR; have n0 := Aside0.mk (HD.out.below hb); have n1 := Aside0.mk (below_step HB.out hb); have n2 := Aside0.mk (row_fr HBK.out (Fr.of_below (ok := fun _ => True) (Ts := []) hb) (by simp)); have kHX := Aside0.mk (row_fr HX.out (Fr.of_below (ok := fun _ => True) (Ts := []) hb) (by simp)); have kHY := Aside0.mk (row_fr HY.out (Fr.of_below (ok := fun _ => True) (Ts := []) hb) (by simp)); clear HD HB HBK HX HY hR hb; have HD := n0; have HB := n1; have HBK := n2; have HX := kHX; have HY := kHY; clear n0 n1 n2 kHX kHY)
  have hf := HFC.out
  have eX : bbb.length = 128 := hf.2.2.2.2.2.2.2.2.2
  have eY : byy.length = 128 := hf.2.2.2.2.2.2.2.2.1
  have CX := (Kd.R_reads' HX.out).2.2
  have CY := (Kd.R_reads' HY.out).2.2
  have CZ := (Kd.R_reads' HZ.out).2.2
  have CB := (Kd.R_reads' HBK.out).2.2
  rw [eX] at CX CZ CB
  rw [eY] at CY
  have hcx := Kd.C_string (P := Try.prog) (src := 23) (e := 5) (dst := 9) (c := cX) Try.underlying23 Try.underlying5 Try.underlying9 CX
  have hcz := Kd.C_string (P := Try.prog) (src := 23) (e := 5) (dst := 9) (c := cZ) Try.underlying23 Try.underlying5 Try.underlying9 CZ
  have hcb := Kd.C_string (P := Try.prog) (src := 23) (e := 5) (dst := 9) (c := 128) Try.underlying23 Try.underlying5 Try.underlying9 CB
  obtain ⟨ad, e0, hx0⟩ := Kd.at_int CY 0 (by decide) (by decide)
  cases e0
  obtain ⟨ad1, e1, hx1⟩ := Kd.at_int CY 127 (by decide) (by decide)
  cases e1
  rw [hf.2.2.2.2.2.2.1, show ad.add (Int.toNat 0) = ad by simp [Addr.add]] at hx0
  rw [hf.2.2.2.2.2.2.2.1, show ad.add (Int.toNat 127) = ⟨ad.block, ad.off + 127, none⟩ from rfl] at hx1
  have h5w := hf.2.2.2.2.1
  have h5l := hf.2.2.2.2.2.1
  have h5s := HGD.out.2.2.2.2.seen
  have h5u := HGD.out.2.2.2.2.sure
  have h5t := HGD.out.2.2.2.2.later
  have HF5 := Aside0.mk (And.intro h5s (And.intro h5u (And.intro h5t (And.intro h5w h5l))))
  clear hf HFC HGD HE CX CY CZ CB HX HY HZ HBK h5w h5l h5s h5u h5t eX eY
  generalize strOfNums bbb = sb at *
  go_wp2_with (first | (go_at_call 28; (refine (Blocks _ g D5 _ HD.out).mono ?_); rintro e wz ⟨rfl, rfl⟩; rw [HF5.out.1]) | (go_at_call 15; (refine (Writes _ g D5 _ HD.out).mono ?_); rintro e wz ⟨rfl, rfl⟩; rw [HF5.out.2.2.2.1]) | (go_at_call 26; (refine (Stopped _ g D5 _ HD.out).mono ?_); rintro e wz ⟨rfl, rfl⟩; rw [HF5.out.2.2.2.2]) | (go_at_call 21; (refine (Copy _ g D5 _ HD.out (by have := HF5.out.1; omega) (by have := HF5.out.2.1; omega) (by have := HF5.out.2.2.1; omega)).mono ?_); rintro e wz ⟨g2, rfl, hd2, hb2⟩; have HBZ := Aside0.mk (below_step HB.out hb2); clear hd2 hb2))
  go_ret
  exact ⟨rfl, HBZ.out⟩
end Go.Proofs.Ytaoegbebeogkbaa.PDev
