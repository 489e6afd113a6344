/- space: what the statements' begun tells: true. Conditions: none. -/
import Derived.Test.YtaoegbebeogkbaaDoorSpaceR
namespace Go.Proofs.YtaoegbebeogkbaaDoor.PSpace
open Go.RowKit Go.Proofs.YtaoegbebeogkbaaDoorW.PrintWords Go.Proofs.YtaoegbebeogkbaaDoorW.PrintLast Go.Proofs.YtaoegbebeogkbaaDoorW.PrintMore
open Go.Extern.Stop Go.Stop Go.Extern
set_option linter.unusedVariables false
set_option linter.unusedSimpArgs false
theorem Sp.keep {T B g x : Nat} {v : Value} {fr : Int} {l : List Bool} {w w1 : World} {cs : Array Value} {t : TypeId} (h : Sp T w B g v fr l) (hb : w.heap[x]? = some (.cells cs t (0, 0))) (ht : 4 ≠ t) (hg : w.grownBy w1 v.ownBlock) : w1.heap[x]? = some (.cells cs t (0, 0)) :=
  blk_grown hb hg (Kd.R_ne h.2.2 hb ht)
theorem Sp.stay {T g : Nat} {v : Value} {fr : Int} {l : List Bool} {w0 w w1 : World} (h : Sp T w w0.heap.size g v fr l) (hB : Below w0.heap.size w0 w) (hg : w.grownBy w1 v.ownBlock) : Below w0.heap.size w0 w1 :=
  below_of_grown hB hB.size hg (fun k hk => h.own_ge k hk)
theorem eqA39 (d : Nat) (w : World) (x0 y0 : Int) (x1 y1 : Int) :
    (Op.equalIn (d + 2) 39 (.agg #[.int .i64 x0, .int .i64 x1]) (.agg #[.int .i64 y0, .int .i64 y1])).run Tryd.prog w = .ok (x0 == y0 && (x1 == y1)) w := by
  refine eqA_of Tryd.underlying39 (by kernel_rfl) ?_
  refine eqf_cons (by rfl) (by go_simp; rfl) (by go_simp; rfl) (by go_simp) ?_
  exact eqf_last (by rfl) (by go_simp; rfl) (by go_simp; rfl) (by go_simp)
attribute [local go_sem high] eqA39
set_option maxHeartbeats 8000000 in
set_option maxRecDepth 100000 in
theorem begun (GA : Nat → Addr) (w : World) (hG : Glob GA w) : Calls Tryd.prog 17 #[] w fun e w' => e = .returned (.bool true) ∧ Below w.heap.size w w' := by
  have HG := Aside0.mk hG
  clear hG
  go_enter Tryd.func17, Tryd.ntmps17
  go_upto_region 2 with (go_at_call 18; (refine (New 4 10 _).mono ?_); rintro e w1 ⟨g, v, rfl, hs, hb⟩; have HS := Aside0.mk (show Sp 62 w1 w.heap.size g v 10 [false, false, false, false] from hs); have HB := Aside0.mk hb; clear hs hb)
  go_upto_region 5 with (go_at_call 25; (refine (Take GA w g v [false, false, false, false] 10 2 _ HG.out HB.out HS.out (by decide) (by decide) (by decide) (by decide) (by decide)).mono ?_); rintro e w2 ⟨rfl, hs, hg⟩; rw [show takeE 10 [false, false, false, false] 2 = (10, 2, true, [true, true, false, false]) by decide] at hs ⊢; have n0 := Aside0.mk hs; have n1 := Aside0.mk (HS.out.stay HB.out hg); clear HS HB hs hg; have HS := n0; have HB := n1; clear n0 n1)
  have n0 := Aside0.mk (HS.out.below (below_alloc (Below.refl _ _) (.cells #[.int .i64 10, .int .i64 2] 39)))
  have n1 := Aside0.mk (below_alloc HB.out (.cells #[.int .i64 10, .int .i64 2] 39))
  have HA := Aside0.mk (heap_alloc_new w2 (.cells #[.int .i64 10, .int .i64 2] 39))
  clear HS HB
  have HS := n0
  have HB := n1
  clear n0 n1
  have hza : w2.heap.size = w2.heap.size := rfl
  generalize w2.alloc (.cells #[.int .i64 10, .int .i64 2] 39) = w3 at HS HB HA ⊢
  generalize w2.heap.size = ga at HA ⊢
  clear hza
  go_upto_region 6 with (go_at_call 25; (refine (Take GA w g v [true, true, false, false] 10 2 _ HG.out HB.out HS.out (by decide) (by decide) (by decide) (by decide) (by decide)).mono ?_); rintro e w4 ⟨rfl, hs, hg⟩; rw [show takeE 10 [true, true, false, false] 2 = (12, 2, true, [true, true, true, true]) by decide] at hs ⊢; have n0 := Aside0.mk hs; have n1 := Aside0.mk (HS.out.stay HB.out hg); have n2 := Aside0.mk (HS.out.keep HA.out (by decide) hg); clear HS HB HA hs hg; have HS := n0; have HB := n1; have HA := n2; clear n0 n1 n2)
  have n0 := Aside0.mk (HS.out.below (below_alloc (Below.refl _ _) (.cells #[.int .i64 12, .int .i64 2] 39)))
  have n1 := Aside0.mk (below_alloc HB.out (.cells #[.int .i64 12, .int .i64 2] 39))
  have n2 := Aside0.mk ((Below.heap_alloc w4 (.cells #[.int .i64 12, .int .i64 2] 39) _ (blk_lt HA.out)).trans HA.out)
  have HC := Aside0.mk (heap_alloc_new w4 (.cells #[.int .i64 12, .int .i64 2] 39))
  clear HS HB HA
  have HS := n0
  have HB := n1
  have HA := n2
  clear n0 n1 n2
  generalize w4.alloc (.cells #[.int .i64 12, .int .i64 2] 39) = w5 at HS HB HA HC ⊢
  generalize w4.heap.size = gc at HC ⊢
  go_upto_region 7 with (go_at_call 25; (refine (Take GA w g v [true, true, true, true] 10 1 _ HG.out HB.out HS.out (by decide) (by decide) (by decide) (by decide) (by decide)).mono ?_); rintro e w6 ⟨rfl, hs, hg⟩; rw [show takeE 10 [true, true, true, true] 1 = (0, 0, false, [true, true, true, true]) by decide] at hs ⊢; have n0 := Aside0.mk hs; have n1 := Aside0.mk (HS.out.stay HB.out hg); have n2 := Aside0.mk (HS.out.keep HA.out (by decide) hg); have n3 := Aside0.mk (HS.out.keep HC.out (by decide) hg); clear HS HB HA HC hs hg; have HS := n0; have HB := n1; have HA := n2; have HC := n3; clear n0 n1 n2 n3)
  have n0 := Aside0.mk (HS.out.below (below_alloc (Below.refl _ _) (.cells #[.int .i64 0, .int .i64 0] 39)))
  have n1 := Aside0.mk (below_alloc HB.out (.cells #[.int .i64 0, .int .i64 0] 39))
  have n2 := Aside0.mk ((Below.heap_alloc w6 (.cells #[.int .i64 0, .int .i64 0] 39) _ (blk_lt HA.out)).trans HA.out)
  have n3 := Aside0.mk ((Below.heap_alloc w6 (.cells #[.int .i64 0, .int .i64 0] 39) _ (blk_lt HC.out)).trans HC.out)
  clear HS HB HA HC
  have HS := n0
  have HB := n1
  have HA := n2
  have HC := n3
  clear n0 n1 n2 n3
  generalize w6.alloc (.cells #[.int .i64 0, .int .i64 0] 39) = w7 at HS HB HA HC ⊢
  have a0 := blk_cell HA.out 0
  have a1 := blk_cell HA.out 1
  go_upto_region 8 with (go_at_call 22; (refine (Free GA w.heap.size g v [true, true, true, true] 10 10 2 _ (Glob.below HG.out HB.out) HS.out (by decide) (by decide) (by decide) (by decide) (by decide) (by decide)).mono ?_); rintro e w8 ⟨rfl, hs, hg⟩; rw [show setE 10 [true, true, true, true] 10 2 false = (true, [false, false, true, true]) by decide] at hs ⊢; have n0 := Aside0.mk hs; have n1 := Aside0.mk (HS.out.stay HB.out hg); have n2 := Aside0.mk (HS.out.keep HA.out (by decide) hg); have n3 := Aside0.mk (HS.out.keep HC.out (by decide) hg); clear HS HB HA HC hs hg a0 a1; have HS := n0; have HB := n1; have HA := n2; have HC := n3; clear n0 n1 n2 n3)
  have a0 := blk_cell HA.out 0
  have a1 := blk_cell HA.out 1
  have c0 := blk_cell HC.out 0
  have c1 := blk_cell HC.out 1
  go_wp2_with (first
    | (go_at_call 27; (refine (Used w.heap.size g v [false, false, true, true] 10 _ HS.out (by decide)).mono ?_); rintro e w9 ⟨rfl, hb⟩; rw [show usedE [false, false, true, true] = 2 by decide]; have n0 := Aside0.mk (HS.out.below hb); have n1 := Aside0.mk (below_step HB.out hb); have n2 := Aside0.mk ((hb.block _ (blk_lt HA.out)).trans HA.out); have n3 := Aside0.mk ((hb.block _ (blk_lt HC.out)).trans HC.out); clear HS HB HA HC hb a0 a1 c0 c1; have HS9 := n0; have HB9 := n1; have HA9 := n2; have HC9 := n3; clear n0 n1 n2 n3; have a0 := blk_cell HA9.out 0; have a1 := blk_cell HA9.out 1; have c0 := blk_cell HC9.out 0; have c1 := blk_cell HC9.out 1)
    | (go_at_call 20; (refine (Mark GA w.heap.size g v [false, false, true, true] 10 10 2 _ (Glob.below HG.out HB9.out) HS9.out (by decide) (by decide) (by decide) (by decide) (by decide) (by decide)).mono ?_); rintro e w10 ⟨rfl, hs, hg⟩; rw [show setE 10 [false, false, true, true] 10 2 true = (true, [true, true, true, true]) by decide] at hs ⊢; have n0 := Aside0.mk hs; have n1 := Aside0.mk (HS9.out.stay HB9.out hg); have n2 := Aside0.mk (HS9.out.keep HA9.out (by decide) hg); have n3 := Aside0.mk (HS9.out.keep HC9.out (by decide) hg); clear HS9 HB9 HA9 HC9 hs hg a0 a1 c0 c1; have HSA := n0; have HBA := n1; have HAA := n2; have HCA := n3; clear n0 n1 n2 n3; have a0 := blk_cell HAA.out 0; have a1 := blk_cell HAA.out 1; have c0 := blk_cell HCA.out 0; have c1 := blk_cell HCA.out 1)
    | (go_at_call 20; (refine (Mark GA w.heap.size g v [true, true, true, true] 10 12 2 _ (Glob.below HG.out HBA.out) HSA.out (by decide) (by decide) (by decide) (by decide) (by decide) (by decide)).mono ?_); rintro e w11 ⟨rfl, hs, hg⟩; rw [show setE 10 [true, true, true, true] 12 2 true = (false, [true, true, true, true]) by decide] at hs ⊢; have n0 := Aside0.mk hs; have n1 := Aside0.mk (HSA.out.stay HBA.out hg); clear HSA HBA HAA HCA hs hg a0 a1 c0 c1; have HSB := n0; have HBB := n1; clear n0 n1)
    | (go_at_call 24; (refine (Copy w.heap.size g v [true, true, true, true] 10 _ HSB.out (by decide)).mono ?_); rintro e w12 ⟨g2, v2, rfl, hs, hb⟩; have HBC := Aside0.mk (below_step HBB.out hb); clear hs hb))
  go_ret
  exact ⟨rfl, HBC.out⟩
end Go.Proofs.YtaoegbebeogkbaaDoor.PSpace
