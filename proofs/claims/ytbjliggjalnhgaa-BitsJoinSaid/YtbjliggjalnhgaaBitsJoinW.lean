import Derived.Test.YtbjliggjalnhgaaPBitsJoinx2
import Derived.Test.YtbjliggjalnhgaaMStr
namespace Go.Proofs.Ytbjliggjalnhgaa.PBitsJoin
open Go.RowKit Go.Proofs.YtbjliggjalnhgaaW.PrintWords Go.Proofs.YtbjliggjalnhgaaW.PrintLast Go.Proofs.YtbjliggjalnhgaaW.PrintMore
open Go.Extern.Stop Go.Stop Go.Extern
set_option linter.unusedVariables false
set_option linter.unusedSimpArgs false
def modk (k : Nat) (x : Int) : Int := if k < 64 then x % 2 ^ k else x
def part (k : Nat) (l : List Int) (i : Nat) : List Int := (l.take i).map (modk k) ++ l.drop i
theorem C_block {W : World} {g : Nat} {e : TypeId} {fr : Nat × Nat} {xs : List Int} (hm : xs.length ≤ 9223372036854775807) (hh : W.heap[g]? = some (.cells (nums .u64 xs).toArray e fr)) : (Kd.int .u64).C W (some ⟨g, 0, none⟩) xs.length xs := by
  refine Kd.C_of_reads (d := (0 : Int)) (h1 := fun _ => rfl) (show ReadsInt _ _ _ _ _ from ⟨rfl, hm, fun _ => ⟨_, rfl, fun j hj => ?_⟩⟩)
  rw [add_plain]
  rw [cell_of_row _ _ _ _ _ _ hh]
  have h2 : j < (nums .u64 xs).length := by rw [nums_length]; exact hj
  rw [List.getElem?_toArray, List.getElem?_eq_getElem h2]
  simp [nums, List.getD_eq_getElem?_getD, List.getElem?_eq_getElem hj]
theorem C_blockn {W : World} {g n : Nat} {e : TypeId} {fr : Nat × Nat} {xs : List Int} (hn : xs.length = n) (hm : n ≤ 9223372036854775807) (hh : W.heap[g]? = some (.cells (nums .u64 xs).toArray e fr)) : (Kd.int .u64).C W (some ⟨g, 0, none⟩) n xs := by
  subst hn
  exact C_block hm hh
theorem part_len (k : Nat) (l : List Int) (i : Nat) : (part k l i).length = l.length := by
  unfold part
  rw [List.length_append, List.length_map, List.length_take, List.length_drop]
  omega
theorem part_set (k : Nat) (l : List Int) (i : Nat) (hi : i < l.length) (x : Int) (hx : (part k l i)[i]? = some x) : (part k l i).set i (modk k x) = part k l (i + 1) := by
  have hlen : ((l.take i).map (modk k)).length = i := by rw [List.length_map, List.length_take]; omega
  unfold part at hx ⊢
  rw [List.getElem?_append_right (by omega), hlen, Nat.sub_self, List.getElem?_drop, Nat.add_zero] at hx
  rw [List.set_append_right _ _ (by omega), hlen, Nat.sub_self, List.drop_eq_getElem_cons hi, List.set_cons_zero, List.take_add_one, List.getElem?_eq_getElem hi]
  rw [List.getElem?_eq_getElem hi] at hx
  obtain rfl := Option.some.inj hx
  rw [List.map_append, List.append_assoc]
  rfl
theorem part_at (k : Nat) (l : List Int) (i : Nat) (hi : i < l.length) : (part k l i)[i]? = some l[i] := by
  have hlen : ((l.take i).map (modk k)).length = i := by rw [List.length_map, List.length_take]; omega
  unfold part
  rw [List.getElem?_append_right (by omega), hlen, Nat.sub_self, List.getElem?_drop, Nat.add_zero, List.getElem?_eq_getElem hi]
theorem nums_put (k : Nat) (l : List Int) (i : Nat) (hi : i < l.length) (x : Int) (hx : (part k l i)[i]? = some x) (u : Int) (hu : u = modk k x) : (nums .u64 (part k l i)).toArray.setIfInBounds i (.int .u64 u) = (nums .u64 (part k l (i + 1))).toArray := by
  rw [hu, ← part_set k l i hi x hx, List.setIfInBounds_toArray]
  simp [nums, List.map_set]
theorem part_all (k : Nat) (l : List Int) : part k l l.length = l.map (modk k) := by
  unfold part
  rw [List.take_length, List.drop_length, List.append_nil]
theorem put8 (k : Nat) (A0 : Option Addr) (l0 : List Int) (n : Nat) (a1 : Int) (r1 : List Int) (w : World) (hn : l0.length = n) (hr0 : Kd.C (Kd.int .u64) w A0 l0.length l0) (h : bits_Put.f k l0 a1 = some (r1, true)) :
    Calls Try.prog 9 #[.slice A0 n n, .int .i64 a1] w fun e w' => ∃ v0_ : Value, e = .returned (.tuple #[v0_, .bool true]) ∧ Kd.R (Kd.int .u8) 5 w' w.heap.size (fun _ => True) v0_ r1 ∧ Below w.heap.size w w' := by
  subst hn
  exact bits_Put.calls k A0 l0.length l0 a1 r1 true w hr0 (Nat.le_refl _) h
theorem strOfNums_app (x y : List Int) : strOfNums (x ++ y) = strOfNums x ++ strOfNums y := by
  apply ByteArray.ext
  apply Array.ext'
  rw [ByteArray.data_append, Array.toList_append, strOfNums_data, strOfNums_data, strOfNums_data, List.map_append]
def r11.T : Bool × List (List Nat × List Nat) := (true, [([], []), ([], []), ([0, 1], [0, 1]), ([], []), ([2, 3, 2], [2, 3]), ([], []), ([4, 5, 4], [4, 5]), ([6], [6]), ([7], [7]), ([7], [7]), ([8, 6, 0, 1, 2, 3, 4, 5, 6, 7, 8], [8]), ([9, 10, 0, 1, 2, 3, 4, 5, 6, 7, 8, 9, 10], [9])])
def r11.B : List Nat := [0, 0, 3, 0, 15, 0, 63, 127, 255, 255, 511, 2047]
theorem r11.tab : rtab .any (opsOf Try.f6 11) = r11.T := by kernel_rfl
theorem r11.bits : waitsOk r11.T.2 r11.B = true := by kernel_rfl
set_option maxHeartbeats 4000000 in
set_option maxRecDepth 100000 in
theorem join_walk (kb : Nat) (a b : List Int) (ha : a.length = 8) (hb : b.length = 8) (c : Nat) (hc : c < 256) (w : World) (hap : ∀ x, x ∈ a → 0 ≤ x) (hbp : ∀ x, x ∈ b → 0 ≤ x) (hbeg : rabbetlaw3_begun.f kb = some true) (kx : Nat) (x y z : List Int) (hpx : bits_Put.f kx (a.map (modk (c % 65))) ((c % 65 : Nat) : Int) = some (x, true)) (hpy : bits_Put.f kx (b.map (modk (c % 65))) ((c % 65 : Nat) : Int) = some (y, true)) (hpz : bits_Put.f kx (a.map (modk (c % 65)) ++ b.map (modk (c % 65))) ((c % 65 : Nat) : Int) = some (z, true)) (hz : z = x ++ y) (hxl : x.length = c % 65) (hyl : y.length = c % 65) :
    Calls Try.prog 6 #[.agg (nums .u64 a).toArray, .agg (nums .u64 b).toArray, .int .u8 (c : Int)] w fun e w' => e = .returned (.bool true) ∧ Below w.heap.size w w' := by
  have hk : Int.tmod (c : Int) 65 = ((c % 65 : Nat) : Int) := rfl
  obtain ⟨K, hK⟩ : ∃ K, K = c % 65 := ⟨_, rfl⟩
  rw [← hK] at hpx hpy hpz hxl hyl
  have HPX := Aside0.mk hpx
  have HPY := Aside0.mk hpy
  have HPZ := Aside0.mk hpz
  have HZ := Aside0.mk hz
  have HXL := Aside0.mk hxl
  have HYL := Aside0.mk hyl
  clear hpx hpy hpz hz hxl hyl
  have hKl : K < 65 := by rw [hK]; exact Nat.mod_lt _ (by decide)
  have hw1 : IntKind.u8.wrap ((K : Nat) : Int) = (K : Int) := by simp [IntKind.wrap, IntKind.bits, IntKind.signed]; omega
  have hw2 : IntKind.i64.wrap ((K : Nat) : Int) = (K : Int) := by rw [IntKind.wrap_i64]; omega
  rw [← hK] at hk
  have HKL := Aside0.mk hKl
  clear hK hKl hc
  go_enter Try.func6, Try.ntmps6
  go_wp2_with ((with_reducible refine gate_callee (f := 7) rfl ?_); refine goesL_ (some 15) rfl rfl Try.func7 (by kernel_rfl) rfl #[] rfl (by (try simp only [List.map_toArray, List.map_cons, List.map_nil]); first | done | rfl) ?_; (refine (rabbetlaw3_begun.calls kb true _ hbeg).mono ?_); rintro e w1 ⟨rfl, hb1⟩; refine ⟨_, rfl, ?_⟩; have HB1 := Aside0.mk hb1; clear hb1)
  have hg1 : w1.heap[w.heap.size]? = some (.cells (nums .u64 a).toArray 35 (0, 0)) := (HB1.out.block w.heap.size (by show w.heap.size < ((w.heap.push _).push _).size; rw [Array.size_push, Array.size_push]; omega)).trans (by show ((w.heap.push _).push _)[w.heap.size]? = _; rw [Array.getElem?_push, if_neg (by rw [Array.size_push]; omega), Array.getElem?_push, if_pos rfl])
  have hg2 : w1.heap[w.heap.size + 1]? = some (.cells (nums .u64 b).toArray 35 (0, 0)) := (HB1.out.block (w.heap.size + 1) (by show w.heap.size + 1 < ((w.heap.push _).push _).size; rw [Array.size_push, Array.size_push]; omega)).trans (by show ((w.heap.push _).push _)[w.heap.size + 1]? = _; rw [Array.getElem?_push, if_pos (by rw [Array.size_push])])
  have HB2 := Aside0.mk (below_step (below_alloc (below_alloc (Below.refl w.heap.size w) _) _) HB1.out)
  have HG1 := Aside0.mk hg1
  have HG2 := Aside0.mk hg2
  clear hg1 hg2 HB1
  have HA := Aside0.mk ha
  have HB := Aside0.mk hb
  have HAP := Aside0.mk hap
  have HBP := Aside0.mk hbp
  clear ha hb hap hbp
  go_loopg [8] 9 (fun kq v8 w2 => ∃ i : Nat, v8 = .int .i64 (i : Int) ∧ Aside0 (i ≤ 8 ∧ 8 < kq + i) ∧ Aside0 (w2.heap[w.heap.size]? = some (.cells (nums .u64 (part K a i)).toArray 35 (0, 0))) ∧ Aside0 (w2.heap[w.heap.size + 1]? = some (.cells (nums .u64 (part K b i)).toArray 35 (0, 0))) ∧ Aside0 (Below w.heap.size w w2))
  case atStart => exact ⟨0, rfl, ⟨by omega, by omega⟩, ⟨HG1.out⟩, ⟨HG2.out⟩, HB2⟩
  case round =>
    obtain ⟨i, rfl, HI, H1, H2, HW⟩ := hrel
    by_cases hlt : i < 8
    · have hd : decide ((i : Int) < 8) = true := decide_eq_true (by omega)
      have hl2 : (i : Int) < 8 := by omega
      by_cases hK : K < 64
      · have hk64 : decide ((K : Int) < 64) = true := decide_eq_true (by omega)
        have hk2 : (K : Int) < 64 := by omega
        obtain ⟨x, hx, HX⟩ : ∃ x, (part K a i)[i]? = some x ∧ Aside0 (0 ≤ x) := ⟨_, part_at K a i (by rw [HA.out]; omega), ⟨HAP.out _ (List.getElem_mem _)⟩⟩
        obtain ⟨y, hy, HY⟩ : ∃ y, (part K b i)[i]? = some y ∧ Aside0 (0 ≤ y) := ⟨_, part_at K b i (by rw [HB.out]; omega), ⟨HBP.out _ (List.getElem_mem _)⟩⟩
        have hx1 : wr.cell? ⟨w.heap.size, i, none⟩ = some (.int .u64 x) := (blk_cell H1.out i).trans (by simp [nums, hx])
        have hy1 : wr.cell? ⟨w.heap.size + 1, i, none⟩ = some (.int .u64 y) := (blk_cell H2.out i).trans (by simp [nums, hy])
        have hf1 := blk_frozen H1.out i
        have hf2 := blk_frozen H2.out i
        obtain ⟨q, hq, hq0, HQ⟩ : ∃ q : Int, IntKind.u64.wrap (2 ^ K) = q ∧ (q = 0) = False ∧ Aside0 (q = 2 ^ K) := by
          have h2 : (2 : Nat) ^ K ≤ 2 ^ 63 := Nat.pow_le_pow_right (by decide) (by omega)
          have h3 : (2 : Nat) ^ 63 = 9223372036854775808 := by decide
          have h1 : 0 < (2 : Nat) ^ K := Nat.pow_pos (by decide)
          have e : (2 : Int) ^ K = ((2 ^ K : Nat) : Int) := by rw [Int.natCast_pow]; rfl
          refine ⟨2 ^ K, ?_, eq_false (by rw [e]; omega), ⟨rfl⟩⟩
          rw [e, show IntKind.u64.wrap ((2 ^ K : Nat) : Int) = ((2 ^ K : Nat) : Int) % 18446744073709551616 by simp [IntKind.wrap, IntKind.bits, IntKind.signed]]
          omega
        go_wp2
        go_region
        go_wp2
        go_roundg (gk - 1)
        case measure => have := HI.out; omega
        case rel =>
          have hI := HI.out
          have hv : ∀ z : Int, 0 ≤ z → z.tmod q = modk K z := fun z hz => by
            rw [HQ.out, Int.tmod_eq_emod_of_nonneg hz]; unfold modk; rw [if_pos hK]
          refine ⟨i + 1, by first | rfl | go_num, ⟨by omega, by omega⟩, ⟨?_⟩, ⟨?_⟩, ⟨?_⟩⟩
          · exact blk_drew (blk_far (blk_put H1.out i _ (nums_put K a i (by rw [HA.out]; omega) x hx _ (hv x HX.out))) (by show w.heap.size ≠ w.heap.size + 1; omega) _)
          · exact blk_drew (blk_put (blk_far H2.out (by show w.heap.size + 1 ≠ w.heap.size; omega) _) i _ (nums_put K b i (by rw [HB.out]; omega) y hy _ (hv y HY.out)))
          · exact below_drew1 (below_set (below_set HW.out (Nat.le_refl _)) (Nat.le_succ _))
      · have hk64 : decide ((K : Int) < 64) = false := decide_eq_false (by omega)
        have hk2 : ¬ (K : Int) < 64 := by omega
        go_wp2
        go_roundg (gk - 1)
        case measure => have := HI.out; omega
        case rel =>
          have hI := HI.out
          have e : ∀ l : List Int, part K l (i + 1) = part K l i := fun l => by
            have hm : ∀ x, modk K x = x := fun x => by unfold modk; rw [if_neg hK]
            unfold part
            rw [show modk K = id from funext hm, List.map_id, List.map_id, List.take_append_drop, List.take_append_drop]
          exact ⟨i + 1, by first | rfl | go_num, ⟨by omega, by omega⟩, ⟨by rw [e]; exact H1.out⟩, ⟨by rw [e]; exact H2.out⟩, HW⟩
    · have hd : decide ((i : Int) < 8) = false := decide_eq_false (by omega)
      have hl2 : ¬ (i : Int) < 8 := by omega
      obtain rfl : i = 8 := by have := HI.out; omega
      have H1' := H1.out
      have H2' := H2.out
      rw [show part K a 8 = a.map (modk K) by have := part_all K a; rw [HA.out] at this; exact this] at H1'
      rw [show part K b 8 = b.map (modk K) by have := part_all K b; rw [HB.out] at this; exact this] at H2'
      have hla : (a.map (modk K)).length = 8 := by rw [List.length_map]; exact HA.out
      have hlb : (b.map (modk K)).length = 8 := by rw [List.length_map]; exact HB.out
      generalize a.map (modk K) = a8 at *
      generalize b.map (modk K) = b8 at *
      have HLA := Aside0.mk hla
      have HLB := Aside0.mk hlb
      have G1 := Aside0.mk H1'
      have G2 := Aside0.mk H2'
      clear H1' H2' H1 H2 hla hlb hlt
      have HB := HW
      go_upto_region 11 with (first | ((with_reducible refine gate_callee (f := 9) rfl ?_); refine goesL_ (some 45) rfl rfl Try.func9 (by kernel_rfl) rfl #[.slice (some ⟨w.heap.size, 0, none⟩) 8 8, .int .i64 (K : Int)] rfl (by (try simp only [List.map_toArray, List.map_cons, List.map_nil]); first | done | rfl) ?_; (refine (put8 kx _ a8 8 (K : Int) x _ HLA.out (C_block (by rw [HLA.out]; decide) G1.out) HPX.out).mono ?_); rintro e w2 ⟨vx, rfl, hox, hb⟩; refine ⟨_, rfl, ?_⟩; have n1 := Aside0.mk (Kd.R_lower hox HW.out.size); have n2 := Aside0.mk (below_step HW.out hb); have n3 := Aside0.mk ((hb.block _ (blk_lt G1.out)).trans G1.out); have n4 := Aside0.mk ((hb.block _ (blk_lt G2.out)).trans G2.out); clear HB HW G1 G2 hox hb; have HX := n1; have HW2 := n2; have G1 := n3; have G2 := n4; clear n1 n2 n3 n4) | ((with_reducible refine gate_callee (f := 9) rfl ?_); refine goesL_ (some 51) rfl rfl Try.func9 (by kernel_rfl) rfl #[.slice (some ⟨w.heap.size + 1, 0, none⟩) 8 8, .int .i64 (K : Int)] rfl (by (try simp only [List.map_toArray, List.map_cons, List.map_nil]); first | done | rfl) ?_; (refine (put8 kx _ b8 8 (K : Int) y _ HLB.out (C_block (by rw [HLB.out]; decide) G2.out) HPY.out).mono ?_); rintro e w3 ⟨vy, rfl, hoy, hb⟩; refine ⟨_, rfl, ?_⟩; have n0 := Aside0.mk (Kd.R_elder' HX.out (Kd.R_base hoy) hb); have n1 := Aside0.mk (Kd.R_lower hoy HW2.out.size); have n2 := Aside0.mk (below_step HW2.out hb); have n3 := Aside0.mk ((hb.block _ (blk_lt G1.out)).trans G1.out); have n4 := Aside0.mk ((hb.block _ (blk_lt G2.out)).trans G2.out); clear HX HW2 G1 G2 hoy hb; have HX := n0; have HY := n1; have HW3 := n2; have G1 := n3; have G2 := n4; clear n0 n1 n2 n3 n4))
      have HBa := HW3
      clear HW3
      obtain ⟨Ax, cx, ex⟩ := Kd.R_slice HX.out
      subst ex
      obtain ⟨Ay, cy, ey⟩ := Kd.R_slice HY.out
      subst ey
      refine start_ (n := 12) (S := fun w' => True) (ds := []) #[false, false, false, false, false, false, false, false, false, false, false, false] (by kernel_rfl) rfl rfl trivial (fun hHeld => ?_)
      refine with_tabW r11.tab r11.bits (fun HT_ HW_ => ?_)
      have n0 := Aside0.mk (Kd.R_drew HX.out)
      have n1 := Aside0.mk (Kd.R_drew HY.out)
      have n2 := Aside0.mk (blk_drew G1.out)
      have n3 := Aside0.mk (blk_drew G2.out)
      have n4 := Aside0.mk (below_drew1 HBa.out)
      clear HX HY G1 G2 HBa
      have HX := n0
      have HY := n1
      have G1 := n2
      have G2 := n3
      have HBa := n4
      clear n0 n1 n2 n3 n4
      generalize w3.drew = w4 at HX HY G1 G2 HBa hHeld ⊢
      refine pure_ (i := 1) (N := (some 56)) (v := ?_) (a' := ?_) #[false, true, false, false, false, false, false, false, false, false, false, false] rfl rfl (any_of HT_.out (by kernel_rfl)) (fun _ _ _ h => h) (Or.inl ⟨by rfl, ?_⟩) ?_ ?_
      rotate_left
      · intro w'
        go_simp
        with_reducible rfl
      rotate_left
      · simp only [Act.put, List.setIfInBounds_toArray, List.set_cons_zero, List.set_cons_succ, i64_w, i32_w]
        rfl
      refine pure_ (i := 3) (N := (some 58)) (v := ?_) (a' := ?_) #[false, true, false, true, false, false, false, false, false, false, false, false] rfl rfl (any_of HT_.out (by kernel_rfl)) (fun _ _ _ h => h) (Or.inl ⟨by rfl, ?_⟩) ?_ ?_
      rotate_left
      · intro w'
        go_simp
        with_reducible rfl
      rotate_left
      · simp only [Act.put, List.setIfInBounds_toArray, List.set_cons_zero, List.set_cons_succ, i64_w, i32_w]
        rfl
      refine pure_ (i := 5) (N := (some 60)) (v := ?_) (a' := ?_) #[false, true, false, true, false, true, false, false, false, false, false, false] rfl rfl (any_of HT_.out (by kernel_rfl)) (fun _ _ _ h => h) (Or.inl ⟨by rfl, ?_⟩) ?_ ?_
      rotate_left
      · intro w'
        go_simp
        with_reducible rfl
      rotate_left
      · simp only [Act.put, List.setIfInBounds_toArray, List.set_cons_zero, List.set_cons_succ, i64_w, i32_w]
        rfl
      refine one_ (i := 0) (N := (some 55)) #[true, true, false, true, false, true, false, false, false, false, false, false] rfl rfl (one_of HT_.out (by kernel_rfl)) (by decide) (fun Kq hKq => ?_)
      refine Kd.R_lit_step (Kd.int .u64) _ 32 ?hg (N := 55) ?hd (xs := ([] : List Int)) (inner := []) (ok := fun _ => True) (okp := fun _ => True) ?hr ?hp (fun _ hk => hk) trivial (Below.refl _ _) (Nat.le_refl _) (by simp) ?_; (case hd => rfl); (case hg => rfl); (case hr => first | (go_simp; done) | (go_simp; rfl)); (case hp => exact (Reps.none _ _))
      intro v5 w5 ho hb hg_ hnew_
      clear hg_ hnew_
      have HO := Aside0.mk ho
      have HN := Aside0.mk hb
      clear ho hb
      refine hKq.out _ _ trivial (fun hHeld => ?_)
      clear hKq Kq
      refine norm_ (a' := ?_) ?_ ?_
      rotate_left
      · show Act.put _ (some 55) _ = _
        simp only [Act.put, List.setIfInBounds_toArray, List.set_cons_zero, List.set_cons_succ, i64_w, i32_w]
        rfl
      refine one_ (i := 2) (N := (some 57)) #[true, true, true, true, false, true, false, false, false, false, false, false] rfl rfl (one_of HT_.out (by kernel_rfl)) (by decide) (fun Kq hKq => ?_)
      refine Kd.R_append_rows_step (Kd.int .u64) (w0 := w4) w4.heap.size (by rfl) (.tmp 55) (.tmp 56) 22 32 (.int .u64 0) 8 rfl Try.underlying22 info32 rfl (by decide) (by omega) v5 [] a8 _ _ _ (fun _ => True) (fun _ => False) rfl rfl ?aO ?aR (fun _ _ h => h) (fun _ h => h.elim) ?aF ?aB ?aS ?aL ?_
      (case aR => exact C_blockn HLA.out (by decide) ((HN.out.block _ (blk_lt G1.out)).trans G1.out))
      (case aB => exact HN.out)
      (case aF => exact fun _ _ => trivial)
      (case aO => exact HO.out)
      (case aS => exact HN.out.size)
      (case aL => decide)
      intro v6 w6 ho hb hg hat
      rw [List.nil_append] at ho
      clear hg hat HO HN
      have HO := Aside0.mk ho
      have HN := Aside0.mk hb
      clear ho hb
      refine hKq.out _ _ trivial (fun hHeld => ?_)
      clear hKq Kq
      refine norm_ (a' := ?_) ?_ ?_
      rotate_left
      · show Act.put _ (some 57) _ = _
        simp only [Act.put, List.setIfInBounds_toArray, List.set_cons_zero, List.set_cons_succ, i64_w, i32_w]
        rfl
      refine one_ (i := 4) (N := (some 59)) #[true, true, true, true, true, true, false, false, false, false, false, false] rfl rfl (one_of HT_.out (by kernel_rfl)) (by decide) (fun Kq hKq => ?_)
      refine Kd.R_append_rows_step (Kd.int .u64) (w0 := w4) w4.heap.size (by rfl) (.tmp 57) (.tmp 58) 22 32 (.int .u64 0) 8 rfl Try.underlying22 info32 rfl (by decide) (by omega) v6 a8 b8 _ _ _ (fun _ => True) (fun _ => False) rfl rfl ?aO ?aR (fun _ _ h => h) (fun _ h => h.elim) ?aF ?aB ?aS ?aL ?_
      (case aR => exact C_blockn HLB.out (by decide) ((HN.out.block _ (blk_lt G2.out)).trans G2.out))
      (case aB => exact HN.out)
      (case aF => exact fun _ _ => trivial)
      (case aO => exact HO.out)
      (case aS => exact HN.out.size)
      (case aL => rw [HLA.out]; decide)
      intro v7 w7 ho hb hg hat
      clear hg hat HO HN
      have HO := Aside0.mk ho
      have HN := Aside0.mk hb
      clear ho hb
      obtain ⟨A7, c7, e7⟩ := Kd.R_slice HO.out
      subst e7
      refine hKq.out _ _ trivial (fun hHeld => ?_)
      clear hKq Kq
      refine norm_ (a' := ?_) ?_ ?_
      rotate_left
      · show Act.put _ (some 59) _ = _
        simp only [Act.put, List.setIfInBounds_toArray, List.set_cons_zero, List.set_cons_succ, i64_w, i32_w]
        rfl
      refine one_ (i := 6) (N := (some 61)) #[true, true, true, true, true, true, true, false, false, false, false, false] rfl rfl (one_of HT_.out (by kernel_rfl)) (by decide) (fun Kq hKq => ?_)
      refine call_ (f := 9) (args := #[.slice A7 (a8 ++ b8).length c7, .int .i64 (K : Int)]) (by rfl) rfl (by go_simp) ?_
      refine (bits_Put.calls kx A7 c7 (a8 ++ b8) (K : Int) z true _ (Kd.R_reads' HO.out).2.2 (Kd.R_reads' HO.out).2.1 HPZ.out).mono ?_
      rintro e w8 ⟨vz, rfl, hoz, hb⟩
      refine ⟨_, rfl, ?_⟩
      have n0 := Aside0.mk (Kd.R_lower hoz HN.out.size)
      have n1 := Aside0.mk (below_step HN.out hb)
      clear HO HN hoz hb
      have HV := n0
      have HN := n1
      clear n0 n1
      refine hKq.out _ _ trivial (fun hHeld => ?_)
      clear hKq Kq
      refine norm_ (a' := ?_) ?_ ?_
      rotate_left
      · show Act.put _ (some 61) _ = _
        simp only [Act.put, List.setIfInBounds_toArray, List.set_cons_zero, List.set_cons_succ, i64_w, i32_w]
        rfl
      refine pure_ (i := 7) (N := (some 54)) (v := ?_) (a' := ?_) #[true, true, true, true, true, true, true, true, false, false, false, false] rfl rfl (any_of HT_.out (by kernel_rfl)) (fun _ _ _ h => h) (Or.inl ⟨by rfl, ?_⟩) ?_ ?_
      rotate_left
      · intro w'
        go_simp
        with_reducible rfl
      rotate_left
      · simp only [Act.put, List.setIfInBounds_toArray, List.set_cons_zero, List.set_cons_succ, i64_w, i32_w]
        rfl
      refine pure_ (i := 8) (N := (some 62)) (v := ?_) (a' := ?_) #[true, true, true, true, true, true, true, true, true, false, false, false] rfl rfl (any_of HT_.out (by kernel_rfl)) (fun _ _ _ h => h) (Or.inl ⟨by rfl, ?_⟩) ?_ ?_
      rotate_left
      · intro w'
        go_simp
        with_reducible rfl
      rotate_left
      · simp only [Act.put, List.setIfInBounds_toArray, List.set_cons_zero, List.set_cons_succ, i64_w, i32_w]
        rfl
      refine pure_ (i := 9) (N := (some 63)) (v := ?_) (a' := ?_) #[true, true, true, true, true, true, true, true, true, true, false, false] rfl rfl (any_of HT_.out (by kernel_rfl)) (fun _ _ _ h => h) (Or.inl ⟨by rfl, ?_⟩) ?_ ?_
      rotate_left
      · intro w'
        go_simp
        with_reducible rfl
      rotate_left
      · simp only [Act.put, List.setIfInBounds_toArray, List.set_cons_zero, List.set_cons_succ, i64_w, i32_w]
        rfl
      refine pure_ (i := 10) (N := (some 13)) (v := ?_) (a' := ?_) #[true, true, true, true, true, true, true, true, true, true, true, false] rfl rfl (any_of HT_.out (by kernel_rfl)) (fun _ _ _ h => h) (Or.inl ⟨by rfl, ?_⟩) ?_ ?_
      rotate_left
      · intro w'
        go_simp
        with_reducible rfl
      rotate_left
      · simp only [Act.put, List.setIfInBounds_toArray, List.set_cons_zero, List.set_cons_succ, i64_w, i32_w]
        rfl
      refine pure_ (i := 11) (N := (some 14)) (v := ?_) (a' := ?_) #[true, true, true, true, true, true, true, true, true, true, true, true] rfl rfl (any_of HT_.out (by kernel_rfl)) (fun _ _ _ h => h) (Or.inl ⟨by rfl, ?_⟩) ?_ ?_
      rotate_left
      · intro w'
        go_simp
        with_reducible rfl
      rotate_left
      · simp only [Act.put, List.setIfInBounds_toArray, List.set_cons_zero, List.set_cons_succ, i64_w, i32_w]
        rfl
      refine done_ (done_of HT_.out (by kernel_rfl)) ?_
      have n0 := Aside0.mk (Kd.R_below HX.out HN.out)
      have n1 := Aside0.mk (Kd.R_below HY.out HN.out)
      have n4 := Aside0.mk (below_step HBa.out HN.out)
      clear HX HY G1 G2 HBa HN
      have HX := n0
      have HY := n1
      have HBa := n4
      clear n0 n1 n4
      obtain ⟨Az, cz, ez⟩ := Kd.R_slice HV.out
      subst ez
      have hcx := Kd.C_string (P := Try.prog) (src := 23) (e := 5) (dst := 9) (c := cx) Try.underlying23 Try.underlying5 Try.underlying9 (Kd.R_reads' HX.out).2.2
      have hcy := Kd.C_string (P := Try.prog) (src := 23) (e := 5) (dst := 9) (c := cy) Try.underlying23 Try.underlying5 Try.underlying9 (Kd.R_reads' HY.out).2.2
      have hcz := Kd.C_string (P := Try.prog) (src := 23) (e := 5) (dst := 9) (c := cz) Try.underlying23 Try.underlying5 Try.underlying9 (Kd.R_reads' HV.out).2.2
      have hzs : strOfNums z = strOfNums x ++ strOfNums y := by rw [HZ.out]; exact strOfNums_app x y
      have hlx2 : (x.length : Int) = (K : Int) := by rw [HXL.out]
      have hsz : ¬ 9223372036854775807 < (strOfNums x).size + (strOfNums y).size := by
        rw [strOfNums_size, strOfNums_size, HXL.out, HYL.out]
        have := HKL.out
        omega
      go_wp2
      go_ret
      exact ⟨rfl, HBa.out⟩
end Go.Proofs.Ytbjliggjalnhgaa.PBitsJoin
