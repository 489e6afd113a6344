-- Written by xprint.py (a program of this project) out of the translation. Not trusted: Lean checks it. -- squeezed
import Derived.Test.YtigldipjkejalaaDoorPRleAllx0
namespace Go.Proofs.YtigldipjkejalaaDoor.PRleAll
open Go.RowKit Go.Proofs.YtigldipjkejalaaDoorW.PrintWords Go.Proofs.YtigldipjkejalaaDoorW.PrintLast Go.Proofs.YtigldipjkejalaaDoorW.PrintMore
attribute [local go_sem] max2_int min2_int max_two min_two max_three min_three max_four min_four   -- for this text's walks alone
set_option linter.unusedVariables false
set_option linter.unusedSimpArgs false
def api_Value.cells (v : S26) : List Value := [.int .i64 v.f0, .int .i64 v.f1, .string v.f2]
def api_Value.row (v : S26) (n c : Nat) : List Value := (List.replicate n (api_Value.cells v)).flatten ++ (List.replicate (c - n) (api_Value.cells z26)).flatten
def api_Value.f (l0 : List (S26)) (a1 : Int) : Option (List (S26)) := if l0.length = 1 ∧ 0 ≤ a1 ∧ a1 ≤ 1000000 then some (List.replicate a1.toNat (rd_T26 l0 0)) else none
theorem api_Value.flat_len (v : S26) (n : Nat) : (List.replicate n (api_Value.cells v)).flatten.length = n * 3 := by
 rw [List.length_flatten, List.map_replicate, List.sum_replicate_nat]
 rfl
theorem api_Value.row_len (v : S26) (n c : Nat) (h : n ≤ c) : (api_Value.row v n c).length = c * 3 := by
 unfold api_Value.row
 rw [List.length_append, api_Value.flat_len, api_Value.flat_len]
 omega
theorem api_Value.flat_add (v : S26) (n m : Nat) : (List.replicate (n + m) (api_Value.cells v)).flatten = (List.replicate n (api_Value.cells v)).flatten ++ (List.replicate m (api_Value.cells v)).flatten := by
 rw [← List.replicate_append_replicate, List.flatten_append]
theorem api_Value.row_take (v : S26) (n m c : Nat) (h : m ≤ n) : (api_Value.row v n c).take (m * 3) = (List.replicate m (api_Value.cells v)).flatten := by
 unfold api_Value.row
 have e : n = m + (n - m) := by omega
 rw [show List.replicate n (api_Value.cells v) = List.replicate (m + (n - m)) (api_Value.cells v) by rw [← e], api_Value.flat_add, List.append_assoc]
 rw [← api_Value.flat_len v m]
 exact List.take_left
theorem api_Value.row_put (v : S26) (n m c : Nat) (h : n + m ≤ c) : (api_Value.row v n c).take (n * 3) ++ (List.replicate m (api_Value.cells v)).flatten ++ (api_Value.row v n c).drop (n * 3 + m * 3) = api_Value.row v (n + m) c := by
 rw [api_Value.row_take v n n c (Nat.le_refl _)]
 unfold api_Value.row
 have e : c - n = m + (c - (n + m)) := by omega
 rw [api_Value.flat_add v n m, e, api_Value.flat_add z26 m, ← List.append_assoc, List.drop_append_of_le_length (by rw [List.length_append, api_Value.flat_len, api_Value.flat_len]; omega), List.drop_eq_nil_of_le (by rw [List.length_append, api_Value.flat_len, api_Value.flat_len]; omega), List.nil_append]
theorem api_Value.row_full (v : S26) (n : Nat) : api_Value.row v n n = (List.replicate n (api_Value.cells v)).flatten := by
 unfold api_Value.row
 rw [Nat.sub_self]
 simp
theorem api_Value.one (v : S26) (n : Nat) : ∀ x, x ∈ (List.replicate n (api_Value.cells v)).flatten → x.oneCell' = true := fun x hx => by
 obtain ⟨l, hl, hx⟩ := List.mem_flatten.1 hx
 rw [(List.mem_replicate.1 hl).2] at hx
 simp only [api_Value.cells, List.mem_cons, List.not_mem_nil, or_false] at hx
 rcases hx with rfl | rfl | rfl <;> rfl
theorem api_Value.info : (Tryd.prog.info? 26).map (fun i => (i.zero, i.size, i.bytes)) = some (some (.agg #[.int .i64 0, .int .i64 0, .string ⟨#[]⟩]), 3, 32) := by kernel_rfl
theorem api_Value.copy (W : World) (g o dLen dCap : Nat) (a : Addr) (sLen sCap n : Nat) (cur : List Value) (cs : List Value) (hg : W.heap[g]? = some (.cells cur.toArray 26 (0, 0))) (hn : Nat.min sLen dLen = n) (hcs : cs.length = n * 3)
  (hsrc : ∀ j v, cs[j]? = some v → W.cell? (a.add j) = some v) (hfit : o + cs.length ≤ cur.length) (h1 : ∀ v ∈ cs, v.oneCell' = true) :
  (Builtin.copy_ #[23, 23] 3 #[.slice (some ⟨g, o, none⟩) dLen dCap, .slice (some a) sLen sCap]).run Tryd.prog W = .ok (goInt n) (W.setRow g (cur.take o ++ cs ++ cur.drop (o + cs.length)).toArray) := by
 have hl := run_loadCells_list (P := Tryd.prog) W a cs hsrc
 rw [hcs] at hl
 have hst := run_storeCells_at Tryd.prog g o 26 cs 0 cur.toArray W hg (by simpa using hfit) h1
 obtain ⟨i, hi, hz⟩ := Option.map_eq_some_iff.1 api_Value.info
 simp only [Prod.mk.injEq] at hz
 simp [Builtin.copy_, run_underlying Tryd.underlying23, Builtin.lenOf, Builtin.firstCells, sizeOf, typeInfo, hi, hz.2.1, hn, hl, hst]
theorem api_Value.set_alloc (w : World) (cs cs' : Array Value) (t : TypeId) : (w.alloc (.cells cs t)).setRow w.heap.size cs' = w.alloc (.cells cs' t) := by
 unfold World.setRow World.alloc
 congr 1
 apply Array.ext
 ·
  simp
 ·
  intro i h1 h2
  simp only [Array.getElem_modify, Array.getElem_push]
  by_cases h : w.heap.size = i
  ·
   subst h; simp
  ·
   have : i < w.heap.size := by simp at h1; omega
   simp [h, this]
theorem api_Value.rep_at (m : Nat) : ∀ (j : Nat) (h : j < (List.replicate m (api_Value.cells z26)).flatten.length), (List.replicate m (api_Value.cells z26)).flatten[j] = (api_Value.cells z26)[j % 3]'(Nat.mod_lt _ (by decide)) := by
 induction m with
 | zero => intro j h; simp at h
 | succ m ih =>
  intro j h
  simp only [List.replicate_succ, List.flatten_cons]
  by_cases hj : j < 3
  ·
   rw [List.getElem_append_left (by exact hj)]
   congr 1
   omega
  ·
   rw [List.getElem_append_right (by show 3 ≤ j; omega)]
   rw [ih]
   congr 1
   show (j - 3) % 3 = j % 3
   omega
theorem api_Value.made (n : Nat) : madeCells (Value.agg #[.int .i64 0, .int .i64 0, .string ⟨#[]⟩]).cells (n * 3) = (api_Value.row z26 0 n).toArray := by
 have e : api_Value.row z26 0 n = (List.replicate n (api_Value.cells z26)).flatten := by unfold api_Value.row; simp
 have hl := api_Value.flat_len z26 n
 rw [e]
 apply Array.ext
 ·
  rw [size_madeCells, List.size_toArray, hl]
 ·
  intro j h1 h2
  refine Eq.trans ?_ (api_Value.rep_at n j (by rw [List.size_toArray] at h2; exact h2)).symm
  have hm : ∀ (z : Array Value) (n j : Nat) (h : j < (madeCells z n).size), (madeCells z n)[j] = z[j % z.size]! := fun z n j h => by simp [madeCells]
  rw [hm]
  have h3 : j % 3 = 0 ∨ j % 3 = 1 ∨ j % 3 = 2 := by omega
  show (#[Value.int .i64 0, .int .i64 0, .string ⟨#[]⟩] : Array Value)[j % 3]! = _
  rcases h3 with h | h | h
  ·
   simp only [h]; rfl
  ·
   simp only [h]; rfl
  ·
   simp only [h]; rfl
theorem api_Value.make (n : Nat) (hn : n ≤ 1000000) (W : World) : (Instr.makeSlice 23 (.int .i64 (n : Int)) (.int .i64 (n : Int))).run Tryd.prog W = .ok (.slice (some ⟨W.heap.size, 0, none⟩) n n) (W.alloc (.cells (api_Value.row z26 0 n).toArray 26)) := by
 obtain ⟨i, hi, hz⟩ := Option.map_eq_some_iff.1 api_Value.info
 simp only [Prod.mk.injEq] at hz
 obtain ⟨hz0, hz1, hz2⟩ := hz
 have := run_make (P := Tryd.prog) W 23 26 i _ Tryd.underlying23 hi hz0 .i64 .i64 (n : Int) (n : Int) (by omega) (by omega) (by rw [hz2]; omega) (by omega)
 rw [hz1, Int.toNat_natCast] at this
 rw [this, api_Value.made n]
theorem api_Value.heap_set (W : World) (g : Nat) (cs cs' : Array Value) (t : TypeId) (h : W.heap[g]? = some (.cells cs t (0, 0))) : (W.setRow g cs').heap[g]? = some (.cells cs' t (0, 0)) := by
 obtain ⟨hlt, he⟩ := Array.getElem?_eq_some_iff.1 h
 unfold World.setRow
 rw [Array.getElem?_eq_some_iff]
 refine ⟨by simpa using hlt, ?_⟩
 rw [Array.getElem_modify, if_pos rfl, he]
theorem api_Value.below_set {B g : Nat} {w0 w : World} (hb : Below B w0 w) (hBg : B ≤ g) (cs : Array Value) : Below B w0 (w.setRow g cs) :=
 hb.trans ⟨rfl, rfl, rfl, by simp [World.setRow], fun k hk => by
  have hne : ¬ g = k := by omega
  simp [World.setRow, Array.getElem?_modify, hne]⟩
theorem api_Value.copy2 (v : S26) (n i : Nat) (hi : i ≤ n) (W : World) (g dCap sCap : Nat) (hg : W.heap[g]? = some (.cells (api_Value.row v i n).toArray 26 (0, 0))) :
  (Builtin.copy_ #[23, 23] 3 #[.slice (some ⟨g, i * 3, none⟩) (n - i) dCap, .slice (some ⟨g, 0, none⟩) i sCap]).run Tryd.prog W = .ok (goInt (Nat.min i (n - i))) (W.setRow g (api_Value.row v (i + Nat.min i (n - i)) n).toArray) := by
 obtain ⟨m, hm⟩ : ∃ m, m = Nat.min i (n - i) := ⟨_, rfl⟩
 have h1 : m ≤ i := by rw [hm]; exact Nat.min_le_left _ _
 have h2 : m ≤ n - i := by rw [hm]; exact Nat.min_le_right _ _
 rw [← hm]
 have hf := api_Value.flat_len v m
 have h := api_Value.copy W g (i * 3) (n - i) dCap ⟨g, 0, none⟩ i sCap m (api_Value.row v i n) (List.replicate m (api_Value.cells v)).flatten hg hm.symm hf
  (fun j u hu => by
   have hlt : j < m * 3 := by rw [← hf]; exact (List.getElem?_eq_some_iff.1 hu).1
   have e1 : ((⟨g, 0, none⟩ : Addr).add j) = ⟨g, j, none⟩ := by
    simp [Addr.add]
    try omega
   rw [e1, blk_cell hg j]
   have e2 := api_Value.row_take v i m n h1
   rw [← e2, List.getElem?_take_of_lt hlt] at hu
   rw [List.getElem?_toArray]
   exact hu)
  (by rw [hf, api_Value.row_len _ _ _ hi]; omega) (api_Value.one v m)
 rw [h, hf, api_Value.row_put v i m n (by omega)]
theorem api_Value.reps (v : S26) (w : World) (base : Nat) (ok : Nat → Prop) (n : Nat) : Reps (k26.M w base ok) 3 (List.replicate n v) (List.replicate n (api_Value.cells v)).flatten := by
 induction n with
 | zero => exact Reps.none _ _
 | succ n ih =>
  rw [List.replicate_succ, List.replicate_succ, List.flatten_cons]
  exact Reps.front (k26_mkM w base ok v) rfl ih rfl
theorem api_Value.own {w w1 : World} (v : S26) (n : Nat) (hn : n ≤ 1000000) (h : w1.heap[w.heap.size]? = some (.cells (api_Value.row v n n).toArray 26 (0, 0))) : Kd.R k26 26 w1 w.heap.size (fun _ => True) (.slice (some ⟨w.heap.size, 0, none⟩) n n) (List.replicate n v) := by
 refine ⟨fun _ _ => trivial, (List.replicate n (api_Value.cells v)).flatten, ?_, api_Value.reps v w1 _ _ n⟩
 rw [List.length_replicate]
 refine ⟨api_Value.flat_len v n, .inr ⟨w.heap.size, n, _, rfl, Nat.le_refl _, h, Nat.le_refl _, ?_, ?_, ?_⟩⟩
 ·
  unfold maxLen; omega
 ·
  rw [List.size_toArray, api_Value.row_len v n n (Nat.le_refl _)]; rfl
 ·
  show List.take (n * 3) ((api_Value.row v n n).toArray).toList = _
  rw [List.toList_toArray, api_Value.row_take v n n n (Nat.le_refl _)]
theorem api_Value.mul1 (n : Nat) (hn : n ≤ 1000000) (w : World) : Calls Tryd.prog 74 #[.int .u64 1, .int .u64 (n : Int)] w fun e w' => e = .returned (.tuple #[.int .u64 0, .int .u64 (n : Int)]) ∧ w' = w := by
 refine (Go.Proofs.YtigldipjkejalaaDoor.Mul64.mul 1 n (by decide) (by omega) w).mono fun e w' ⟨he, hw⟩ => ⟨?_, hw⟩
 rw [he, Nat.one_mul, Nat.div_eq_of_lt (by omega), Nat.mod_eq_of_lt (by omega)]
 rfl
set_option maxHeartbeats 4000000 in
set_option maxRecDepth 100000 in
theorem api_Value.calls (A0 : Option Addr) (c0 : Nat) (l0 : List (S26)) (a1 : Int) (r : List (S26)) (w : World) (hr0 : Kd.C k26 w A0 l0.length l0) (hc0 : l0.length ≤ c0) (h : api_Value.f l0 a1 = some r) :
  Calls Tryd.prog 69 #[.slice A0 l0.length c0, .int .i64 a1] w fun e w' => ∃ v0_ : Value, e = .returned v0_ ∧ Kd.R k26 26 w' w.heap.size (fun _ => True) v0_ r ∧ Below w.heap.size w w' := by
 unfold api_Value.f at h
 by_cases c : l0.length = 1 ∧ 0 ≤ a1 ∧ a1 ≤ 1000000
 rotate_left
 ·
  rw [if_neg c] at h; cases h
 rw [if_pos c] at h
 obtain ⟨hl, h0, h1⟩ := c
 obtain ⟨n, rfl⟩ := Int.eq_ofNat_of_zero_le h0
 have hn : n ≤ 1000000 := by omega
 have hr := (Option.some.inj h).symm
 rw [Int.toNat_natCast] at hr
 clear h h0 h1
 obtain ⟨ad, e0, hx0, hx1, hx2⟩ := at_T26 hr0 0 (by omega) (by omega)
 cases e0
 rw [show (0 : Int).toNat * 3 = 0 from rfl, Addr.add_zero'] at hx0 hx1 hx2
 generalize rd_T26 l0 0 = v at *
 rw [hl]
 clear hr0 hc0 hl
 have hsrc : ∀ j u, (api_Value.cells v)[j]? = some u → w.cell? (ad.add j) = some u := fun j u hu => by
  have h3 : j = 0 ∨ j = 1 ∨ j = 2 ∨ 3 ≤ j := by omega
  rcases h3 with rfl | rfl | rfl | h3
  ·
   rw [Addr.add_zero']; exact hx0.trans hu
  ·
   exact (show w.cell? (ad.add 1) = _ from hx1).trans hu
  ·
   exact (show w.cell? (ad.add 2) = _ from hx2).trans hu
  ·
   rw [List.getElem?_eq_none (by exact h3)] at hu; cases hu
 have HR := ak_ hr
 clear hr hx0 hx1 hx2
 have mk := api_Value.make n hn
 have hm0 : ∃ m : Nat, m = Nat.min 1 n := ⟨_, rfl⟩
 obtain ⟨m, hm⟩ := hm0
 have hmn : m ≤ n ∧ m ≤ 1 := by rw [hm]; exact ⟨Nat.min_le_right _ _, Nat.min_le_left _ _⟩
 have hm1 : 0 < n → m = 1 := fun h => by rw [hm]; exact Nat.min_eq_left h
 have hcp : ∀ dCap sCap, (Builtin.copy_ #[23, 23] 3 #[.slice (some ⟨w.heap.size, 0, none⟩) n dCap, .slice (some ad) 1 sCap]).run Tryd.prog (w.alloc (.cells (api_Value.row z26 0 n).toArray 26)) = .ok (goInt m) (w.alloc (.cells (api_Value.row v m n).toArray 26)) := fun dCap sCap => by
  have h := api_Value.copy (w.alloc (.cells (api_Value.row z26 0 n).toArray 26)) w.heap.size 0 n dCap ad 1 sCap m (api_Value.row z26 0 n) (List.replicate m (api_Value.cells v)).flatten (by show (w.heap.push _)[w.heap.size]? = _; simp) hm.symm (api_Value.flat_len v m)
   (fun j u hu => by
    have hlt : j < m * 3 := by rw [← api_Value.flat_len v m]; exact (List.getElem?_eq_some_iff.1 hu).1
    have e1 : m = 1 := by omega
    rw [e1] at hu
    have hu2 : (api_Value.cells v)[j]? = some u := by rw [← hu]; simp
    have := hsrc j u hu2
    exact ((bl_a (Below.refl w.heap.size w) _).cell (World.block_lt_of_cell? w _ this)).trans this)
   (by rw [api_Value.flat_len, api_Value.row_len _ _ _ (Nat.zero_le _)]; omega) (api_Value.one v m)
  rw [h, api_Value.set_alloc]
  congr 3
  have h2 := api_Value.row_put v 0 m n (by omega)
  rw [Nat.zero_mul, Nat.zero_add, Nat.zero_add] at h2
  rw [api_Value.flat_len]
  have e3 : api_Value.row z26 0 n = api_Value.row v 0 n := by unfold api_Value.row; simp
  rw [e3, Nat.zero_add, h2]
 have w64 : IntKind.u64.wrap (n : Int) = (n : Int) := by rw [show IntKind.u64.wrap (n : Int) = (n : Int) % 18446744073709551616 by simp [IntKind.wrap, IntKind.bits, IntKind.signed]]; omega
 have wi64 : IntKind.i64.wrap (n : Int) = (n : Int) := by rw [IntKind.wrap_i64]; omega
 have hneg : decide ((n : Int) < 0) = false := decide_eq_false (by omega)
 have hbig : decide ((9223372036854775807 : Int) < (n : Int)) = false := decide_eq_false (by omega)
 clear hm
 have HM := ak_ hmn
 have HM1 := ak_ hm1
 clear hmn hm1
 go_enter Tryd.func69, Tryd.ntmps69
 go_wp2_with (first | ((with_reducible refine gate_callee (f := 74) rfl ?_); refine goesL_ (some 18) rfl rfl Tryd.func74 (by kernel_rfl) rfl #[.int .u64 1, .int .u64 (n : Int)] rfl (by (try simp only [List.map_toArray, List.map_cons, List.map_nil]); first | done | rfl) ?_; (refine (api_Value.mul1 n hn _).mono ?_); rintro e w' ⟨rfl, rfl⟩; refine ⟨_, rfl, ?_⟩))
 go_loopg [8] (n + 1) (fun kq v8 w2 => ∃ i : Nat, v8 = .int .i64 (i : Int) ∧ Aside0 (i ≤ n ∧ (0 < n → 0 < i) ∧ n < kq + i) ∧ Aside0 (w2.heap[w'.heap.size]? = some (.cells (api_Value.row v i n).toArray 26 (0, 0))) ∧ Aside0 (Below w'.heap.size w' w2))
 case atStart =>
  refine ⟨m, rfl, ⟨HM.out.1, fun h => by rw [HM1.out h]; exact Nat.one_pos, by omega⟩, ⟨?_⟩, ⟨bl_a (Below.refl _ _) _⟩⟩
  show (w'.heap.push _)[w'.heap.size]? = _
  simp
 case round =>
  obtain ⟨i, rfl, HI, HO, HB⟩ := hrel
  have hi1 := HI.out.1
  by_cases hlt : i < n
  ·
   have hd : decide (i < n) = true := decide_eq_true hlt
   have hd2 : decide ((i : Int) < (n : Int)) = true := decide_eq_true (by omega)
   have hlt2 : (i : Int) < (n : Int) := by omega
   obtain ⟨i0, hi0, hzz⟩ := Option.map_eq_some_iff.1 api_Value.info
   simp only [Prod.mk.injEq] at hzz
   have hcf : ∀ W : World, (Instr.slice 23 (.slice (some ⟨w'.heap.size, 0, none⟩) n n) (some (.int .i64 (i : Int))) none none).run Tryd.prog W = .ok (.slice (some ⟨w'.heap.size, i * 3, none⟩) (n - i) (n - i)) W := fun W => by
    have h := cut_from (P := Tryd.prog) 23 26 .i64 Tryd.underlying23 hi0 3 hzz.2.1 (some ⟨w'.heap.size, 0, none⟩) n n (i : Int) (by omega) (by omega) W
    rw [Int.toNat_natCast, if_neg (by omega)] at h
    rw [h]
    simp [Addr.add]
    try omega
   have hct := cut_to (P := Tryd.prog) 23 26 .i64 Tryd.underlying23 hi0 (some ⟨w'.heap.size, 0, none⟩) n n (i : Int) (by omega) (by omega) (Nat.le_refl _)
   rw [Int.toNat_natCast] at hct
   have hcp := api_Value.copy2 v n i (by omega) wr.drew w'.heap.size (n - i) n HO.out
   obtain ⟨j, hj⟩ : ∃ j, j = Nat.min i (n - i) := ⟨_, rfl⟩
   have hj1 : j ≤ n - i := by rw [hj]; exact Nat.min_le_right _ _
   have hj2 : 0 < j := by have := HI.out.2.1 (by omega); rw [hj]; exact Nat.lt_min.mpr ⟨this, by omega⟩
   rw [← hj] at hcp
   have hs : IntKind.i64.wrap ((i : Int) + (j : Int)) = ((i + j : Nat) : Int) := by rw [IntKind.wrap_i64]; omega
   have HJ := ak_ (And.intro hj1 hj2)
   clear hj hj1 hj2 hzz hi0 hi1
   go_wp2
   go_region
   go_wp2
   go_roundg (gk - 1)
   case measure => have := HI.out; omega
   case rel =>
    have HI2 := HI.out
    have HJ2 := HJ.out
    refine ⟨i + j, by first | rfl | go_num, ⟨by omega, by omega, by omega⟩, ⟨?_⟩, ⟨?_⟩⟩
    ·
     exact api_Value.heap_set _ _ _ _ _ HO.out
    ·
     exact api_Value.below_set (bl_d HB.out) (Nat.le_refl _) _
  ·
   have hd : decide (i < n) = false := decide_eq_false hlt
   have hd2 : decide ((i : Int) < (n : Int)) = false := decide_eq_false (by omega)
   have hlt2 : ¬ (i : Int) < (n : Int) := by omega
   have hie : i = n := by omega
   subst hie
   have HN := ak_ hn
   clear hi1 hlt hn
   go_wp2
   go_ret
   exact ⟨_, rfl, by rw [HR.out]; exact api_Value.own v i HN.out HO.out, HB.out⟩
end Go.Proofs.YtigldipjkejalaaDoor.PRleAll