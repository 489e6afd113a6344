/- The document's numbers of few bits, and the plain ones. Conditions: none. -/
import Derived.Test.YtigldipjkejalaaDoorBBPackTurned
import Derived.Test.YtigldipjkejalaaDoorPPackTurnedx14
namespace Go.Proofs.YtigldipjkejalaaDoor.BRBPackTurned
open Go.RowKit Go.Proofs.YtigldipjkejalaaDoor.PPackTurned Go.Proofs.YtigldipjkejalaaDoorW.PrintWords Go.Proofs.YtigldipjkejalaaDoorW.PrintLast Go.Proofs.YtigldipjkejalaaDoorW.PrintMore Go.Proofs.YtigldipjkejalaaDoor.MBits Go.Proofs.YtigldipjkejalaaDoor.MStr Go.Proofs.YtigldipjkejalaaDoor.BBPackTurned
set_option linter.unusedVariables false

theorem tmod2 (v : Nat) : Int.tmod (v : Int) 2 = ((v % 2 : Nat) : Int) := rfl
theorem tdiv2 (v : Nat) : Int.tdiv (v : Int) 2 = ((v / 2 : Nat) : Int) := rfl
theorem half (v : Nat) (h : v < 18446744073709551616) : IntKind.u64.wrap (Int.tdiv (v : Int) 2) = ((v / 2 : Nat) : Int) := by
  rw [tdiv2, u64_wrap]; omega
theorem rlen_loop (f : Nat) : ∀ v c : Nat, v < 18446744073709551616 → v < 2 ^ f → c + f < 1000 → Ev (fun k => rabbetref1_width.l0 k (v : Int) (c : Int)) ((c + Lib.bitLenAux f v : Nat) : Int) := by
  induction f with
  | zero =>
    intro v c h64 h hc
    have h0 : v = 0 := by simpa using h
    subst h0
    refine Ev.step (f := fun _ => some ((c + Lib.bitLenAux 0 0 : Nat) : Int)) (fun k => ?_) (Ev.now _)
    simp only [rabbetref1_width.l0]
    rw [if_neg (by omega)]
    rfl
  | succ f ih =>
    intro v c h64 h hc
    by_cases h0 : v = 0
    · subst h0
      refine Ev.step (f := fun _ => some ((c + Lib.bitLenAux (f + 1) 0 : Nat) : Int)) (fun k => ?_) (Ev.now _)
      simp only [rabbetref1_width.l0]
      rw [if_neg (by omega)]
      simp [Lib.bitLenAux]
    · have hih := ih (v / 2) (c + 1) (by omega) (by rw [Nat.pow_succ] at h; omega) (by omega)
      have e : c + Lib.bitLenAux (f + 1) v = c + 1 + Lib.bitLenAux f (v / 2) := by simp only [Lib.bitLenAux]; rw [if_neg h0]; omega
      rw [e]
      refine Ev.step (f := fun k => rabbetref1_width.l0 k ((v / 2 : Nat) : Int) ((c + 1 : Nat) : Int)) (fun k => ?_) hih
      simp only [rabbetref1_width.l0]
      rw [if_pos (by omega), half v h64, show wrap64 ((c : Int) + 1) = ((c + 1 : Nat) : Int) by unfold wrap64; omega]
theorem rlen_ev (x : Int) (h0 : 0 ≤ x) (h1 : x < 18446744073709551616) : Ev (fun k => rabbetref1_width.f k x) ((Lib.bitLen x.toNat : Nat) : Int) := by
  obtain ⟨v, rfl⟩ := Int.eq_ofNat_of_zero_le h0
  have h := rlen_loop 64 v 0 (by omega) (by have : (2 : Nat) ^ 64 = 18446744073709551616 := by decide
                                            omega) (by omega)
  rw [Nat.zero_add] at h
  exact Ev.congr (fun k => by simp only [rabbetref1_width.f]; rfl) h
theorem rwidth_loop (l : List Int) (hl : wf64 l) (hn : l.length ≤ 1000000) (d : Nat) : ∀ (i a : Nat), i + d = l.length →
    Ev (fun k => rabbetref1_Width.l0 k l (a : Int) (i : Int)) (((l.drop i).foldl (fun a x => max a (Lib.bitLen x.toNat)) a : Nat) : Int) := by
  induction d with
  | zero =>
    intro i a hi
    obtain rfl : i = l.length := by omega
    refine Ev.step (f := fun _ => some ((((l.drop l.length).foldl (fun a x => max a (Lib.bitLen x.toNat)) a : Nat)) : Int)) (fun k => ?_) (Ev.now _)
    simp only [rabbetref1_Width.l0]
    rw [if_neg (by omega), List.drop_length]
    rfl
  | succ d ih =>
    intro i a hi
    have hlt : i < l.length := by omega
    obtain ⟨h0, h1⟩ := hl _ (rd_mem l i hlt)
    have hih := ih (i + 1) (max a (Lib.bitLen (rd l (i : Int)).toNat)) (by omega)
    rw [drop_cons l i hlt, List.foldl_cons]
    refine Ev.step (f := fun k => (rabbetref1_width.f k (rd l (i : Int))).bind _) (fun k => by simp only [rabbetref1_Width.l0]; rw [if_pos (by omega), if_pos (by omega)]) (Ev.bind (rlen_ev _ h0 h1) ?_)
    refine Ev.congr (f := fun k => rabbetref1_Width.l0 k l ((max a (Lib.bitLen (rd l (i : Int)).toNat) : Nat) : Int) ((i + 1 : Nat) : Int)) (fun k => ?_) hih
    rw [show mx (a : Int) ((Lib.bitLen (rd l (i : Int)).toNat : Nat) : Int) = ((max a (Lib.bitLen (rd l (i : Int)).toNat) : Nat) : Int) by unfold mx; split <;> omega,
      show wrap64 ((i : Int) + 1) = ((i + 1 : Nat) : Int) by unfold wrap64; omega]
theorem rwidth_ev (l : List Int) (hl : wf64 l) (hn : l.length ≤ 1000000) : Ev (fun k => rabbetref1_Width.f k l) ((W l : Nat) : Int) :=
  Ev.congr (fun k => by simp only [rabbetref1_Width.f]; rfl) (rwidth_loop l hl hn l.length 0 0 (by omega))

theorem add8 (b c s : Nat) (hb : b < 2 ^ s) (hs : s < 8) (hc : c ≤ 1) : ((b : Int) + ((c : Int) % 256) * 2 ^ min (s : Int).toNat 8) % 256 = ((b + c * 2 ^ s : Nat) : Int) := by
  have h8 : (2 : Nat) ^ s ≤ 128 := by
    have := Nat.pow_le_pow_right (show 0 < 2 by decide) (show s ≤ 7 by omega)
    simpa using this
  have hm : c * 2 ^ s ≤ 1 * 128 := Nat.mul_le_mul hc h8
  rw [show min (s : Int).toNat 8 = s by rw [Int.toNat_natCast]; omega, show (c : Int) % 256 = (c : Int) by omega, show (2 : Int) ^ s = ((2 ^ s : Nat) : Int) from (Int.natCast_pow 2 s).symm, ← Int.natCast_mul]
  obtain ⟨q, hq⟩ : ∃ q, q = c * 2 ^ s := ⟨_, rfl⟩
  rw [← hq] at hm ⊢
  omega
theorem rput_inner (l : List Int) (hl : wf64 l) (hn : l.length ≤ 100000) (w : Nat) (hw : w ≤ 64) (i : Nat) (hi : i < l.length) (r : List Int × Bool)
    (hout : Ev (fun k => rabbetref1_PutBits.l0 k l (w : Int) (bytesT (bitf l w) ((i + 1) * w) ((l.length * w + 7) / 8)) ((i + 1 : Nat) : Int)) r) (v : Nat) (hv : rd l (i : Int) = (v : Int)) (d : Nat) :
    ∀ kk, kk + d = w → Ev (fun k => rabbetref1_PutBits.l1 k l (w : Int) (bytesT (bitf l w) (i * w + kk) ((l.length * w + 7) / 8)) (i : Int) ((v / 2 ^ kk : Nat) : Int) (kk : Int)) r := by
  have hlw : l.length * w ≤ 6400000 := Nat.le_trans (Nat.mul_le_mul hn hw) (by decide)
  have hiw : i * w + w ≤ l.length * w := by
    have : (i + 1) * w ≤ l.length * w := Nat.mul_le_mul_right _ hi
    rw [Nat.add_mul] at this
    omega
  obtain ⟨h0, h1⟩ := hl _ (rd_mem l i hi)
  induction d with
  | zero =>
    intro kk hk
    obtain rfl : kk = w := by omega
    refine Ev.step (f := fun k => rabbetref1_PutBits.l0 k l (kk : Int) (bytesT (bitf l kk) ((i + 1) * kk) ((l.length * kk + 7) / 8)) ((i + 1 : Nat) : Int)) (fun k => ?_) hout
    simp only [rabbetref1_PutBits.l1]
    rw [if_neg (by omega), show wrap64 ((i : Int) + 1) = ((i + 1 : Nat) : Int) by unfold wrap64; omega, Nat.add_mul, Nat.one_mul]
  | succ d ih =>
    intro kk hk
    have hih := ih (kk + 1) (by omega)
    refine Ev.step (fun k => ?_) hih
    have ht : (i * w + kk) / 8 < (l.length * w + 7) / 8 := by omega
    have hvlt : v / 2 ^ kk < 18446744073709551616 := Nat.lt_of_le_of_lt (Nat.div_le_self _ _) (by omega)
    have hdd : v / 2 ^ (kk + 1) = v / 2 ^ kk / 2 := by rw [Nat.pow_succ, Nat.div_div_eq_div_mul]
    simp only [rabbetref1_PutBits.l1]
    rw [if_pos (by omega), at_eq i w kk (by omega), tdiv8 _ (by omega), tmod8, if_pos (by omega), bytesT_length, if_pos (by omega), if_pos (by omega),
      show wrap64 ((kk : Int) + 1) = ((kk + 1 : Nat) : Int) by unfold wrap64; omega, Int.toNat_natCast ((i * w + kk) / 8), rd_bytesT _ _ _ _ ht, tmod2, half _ hvlt, hdd]
    have hf : bitf l w (i * w + kk) = v / 2 ^ kk % 2 := by
      unfold bitf
      have hw0 : 0 < w := by omega
      have hkk : kk < w := by omega
      have e1 : (i * w + kk) / w = i := by rw [Nat.mul_comm, Nat.mul_add_div hw0, Nat.div_eq_of_lt hkk, Nat.add_zero]
      have e2 : (i * w + kk) % w = kk := by rw [Nat.mul_comm, Nat.mul_add_mod, Nat.mod_eq_of_lt hkk]
      rw [e1, e2]
      have : l.getD i 0 = (v : Int) := by rw [← hv]; unfold rd; rw [Int.toNat_natCast]
      rw [this, Int.toNat_natCast]
    rw [add8 _ _ _ (pb_lt _ (bitf_le l w) _) (by omega) (by omega), ← hf, bytesT_set _ _ _ ht]
    rfl
theorem rput_outer (l : List Int) (hl : wf64 l) (hn : l.length ≤ 100000) (w : Nat) (hw : w ≤ 64) (d : Nat) : ∀ i, i + d = l.length →
    Ev (fun k => rabbetref1_PutBits.l0 k l (w : Int) (bytesT (bitf l w) (i * w) ((l.length * w + 7) / 8)) (i : Int)) (putS l w, true) := by
  induction d with
  | zero =>
    intro i hi
    obtain rfl : i = l.length := by omega
    refine Ev.step (f := fun _ => some (putS l w, true)) (fun k => ?_) (Ev.now _)
    simp only [rabbetref1_PutBits.l0]
    rw [if_neg (by omega)]
    rfl
  | succ d ih =>
    intro i hi
    obtain ⟨h0, _⟩ := hl _ (rd_mem l i (by omega))
    obtain ⟨v, hv⟩ := Int.eq_ofNat_of_zero_le h0
    have h := rput_inner l hl hn w hw i (by omega) _ (ih (i + 1) (by omega)) v hv w 0 (by omega)
    refine Ev.step (fun k => ?_) h
    simp only [rabbetref1_PutBits.l0]
    rw [if_pos (by omega), if_pos (by omega), hv, Nat.pow_zero, Nat.div_one]
    rfl
theorem rsize_eq (t : Nat) (h : t ≤ 100000000) : wrap64 (Int.tdiv (wrap64 ((t : Int) + 7)) 8) = (((t + 7) / 8 : Nat) : Int) := by
  rw [show wrap64 ((t : Int) + 7) = ((t + 7 : Nat) : Int) by unfold wrap64; omega, tdiv8 _ (by omega)]
theorem rput_ev (l : List Int) (hl : wf64 l) (hn : l.length ≤ 100000) (w : Int) : Ev (fun k => rabbetref1_PutBits.f k l w) (putR l w) := by
  have hno : Ev (fun k => rabbetref1_PutBits.j0 k l w true) ([], false) := by
    refine Ev.step (f := fun _ => some ([], false)) (fun k => ?_) (Ev.now _)
    simp only [rabbetref1_PutBits.j0, if_true]
  unfold putR
  by_cases h1 : w < 0
  · rw [if_pos (.inl h1)]
    exact Ev.congr (fun k => by simp only [rabbetref1_PutBits.f]; rw [if_pos h1]) hno
  by_cases h2 : 64 < w
  · rw [if_pos (.inr h2)]
    exact Ev.congr (fun k => by simp only [rabbetref1_PutBits.f]; rw [if_neg h1, if_pos (show w > 64 from h2)]) hno
  rw [if_neg (by omega)]
  refine Ev.congr (f := fun k => (rabbetref1_Width.f k l).bind _) (fun k => by simp only [rabbetref1_PutBits.f]; rw [if_neg h1, if_neg (show ¬ w > 64 from h2)]) (Ev.bind (rwidth_ev l hl (by omega)) ?_)
  by_cases h3 : ((W l : Nat) : Int) > w
  · rw [if_pos h3]
    exact Ev.congr (fun k => by rw [decide_eq_true h3]) hno
  · rw [if_neg h3]
    obtain ⟨u, rfl⟩ := Int.eq_ofNat_of_zero_le (show 0 ≤ w by omega)
    have hlw : l.length * u ≤ 6400000 := Nat.le_trans (Nat.mul_le_mul hn (show u ≤ 64 by omega)) (by decide)
    refine Ev.congr (f := fun k => rabbetref1_PutBits.j0 k l (u : Int) false) (fun k => by rw [decide_eq_false h3]) ?_
    have hout := rput_outer l hl hn u (by omega) l.length 0 (by omega)
    rw [Int.toNat_natCast]
    refine Ev.step (fun k => ?_) hout
    simp only [rabbetref1_PutBits.j0, Bool.false_eq_true, if_false]
    rw [mul_cast _ _ (by omega), rsize_eq _ (by omega), if_pos (by omega), if_pos (by omega), Nat.zero_mul, bytesT_zero, Int.toNat_natCast]
    rfl

theorem shr8 (x k : Nat) (hk : k ≤ 8) : shr .u8 (x : Int) (k : Int) = ((x / 2 ^ k : Nat) : Int) := by
  unfold shr
  rw [show min (Int.toNat (k : Int)) IntKind.u8.bits = k from by
    show min k 8 = k
    omega]
  rw [show (2 : Int) ^ k = ((2 ^ k : Nat) : Int) from (Int.natCast_pow 2 k).symm]
  exact (Int.natCast_ediv _ _).symm
/-- The numbers before the i-th, and the i-th's bits from kk up. -/
def S (g : Nat → Nat) (n w i kk : Nat) : List Int := (numsT g (i * w) n w).set i ((nbk g (i * w + w) (i * w) w / 2 ^ kk : Nat) : Int)
theorem S_length (g : Nat → Nat) (n w i kk : Nat) : (S g n w i kk).length = n := by simp [S, numsT]
theorem S_rd (g : Nat → Nat) (n w i kk : Nat) (h : i < n) : rd (S g n w i kk) (i : Int) = ((nbk g (i * w + w) (i * w) w / 2 ^ kk : Nat) : Int) := by
  simp [rd, S, List.getD_eq_getElem?_getD, numsT_length, h]
theorem S_set (g : Nat → Nat) (n w i kk kk' : Nat) : (S g n w i kk).set i ((nbk g (i * w + w) (i * w) w / 2 ^ kk' : Nat) : Int) = S g n w i kk' := by
  simp [S, List.set_set]
theorem S_first (g : Nat → Nat) (hg : ∀ j, g j ≤ 1) (n w i : Nat) : S g n w i w = numsT g (i * w) n w := by
  unfold S
  rw [Nat.div_eq_of_lt (nbk_lt g hg _ _ _)]
  apply List.ext_getElem
  · simp
  · intro j h1 h2
    by_cases hj : i = j
    · subst hj; rw [List.getElem_set_self]; simp [numsT, nbk_none]
    · rw [List.getElem_set_ne hj]
theorem S_last (g : Nat → Nat) (n w i : Nat) : S g n w i 0 = numsT g ((i + 1) * w) n w := by
  unfold S
  rw [Nat.pow_zero, Nat.div_one]
  apply List.ext_getElem
  · simp [numsT]
  · intro j h1 h2
    by_cases hj : i = j
    · subst hj; rw [List.getElem_set_self]; simp [numsT, Nat.add_mul]
    · rw [List.getElem_set_ne hj]
      simp only [numsT, List.getElem_map, List.getElem_range]
      congr 1
      rcases Nat.lt_or_gt_of_ne hj with h3 | h3
      · have : (i + 1) * w ≤ j * w := Nat.mul_le_mul_right _ h3
        have h4 : i * w ≤ j * w := Nat.mul_le_mul_right _ (by omega)
        rw [nbk_none g _ _ h4, nbk_none g _ _ this]
      · have : (j + 1) * w ≤ i * w := Nat.mul_le_mul_right _ h3
        rw [Nat.add_mul] at this
        exact nbk_full g _ _ _ _ (by omega) (by rw [Nat.add_mul]; omega)
theorem rtake_inner (b : List Int) (hb : wf8 b) (n w : Nat) (hn : n ≤ 1000) (hw : w ≤ 64) (hlen : b.length = (n * w + 7) / 8) (i : Nat) (hi : i < n) (r : List Int × Bool)
    (hout : Ev (fun k => rabbetref1_TakeBits.l0 k b (n : Int) (w : Int) (numsT (bitb b) ((i + 1) * w) n w) ((i + 1 : Nat) : Int)) r) :
    ∀ kk, kk ≤ w → Ev (fun k => rabbetref1_TakeBits.l1 k b (n : Int) (w : Int) (S (bitb b) n w i kk) (i : Int) ((kk : Int) - 1)) r := by
  have hnw : n * w ≤ 64000 := Nat.le_trans (Nat.mul_le_mul hn hw) (by decide)
  have hiw : i * w + w ≤ n * w := by
    have : (i + 1) * w ≤ n * w := Nat.mul_le_mul_right _ hi
    rw [Nat.add_mul] at this
    omega
  intro kk
  induction kk with
  | zero =>
    intro _
    rw [S_last]
    refine Ev.step (fun k => ?_) hout
    simp only [rabbetref1_TakeBits.l1]
    rw [if_neg (by omega), show wrap64 ((i : Int) + 1) = ((i + 1 : Nat) : Int) by unfold wrap64; omega]
  | succ kk ih =>
    intro hk
    refine Ev.step (fun k => ?_) (ih (by omega))
    have h8 : (i * w + kk) / 8 < b.length := by omega
    obtain ⟨h0, h1⟩ := hb _ (rd_mem b _ h8)
    obtain ⟨v, hv⟩ := Int.eq_ofNat_of_zero_le h0
    simp only [rabbetref1_TakeBits.l1]
    rw [show (((kk + 1 : Nat) : Int) - 1) = (kk : Int) by omega, if_pos (by omega), if_pos (by omega), S_length, if_pos (by omega), at_eq i w kk (by omega), tdiv8 _ (by omega), tmod8, if_pos (by omega), if_pos (by omega), if_pos (by omega),
      show wrap64 ((kk : Int) - 1) = (kk : Int) - 1 by unfold wrap64; omega, hv, shr8 v _ (by omega), tmod2, S_rd _ _ _ _ _ hi, Int.toNat_natCast i]
    have hg : bitb b (i * w + kk) = v / 2 ^ ((i * w + kk) % 8) % 2 := by
      unfold bitb
      have : b.getD ((i * w + kk) / 8) 0 = (v : Int) := by rw [← hv]; unfold rd; rw [Int.toNat_natCast]
      rw [this, Int.toNat_natCast]
    rw [← hg]
    have hbit := nbk_bit (bitb b) (bitb_le b) (i * w + w) (i * w) w kk (by omega)
    rw [if_pos (by omega)] at hbit
    have hdd : nbk (bitb b) (i * w + w) (i * w) w / 2 ^ (kk + 1) = nbk (bitb b) (i * w + w) (i * w) w / 2 ^ kk / 2 := by rw [Nat.pow_succ, Nat.div_div_eq_div_mul]
    have hlt : nbk (bitb b) (i * w + w) (i * w) w / 2 ^ kk < 18446744073709551616 := by
      have a1 := nbk_lt (bitb b) (bitb_le b) (i * w + w) (i * w) w
      have a2 := Nat.pow_le_pow_right (show 0 < 2 by decide) hw
      have a3 : (2 : Nat) ^ 64 = 18446744073709551616 := by decide
      exact Nat.lt_of_le_of_lt (Nat.div_le_self _ _) (by omega)
    have hval : IntKind.u64.wrap (IntKind.u64.wrap (2 * ((nbk (bitb b) (i * w + w) (i * w) w / 2 ^ (kk + 1) : Nat) : Int)) + IntKind.u64.wrap ((bitb b (i * w + kk) : Nat) : Int)) = ((nbk (bitb b) (i * w + w) (i * w) w / 2 ^ kk : Nat) : Int) := by
      rw [hdd, ← hbit]
      generalize nbk (bitb b) (i * w + w) (i * w) w / 2 ^ kk = y at hlt ⊢
      clear hdd hbit hg hv h0 h1 hout ih
      simp only [u64_wrap]
      omega
    rw [hval, S_set]
theorem rtake_outer (b : List Int) (hb : wf8 b) (n w : Nat) (hn : n ≤ 1000) (hw : w ≤ 64) (hlen : b.length = (n * w + 7) / 8) (r : List Int × Bool)
    (hend : Ev (fun k => (rabbetref1_PutBits.f k (takeS b n w) (w : Int)).bind fun bt158 => (if (strOfNums bt158.1).toList = (strOfNums b).toList then (some (takeS b n w, true)) else (some (([] : List Int), false)))) r) (d : Nat) :
    ∀ i, i + d = n → Ev (fun k => rabbetref1_TakeBits.l0 k b (n : Int) (w : Int) (numsT (bitb b) (i * w) n w) (i : Int)) r := by
  induction d with
  | zero =>
    intro i hi
    obtain rfl : i = n := by omega
    refine Ev.step (fun k => ?_) hend
    simp only [rabbetref1_TakeBits.l0]
    rw [if_neg (by omega)]
    rfl
  | succ d ih =>
    intro i hi
    have h := rtake_inner b hb n w hn hw hlen i (by omega) r (ih (i + 1) (by omega)) w (Nat.le_refl _)
    rw [S_first _ (bitb_le b)] at h
    refine Ev.step (fun k => ?_) h
    simp only [rabbetref1_TakeBits.l0]
    rw [if_pos (by omega), show wrap64 ((w : Int) - 1) = (w : Int) - 1 by unfold wrap64; omega]
theorem rtake_ev (b : List Int) (hb : wf8 b) (n w : Int) : Ev (fun k => rabbetref1_TakeBits.f k b n w) (takeR b n w) := by
  have hno : Ev (fun k => rabbetref1_TakeBits.j0 k b n w true) ([], false) := by
    refine Ev.step (f := fun _ => some ([], false)) (fun k => ?_) (Ev.now _)
    simp only [rabbetref1_TakeBits.j0, if_true]
  unfold takeR
  by_cases h1 : n < 0
  · rw [if_pos (.inl h1)]
    exact Ev.congr (fun k => by simp only [rabbetref1_TakeBits.f]; rw [if_pos h1]) hno
  by_cases h2 : 1000 < n
  · rw [if_pos (.inr (.inl h2))]
    exact Ev.congr (fun k => by simp only [rabbetref1_TakeBits.f]; rw [if_neg h1, if_pos (show n > 1000 from h2)]) hno
  by_cases h3 : w < 0
  · rw [if_pos (.inr (.inr (.inl h3)))]
    exact Ev.congr (fun k => by simp only [rabbetref1_TakeBits.f]; rw [if_neg h1, if_neg (show ¬ n > 1000 from h2), if_pos h3]) hno
  by_cases h4 : 64 < w
  · rw [if_pos (.inr (.inr (.inr (.inl h4))))]
    exact Ev.congr (fun k => by simp only [rabbetref1_TakeBits.f]; rw [if_neg h1, if_neg (show ¬ n > 1000 from h2), if_neg h3, if_pos (show w > 64 from h4)]) hno
  obtain ⟨m, rfl⟩ := Int.eq_ofNat_of_zero_le (show 0 ≤ n by omega)
  obtain ⟨u, rfl⟩ := Int.eq_ofNat_of_zero_le (show 0 ≤ w by omega)
  have hnw : m * u ≤ 64000 := Nat.le_trans (Nat.mul_le_mul (show m ≤ 1000 by omega) (show u ≤ 64 by omega)) (by decide)
  simp only [Int.toNat_natCast]
  have hf : ∀ k, rabbetref1_TakeBits.f k b (m : Int) (u : Int) = rabbetref1_TakeBits.j0 k b (m : Int) (u : Int) ((b.length : Int) != (((m * u + 7) / 8 : Nat) : Int)) := by
    intro k
    simp only [rabbetref1_TakeBits.f]
    rw [if_neg h1, if_neg (show ¬ (m : Int) > 1000 from h2), if_neg h3, if_neg (show ¬ (u : Int) > 64 from h4), mul_cast _ _ (by omega), rsize_eq _ (by omega)]
  by_cases h5 : b.length = (m * u + 7) / 8
  · rw [if_neg (by omega)]
    have e : ((b.length : Int) != (((m * u + 7) / 8 : Nat) : Int)) = false := by rw [bne_eq_false_iff_eq]; omega
    refine Ev.congr hf ?_
    rw [e]
    have hout := rtake_outer b hb m u (by omega) (by omega) h5 (if putS (takeS b m u) u = b then (takeS b m u, true) else ([], false)) ?_ m 0 (by omega)
    · refine Ev.step (fun k => ?_) hout
      simp only [rabbetref1_TakeBits.j0, Bool.false_eq_true, if_false]
      rw [if_pos (by omega), if_pos (by omega), Nat.zero_mul, numsT_zero, Int.toNat_natCast]
      rfl
    · have hp := rput_ev (takeS b m u) (fun x hx => by
        have := takeS_lt b m u x hx
        have h2 := Nat.pow_le_pow_right (show 0 < 2 by decide) (show u ≤ 64 by omega)
        have h3 : (2 : Nat) ^ 64 = 18446744073709551616 := by decide
        omega) (by simp only [takeS, numsT_length]; omega) (u : Int)
      rw [putR_takeS b m u (by omega)] at hp
      refine Ev.bind hp ?_
      have hs := str_eq (putS (takeS b m u) u) b (bytesT_wf _ (bitf_le _ _) _ _) hb
      by_cases h6 : putS (takeS b m u) u = b
      · rw [if_pos h6]
        exact Ev.congr (f := fun _ => some (takeS b m u, true)) (fun k => by rw [if_pos (hs.2 h6)]) (Ev.now _)
      · rw [if_neg h6]
        exact Ev.congr (f := fun _ => some ([], false)) (fun k => by rw [if_neg (fun h => h6 (hs.1 h))]) (Ev.now _)
  · rw [if_pos (.inr (.inr (.inr (.inr h5))))]
    have e : ((b.length : Int) != (((m * u + 7) / 8 : Nat) : Int)) = true := by rw [bne_iff_ne]; omega
    refine Ev.congr hf ?_
    rw [e]
    exact hno
/-- Take at any numbers. -/
theorem take_any (b : List Int) (hb : wf8 b) (n w : Int) : Ev (fun k => bits_Take.f k b n w) (takeR b n w) := by
  by_cases h : n < 0 ∨ 1000 < n ∨ w < 0 ∨ 64 < w
  · have hno : Ev (fun k => bits_Take.j0 k b n w true) ([], false) := by
      refine Ev.step (f := fun _ => some ([], false)) (fun k => ?_) (Ev.now _)
      simp only [bits_Take.j0, if_true]
    have e : takeR b n w = ([], false) := by
      unfold takeR
      rw [if_pos]
      rcases h with h | h | h | h
      · exact .inl h
      · exact .inr (.inl h)
      · exact .inr (.inr (.inl h))
      · exact .inr (.inr (.inr (.inl h)))
    rw [e]
    refine Ev.congr (f := fun k => bits_Take.j0 k b n w true) (fun k => ?_) hno
    simp only [bits_Take.f]
    by_cases h1 : n < 0
    · rw [if_pos h1]
    by_cases h2 : n > 1000
    · rw [if_neg h1, if_pos h2]
    by_cases h3 : w < 0
    · rw [if_neg h1, if_neg h2, if_pos h3]
    by_cases h4 : w > 64
    · rw [if_neg h1, if_neg h2, if_neg h3, if_pos h4]
    omega
  · exact take_ev b hb n w (by omega) (by omega) (by omega) (by omega)
end Go.Proofs.YtigldipjkejalaaDoor.BRBPackTurned
