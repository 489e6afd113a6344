/- PackMoved's plain law: numbers that are all moved by as much want as many bits. Conditions: none. -/
import Derived.Test.YtigldipjkejalaaDoorBDPackMoved
import Derived.Test.YtigldipjkejalaaDoorPPackMovedx6
import Derived.OpenShut
namespace Go.Proofs.YtigldipjkejalaaDoor.Pure
open Go.RowKit Go.Proofs.YtigldipjkejalaaDoor.PPackMoved Go.Proofs.YtigldipjkejalaaDoorW.PrintWords Go.Proofs.YtigldipjkejalaaDoorW.PrintLast Go.Proofs.YtigldipjkejalaaDoorW.PrintMore Go.Proofs.YtigldipjkejalaaDoor.BDPackMoved Go.Proofs.YtigldipjkejalaaDoor.BAPackMoved Go.Proofs.YtigldipjkejalaaDoor.MNum
set_option linter.unusedVariables false
theorem pack_begun : Ev rabbetlaw8_begun.f true := Ev.of rabbetlaw8_begun.mono (k := 100) (by decide +kernel)
def vals (m : Int) (l : List Int) : List S26 := l.map fun x => (⟨2, x + m, (⟨#[]⟩ : ByteArray)⟩ : S26)
theorem minL_moved (m : Int) (l : List Int) : ∀ x : Int, minL (x + m) (vals m l) = minL x (vals 0 l) + m := by
  induction l with
  | nil => intro x; rfl
  | cons a r ih =>
    intro x
    have e : mn (x + m) (a + m) = mn x (a + 0) + m := by unfold mn; split <;> split <;> omega
    show minL (mn (x + m) (a + m)) (vals m r) = minL (mn x (a + 0)) (vals 0 r) + m
    rw [e, ih]
theorem low_moved (m : Int) (l : List Int) (h : 0 < l.length) : low (vals m l) = low (vals 0 l) + m := by
  cases l with
  | nil => simp at h
  | cons a r =>
    show minL (a + m) (vals m (a :: r)) = minL (a + 0) (vals 0 (a :: r)) + m
    rw [minL_moved, Int.add_zero]
theorem ab_moved (m : Int) (l : List Int) (h : 0 < l.length) : ab (vals m l) = ab (vals 0 l) := by
  unfold ab
  rw [low_moved m l h]
  unfold vals
  rw [List.map_map, List.map_map]
  refine List.map_congr_left (fun x _ => ?_)
  simp only [Function.comp_apply]
  omega
theorem rd_last (a s : List Int) (w : Int) : rd (a ++ (w :: s)) ((a.length + s.length : Nat) : Int) = (w :: s).getD s.length 0 := by
  unfold rd
  rw [Int.toNat_natCast, List.getD_eq_getElem?_getD, List.getElem?_append_right (by omega), Nat.add_sub_cancel_left, List.getD_eq_getElem?_getD]
theorem vals_good (m : Int) (hm : -2147483648 ≤ m ∧ m ≤ 2147483647) (l : List Int) (hl : ∀ x, x ∈ l → 0 ≤ x ∧ x ≤ 255) : ∀ v, v ∈ vals m l → good 2 v := by
  intro v hv
  obtain ⟨x, hx, rfl⟩ := List.mem_map.1 hv
  have := hl x hx
  exact ⟨rfl, ⟨by dsimp only; omega, by dsimp only; omega⟩, fun _ => rfl, (fun h => by cases h), (fun h => by cases h), (fun h => by cases h)⟩
theorem rd_vals (m : Int) (l : List Int) (i : Nat) (h : i < l.length) : (rd_T26 (vals m l) (i : Int)).f1 = rd l (i : Int) + m := by
  unfold rd_T26 rd vals
  rw [Int.toNat_natCast, List.getD_eq_getElem?_getD, List.getD_eq_getElem?_getD, List.getElem?_map, List.getElem?_eq_getElem h]
  rfl
theorem rd_mem1 (l : List Int) (i : Nat) (h : i < l.length) : rd l (i : Int) ∈ l := by
  have : rd l (i : Int) = l[i] := by simp [rd, List.getD_eq_getElem?_getD, List.getElem?_eq_getElem h]
  rw [this]; exact List.getElem_mem h
theorem vals_take (m : Int) (l : List Int) (i : Nat) (h : i < l.length) : vals m (l.take i) ++ [(⟨2, rd l (i : Int) + m, (⟨#[]⟩ : ByteArray)⟩ : S26)] = vals m (l.take (i + 1)) := by
  have : rd l (i : Int) = l[i] := by simp [rd, List.getD_eq_getElem?_getD, List.getElem?_eq_getElem h]
  rw [List.take_succ_eq_append_getElem h, this]
  unfold vals
  rw [List.map_append]
  rfl
theorem vals_length (m : Int) (l : List Int) : (vals m l).length = l.length := by unfold vals; rw [List.length_map]
theorem check_loop (l : List Int) (h0 : 0 < l.length) (h60 : l.length ≤ 60) (m : Int) (hm : -2147483648 ≤ m ∧ m ≤ 2147483647) (hl : ∀ x, x ∈ l → 0 ≤ x ∧ x ≤ 255) (z1 z2 s : List Int) (w : Int) (hz1 : z1.length ≤ 10) (hz2 : z2.length ≤ 10) (hs : s.length ≤ 100000) (x16 : Int) (h16 : 0 < x16) (d : Nat) : ∀ i : Nat, i + d = l.length →
    Ev (fun k => rabbetlaw8_PackMoved.l1 k l m (z1 ++ (w :: s)) (z2 ++ (w :: s)) (vals 0 l) (vals m l) x16 (i : Int)) true := by
  induction d with
  | zero =>
    intro i hi
    refine Ev.step (f := fun _ => some true) (fun k => ?_) (Ev.now _)
    simp only [rabbetlaw8_PackMoved.l1]
    have e1 : wrap64 (((z1 ++ (w :: s)).length : Int) - 1) = ((z1.length + s.length : Nat) : Int) := by rw [List.length_append, List.length_cons]; unfold wrap64; omega
    have e2 : wrap64 (((z2 ++ (w :: s)).length : Int) - 1) = ((z2.length + s.length : Nat) : Int) := by rw [List.length_append, List.length_cons]; unfold wrap64; omega
    rw [e1, e2, if_neg (by omega), if_pos h16, if_pos (by omega), if_pos (by rw [List.length_append, List.length_cons]; omega), if_pos (by omega), if_pos (by rw [List.length_append, List.length_cons]; omega), rd_last, rd_last, beq_self_eq_true]
  | succ d ih =>
    intro i hi
    have hlt : i < l.length := by omega
    have hx := hl _ (rd_mem1 l i hlt)
    refine Ev.step (fun k => ?_) (ih (i + 1) (by omega))
    simp only [rabbetlaw8_PackMoved.l1]
    rw [if_pos (by omega), if_pos (by omega), if_pos (by rw [vals_length]; omega), if_pos (by rw [vals_length]; omega), rd_vals m l i hlt, rd_vals 0 l i hlt, if_pos (by unfold wrap64; omega), show wrap64 ((i : Int) + 1) = ((i + 1 : Nat) : Int) by unfold wrap64; omega]
theorem build_loop2 (l : List Int) (h60 : l.length ≤ 60) (m : Int) (hm : -2147483648 ≤ m ∧ m ≤ 2147483647) (hl : ∀ x, x ∈ l → 0 ≤ x ∧ x ≤ 255) (r : Bool) (h : Ev (fun k => rabbetlaw8_PackMoved.l0 k l m (vals 0 l) (vals m l) (l.length : Int)) r) (d : Nat) : ∀ i : Nat, i + d = l.length →
    Ev (fun k => rabbetlaw8_PackMoved.l0 k l m (vals 0 (l.take i)) (vals m (l.take i)) (i : Int)) r := by
  induction d with
  | zero =>
    intro i hi
    obtain rfl : i = l.length := by omega
    rw [List.take_length]
    exact h
  | succ d ih =>
    intro i hi
    have hlt : i < l.length := by omega
    have hx := hl _ (rd_mem1 l i hlt)
    have h1 := vals_take 0 l i hlt
    have h2 := vals_take m l i hlt
    rw [Int.add_zero] at h1
    refine Ev.step (fun k => ?_) (ih (i + 1) (by omega))
    simp only [rabbetlaw8_PackMoved.l0]
    rw [if_pos (by omega), if_pos (by omega), if_pos (by rw [vals_length, List.length_take]; omega), if_pos (by rw [vals_length, List.length_take]; omega)]
    have e0 : wrap64 (rd l (i : Int)) = rd l (i : Int) := by unfold wrap64; omega
    have e1 : wrap64 (rd l (i : Int) + wrap64 m) = rd l (i : Int) + m := by unfold wrap64; omega
    rw [e0, e1, h1, h2, show wrap64 ((i : Int) + 1) = ((i + 1 : Nat) : Int) by unfold wrap64; omega]
theorem n_one (n : Nat) (hn : n ≤ 60) : wrap64 ((wrap64 ((n : Int) * 8)) + 7) = ((n * 8 + 7 : Nat) : Int) := by unfold wrap64; omega
theorem n_two (q : Nat) (hq : q ≤ 1000) : wrap64 (wrap64 ((q : Nat) : Int) + 1) = ((q + 1 : Nat) : Int) := by unfold wrap64; omega
theorem n_pos (n a b : Nat) (hn : n ≤ 60) (ha : 0 < a) (hb : 0 < b) : 0 < mn (mn (a : Int) (b : Int)) (wrap64 ((wrap64 (Int.tdiv (wrap64 ((wrap64 ((n : Int) * 8)) + 7)) 8)) + 1)) := by
  rw [n_one n hn, show Int.tdiv ((n * 8 + 7 : Nat) : Int) 8 = (((n * 8 + 7) / 8 : Nat) : Int) from rfl, n_two _ (by omega)]
  generalize (n * 8 + 7) / 8 = q
  unfold mn
  split <;> split <;> omega
theorem PackMoved : rabbetlaw8_PackMoved.Pure := by
  intro l m _ _ hl hm
  have bm := bounds_i32 hm
  have hl2 : ∀ x, x ∈ l → 0 ≤ x ∧ x ≤ 255 := fun x hx => by have := bounds_u8 (hl x hx); omega
  obtain ⟨K0, e0⟩ := pack_begun
  by_cases hA : (l.length : Int) < 1
  · refine ⟨K0 + 2, ?_⟩
    unfold rabbetlaw8_PackMoved.f
    rw [e0 _ (by omega)]
    simp only [Option.bind_some, if_true]
    rw [if_pos hA]
    simp [rabbetlaw8_PackMoved.j0]
  by_cases hB : (l.length : Int) > 60
  · refine ⟨K0 + 2, ?_⟩
    unfold rabbetlaw8_PackMoved.f
    rw [e0 _ (by omega)]
    simp only [Option.bind_some, if_true]
    rw [if_neg hA, decide_eq_true hB]
    simp [rabbetlaw8_PackMoved.j0]
  have g0 := vals_good 0 (by omega) l hl2
  have gm := vals_good m (by omega) l hl2
  have n0 := vals_length 0 l
  have nm := vals_length m l
  have p0 := put_all 2 (by omega) (vals 0 l) g0 (by omega)
  have pm := put_all 2 (by omega) (vals m l) gm (by omega)
  have t0 := take_all 2 (by omega) (vals 0 l) g0 (by omega)
  have tm := take_all 2 (by omega) (vals m l) gm (by omega)
  rw [n0] at t0
  rw [nm] at tm
  obtain ⟨u0, w0, s0, P0⟩ := parts (vals 0 l) (by omega) (fun v hv => (g0 v hv).2.1)
  have hs0 := P0.short (by omega)
  have hE0 : encK (vals 0 l) = E 9 (zig (low (vals 0 l))).toNat ++ (((MBits.W (ab (vals 0 l)) : Nat) : Int) :: MBits.putS (ab (vals 0 l)) (MBits.W (ab (vals 0 l)))) := by unfold encK; rw [if_neg (by omega)]
  have hEm : encK (vals m l) = E 9 (zig (low (vals m l))).toNat ++ (((MBits.W (ab (vals 0 l)) : Nat) : Int) :: MBits.putS (ab (vals 0 l)) (MBits.W (ab (vals 0 l)))) := by unfold encK; rw [if_neg (by omega), ab_moved m l (by omega)]
  have hsl : (MBits.putS (ab (vals 0 l)) (MBits.W (ab (vals 0 l)))).length ≤ 100000 := by
    have h1 : (MBits.putS (ab (vals 0 l)) (MBits.W (ab (vals 0 l)))).length = ((ab (vals 0 l)).length * (MBits.W (ab (vals 0 l))) + 7) / 8 := MBits.bytesT_length _ _ _
    have h2 : (ab (vals 0 l)).length = l.length := by unfold ab; rw [List.length_map, n0]
    have h3 : l.length * (MBits.W (ab (vals 0 l))) ≤ 60 * 64 := Nat.mul_le_mul (by omega) (MBits.W_max _)
    rw [h2] at h1
    omega
  have hl0 := E_le 9 (zig (low (vals 0 l))).toNat
  have hlm := E_le 9 (zig (low (vals m l))).toNat
  rw [hE0] at p0 t0
  rw [hEm] at pm tm
  clear hE0 hEm P0 hs0
  generalize E 9 (zig (low (vals 0 l))).toNat = z1 at *
  generalize E 9 (zig (low (vals m l))).toNat = z2 at *
  generalize MBits.putS (ab (vals 0 l)) (MBits.W (ab (vals 0 l))) = s at *
  generalize ((MBits.W (ab (vals 0 l)) : Nat) : Int) = w at *
  have h16 := n_pos l.length (z1 ++ (w :: s)).length (z2 ++ (w :: s)).length (by omega) (by rw [List.length_append, List.length_cons]; omega) (by rw [List.length_append, List.length_cons]; omega)
  have hc := check_loop l (by omega) (by omega) m (by omega) hl2 z1 z2 s w (by omega) (by omega) hsl _ h16 l.length 0 (by omega)
  have hj2 : Ev (fun k => rabbetlaw8_PackMoved.j2 k l m (z1 ++ (w :: s)) (z2 ++ (w :: s)) (vals 0 l) (vals m l) false) true := by
    refine Ev.step (fun k => ?_) hc
    simp only [rabbetlaw8_PackMoved.j2, Bool.false_eq_true, if_false]
    rfl
  have hend : Ev (fun k => rabbetlaw8_PackMoved.l0 k l m (vals 0 l) (vals m l) (l.length : Int)) true := by
    refine Ev.step (f := fun k => (pack_Put.f k 2 (vals 0 l)).bind _) (fun k => by simp only [rabbetlaw8_PackMoved.l0]; rw [if_neg (by omega)]) (Ev.bind p0 (Ev.bind pm (Ev.bind t0 (Ev.bind tm (Ev.congr (fun k => ?_) hj2)))))
    dsimp only
    rw [if_pos rfl, if_pos rfl, if_pos rfl, if_pos rfl, if_pos (by omega), show (((vals m l).length : Int) != (l.length : Int)) = false by simp [nm]]
  obtain ⟨K1, e1⟩ := build_loop2 l (by omega) m (by omega) hl2 true hend l.length 0 (by omega)
  refine ⟨K0 + K1 + 2, ?_⟩
  unfold rabbetlaw8_PackMoved.f
  rw [e0 _ (by omega)]
  simp only [Option.bind_some, if_true]
  rw [if_neg hA, decide_eq_false hB]
  simp only [rabbetlaw8_PackMoved.j0, Bool.false_eq_true, if_false]
  exact e1 _ (by omega)
end Go.Proofs.YtigldipjkejalaaDoor.Pure
