/- log: what Make and Open do. Conditions: none. -/
import Derived.Test.YtokmildjniploaaDoorLogO
namespace Go.Proofs.YtokmildjniploaaDoor.PLog
open Go.RowKit Go.Proofs.YtokmildjniploaaDoorW.PrintWords Go.Proofs.YtokmildjniploaaDoorW.PrintLast Go.Proofs.YtokmildjniploaaDoorW.PrintMore Go.Proofs.YtokmildjniploaaDoor.BGLog
open Go.Extern.Stop Go.Stop Go.Extern
attribute [local go_sem] max2_int min2_int max_two min_two   -- for this text's walks alone
set_option linter.unusedVariables false
set_option linter.unusedSimpArgs false
/-- Rows of bytes that are only read, by where they lie. -/
abbrev Rx := Option Addr × Nat × Nat
def encX (x : Rx) : Value := .slice x.1 x.2.1 x.2.2
def kQ : Kd Rx := Kd.scalar encX (fun _ => rfl)
theorem kQ_E : kQ.E = [] := rfl
def RowX (W : World) (x : Rx) (r : List Int) : Prop := x.2.1 = r.length ∧ x.2.1 ≤ x.2.2 ∧ RowK W x.1 x.2.1 r
theorem RowX.move {W W1 : World} {x : Rx} {r : List Int} (h : RowX W x r) (k : KeepU W W1) : RowX W1 x r := ⟨h.1, h.2.1, h.2.2.move k⟩
theorem rows_C {W : World} {A : Option Addr} {n : Nat} {xs : List Rx} {recs : List (List Int)} (h : Kd.C kQ W A n xs) (he : Each (RowX W) xs recs) : Kd.C (Kd.slice 5 (Kd.int .u8)) W A n recs := by
  obtain ⟨h1, h2, h3⟩ := h
  refine ⟨he.1.symm.trans h1, h2, fun hp => ?_⟩
  obtain ⟨ad, e, hh⟩ := h3 hp
  refine ⟨ad, e, fun j p hj => ?_⟩
  have hjl : j < recs.length := by
    rcases Nat.lt_or_ge j recs.length with c | c
    · exact c
    · rw [List.getElem?_eq_none c] at hj; cases hj
  obtain ⟨x, hx, hX⟩ := he.at_ j hjl
  have hp2 : recs[j] = p := by rw [List.getElem?_eq_getElem hjl] at hj; exact Option.some.inj hj
  rw [hp2] at hX
  obtain ⟨cs, hlen, hK, hcell⟩ := hh j x hx
  refine ⟨cs, hlen, ⟨x.1, x.2.2, ?_, ?_, ?_⟩, hcell⟩
  · rw [← hX.1]; exact hK
  · rw [← hX.1]; exact hX.2.1
  · rw [← hX.1]; exact hX.2.2.C
section
variable {W W1 : World} {ok : Nat → Prop} {gd gl : Nat} {D : Dat} {area gen used : Nat} {row : Option Nat}
/-- Behind what writes a row of rows that is none of its own. -/
theorem LogAt.grownO (h : LogAt W ok gd gl D area gen used) (hg : W.grownBy W1 row) (hr : ∀ k, row = some k → ¬ ok k ∧ (k < W.heap.size → ∃ cs, W.heap[k]? = some (Obj.cells cs 35 (0, 0)))) : LogAt W1 ok gd gl D area gen used :=
  ⟨h.dev.step (fun k cs t hk hc _ => hg.block k (heap_lt' hc) (fun e => (hr k e.symm).1 hk)) (fun k cs hc => hg.block k (heap_lt' hc) (fun e => by
    obtain ⟨cs2, h2⟩ := (hr k e.symm).2 (heap_lt' hc)
    rw [hc] at h2
    injection h2 with h2
    injection h2 with _ h2 _
    exact absurd h2 (by decide))), (hg.block gl (blk_lt h.box) (fun e => (hr gl e.symm).1 h.here)).trans h.box, h.here⟩
theorem keepU_grown (hg : W.grownBy W1 row) (hr : ∀ k, row = some k → (k < W.heap.size → ∃ cs, W.heap[k]? = some (Obj.cells cs 35 (0, 0)))) : KeepU W W1 := fun k cs hc => hg.block k (heap_lt' hc) (fun e => by
  obtain ⟨cs2, h2⟩ := hr k e.symm (heap_lt' hc)
  rw [hc] at h2
  injection h2 with h2
  injection h2 with _ h2 _
  exact absurd h2 (by decide))
theorem keepU_rec {u2 : Nat} {gd area gen used : Nat} (hst : (∃ w1, Below W.heap.size W w1 ∧ W1 = w1.setCell ⟨gl, 3, none⟩ (.int .i64 (u2 : Int))) ∨ Below W.heap.size W W1) (hb : Lbx W gl gd area gen used) : KeepU W W1 := by
  rcases hst with ⟨w1, h1, rfl⟩ | h1
  · intro k cs hc
    have hne : k ≠ gl := fun e => by
      rw [e, hb] at hc
      injection hc with hc
      injection hc with _ hc _
      exact absurd hc (by decide)
    exact (Below.heap_setCell w1 ⟨gl, 3, none⟩ _ k hne).trans (h1.block k (heap_lt' hc))
  · exact keepU_below h1
theorem R_rec {u2 B : Nat} {gd area gen used : Nat} {okr : Nat → Prop} {v : Value} {xs : List Rx} (hst : (∃ w1, Below W.heap.size W w1 ∧ W1 = w1.setCell ⟨gl, 3, none⟩ (.int .i64 (u2 : Int))) ∨ Below W.heap.size W W1) (h : Kd.R kQ 35 W B okr v xs) (hb : Lbx W gl gd area gen used) : Kd.R kQ 35 W1 B okr v xs := by
  rcases hst with ⟨w1, h1, rfl⟩ | h1
  · exact Kd.R_set (Kd.R_below h h1) (blk_below hb h1) (by rw [kQ_E]; simp) _ _
  · exact Kd.R_below h h1
end
/-! ### Make -/
theorem Make_nil (a : Int) (v : Value) (w : World) : Calls Tryd.prog 10 #[.pointer none, .int .i64 a, v] w fun e w' => e = .returned (.int .i64 1) ∧ w = w' := by
  go_enter Tryd.func10, Tryd.ntmps10
  go_wp2_with (go_at_call 22; (refine (may_nil a _).mono ?_); rintro e w1 ⟨rfl, rfl⟩)
  go_ret
  exact ⟨rfl, rfl⟩
theorem Make_no (ok : Nat → Prop) (gd : Nat) (D : Dat) (a : Int) (v : Value) (w : World) (h : DevAt w ok gd D) (hm : mayB D a = false) :
    Calls Tryd.prog 10 #[.pointer (some ⟨gd, 0, none⟩), .int .i64 a, v] w fun e w' => e = .returned (.int .i64 1) ∧ Below w.heap.size w w' := by
  have HD := Aside0.mk h
  clear h
  go_enter Tryd.func10, Tryd.ntmps10
  go_wp2_with (go_at_call 22; (refine (may_ ok gd D a _ HD.out).mono ?_); rintro e w1 ⟨rfl, hb⟩; rw [hm]; have HB := Aside0.mk hb; clear hb)
  go_ret
  exact ⟨rfl, HB.out⟩
theorem newLog {w : World} {ok : Nat → Prop} {gd : Nat} {D : Dat} {area : Nat} (h : DevAt w ok gd D) (hk : ok w.heap.size) :
    LogAt (w.alloc (.cells #[.pointer (some ⟨gd, 0, none⟩), .int .i64 (area : Int), .int .u32 0, .int .i64 0] 58)) ok gd w.heap.size D area 0 0 :=
  ⟨h.below (below_alloc (Below.refl _ _) _), heap_alloc_new _ _, hk⟩
set_option maxHeartbeats 8000000 in
set_option maxRecDepth 100000 in
theorem Make_ (nb m : Nat) (ok : Nat → Prop) (gd : Nat) (D : Dat) (area : Nat) (A : Option Addr) (c : Nat) (recs : List (List Int)) (w : World) (h : DevAt w ok gd D) (hfr : ∀ k, w.heap.size ≤ k → ok k) (hm : mayB D (area : Int) = true) (hnb : nb ≤ 1000000) (hmb : m ≤ 800000) (hGD : Good nb m D)
    (hR : ∀ w' (hf : Fr ok logT w w'), Kd.C (Kd.slice 5 (Kd.int .u8)) w' A recs.length recs) (hc : recs.length ≤ c) (hr : ∀ r, r ∈ recs → r.length ≤ 65536) (hrl : recs.length ≤ 100000) (hs : sumS recs ≤ area) :
    Calls Tryd.prog 10 #[.pointer (some ⟨gd, 0, none⟩), .int .i64 (area : Int), .slice A recs.length c] w fun e w' => e = .returned (.int .i64 0) ∧ DevAt w' ok gd (anewD area 1 D recs) ∧ Fr ok logT w w' := by
  have ha : area ≤ 1000 := by have := of_decide_eq_true hm; omega
  have HMY := Aside0.mk (may_ ok gd D (area : Int) w h)
  have HAN := Aside0.mk (fun W (hb : Below w.heap.size w W) => Anew_gen nb m ok gd W.heap.size D area 0 0 A c recs (W.alloc (.cells #[.pointer (some ⟨gd, 0, none⟩), .int .i64 (area : Int), .int .u32 0, .int .i64 0] 58)) (newLog (h.below hb) (hfr _ hb.size)) (fun k hk => hfr k (Nat.le_trans hb.size (Nat.le_trans (by rw [World.size_alloc]; omega) hk))) ha (by decide) hnb hmb hGD (fun w' hf => hR w' ((Fr.of_below (below_alloc hb _)).trans hf)) hc hr hrl)
  have HSS := Aside0.mk hs
  clear h hR hr hfr hGD hs hrl
  rw [hm] at HMY
  clear hm
  go_enter Tryd.func10, Tryd.ntmps10
  go_wp2_with (first | (go_at_call 22; (refine HMY.out.mono ?_); rintro e w1 ⟨rfl, hb⟩; have HB := Aside0.mk hb; clear hb) | (go_at_call 15; (refine (HAN.out w1 HB.out).mono ?_); rintro e w2 ⟨hh, hf⟩; rcases hh with ⟨hlt, _⟩ | ⟨_, he, hl⟩; exact absurd HSS.out (by omega); subst he; have HL := Aside0.mk hl; have HF := Aside0.mk ((Fr.of_below (below_alloc HB.out _)).trans hf); clear hl hf HAN))
  go_ret
  exact ⟨rfl, HL.out.dev, HF.out⟩
/-! ### Open -/
theorem Open_nil (a : Int) (w : World) : Calls Tryd.prog 11 #[.pointer none, .int .i64 a] w fun e w' => e = .returned (.tuple #[.pointer none, .slice none 0 0, .int .i64 1]) ∧ w = w' := by
  go_enter Tryd.func11, Tryd.ntmps11
  go_wp2_with (go_at_call 22; (refine (may_nil a _).mono ?_); rintro e w1 ⟨rfl, rfl⟩)
  go_ret3
  exact ⟨rfl, rfl⟩
theorem Open_no (ok : Nat → Prop) (gd : Nat) (D : Dat) (a : Int) (w : World) (h : DevAt w ok gd D) (hm : mayB D a = false) :
    Calls Tryd.prog 11 #[.pointer (some ⟨gd, 0, none⟩), .int .i64 a] w fun e w' => e = .returned (.tuple #[.pointer none, .slice none 0 0, .int .i64 1]) ∧ Below w.heap.size w w' := by
  have HD := Aside0.mk h
  clear h
  go_enter Tryd.func11, Tryd.ntmps11
  go_wp2_with (go_at_call 22; (refine (may_ ok gd D a _ HD.out).mono ?_); rintro e w1 ⟨rfl, hb⟩; rw [hm]; have HB := Aside0.mk hb; clear hb)
  go_ret3
  exact ⟨rfl, HB.out⟩
/-- Which generation the slots tell. -/
def genTo (D : Dat) : Nat → Nat
  | 0 => 0
  | i + 1 => if slotB (rowAt D (i : Int)) i = true then max (genTo D i) (numS (rowAt D (i : Int))) else genTo D i
theorem genTo_lt (D : Dat) : ∀ i, genTo D i < 4294967295
  | 0 => (by decide : 0 < 4294967295)
  | i + 1 => by
    unfold genTo
    have := genTo_lt D i
    split
    · rename_i h
      unfold slotB at h
      rw [Bool.and_eq_true, Bool.and_eq_true] at h
      have := of_decide_eq_true h.1.2
      unfold mark at this
      omega
    · exact this
def recAll (D : Dat) (area gen : Nat) : Nat → Nat → List (List Int)
  | 0, _ => []
  | f + 1, u => match recordS D area gen u with
    | none => []
    | some r => r :: recAll D area gen f (u + chN (4 + r.length))
def openRecs (D : Dat) (area gen : Nat) : List (List Int) := recAll D area gen (area + 1) 0
theorem recAll_sum (D : Dat) (area gen : Nat) : ∀ (f u : Nat), u ≤ area → u + sumS (recAll D area gen f u) ≤ area ∧ (∀ r, r ∈ recAll D area gen f u → r.length ≤ 65536) ∧ (recAll D area gen f u).length ≤ f
  | 0, u, h => ⟨h, (fun r hr => absurd hr List.not_mem_nil), Nat.le_refl _⟩
  | f + 1, u, h => by
    unfold recAll
    cases hr : recordS D area gen u with
    | none => exact ⟨h, fun r hr => (by cases hr), Nat.zero_le _⟩
    | some r =>
      have h1 := recordS_some h hr
      have h2 := recAll_sum D area gen f (u + chN (4 + r.length)) h1.1
      dsimp only
      refine ⟨?_, fun x hx => ?_, ?_⟩
      · have e : sumS (r :: recAll D area gen f (u + chN (4 + r.length))) = chN (4 + r.length) + sumS (recAll D area gen f (u + chN (4 + r.length))) := by unfold sumS; simp
        rw [e]; omega
      · rcases List.mem_cons.1 hx with rfl | hx
        · exact h1.2
        · exact h2.2.1 x hx
      · rw [List.length_cons]; omega
theorem isErr (GA : Nat → Addr) (c : Int) (hc : c = 2 ∨ c = 3) (w : World) (hG : Glob GA w) :
    Calls Tryd.prog 25 #[errW GA (some c), .iface 108 (.pointer (some (GA 0)))] w fun e w' => e = .returned (.bool true) ∧ Below w.heap.size w w' := by
  have h := errors_IsS.callsJ GA c 0 w hG (by decide)
  have e : decide (errG c = 0) = true := by rcases hc with rfl | rfl <;> rfl
  rw [e] at h
  exact h
theorem isNilErr (GA : Nat → Addr) (w : World) (hG : Glob GA w) :
    Calls Tryd.prog 25 #[.nilIface, .iface 108 (.pointer (some (GA 0)))] w fun e w' => e = .returned (.bool false) ∧ Below w.heap.size w w' :=
  (errors_IsN.calls GA () 0 false w hG rfl).mono fun e w' h => ⟨h.1, h.2.below⟩
/-- What a record's call hands on to the loop: nothing more, or a record. -/
def Pend (GA : Nat → Addr) (W : World) (D : Dat) (area gen u : Nat) (v12 v13 : Value) (u2 : Nat) : Prop :=
  (recordS D area gen u = none ∧ u2 = u ∧ ∃ c : Int, (c = 2 ∨ c = 3) ∧ v13 = errW GA (some c)) ∨
  (∃ r x, recordS D area gen u = some r ∧ u2 = u + chN (4 + r.length) ∧ v13 = .nilIface ∧ v12 = encX x ∧ RowX W x r)
set_option maxHeartbeats 32000000 in
set_option maxRecDepth 100000 in
theorem Open_ (GA : Nat → Addr) (nb m : Nat) (ok : Nat → Prop) (gd : Nat) (D : Dat) (area : Nat) (w : World) (h : DevAt w ok gd D) (hfr : ∀ k, w.heap.size ≤ k → ok k) (hm : mayB D (area : Int) = true) (hnb : nb ≤ 1000000) (hmb : m ≤ 800000) (hGD : Good nb m D) (hB : Byt D.seen) (hG : Glob GA w) (hg1 : genTo D 2 < 4294967293) :
    Calls Tryd.prog 11 #[.pointer (some ⟨gd, 0, none⟩), .int .i64 (area : Int)] w fun e w' =>
      (genTo D 2 = 0 ∧ e = .returned (.tuple #[.pointer none, .slice none 0 0, .int .i64 2]) ∧ Below w.heap.size w w') ∨
      (genTo D 2 ≠ 0 ∧ ∃ gl A c xs okN, e = .returned (.tuple #[.pointer (some ⟨gl, 0, none⟩), .slice A (openRecs D area (genTo D 2)).length c, .int .i64 0]) ∧
        LogAt w' okN gd gl (anewD area (genTo D 2 + 1) D (openRecs D area (genTo D 2))) area (genTo D 2 + 1) (sumS (openRecs D area (genTo D 2))) ∧ (∀ k, okN k → ok k) ∧ (∀ k, w'.heap.size ≤ k → okN k) ∧ Fr ok logT w w' ∧
        Kd.R kQ 35 w' w.heap.size (fun k => ¬ okN k) (.slice A (openRecs D area (genTo D 2)).length c) xs ∧ Each (RowX w') xs (openRecs D area (genTo D 2))) := by
  have ha : 1 ≤ area ∧ area ≤ 1000 := by have := of_decide_eq_true hm; omega
  have HMY := Aside0.mk (may_ ok gd D (area : Int) w h)
  have HD := Aside0.mk h.bound
  have HFR := Aside0.mk hfr
  have HGD := Aside0.mk hGD
  have HBY := Aside0.mk hB
  have HG := Aside0.mk hG
  have HSN := Aside0.mk (show D.seen.length ≤ 1000000 by have := hGD.seen; omega)
  clear h hfr hGD hB hG
  rw [hm] at HMY
  clear hm
  obtain ⟨G, hGe⟩ : ∃ G, genTo D 2 = G := ⟨_, rfl⟩
  have HGE := Aside0.mk hGe
  rw [hGe] at hg1 ⊢
  have HG1 := Aside0.mk hg1
  clear hGe hg1
  go_enter Tryd.func11, Tryd.ntmps11
  go_upto_region 4 with (go_at_call 22; (refine HMY.out.mono ?_); rintro e w1 ⟨rfl, hb⟩; have HB := Aside0.mk hb; clear hb HMY)
  obtain ⟨gl, hgl⟩ : ∃ gl, w1.heap.size = gl := ⟨_, rfl⟩
  obtain ⟨okD, hokD⟩ : ∃ okD : Nat → Prop, okD = fun k => (ok k ∧ k < w.heap.size) ∨ k = gl := ⟨_, rfl⟩
  have HOD1 := Aside0.mk (show ∀ k, okD k → (ok k ∧ k < w.heap.size) ∨ k = gl from fun k hk => by rw [hokD] at hk; exact hk)
  have HL := Aside0.mk (newLog (ok := okD) (area := area) ((HD.out.mono (fun k hk => by rw [hokD]; exact .inl hk)).below HB.out) (by rw [hokD]; exact .inr hgl))
  clear hokD
  have n0 := Aside0.mk (below_alloc HB.out (.cells #[.pointer (some ⟨gd, 0, none⟩), .int .i64 (area : Int), .int .u32 0, .int .i64 0] 58))
  have HGL := Aside0.mk (show w.heap.size ≤ gl by rw [← hgl]; exact HB.out.size)
  clear HB HD
  have HB := n0
  clear n0
  rw [hgl] at HL ⊢
  clear hgl
  generalize w1.alloc (.cells #[.pointer (some ⟨gd, 0, none⟩), .int .i64 (area : Int), .int .u32 0, .int .i64 0] 58) = w2 at HL HB ⊢
  go_wp2
  go_loopg [23] 3 (fun kq v23 w3 => ∃ i : Nat, v23 = .int .i64 (i : Int) ∧ Aside0 (i ≤ 2 ∧ 2 < kq + i) ∧ Aside0 (LogAt w3 okD gd gl D area (genTo D i) 0) ∧ Aside0 (Below w.heap.size w w3))
  case atStart => exact ⟨0, rfl, ⟨by omega, by omega⟩, HL, HB⟩
  case round =>
    clear HL HB
    obtain ⟨i, rfl, HI, HL, HB⟩ := hrel
    by_cases hlt : i < 2
    · have e1 : decide ((i : Int) < 2) = true := decide_eq_true (by omega)
      have e2 : decide (i < 2) = true := decide_eq_true hlt
      have e3 : (i : Int) < 2 := by omega
      have hw1 : IntKind.i64.wrap ((i : Int) + 1) = ((i + 1 : Nat) : Int) := by rw [IntKind.wrap_i64]; omega
      have HLT := Aside0.mk hlt
      have HSL := Aside0.mk (slot GA okD gd D i wr HL.out.dev hlt HSN.out HBY.out (Glob.below HG.out HB.out))
      obtain ⟨sb, hsb⟩ : ∃ sb, slotB (rowAt D (i : Int)) i = sb := ⟨_, rfl⟩
      obtain ⟨nm, hnm⟩ : ∃ nm, numS (rowAt D (i : Int)) = nm := ⟨_, rfl⟩
      obtain ⟨gi, hgi⟩ : ∃ gi, genTo D i = gi := ⟨_, rfl⟩
      rw [hsb, hnm] at HSL
      rw [hgi] at HL
      have hgn : genTo D (i + 1) = if sb = true then max gi nm else gi := by show (if slotB (rowAt D (i : Int)) i = true then max (genTo D i) (numS (rowAt D (i : Int))) else genTo D i) = _; rw [hsb, hnm, hgi]
      have HGN := Aside0.mk hgn
      have hmx : (if (gi : Int) < (nm : Int) then (nm : Int) else (gi : Int)) = ((max gi nm : Nat) : Int) := by split <;> omega
      have hmx2 : (if gi < nm then (nm : Int) else (gi : Int)) = ((max gi nm : Nat) : Int) := by split <;> omega
      clear hlt hsb hnm hgi hgn
      cases sb with
      | false =>
        go_wp2_with (go_at_call 23; (refine HSL.out.mono ?_); rintro e w4 ⟨rfl, hb⟩; have n0 := Aside0.mk (HL.out.below hb); have n1 := Aside0.mk (below_step HB.out hb); clear HL HB hb HSL; have HL := n0; have HB := n1; clear n0 n1)
        go_roundg (gk - 1)
        case measure => have := HI.out; omega
        case rel => exact ⟨i + 1, by first | rfl | go_num, ⟨by have := HLT.out; omega, by have := HI.out; omega⟩, ⟨by rw [HGN.out, if_neg (by decide)]; exact HL.out⟩, HB⟩
      | true =>
        obtain ⟨mx, hmxe⟩ : ∃ mx, max gi nm = mx := ⟨_, rfl⟩
        rw [hmxe] at hmx hmx2
        have HGN2 := Aside0.mk (show genTo D (i + 1) = mx by rw [HGN.out, if_pos rfl, hmxe])
        clear hmxe
        go_wp2_with (go_at_call 23; (refine HSL.out.mono ?_); rintro e w4 ⟨rfl, hb⟩; have n0 := Aside0.mk (HL.out.below hb); have n1 := Aside0.mk (below_step HB.out hb); clear HL HB hb HSL; have HL := n0; have HB := n1; clear n0 n1; have x2 := blk_cell HL.out.box 2; have f2 := blk_frozen HL.out.box 2)
        go_roundg (gk - 1)
        case measure => have := HI.out; omega
        case rel => exact ⟨i + 1, by first | rfl | go_num, ⟨by have := HLT.out; omega, by have := HI.out; omega⟩, ⟨by rw [HGN2.out]; exact (HL.out.set_gen mx).1⟩, ⟨below_set HB.out HGL.out⟩⟩
    · have e1 : decide ((i : Int) < 2) = false := decide_eq_false (by omega)
      have e2 : decide (i < 2) = false := decide_eq_false hlt
      have e3 : ¬ (i : Int) < 2 := by omega
      obtain rfl : i = 2 := by have := HI.out; omega
      rw [HGE.out] at HL
      clear hlt HI
      have x2 := blk_cell HL.out.box 2
      by_cases h0 : G = 0
      · rw [h0] at x2
        have HZ := Aside0.mk h0
        clear h0
        go_wp2
        go_ret3
        exact .inl ⟨HZ.out, rfl, HB.out⟩
      have b0 : ((G : Int) == 0) = false := beq_eq_false_iff_ne.mpr (by omega)
      have b1 : ((G : Int) = 0) = False := eq_false (by omega)
      have HZ := Aside0.mk h0
      clear h0
      have hgc := HG1.out
      have HREC := Aside0.mk (fun u W (hl : LogAt W okD gd gl D area G u) (hu : u ≤ area) (hb : Below w.heap.size w W) => record_ GA okD gd gl D area G u W hl ha.2 hu (by omega) HSN.out HBY.out (Glob.below HG.out hb))
      have HPD := Aside0.mk (fun (e : Ending) (u : Nat) (W w' : World) (hb0 : Below w.heap.size w W) (h : RecPost GA okD gd gl D area G u W e w') => show ∃ v12 v13 u2, e = .returned (.tuple #[v12, v13]) ∧ Pend GA w' D area G u v12 v13 u2 ∧ LogAt w' okD gd gl D area G u2 ∧ Below w.heap.size w w' ∧ Below W.heap.size W W ∧ ((∃ w1, Below W.heap.size W w1 ∧ w' = w1.setCell ⟨gl, 3, none⟩ (.int .i64 (u2 : Int))) ∨ Below W.heap.size W w') from by
        rcases h with ⟨h1, ⟨c, hc, he⟩, h3, h4⟩ | ⟨r, A, c, h1, he, h3, h4, h5, w1, h6, h7⟩
        · exact ⟨_, _, u, he, .inl ⟨h1, rfl, c, hc, rfl⟩, h3, below_step hb0 h4, Below.refl _ _, .inr h4⟩
        · exact ⟨_, _, _, he, .inr ⟨r, (A, r.length, c), h1, rfl, rfl, rfl, rfl, h3, h4⟩, h5, by rw [h7]; exact below_set (below_step hb0 h6) HGL.out, Below.refl _ _, .inl ⟨w1, h6, h7⟩⟩)
      go_upto_region 15 with (go_at_call 24; (refine (HREC.out 0 _ HL.out (Nat.zero_le _) HB.out).mono ?_); intro e w5 hrp; obtain ⟨v12, v13, u2, he, hpd, hl, hb, _, hst⟩ := HPD.out e 0 _ w5 HB.out hrp; subst he; have HPE := Aside0.mk hpd; clear HL HB x2; have HL := Aside0.mk hl; have HB := Aside0.mk hb; clear hrp hpd hl hb hst)
      obtain ⟨ALL, hALL⟩ : ∃ ALL, openRecs D area G = ALL := ⟨_, rfl⟩
      have hAS := recAll_sum D area G (area + 1) 0 (Nat.zero_le _)
      rw [show recAll D area G (area + 1) 0 = ALL from hALL, Nat.zero_add] at hAS
      have HAS := Aside0.mk hAS
      have HALL := Aside0.mk hALL
      have hALL0 : recAll D area G (area + 1) 0 = ALL := hALL
      clear hAS hALL
      go_loopg [11, 12, 13] (area + 2) (fun kq v11 v12 v13 w6 => ∃ (xsr : List Rx) (dn : List (List Int)) (u u2 f : Nat), Aside0 (dn ++ recAll D area G f u = ALL ∧ f + dn.length = area + 1 ∧ dn.length ≤ u ∧ u ≤ area ∧ f < kq) ∧ Aside0 (Pend GA w6 D area G u v12 v13 u2) ∧ Aside0 (LogAt w6 okD gd gl D area G u2) ∧ Aside0 (Below w.heap.size w w6) ∧ Aside0 (Kd.R kQ 35 w6 w.heap.size (fun _ => True) v11 xsr) ∧ Aside0 (Each (RowX w6) xsr dn))
      case atStart => exact ⟨[], [], 0, u2, area + 1, ⟨hALL0, rfl, Nat.le_refl _, Nat.zero_le _, by omega⟩, HPE, HL, HB, ⟨Kd.R_nil _ _ _ _ _⟩, ⟨Each.nil⟩⟩
      case round =>
        clear HPE HL HB hALL0
        obtain ⟨xsr, dn, u, u2, f, HI, HPE, HL, HB, HX, HE⟩ := hrel
        obtain ⟨A11, c11, rfl⟩ := Kd.R_slice HX.out
        have HXL := Aside0.mk (show xsr.length = dn.length from HE.out.1)
        obtain ⟨f1, hf1⟩ : ∃ f1, f = f1 + 1 := ⟨f - 1, by have := HI.out; omega⟩
        have HF1 := Aside0.mk hf1
        have hc0 := (Glob.below HG.out HB.out).c0
        rcases HPE.out with ⟨hn, hu2, c, hc, rfl⟩ | ⟨r, x, hs, hu2, rfl, rfl, hX⟩
        · have hdn : dn = ALL := by
            have h := HI.out.1
            rw [hf1] at h
            unfold recAll at h
            rw [hn] at h
            rw [← h]
            exact (List.append_nil _).symm
          have HCC := Aside0.mk hc
          have HU2 := Aside0.mk hu2
          subst hdn
          clear hn hu2 hf1 HPE
          have hdl := HAS.out.2.2
          go_upto_region 18 with (go_at_call 25; (refine (isErr GA c HCC.out _ (Glob.below HG.out HB.out)).mono ?_); rintro e w7 ⟨rfl, hb⟩; have n0 := Aside0.mk (HL.out.below hb); have n1 := Aside0.mk (below_step HB.out hb); have n2 := Aside0.mk (Kd.R_below HX.out hb); have n3 := Aside0.mk (HE.out.imp (fun x y h => h.move (keepU_below hb))); clear HL HB HX HE hb hc0; have HL := n0; have HB := n1; have HX := n2; have HE := n3; clear n0 n1 n2 n3)
          obtain ⟨okN, hokN⟩ : ∃ okN : Nat → Prop, okN = fun k => okD k ∨ w7.heap.size ≤ k := ⟨_, rfl⟩
          have HON := Aside0.mk (show ∀ k, okN k → okD k ∨ w7.heap.size ≤ k from fun k hk => by rw [hokN] at hk; exact hk)
          have HON2 := Aside0.mk (show ∀ k, okD k ∨ w7.heap.size ≤ k → okN k from fun k hk => by rw [hokN]; exact hk)
          clear hokN
          have HXN := Aside0.mk (show Kd.R kQ 35 w7 w.heap.size (fun k => ¬ okN k) (.slice A11 xsr.length c11) xsr from Kd.R_reok kQ_E HX.out (fun k hk h => by
            have h1 := Kd.R_lt HX.out k hk
            have h2 := Kd.R_base HX.out k hk
            obtain ⟨cs, h3⟩ := Kd.R_typed HX.out k hk
            rcases HON.out k h with h4 | h4
            · rcases HOD1.out k h4 with h5 | h5
              · omega
              · rw [h5, HL.out.box] at h3
                injection h3 with h3
                injection h3 with _ h3 _
                exact absurd h3 (by decide)
            · omega))
          have HRW := Aside0.mk (fun w' (hf : Fr okN logT w7 w') => show Kd.R kQ 35 w' w.heap.size (fun k => ¬ okN k) (.slice A11 xsr.length c11) xsr ∧ Each (RowX w') xsr dn from
            ⟨Kd.R_move HXN.out (fun k hk => hf.block k (by rcases Nat.lt_or_ge k w7.heap.size with h | h; exact h; exact absurd (HON2.out k (.inr h)) hk) hk), HE.out.imp (fun x y h => h.move (keepU_fr hf))⟩)
          have hcc := (Kd.R_reads' HX.out).2.1
          have HAN := Aside0.mk (Anew_gen nb m okN gd gl D area G u2 A11 c11 dn w7 (HL.out.mono (fun k hk => HON2.out k (.inl hk))) (fun k hk => HON2.out k (.inr hk)) ha.2 (by have := HG1.out; omega) hnb hmb HGD.out (fun w' hf => by rw [← HXL.out]; exact rows_C (Kd.R_reads' (HRW.out w' hf).1).2.2 (HRW.out w' hf).2) (by rw [← HXL.out]; exact hcc) HAS.out.2.1 (by omega))
          rw [← HXL.out] at HAN
          have HSA := Aside0.mk (show sumS dn ≤ area from HAS.out.1)
          have HBB := Aside0.mk HB.out
          clear HL HX HE HXN hcc hdl
          go_wp2_with (go_at_call 15; (refine HAN.out.mono ?_); rintro e w8 ⟨hh, hf⟩; rcases hh with ⟨hlt, _⟩ | ⟨_, he, hl⟩; exact absurd HSA.out (by omega); subst he; have HL := Aside0.mk hl; have HF := Aside0.mk hf; clear hl hf HAN)
          go_ret3
          have h1 := HRW.out _ HF.out
          refine .inr ⟨HZ.out, gl, A11, c11, xsr, okN, ?_, ?_, ?_, ?_, ?_, ?_, ?_⟩
          · rw [HALL.out, ← HXL.out]; rfl
          · rw [HALL.out]; exact HL.out
          · exact fun k hk => (HON.out k hk).elim (fun h => (HOD1.out k h).elim (fun h => h.1) (fun h => h ▸ HFR.out _ HGL.out)) (fun h => HFR.out k (Nat.le_trans HBB.out.size h))
          · exact fun k hk => HON2.out k (.inr (Nat.le_trans HF.out.size hk))
          · exact (Fr.of_below HBB.out).trans (HF.out.mono (fun k hk => (HON.out k hk).elim (fun h => (HOD1.out k h).elim (fun h => h.1) (fun h => h ▸ HFR.out _ HGL.out)) (fun h => HFR.out k (Nat.le_trans HBB.out.size h))) (fun _ h => h))
          · rw [HALL.out, ← HXL.out]; exact h1.1
          · rw [HALL.out]; exact h1.2
        · have hsm := recordS_some (HI.out.2.2.2.1) hs
          have hch : 1 ≤ chN (4 + r.length) := by unfold chN; omega
          have hnx : dn ++ [r] ++ recAll D area G f1 u2 = ALL := by
            have h := HI.out.1
            rw [hf1] at h
            unfold recAll at h
            rw [hs] at h
            dsimp only at h
            rw [← h, hu2, List.append_assoc]
            rfl
          have HNX := Aside0.mk hnx
          have HU2 := Aside0.mk (show u2 ≤ area ∧ dn.length + 1 ≤ u2 by have := HI.out.2.2.1; omega)
          have hxb : xsr.length ≤ 1000 := by have := HI.out; have := HXL.out; omega
          obtain ⟨xA, xn, xc⟩ := x
          have HXX := Aside0.mk hX
          clear hsm hs hu2 hnx hch HPE hf1 hX
          have hec : encX (xA, xn, xc) = .slice xA xn xc := rfl
          rw [hec]
          clear hec
          go_wp2_with (first
            | (go_at_call 25; (refine (isNilErr GA _ (Glob.below HG.out HB.out)).mono ?_); rintro e w7 ⟨rfl, hb⟩; have n0 := Aside0.mk (HL.out.below hb); have n1 := Aside0.mk (below_step HB.out hb); have n2 := Aside0.mk (Kd.R_below HX.out hb); have n3 := Aside0.mk (HE.out.imp (fun x y h => h.move (keepU_below hb))); have n4 := Aside0.mk (HXX.out.move (keepU_below hb)); clear HL HB HX HE HXX hb hc0; have HL := n0; have HB := n1; have HX := n2; have HE := n3; have HXX := n4; clear n0 n1 n2 n3 n4)
            | ((with_reducible refine gate_builtin (b := .append) (xs := #[.tmp 57, .tmp 59]) rfl ?_); at_builtin; refine Kd.R_append kQ (w0 := w) w.heap.size rfl (.tmp 57) (.tmp 59) 31 35 (.slice none 0 0) 24 rfl Tryd.underlying31 infoB rfl (by decide) (by omega) (.slice A11 xsr.length c11) xsr ((xA, xn, xc) : Rx) [.slice xA xn xc] (fun _ => True) (fun _ => False) rfl (by first | (go_simp; done) | (go_simp; rfl)) ?aP (fun _ hk => hk.elim) ?aF ?aO ?aB ?aS ?aL ?_; (case aP => exact rfl); (case aB => exact HB.out); (case aF => exact fun _ _ => trivial); (case aO => exact HX.out); (case aS => exact HB.out.size); (case aL => omega); intro v1 w8 ho hb hg hat; have hrk : ∀ k, (Value.slice A11 xsr.length c11).ownBlock = some k → ¬ okD k ∧ (k < w7.heap.size → ∃ cs, w7.heap[k]? = some (Obj.cells cs 35 (0, 0))) := (fun k hk => ⟨fun h => (by obtain ⟨cs, h3⟩ := Kd.R_typed HX.out k hk; have h2 := Kd.R_base HX.out k hk; rcases HOD1.out k h with h5 | h5; omega; rw [h5, HL.out.box] at h3; injection h3 with h3; injection h3 with _ h3 _; exact absurd h3 (by decide)), fun _ => Kd.R_typed HX.out k hk⟩); have n0 := Aside0.mk (HL.out.grownO hg hrk); have n1 := Aside0.mk hb; have n2 := Aside0.mk ho; have n3 := Aside0.mk ((HE.out.imp (fun x y h => h.move (keepU_grown hg (fun k hk => (hrk k hk).2)))).snoc (HXX.out.move (keepU_grown hg (fun k hk => (hrk k hk).2)))); clear HL HB HX HE HXX ho hb hg hat hrk; have HL := n0; have HB := n1; have HX := n2; have HE := n3; clear n0 n1 n2 n3)
            | (go_at_call 24; (refine (HREC.out u2 _ HL.out HU2.out.1 HB.out).mono ?_); intro e w9 hrp; obtain ⟨v12, v13, u3, he, hpd, hl, hb, _, hst⟩ := HPD.out e u2 _ w9 HB.out hrp; subst he; have hku := keepU_rec hst HL.out.box; have hrx := R_rec hst HX.out HL.out.box; have n3 := Aside0.mk (HE.out.imp (fun x y h => h.move hku)); have n2 := Aside0.mk hrx; have HPE := Aside0.mk hpd; clear HL HB HX HE hrx hku; have HL := Aside0.mk hl; have HB := Aside0.mk hb; have HX := n2; have HE := n3; clear hrp hpd hl hb hst n2 n3))
          go_roundg (gk - 1)
          case measure => have := HI.out; omega
          case rel => exact ⟨xsr ++ [(xA, xn, xc)], dn ++ [r], u2, u3, f1, ⟨HNX.out, by have := HI.out; have := HF1.out; rw [List.length_append]; simp; omega, by have := HU2.out; rw [List.length_append]; simp; omega, HU2.out.1, by have := HI.out; have := HF1.out; omega⟩, HPE, HL, HB, HX, HE⟩
end Go.Proofs.YtokmildjniploaaDoor.PLog
