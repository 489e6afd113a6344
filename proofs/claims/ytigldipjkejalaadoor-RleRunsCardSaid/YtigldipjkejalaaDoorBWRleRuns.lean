/- Any values out of picks; which values may be, by the program and by the document; and the loops of a law over all types. Conditions: none. -/
import Derived.Test.YtigldipjkejalaaDoorPRleRunsx7
import Derived.Test.YtigldipjkejalaaDoorMStr
namespace Go.Proofs.YtigldipjkejalaaDoor.BWRleRuns
open Go.RowKit Go.Proofs.YtigldipjkejalaaDoor.PRleRuns Go.Proofs.YtigldipjkejalaaDoorW.PrintWords Go.Proofs.YtigldipjkejalaaDoorW.PrintLast Go.Proofs.YtigldipjkejalaaDoorW.PrintMore
set_option linter.unusedVariables false

def ok64 (x : Int) : Prop := -9223372036854775808 ≤ x ∧ x ≤ 9223372036854775807
def wfb (l : List Int) : Prop := ∀ x, x ∈ l → 0 ≤ x ∧ x < 256
theorem wfb_app {a b : List Int} (ha : wfb a) (hb : wfb b) : wfb (a ++ b) := fun x hx => by
  rcases List.mem_append.1 hx with h | h
  · exact ha x h
  · exact hb x h
/-- Whatever lies in memory: a number of 64 bits, a text of 40 bytes at the most. -/
def okv (v : S26) : Prop := ok64 v.f1 ∧ v.f2.size ≤ 40
theorem empty_str : (⟨#[]⟩ : ByteArray).toList = ([] : List UInt8) := by rw [ByteArray.toList_eq]
theorem empty_size : (⟨#[]⟩ : ByteArray).size = 0 := rfl
theorem of_empty (s : ByteArray) (h : s.toList = ([] : List UInt8)) : s = (⟨#[]⟩ : ByteArray) := by
  rw [ByteArray.toList_eq] at h
  obtain ⟨⟨l⟩⟩ := s
  have h' : l = [] := h
  rw [h']
theorem drop_consT (l : List S26) (i : Nat) (h : i < l.length) : l.drop i = rd_T26 l (i : Int) :: l.drop (i + 1) := by
  rw [List.drop_eq_getElem_cons h]
  simp [rd_T26, List.getD_eq_getElem?_getD, List.getElem?_eq_getElem h]
theorem rd_getT (l : List S26) (i : Nat) (h : i < l.length) : rd_T26 l (i : Int) = l[i] := by simp [rd_T26, List.getD_eq_getElem?_getD, List.getElem?_eq_getElem h]
theorem rd_memT (l : List S26) (i : Nat) (h : i < l.length) : rd_T26 l (i : Int) ∈ l := by rw [rd_getT l i h]; exact List.getElem_mem h
theorem take_succT (l : List S26) (i : Nat) (h : i < l.length) : l.take i ++ [rd_T26 l (i : Int)] = l.take (i + 1) := by rw [rd_getT l i h, List.take_append_getElem]

/-! ### which values may be -/
def mayB (v : S26) : Bool := (value_May.f v.f0 v.f1 v.f2).getD false
theorem may_ev (v : S26) : value_May.f v.f0 v.f1 v.f2 = some (mayB v) := by
  unfold mayB value_May.f
  repeat' split
  all_goals rfl
def isT (t : Int) : Bool := decide (1 ≤ t ∧ t ≤ 4)
/-- A value of just this type that may be. -/
def okB (t : Int) (v : S26) : Bool := (v.f0 == t) && mayB v
/-- Values all of a type, none of them nothing. -/
def rightB (t : Int) (l : List S26) : Bool := isT t && l.all (okB t)
/-! ### values out of picks -/
theorem small_list : ∀ n : Nat, n < 9 → -9223372036854775808 ≤ rd ([0, 1, 2, 3, (-1), 100, (-32768), 32767, 5] : List Int) (n : Int) ∧ rd ([0, 1, 2, 3, (-1), 100, (-32768), 32767, 5] : List Int) (n : Int) ≤ 9223372036854775807 := by decide
theorem int_list : ∀ n : Nat, n < 9 → -9223372036854775808 ≤ rd ([0, 1, 2, 3, (-1), 1000000, (-9223372036854775808), 9223372036854775807, 4611686018427387904] : List Int) (n : Int) ∧ rd ([0, 1, 2, 3, (-1), 1000000, (-9223372036854775808), 9223372036854775807, 4611686018427387904] : List Int) (n : Int) ≤ 9223372036854775807 := by decide
theorem text_list : ∀ n : Nat, n < 9 → (rdOf ByteArray.empty ([(⟨#[]⟩ : ByteArray), (⟨#[97]⟩ : ByteArray), (⟨#[98]⟩ : ByteArray), (⟨#[97, 58, 98]⟩ : ByteArray), (⟨#[97, 98]⟩ : ByteArray), (⟨#[120, 58, 121, 58, 122]⟩ : ByteArray), (⟨#[58]⟩ : ByteArray), (⟨#[116, 119, 101, 110, 116, 121, 45, 98, 121, 116, 101, 115, 45, 111, 102, 45, 116, 101, 120, 116]⟩ : ByteArray), (⟨#[99]⟩ : ByteArray)] : List ByteArray) (n : Int)).size ≤ 40 := by decide
theorem two_list : ∀ n : Nat, n < 9 → Int.tmod (n : Int) 2 = 0 ∨ Int.tmod (n : Int) 2 = 1 := by decide
/-! ### two rows of values -/
end Go.Proofs.YtigldipjkejalaaDoor.BWRleRuns
