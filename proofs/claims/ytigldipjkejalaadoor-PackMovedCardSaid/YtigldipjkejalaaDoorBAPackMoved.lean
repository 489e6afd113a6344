/- Which values may be. Conditions: none. -/
import Derived.Test.YtigldipjkejalaaDoorPPackMovedx6
namespace Go.Proofs.YtigldipjkejalaaDoor.BAPackMoved
open Go.RowKit Go.Proofs.YtigldipjkejalaaDoor.PPackMoved Go.Proofs.YtigldipjkejalaaDoorW.PrintWords Go.Proofs.YtigldipjkejalaaDoorW.PrintLast Go.Proofs.YtigldipjkejalaaDoorW.PrintMore
set_option linter.unusedVariables false

def ok64 (x : Int) : Prop := -9223372036854775808 ≤ x ∧ x ≤ 9223372036854775807
def wfb (l : List Int) : Prop := ∀ x, x ∈ l → 0 ≤ x ∧ x < 256
theorem wfb_app {a b : List Int} (ha : wfb a) (hb : wfb b) : wfb (a ++ b) := fun x hx => by
  rcases List.mem_append.1 hx with h | h
  · exact ha x h
  · exact hb x h
/-- A value of a type that may be, not nothing. -/
def good (t : Int) (v : S26) : Prop := v.f0 = t ∧ ok64 v.f1 ∧ (t ≠ 4 → v.f2 = (⟨#[]⟩ : ByteArray)) ∧ (t = 1 → -32768 ≤ v.f1 ∧ v.f1 ≤ 32767) ∧ (t = 3 → v.f1 = 0 ∨ v.f1 = 1) ∧ (t = 4 → v.f1 = 0 ∧ v.f2.size ≤ 20)
theorem empty_str : (⟨#[]⟩ : ByteArray).toList = ([] : List UInt8) := by rw [ByteArray.toList_eq]
theorem may_ok (t : Int) (ht : t = 1 ∨ t = 2 ∨ t = 3 ∨ t = 4) (v : S26) (hv : good t v) : value_May.f v.f0 v.f1 v.f2 = some true := by
  obtain ⟨h0, h2, h3, h4, h5, h6⟩ := hv
  rw [h0]
  unfold value_May.f
  rcases ht with rfl | rfl | rfl | rfl
  · obtain ⟨h7, h8⟩ := h4 rfl
    rw [h3 (by decide), if_pos rfl, if_neg (by omega), if_neg (by omega), empty_str]
    rfl
  · rw [h3 (by decide), if_neg (by decide), if_pos rfl, empty_str]
    rfl
  · rw [h3 (by decide), if_neg (by decide), if_neg (by decide), if_neg (by decide), if_pos rfl, empty_str]
    rcases h5 rfl with h | h
    · rw [if_pos h]; rfl
    · rw [if_neg (by omega), if_pos h]; rfl
  · obtain ⟨h7, h8⟩ := h6 rfl
    rw [if_neg (by decide), if_neg (by decide), if_neg (by decide), if_neg (by decide), if_pos rfl, if_pos h7, decide_eq_true (by omega)]
theorem drop_consT (l : List S26) (i : Nat) (h : i < l.length) : l.drop i = rd_T26 l (i : Int) :: l.drop (i + 1) := by
  rw [List.drop_eq_getElem_cons h]
  simp [rd_T26, List.getD_eq_getElem?_getD, List.getElem?_eq_getElem h]
theorem rd_memT (l : List S26) (i : Nat) (h : i < l.length) : rd_T26 l (i : Int) ∈ l := by
  have : rd_T26 l (i : Int) = l[i] := by simp [rd_T26, List.getD_eq_getElem?_getD, List.getElem?_eq_getElem h]
  rw [this]; exact List.getElem_mem h
theorem take_succT (l : List S26) (i : Nat) (h : i < l.length) : l.take i ++ [rd_T26 l (i : Int)] = l.take (i + 1) := by
  have : rd_T26 l (i : Int) = l[i] := by simp [rd_T26, List.getD_eq_getElem?_getD, List.getElem?_eq_getElem h]
  rw [this, List.take_append_getElem]
end Go.Proofs.YtigldipjkejalaaDoor.BAPackMoved
