/- Bytes as strings: equal just if the bytes are. Conditions: none. -/
import Derived.Laws.BytesArg
import Derived.RowKit
import Derived.Test.YtokmildjniploaaDoorWWords
namespace Go.Proofs.YtokmildjniploaaDoor.MStr
open Go.RowKit Go.Proofs.YtokmildjniploaaDoorW.PrintWords
set_option linter.unusedVariables false
theorem chars (a : List Int) : (strOfNums a).toList = a.map fun n => UInt8.ofNat n.toNat := by rw [ByteArray.toList_eq]; rfl
theorem map_inj (a : List Int) : ∀ b : List Int, (∀ x, x ∈ a → 0 ≤ x ∧ x < 256) → (∀ x, x ∈ b → 0 ≤ x ∧ x < 256) → a.map (fun n => UInt8.ofNat n.toNat) = b.map (fun n => UInt8.ofNat n.toNat) → a = b := by
  induction a with
  | nil => intro b _ _ h; cases b with
           | nil => rfl
           | cons y r => simp at h
  | cons x r ih =>
    intro b ha hb h
    cases b with
    | nil => simp at h
    | cons y s =>
      simp only [List.map_cons, List.cons.injEq] at h
      have h1 := ha x List.mem_cons_self
      have h2 := hb y List.mem_cons_self
      have e := congrArg UInt8.toNat h.1
      rw [UInt8.toNat_ofNat', UInt8.toNat_ofNat'] at e
      have hx : x = y := by omega
      rw [hx, ih s (fun z hz => ha z (List.mem_cons_of_mem _ hz)) (fun z hz => hb z (List.mem_cons_of_mem _ hz)) h.2]
theorem str_eq (a b : List Int) (ha : ∀ x, x ∈ a → 0 ≤ x ∧ x < 256) (hb : ∀ x, x ∈ b → 0 ≤ x ∧ x < 256) : (strOfNums a).toList = (strOfNums b).toList ↔ a = b := by
  rw [chars, chars]
  exact ⟨map_inj a b ha hb, fun h => by rw [h]⟩
theorem str_beq (a b : List Int) (ha : ∀ x, x ∈ a → 0 ≤ x ∧ x < 256) (hb : ∀ x, x ∈ b → 0 ≤ x ∧ x < 256) : ((strOfNums a).toList == (strOfNums b).toList) = decide (a = b) := by
  rw [Bool.eq_iff_iff]
  simp only [beq_iff_eq, decide_eq_true_eq]
  exact str_eq a b ha hb
end Go.Proofs.YtokmildjniploaaDoor.MStr
