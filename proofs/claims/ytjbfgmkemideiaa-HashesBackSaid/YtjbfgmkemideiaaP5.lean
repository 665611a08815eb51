import Derived.Test.YtjbfgmkemideiaaP3
import Derived.Test.YtjbfgmkemideiaaF0
set_option linter.unusedVariables false
namespace Go.Proofs.Eng
/-- A list that is taken off bytes: the document's answer. -/
def gets (b : List UInt8) (most : Int) : List Hash × Nat × Int :=
  if (getU b).2.2 ≠ 0 then ([], 0, (getU b).2.2) else if most < 0 ∨ most < ((getU b).1 : Int) then ([], 0, 5) else
  if (b.length - (getU b).2.1) / 32 < (getU b).1 then ([], 0, 3) else if rising (hashesAt b (getU b).2.1 (getU b).1) = false then ([], 0, 4) else (hashesAt b (getU b).2.1 (getU b).1, (getU b).2.1 + 32 * (getU b).1, 0)
def hZero : Hash := ⟨List.replicate 32 0, by simp⟩
theorem hv_put (h : Hash) (j : Nat) (b : UInt8) : (hv h).setIfInBounds j (.int .u8 b.toNat) = hv (h.put j b) := by
  apply Array.toList_inj.1
  rw [Array.toList_setIfInBounds]
  show (hcs h).set j _ = hcs (h.put j b)
  unfold hcs Hash.put
  rw [List.map_set]; rfl
theorem hashAt_step {h : Hash} {b : List UInt8} {o c : Nat} (hc : c < 32) (ht : h.1.take c = (hashAt b o).1.take c) : (h.put c (b.getD (o + c) 0)).1.take (c + 1) = (hashAt b o).1.take (c + 1) := by
  have h2 := h.2
  rw [List.take_succ_eq_append_getElem (show c < (hashAt b o).1.length by rw [(hashAt b o).2]; exact hc), ← ht]
  show (h.1.set c _).take (c + 1) = _
  rw [List.take_succ_eq_append_getElem (by rw [List.length_set]; omega), List.getElem_set_self, List.take_set_of_le (Nat.le_refl _)]
  congr 2
  simp [hashAt]
theorem hash_of_take {h k : Hash} (ht : h.1.take 32 = k.1.take 32) : h = k := by
  apply Subtype.ext
  rw [List.take_of_length_le (by rw [h.2]; omega), List.take_of_length_le (by rw [k.2]; omega)] at ht
  exact ht
end Go.Proofs.Eng
