import Derived.Test.YtjbfgmkemideiaaE5
set_option linter.unusedVariables false
namespace Go.Proofs.Eng
/-! ### the order of hashes -/
def lex : List UInt8 → List UInt8 → Bool
  | x :: l, y :: m => if x = y then lex l m else decide (x < y)
  | _, _ => false
theorem lex_at : ∀ (a b : List UInt8) (k : Nat), k < a.length → k < b.length → (∀ i, i < k → a.getD i 0 = b.getD i 0) → a.getD k 0 ≠ b.getD k 0 → lex a b = decide (a.getD k 0 < b.getD k 0)
  | x :: l, y :: m, 0, _, _, _, h => by
    simp at h
    simp [lex, h]
  | x :: l, y :: m, k + 1, ha, hb, he, h => by
    have h0 : x = y := he 0 (by omega)
    simp only [lex, if_pos h0]
    rw [lex_at l m k (by simpa using ha) (by simpa using hb) (fun i hi => he (i + 1) (by omega)) h]
    simp
  | [], _, k, ha, _, _, _ => by simp at ha
  | _ :: _, [], k, _, hb, _, _ => by simp at hb
theorem lex_self : ∀ a : List UInt8, lex a a = false
  | [] => rfl
  | x :: l => by simp [lex, lex_self l]
theorem eq_of_all {a b : List UInt8} (h : a.length = b.length) (he : ∀ i, i < a.length → a.getD i 0 = b.getD i 0) : a = b := by
  apply List.ext_getElem h
  intro i h1 h2
  have := he i h1
  simpa [h1, h2] using this
theorem u8_inj {a b : UInt8} : ((a.toNat : Int) = (b.toNat : Int)) ↔ a = b := by
  constructor
  · intro h; exact UInt8.toNat_inj.1 (by omega)
  · intro h; rw [h]
theorem u8_lt {a b : UInt8} : ((a.toNat : Int) < (b.toNat : Int)) ↔ a < b := by
  rw [UInt8.lt_iff_toNat_lt]; omega
theorem u8_dlt {a b : UInt8} : decide ((a.toNat : Int) < (b.toNat : Int)) = decide (a < b) := decide_eq_decide.2 u8_lt
def hlt (a b : Hash) : Bool := lex a.1 b.1
theorem hlt_self (a : Hash) : hlt a a = false := lex_self _
theorem hlt_at {a b : Hash} (k : Nat) (hk : k < 32) (he : ∀ i, i < k → a.1.getD i 0 = b.1.getD i 0) (h : a.1.getD k 0 ≠ b.1.getD k 0) : hlt a b = decide (a.1.getD k 0 < b.1.getD k 0) :=
  lex_at a.1 b.1 k (by rw [a.2]; exact hk) (by rw [b.2]; exact hk) he h
theorem hash_eq_of_all {a b : Hash} (h : ∀ i, i < 32 → a.1.getD i 0 = b.1.getD i 0) : a = b := Subtype.ext (eq_of_all (by rw [a.2, b.2]) (fun i hi => h i (by rw [a.2] at hi; exact hi)))
def hcmp (a b : Hash) : Int := if a = b then 0 else if hlt a b = true then -1 else 1
/-! ### rising lists -/
def risingTo (xs : List Hash) : Nat → Bool
  | 0 => true
  | k + 1 => risingTo xs k && hlt (xs.getD k default) (xs.getD (k + 1) default)
def rising (xs : List Hash) : Bool := risingTo xs (xs.length - 1)
theorem risingTo_le {xs : List Hash} {k m : Nat} (h : risingTo xs k = false) (hm : k ≤ m) : risingTo xs m = false := by
  induction m with
  | zero => rw [show k = 0 from by omega] at h; exact h
  | succ m ih =>
    by_cases e : k = m + 1
    · rw [← e]; exact h
    · unfold risingTo; rw [ih (by omega)]; rfl
theorem rising_no {xs : List Hash} {k : Nat} (hk : k + 1 < xs.length) (h : hlt (xs.getD k default) (xs.getD (k + 1) default) = false) : rising xs = false :=
  risingTo_le (k := k + 1) (by unfold risingTo; rw [h]; simp) (by omega)
theorem list_eq_of_all {α : Type} {z : α} {a b : List α} (h : a.length = b.length) (he : ∀ i, i < a.length → a.getD i z = b.getD i z) : a = b := by
  apply List.ext_getElem h
  intro i h1 h2
  have := he i h1
  simpa [h1, h2] using this
theorem mem_of_getD {α : Type} {z x : α} {xs : List α} {i : Nat} (hi : i < xs.length) (h : xs.getD i z = x) : x ∈ xs := by
  rw [← h, List.getD_eq_getElem?_getD, List.getElem?_eq_getElem hi]
  exact List.getElem_mem hi
theorem not_mem_of_getD {α : Type} {z x : α} {xs : List α} (h : ∀ i, i < xs.length → xs.getD i z ≠ x) : x ∉ xs := by
  intro hx
  obtain ⟨i, hi, e⟩ := List.mem_iff_getElem.1 hx
  exact h i hi (by rw [List.getD_eq_getElem?_getD, List.getElem?_eq_getElem hi]; exact e)
end Go.Proofs.Eng
