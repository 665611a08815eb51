import Derived.Test.YtjbfgmkemideiaaP1
set_option linter.unusedVariables false
namespace Go.Proofs.Eng
open Extern.Stop (cell)
/-! ### a number off bytes -/
def getUF (i n : Nat) : List UInt8 → Nat × Nat × Int
  | [] => (0, 0, 3)
  | x :: r => if (i = 9 ∧ 1 < x.toNat) ∨ (0 < i ∧ x.toNat = 0) then (0, 0, 4) else
    if x.toNat < 128 then (n + x.toNat % 128 * 2 ^ (7 * i), i + 1, 0) else getUF (i + 1) (n + x.toNat % 128 * 2 ^ (7 * i)) r
def getU (b : List UInt8) : Nat × Nat × Int := getUF 0 0 b
theorem drop_cons {b : List UInt8} {i : Nat} (h : i < b.length) : b.drop i = b.getD i 0 :: b.drop (i + 1) := by
  rw [List.drop_eq_getElem_cons h]; simp [h]
theorem andNot128 (x : UInt8) : bitsOf .andNot .u8 (x.toNat : Int) 128 = ((x.toNat % 128 : Nat) : Int) := by
  have hx : x.toNat < 256 := x.toNat_lt
  unfold bitsOf
  rw [wrap_u8]
  have key : ∀ r : Nat, r < 256 → (((BitVec.ofInt 8 (r : Int) &&& ~~~ BitVec.ofInt 8 128).toNat : Int) % 256) = ((r % 128 : Nat) : Int) := by decide +kernel
  exact key _ hx
theorem wrap_u64 (a : Int) : IntKind.u64.wrap a = a % 18446744073709551616 := by
  unfold IntKind.wrap; simp [IntKind.bits, IntKind.signed]
theorem shl7 {r i : Nat} (hi : i ≤ 9) (hr : r < 128) (h9 : i = 9 → r ≤ 1) : IntKind.u64.wrap ((r : Int) * 2 ^ min (7 * (i : Int)).toNat IntKind.u64.bits) = ((r * 2 ^ (7 * i) : Nat) : Int) := by
  have e1 : (7 * (i : Int)).toNat = 7 * i := by omega
  have e2 : min (7 * i) IntKind.u64.bits = 7 * i := by show min (7 * i) 64 = 7 * i; omega
  rw [e1, e2, wrap_u64]
  have e3 : (r : Int) * 2 ^ (7 * i) = ((r * 2 ^ (7 * i) : Nat) : Int) := by push_cast; rfl
  rw [e3]
  have hb : r * 2 ^ (7 * i) < 18446744073709551616 := by
    by_cases h : i = 9
    · subst h; have := h9 rfl; omega
    · have hp : 2 ^ (7 * i) ≤ 2 ^ 56 := Nat.pow_le_pow_right (by omega) (by omega)
      have : r * 2 ^ (7 * i) ≤ 127 * 2 ^ 56 := Nat.mul_le_mul (by omega) hp
      omega
  omega
theorem ofInt_toNat {n : Nat} (h : n < 18446744073709551616) : (BitVec.ofInt 64 (n : Int)).toNat = n := by
  simp [BitVec.toNat_ofInt]; omega
theorem or_sum {n r k : Nat} (hn : n < 2 ^ k) (hs : n + r * 2 ^ k < 18446744073709551616) : bitsOf .or .u64 (n : Int) ((r * 2 ^ k : Nat) : Int) = ((n + r * 2 ^ k : Nat) : Int) := by
  show IntKind.u64.wrap _ = _
  have e1 : (BitVec.ofInt IntKind.u64.bits (n : Int) ||| BitVec.ofInt IntKind.u64.bits ((r * 2 ^ k : Nat) : Int)).toNat = n + r * 2 ^ k := by
    show (BitVec.ofInt 64 (n : Int) ||| BitVec.ofInt 64 ((r * 2 ^ k : Nat) : Int)).toNat = _
    rw [BitVec.toNat_or, ofInt_toNat (by omega), ofInt_toNat (by omega), Nat.or_comm, Nat.mul_comm r, ← Nat.two_pow_add_eq_or_of_lt hn]
    omega
  rw [e1, wrap_u64]; omega
theorem pow_step (i : Nat) : 2 ^ (7 * (i + 1)) = 128 * 2 ^ (7 * i) := by rw [Nat.mul_add, Nat.pow_add]; omega
theorem getU_sum {n r i : Nat} (hn : n < 2 ^ (7 * i)) (hr : r < 128) : n + r * 2 ^ (7 * i) < 2 ^ (7 * (i + 1)) := by
  rw [pow_step]
  have : r * 2 ^ (7 * i) ≤ 127 * 2 ^ (7 * i) := Nat.mul_le_mul_right _ (by omega)
  omega
theorem getU_fit {n r i : Nat} (hn : n < 2 ^ (7 * i)) (hi : i ≤ 9) (hr : r < 128) (h9 : i = 9 → r ≤ 1) : n + r * 2 ^ (7 * i) < 18446744073709551616 := by
  by_cases h : i = 9
  · subst h; have := h9 rfl
    have : r * 2 ^ (7 * 9) ≤ 1 * 2 ^ (7 * 9) := Nat.mul_le_mul_right _ this
    omega
  · have := getU_sum hn hr
    have hp : 2 ^ (7 * (i + 1)) ≤ 2 ^ 63 := Nat.pow_le_pow_right (by omega) (by omega)
    omega
theorem getUF_bounds : ∀ (l : List UInt8) (i n : Nat), n < 2 ^ (7 * i) → i ≤ 9 → (getUF i n l).2.2 = 0 → (getUF i n l).2.1 ≤ i + l.length ∧ (getUF i n l).2.1 ≤ 10 ∧ i < (getUF i n l).2.1 ∧ (getUF i n l).1 < 18446744073709551616
  | [], i, n, _, _, h => by simp [getUF] at h
  | x :: r, i, n, hn, hi, h => by
    have hx : x.toNat % 128 < 128 := Nat.mod_lt _ (by omega)
    unfold getUF at h ⊢
    by_cases c1 : (i = 9 ∧ 1 < x.toNat) ∨ (0 < i ∧ x.toNat = 0)
    · rw [if_pos c1] at h; cases h
    · rw [if_neg c1] at h ⊢
      have h9 : i = 9 → x.toNat % 128 ≤ 1 := by intro e; have : ¬ 1 < x.toNat := fun h => c1 (.inl ⟨e, h⟩); omega
      by_cases c2 : x.toNat < 128
      · rw [if_pos c2] at h ⊢
        simp only [List.length_cons]
        have := getU_fit hn hi hx h9
        omega
      · rw [if_neg c2] at h ⊢
        have hi' : i + 1 ≤ 9 := by
          apply Classical.byContradiction
          intro hc
          exact c1 (.inl ⟨by omega, by omega⟩)
        have := getUF_bounds r (i + 1) _ (getU_sum hn hx) hi' h
        simp only [List.length_cons]
        omega
theorem getUF_zero : ∀ (l : List UInt8) (i n : Nat), (getUF i n l).2.2 ≠ 0 → (getUF i n l).1 = 0 ∧ (getUF i n l).2.1 = 0 ∧ ((getUF i n l).2.2 = 3 ∨ (getUF i n l).2.2 = 4)
  | [], i, n, _ => by simp [getUF]
  | x :: r, i, n, h => by
    unfold getUF at h ⊢
    by_cases c1 : (i = 9 ∧ 1 < x.toNat) ∨ (0 < i ∧ x.toNat = 0)
    · rw [if_pos c1]; simp
    · rw [if_neg c1] at h ⊢
      by_cases c2 : x.toNat < 128
      · rw [if_pos c2] at h; simp at h
      · rw [if_neg c2] at h ⊢; exact getUF_zero r _ _ h
theorem getU_bounds {b : List UInt8} (h : (getU b).2.2 = 0) : (getU b).2.1 ≤ b.length ∧ (getU b).2.1 ≤ 10 ∧ 0 < (getU b).2.1 ∧ (getU b).1 < 18446744073709551616 := by
  have := getUF_bounds b 0 0 (by simp) (by omega) h
  unfold getU; omega
theorem getU_zero {b : List UInt8} (h : (getU b).2.2 ≠ 0) : (getU b).1 = 0 ∧ (getU b).2.1 = 0 ∧ ((getU b).2.2 = 3 ∨ (getU b).2.2 = 4) := getUF_zero b 0 0 h
/-! the reference's way: groups first, then the value, then what is laid again -/
def grpF : Nat → Nat → List UInt8 → Nat × Int
  | 0, _, _ => (0, 4)
  | _ + 1, _, [] => (0, 3)
  | k + 1, i, x :: r => if x.toNat < 128 then (i + 1, 0) else grpF k (i + 1) r
def grp (b : List UInt8) : Nat × Int := grpF 10 0 b
def rv : List UInt8 → Nat
  | [] => 0
  | x :: r => (x.toNat % 128 + 128 * rv r) % 18446744073709551616
theorem rv_lt : ∀ l, rv l < 18446744073709551616
  | [] => by simp [rv]
  | x :: r => by unfold rv; omega
end Go.Proofs.Eng
