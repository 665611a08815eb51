import Derived.Test.YtjbfgmkemideiaaP0
import Derived.Test.YtjbfgmkemideiaaE6
set_option linter.unusedVariables false
namespace Go.Proofs.Eng
open Extern.Stop (cell)
/-! ### names -/
def okc (c : Int) : Prop := (97 ≤ c ∧ c ≤ 122) ∨ (65 ≤ c ∧ c ≤ 90) ∨ (48 ≤ c ∧ c ≤ 57) ∨ c = 46 ∨ c = 95 ∨ c = 45
instance (c : Int) : Decidable (okc c) := by unfold okc; exact inferInstance
def isName (s : ByteArray) : Bool := decide (1 ≤ s.size ∧ s.size ≤ 32 ∧ s ≠ ⟨#[45]⟩) && s.data.toList.all fun c => decide (okc c.toNat)
theorem name_all {s : ByteArray} (h : ∀ i, i < s.size → okc (btAt s i).toNat) : (s.data.toList.all fun c => decide (okc c.toNat)) = true := by
  rw [List.all_eq_true]
  intro c hc
  obtain ⟨i, hi, e⟩ := List.mem_iff_getElem.1 hc
  have := h i (by simpa using hi)
  rw [btAt, List.getD_eq_getElem?_getD, List.getElem?_eq_getElem hi, Option.getD_some, e] at this
  exact decide_eq_true this
theorem name_not {s : ByteArray} {i : Nat} (hi : i < s.size) (h : ¬ okc (btAt s i).toNat) : isName s = false := by
  unfold isName
  have : (s.data.toList.all fun c => decide (okc c.toNat)) = false := by
    rw [List.all_eq_false]
    have hi' : i < s.data.toList.length := by simpa using hi
    refine ⟨s.data.toList[i], List.getElem_mem hi', ?_⟩
    rw [btAt, List.getD_eq_getElem?_getD, List.getElem?_eq_getElem hi', Option.getD_some] at h
    simpa using h
  rw [this, Bool.and_false]
theorem name_bad {s : ByteArray} (h : s.size = 0 ∨ 32 < s.size ∨ s = ⟨#[45]⟩) : isName s = false := by
  unfold isName
  rw [decide_eq_false, Bool.false_and]
  rintro ⟨h1, h2, h3⟩
  rcases h with h | h | h
  · omega
  · omega
  · exact h3 h
theorem name_good {s : ByteArray} (h : ¬ (s.size = 0 ∨ 32 < s.size ∨ s = ⟨#[45]⟩)) (ha : ∀ i, i < s.size → okc (btAt s i).toNat) : isName s = true := by
  unfold isName
  rw [name_all ha, Bool.and_true]
  refine decide_eq_true ⟨?_, ?_, fun e => h (.inr (.inr e))⟩
  · have : ¬ s.size = 0 := fun e => h (.inl e)
    omega
  · have : ¬ 32 < s.size := fun e => h (.inr (.inl e))
    omega
/-! ### numbers as bytes -/
def lebU (n : Nat) : List UInt8 := if h : n < 128 then [UInt8.ofNat n] else UInt8.ofNat (n % 128 + 128) :: lebU (n / 128)
termination_by n
decreasing_by omega
theorem lebU_lt {n : Nat} (h : n < 128) : lebU n = [UInt8.ofNat n] := by rw [lebU, dif_pos h]
theorem lebU_ge {n : Nat} (h : ¬ n < 128) : lebU n = UInt8.ofNat (n % 128 + 128) :: lebU (n / 128) := by rw [lebU, dif_neg h]
theorem lebU_len (k : Nat) : ∀ n, n < 128 ^ k → (lebU n).length ≤ max k 1 := by
  induction k with
  | zero => intro n h; rw [lebU_lt (by omega)]; simp
  | succ k ih =>
    intro n h
    by_cases h0 : n < 128
    · rw [lebU_lt h0, List.length_singleton]; omega
    · rw [lebU_ge h0, List.length_cons]
      have := ih (n / 128) (by rw [Nat.pow_succ] at h; exact Nat.div_lt_of_lt_mul (by omega))
      have hk : k ≠ 0 := by
        intro e
        subst e
        rw [Nat.pow_one] at h
        omega
      omega
theorem lebU_len10 {n : Nat} (h : n < 18446744073709551616) : (lebU n).length ≤ 10 := by
  have := lebU_len 10 n (by omega)
  omega
theorem lebU_pos (n : Nat) : 0 < (lebU n).length := by
  by_cases h : n < 128
  · rw [lebU_lt h]; simp
  · rw [lebU_ge h]; simp
theorem ofNat_toNat {n : Nat} (h : n < 256) : ((UInt8.ofNat n).toNat : Int) = n := by
  have : (UInt8.ofNat n).toNat = n := by simp; omega
  rw [this]
theorem wrap_u8 (a : Int) : IntKind.u8.wrap a = a % 256 := by
  unfold IntKind.wrap; simp [IntKind.bits, IntKind.signed]
theorem or128 (m : Nat) : bitsOf .or .u8 (IntKind.u8.wrap (m : Int)) 128 = ((UInt8.ofNat (m % 128 + 128)).toNat : Int) := by
  rw [ofNat_toNat (by omega), wrap_u8]
  unfold bitsOf
  rw [wrap_u8]
  have e : (m : Int) % 256 = ((m % 256 : Nat) : Int) := by omega
  rw [e]
  have hm : m % 256 < 256 := by omega
  have hd : m % 128 = (m % 256) % 128 := by omega
  rw [hd]
  generalize m % 256 = r at *
  have key : ∀ r : Nat, r < 256 → (((BitVec.ofInt 8 (r : Int) ||| BitVec.ofInt 8 128).toNat : Int) % 256) = ((r % 128 + 128 : Nat) : Int) := by decide +kernel
  exact key r hm
theorem shr7 (m : Nat) : (m : Int).fdiv (2 ^ min (7 : Int).toNat IntKind.u64.bits) = ((m / 128 : Nat) : Int) := by
  have e : min (7 : Int).toNat IntKind.u64.bits = 7 := rfl
  rw [e]
  show (m : Int).fdiv 128 = _
  rw [Int.fdiv_eq_ediv_of_nonneg _ (by decide)]
  omega
theorem Ex.cast {P : Program} {w : World} {n : Nat} {f : Nat → Value} {o : Oper} {v v' : Value} (h : Ex P w n f o v) (e : v = v') : Ex P w n f o v' := e ▸ h
/-- What one byte, just made, brings to append. -/
theorem src_byte {P : Program} {tx e' : TypeId} (hk : P.underlying tx = some (.slice e')) {w : World} {g : Nat} {b : UInt8} {t : TypeId} (h : Blk w g #[cell b] t) : Src P kByte.sz tx (.slice (some ⟨g, 0, none⟩) 1 1) 1 [cell b] w :=
  src_slice hk ⟨fun _ => rfl, h.range⟩ rfl (by decide) (fun u hu => by simp at hu; subst hu; rfl)
theorem src_sl {P : Program} {tx e' : TypeId} (hk : P.underlying tx = some (.slice e')) {w : World} {e : TypeId} {B : Nat} {p : Option Addr} {n c : Nat} {xs : List UInt8} (h : Sl kByte e B w p n c xs) : Src P kByte.sz tx (.slice p n c) n (xs.map cell) w := by
  obtain ⟨css, ha, hr⟩ := h.row
  have : css.flatten = xs.map cell := by rw [all_pure ha, flat_single]
  rw [this] at hr
  exact src_slice hk hr.row (by rw [List.length_map, h.len]; show n = n * 1; omega) (by decide) (fun u hu => by obtain ⟨_, _, rfl⟩ := List.mem_map.1 hu; rfl)
theorem src_str {P : Program} {tx : TypeId} (hk : P.underlying tx = some .string) {w : World} (s : ByteArray) : Src P kByte.sz tx (.string s) s.size (s.data.toList.map cell) w := Src.ofString w hk s
end Go.Proofs.Eng
