import Derived.Test.YtjbfgmkemideiaaP5
import Derived.Test.YtjbfgmkemideiaaS2
set_option linter.unusedVariables false
set_option linter.unusedSimpArgs false
namespace Go.Proofs.Eng
/-! ### what is laid is taken off as it was -/
def putB (s : List Hash) : List UInt8 := lebU s.length ++ s.flatMap (·.1)
theorem flat32 : ∀ s : List Hash, (s.flatMap (·.1)).length = 32 * s.length
  | [] => rfl
  | x :: s => by rw [List.flatMap_cons, List.length_append, x.2, flat32 s, List.length_cons]; omega
theorem getUF_lebU (t : List UInt8) : ∀ (m i acc : Nat), acc < 2 ^ (7 * i) → acc + m * 2 ^ (7 * i) < 18446744073709551616 → i ≤ 9 → (i = 0 ∨ m ≠ 0) → getUF i acc (lebU m ++ t) = (acc + m * 2 ^ (7 * i), i + (lebU m).length, 0) := by
  intro m
  induction m using Nat.strongRecOn with
  | _ m ih =>
    intro i acc ha hs hi h0
    by_cases hm : m < 128
    · rw [lebU_lt hm]
      have e : (UInt8.ofNat m).toNat = m := by simp; omega
      show getUF i acc (UInt8.ofNat m :: ([] ++ t)) = _
      unfold getUF
      simp only [e]
      have hc : ¬ ((i = 9 ∧ 1 < m) ∨ (0 < i ∧ m = 0)) := by
        rintro (⟨h1, h2⟩ | ⟨h1, h2⟩)
        · subst h1
          have : 2 * 2 ^ (7 * 9) ≤ m * 2 ^ (7 * 9) := Nat.mul_le_mul_right _ (by omega)
          omega
        · omega
      rw [if_neg hc, if_pos hm, Nat.mod_eq_of_lt hm]; rfl
    · have hp : 2 ^ (7 * (i + 1)) = 128 * 2 ^ (7 * i) := pow_step i
      have hpos : 0 < 2 ^ (7 * i) := Nat.two_pow_pos _
      have hle : 128 * 2 ^ (7 * i) ≤ m * 2 ^ (7 * i) := Nat.mul_le_mul_right _ (by omega)
      have hi8 : i ≤ 8 := by
        rcases Nat.lt_or_ge i 9 with h | h
        · omega
        · have : i = 9 := by omega
          subst this; omega
      rw [lebU_ge hm]
      have e : (UInt8.ofNat (m % 128 + 128)).toNat = m % 128 + 128 := by simp; omega
      show getUF i acc (UInt8.ofNat (m % 128 + 128) :: (lebU (m / 128) ++ t)) = _
      unfold getUF
      simp only [e]
      rw [if_neg (by omega), if_neg (by omega)]
      have hd : m = m / 128 * 128 + m % 128 := by omega
      have hmm : m * 2 ^ (7 * i) = m / 128 * (128 * 2 ^ (7 * i)) + m % 128 * 2 ^ (7 * i) := by
        conv => lhs; rw [hd]
        rw [Nat.add_mul, Nat.mul_assoc]
      have e2 : (m % 128 + 128) % 128 = m % 128 := by omega
      rw [e2]
      have hr : m % 128 * 2 ^ (7 * i) ≤ 127 * 2 ^ (7 * i) := Nat.mul_le_mul_right _ (by omega)
      rw [ih (m / 128) (by omega) (i + 1) _ (by rw [hp]; omega) (by rw [hp]; omega) (by omega) (.inr (by omega)), hp]
      simp only [List.length_cons, Prod.mk.injEq, and_true]
      omega
theorem getU_lebU {n : Nat} (t : List UInt8) (h : n < 18446744073709551616) : getU (lebU n ++ t) = (n, (lebU n).length, 0) := by
  unfold getU
  rw [getUF_lebU t n 0 0 (by simp) (by simp; exact h) (by omega) (.inl rfl)]
  simp
theorem flat_take32 : ∀ (s : List Hash) (i : Nat) (t : List UInt8), i < s.length → ((s.flatMap (·.1) ++ t).drop (32 * i)).take 32 = (s.getD i default).1
  | x :: s, 0, t, _ => by
    rw [Nat.mul_zero, List.drop_zero, List.flatMap_cons, List.append_assoc, List.take_append_of_le_length (by rw [x.2]; omega), List.take_of_length_le (by rw [x.2]; omega)]; rfl
  | x :: s, i + 1, t, h => by
    rw [List.flatMap_cons, List.append_assoc, show 32 * (i + 1) = x.1.length + 32 * i from by rw [x.2]; omega, ← List.drop_drop, List.drop_left, List.getD_cons_succ]
    exact flat_take32 s i t (by simpa using h)
  | [], i, t, h => by simp at h
theorem hashesAt_flat (s : List Hash) (pre t : List UInt8) : hashesAt (pre ++ (s.flatMap (·.1) ++ t)) pre.length s.length = s := by
  apply list_eq_of_all (z := default) (by rw [hashesAt_len])
  intro i hi
  rw [hashesAt_len] at hi
  have e : (hashesAt (pre ++ (s.flatMap (·.1) ++ t)) pre.length s.length).getD i default = hashAt (pre ++ (s.flatMap (·.1) ++ t)) (pre.length + 32 * i) := by
    unfold hashesAt
    rw [List.getD_eq_getElem?_getD, List.getElem?_map, List.getElem?_range hi]; rfl
  rw [e]
  apply Subtype.ext
  have hf := flat32 s
  rw [← hashAt_take (by simp only [List.length_append, hf]; omega), ← List.drop_drop, List.drop_left]
  exact flat_take32 s i t hi
theorem gets_put {s : List Hash} (t : List UInt8) (hr : Rise s) (hs : s.length ≤ 2000) : gets (putB s ++ t) s.length = (s, (putB s).length, 0) := by
  have hu : getU (putB s ++ t) = (s.length, (lebU s.length).length, 0) := by unfold putB; rw [List.append_assoc]; exact getU_lebU _ (by omega)
  have hf := flat32 s
  unfold gets
  rw [hu]
  simp only [ne_eq, not_true_eq_false, if_false]
  rw [if_neg (by omega), if_neg (by simp only [putB, List.length_append, hf]; omega)]
  have hh : hashesAt (putB s ++ t) (lebU s.length).length s.length = s := by unfold putB; rw [List.append_assoc]; exact hashesAt_flat s _ t
  have hl : (putB s).length = (lebU s.length).length + 32 * s.length := by simp only [putB, List.length_append, hf]
  rw [hh, rising_iff.2 hr, hl]
  rfl
theorem gets_less {s : List Hash} (hs : s.length ≤ 2000) : gets (putB s) ((s.length : Int) - 1) = ([], 0, 5) := by
  have hu : getU (putB s) = (s.length, (lebU s.length).length, 0) := getU_lebU _ (by omega)
  unfold gets
  rw [hu]
  simp only [ne_eq, not_true_eq_false, if_false]
  rw [if_pos (by omega)]
theorem flat_hashesAt {b : List UInt8} {k : Nat} : ∀ n, k + 32 * n ≤ b.length → (hashesAt b k n).flatMap (·.1) = (b.drop k).take (32 * n)
  | 0, _ => by simp [hashesAt]
  | n + 1, h => by
    rw [hashesAt_succ, List.flatMap_append, flat_hashesAt n (by omega), show 32 * (n + 1) = 32 * n + 32 from by omega, List.take_add, List.drop_drop, hashAt_take (by omega)]
    simp
theorem put_gets {b : List UInt8} {most : Int} (h : (gets b most).2.2 = 0) : (gets b most).2.1 ≤ b.length ∧ putB (gets b most).1 = b.take (gets b most).2.1 := by
  unfold gets at h ⊢
  by_cases h1 : (getU b).2.2 ≠ 0
  · rw [if_pos h1] at h; exact absurd h h1
  · rw [if_neg h1] at h ⊢
    have h1' : (getU b).2.2 = 0 := Classical.byContradiction h1
    obtain ⟨k1, k2, k3, k4⟩ := getU_bounds h1'
    by_cases h2 : most < 0 ∨ most < ((getU b).1 : Int)
    · rw [if_pos h2] at h; cases h
    · rw [if_neg h2] at h ⊢
      by_cases h3 : (b.length - (getU b).2.1) / 32 < (getU b).1
      · rw [if_pos h3] at h; cases h
      · rw [if_neg h3] at h ⊢
        by_cases h4 : rising (hashesAt b (getU b).2.1 (getU b).1) = false
        · rw [if_pos h4] at h; cases h
        · rw [if_neg h4]
          have hle : (getU b).2.1 + 32 * (getU b).1 ≤ b.length := by omega
          refine ⟨hle, ?_⟩
          have hl : lebU (getU b).1 = b.take (getU b).2.1 := by
            have hr := getU_refU b
            unfold refU at hr
            by_cases g1 : (grp b).2 ≠ 0
            · rw [if_pos g1] at hr; rw [hr] at h1'; exact absurd h1' g1
            · rw [if_neg g1] at hr
              by_cases g2 : lebU (rv (b.take (grp b).1)) = b.take (grp b).1
              · rw [if_pos g2] at hr; rw [hr]; exact g2
              · rw [if_neg g2] at hr; rw [hr] at h1'; cases h1'
          show putB (hashesAt b (getU b).2.1 (getU b).1) = b.take ((getU b).2.1 + 32 * (getU b).1)
          unfold putB
          rw [hashesAt_len, hl, flat_hashesAt _ hle, List.take_add]
end Go.Proofs.Eng
