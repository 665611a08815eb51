import Derived.Test.YtjbfgmkemideiaaP2
set_option linter.unusedVariables false
set_option linter.unusedSimpArgs false
namespace Go.Proofs.Eng
/-! ### a number off bytes: the two ways are one -/
def V : List UInt8 → Nat
  | [] => 0
  | x :: r => x.toNat % 128 + 128 * V r
theorem rv_V : ∀ l, rv l = V l % 18446744073709551616
  | [] => rfl
  | x :: r => by unfold rv V; rw [rv_V r]; omega
/-- Groups: the last byte below 128, those ahead not. -/
def Gp : List UInt8 → Prop
  | [] => False
  | [x] => x.toNat < 128
  | x :: y :: r => 128 ≤ x.toNat ∧ Gp (y :: r)
def lastB : List UInt8 → Nat
  | [] => 0
  | [x] => x.toNat
  | _ :: y :: r => lastB (y :: r)
theorem V_lebU (m : Nat) : V (lebU m) = m := by
  induction m using Nat.strongRecOn with
  | _ m ih =>
    by_cases h : m < 128
    · rw [lebU_lt h]
      have e : (UInt8.ofNat m).toNat = m := by simp; omega
      simp only [V, e]; omega
    · rw [lebU_ge h]
      have e : (UInt8.ofNat (m % 128 + 128)).toNat = m % 128 + 128 := by simp; omega
      simp only [V, e, ih (m / 128) (by omega)]; omega
theorem V_split : ∀ s, Gp s → ∃ v, V s = v + lastB s * 2 ^ (7 * (s.length - 1)) ∧ v < 2 ^ (7 * (s.length - 1)) ∧ lastB s < 128
  | [x], h => ⟨0, by simp only [V, lastB, List.length_singleton]; have : x.toNat < 128 := h; simp; omega, by simp, h⟩
  | x :: y :: r, h => by
    obtain ⟨v, h1, h2, h3⟩ := V_split (y :: r) h.2
    have e : 7 * ((x :: y :: r).length - 1) = 7 * ((y :: r).length - 1 + 1) := by simp
    refine ⟨x.toNat % 128 + 128 * v, ?_, ?_, h3⟩
    · rw [e, pow_step]
      show x.toNat % 128 + 128 * V (y :: r) = x.toNat % 128 + 128 * v + lastB (y :: r) * (128 * 2 ^ (7 * ((y :: r).length - 1)))
      rw [h1, Nat.mul_left_comm (lastB (y :: r)) 128]; omega
    · rw [e, pow_step]; omega
theorem leb_V : ∀ s, Gp s → (s.length = 1 ∨ lastB s ≠ 0) → lebU (V s) = s
  | [x], h, _ => by
    have hx : x.toNat < 128 := h
    have e : V [x] = x.toNat := by simp only [V]; omega
    rw [e, lebU_lt hx]; simp
  | x :: y :: r, h, hl => by
    have hx : 128 ≤ x.toNat := h.1
    have hx2 := x.toNat_lt
    have hl' : lastB (y :: r) ≠ 0 := by rcases hl with hl | hl; (· simp at hl); (· exact hl)
    obtain ⟨v, h1, h2, h3⟩ := V_split (y :: r) h.2
    have hp : 0 < 2 ^ (7 * ((y :: r).length - 1)) := Nat.two_pow_pos _
    have hpos : 0 < V (y :: r) := by
      have : 1 * 1 ≤ lastB (y :: r) * 2 ^ (7 * ((y :: r).length - 1)) := Nat.mul_le_mul (by omega) hp
      omega
    have e : V (x :: y :: r) = x.toNat % 128 + 128 * V (y :: r) := rfl
    rw [e, lebU_ge (by omega), show (x.toNat % 128 + 128 * V (y :: r)) / 128 = V (y :: r) from by omega, leb_V (y :: r) h.2 (.inr hl')]
    congr 1
    have e2 : (x.toNat % 128 + 128 * V (y :: r)) % 128 + 128 = x.toNat := by omega
    rw [e2]; simp
theorem lebU_last (m : Nat) : m = 0 ∨ lastB (lebU m) ≠ 0 := by
  induction m using Nat.strongRecOn with
  | _ m ih =>
    by_cases h : m < 128
    · rcases Nat.eq_zero_or_pos m with h0 | h0
      · exact .inl h0
      · right
        rw [lebU_lt h]
        have e : (UInt8.ofNat m).toNat = m := by simp; omega
        simp only [lastB, e]; omega
    · right
      have h1 := ih (m / 128) (by omega)
      rw [lebU_ge h]
      have hp := lebU_pos (m / 128)
      cases hl : lebU (m / 128) with
      | nil => rw [hl] at hp; simp at hp
      | cons y r =>
        rw [hl] at h1
        show lastB (y :: r) ≠ 0
        rcases h1 with h1 | h1
        · omega
        · exact h1
theorem leb_not {s : List UInt8} {m : Nat} (hs : 1 < s.length) (hl : lastB s = 0) : lebU m ≠ s := by
  intro e
  rcases lebU_last m with h | h
  · subst h
    rw [lebU_lt (by omega)] at e
    rw [← e] at hs; simp at hs
  · rw [e] at h; exact h hl
def okLast (k x : Nat) : Prop := (k = 10 → x ≤ 1) ∧ (k = 1 ∨ x ≠ 0)
instance (k x : Nat) : Decidable (okLast k x) := inferInstanceAs (Decidable (_ ∧ _))
theorem leb_rv {s : List UInt8} (h : Gp s) (hl : s.length ≤ 10) : (lebU (rv s) = s ↔ okLast s.length (lastB s)) ∧ (okLast s.length (lastB s) → rv s = V s) := by
  obtain ⟨v, h1, h2, h3⟩ := V_split s h
  have hpos : 0 < s.length := by cases s with | nil => exact h.elim | cons => simp
  have hV : V s < 18446744073709551616 ↔ (s.length = 10 → lastB s ≤ 1) := by
    by_cases e : s.length = 10
    · rw [e] at h1 h2
      have p : 2 ^ (7 * (10 - 1)) = 9223372036854775808 := by decide
      rw [p] at h1 h2
      constructor
      · intro hv _; omega
      · intro hv; have := hv e; omega
    · have hle : 7 * (s.length - 1) + 7 ≤ 63 := by omega
      have p : 2 ^ (7 * (s.length - 1)) * 128 ≤ 2 ^ 63 := by
        have : 2 ^ (7 * (s.length - 1)) * 2 ^ 7 = 2 ^ (7 * (s.length - 1) + 7) := (Nat.pow_add _ _ _).symm
        rw [show (128 : Nat) = 2 ^ 7 from rfl, this]
        exact Nat.pow_le_pow_right (by omega) hle
      have q : lastB s * 2 ^ (7 * (s.length - 1)) ≤ 127 * 2 ^ (7 * (s.length - 1)) := Nat.mul_le_mul_right _ (by omega)
      constructor
      · intro _ h; exact absurd h e
      · intro _; omega
  have key : okLast s.length (lastB s) → rv s = V s := fun hk => by rw [rv_V, Nat.mod_eq_of_lt (hV.2 hk.1)]
  refine ⟨⟨fun e => ?_, fun hk => ?_⟩, key⟩
  · have hv : V s = rv s := by rw [← e, V_lebU, e]
    have := rv_lt s
    refine ⟨hV.1 (by omega), ?_⟩
    rcases Nat.lt_or_ge 1 s.length with h4 | h4
    · right; intro h5; exact leb_not h4 h5 e
    · left; omega
  · rw [key hk]
    exact leb_V s h hk.2
theorem grpF_bounds : ∀ (m i : Nat) (l : List UInt8), (grpF m i l).2 = 0 → i < (grpF m i l).1 ∧ (grpF m i l).1 ≤ i + m ∧ (grpF m i l).1 - i ≤ l.length ∧ Gp (l.take ((grpF m i l).1 - i)) ∧ lastB (l.take ((grpF m i l).1 - i)) = (l.getD ((grpF m i l).1 - 1 - i) 0).toNat
  | 0, i, l, h => by simp [grpF] at h
  | m + 1, i, [], h => by simp [grpF] at h
  | m + 1, i, x :: r, h => by
    unfold grpF at h ⊢
    by_cases hx : x.toNat < 128
    · rw [if_pos hx] at h ⊢
      simp only [List.length_cons]
      refine ⟨by omega, by omega, by omega, ?_, ?_⟩
      · rw [show i + 1 - i = 1 from by omega]; simpa [Gp] using hx
      · rw [show i + 1 - i = 1 from by omega, show i + 1 - 1 - i = 0 from by omega]; simp [lastB]
    · rw [if_neg hx] at h ⊢
      obtain ⟨h1, h2, h3, h4, h5⟩ := grpF_bounds m (i + 1) r h
      generalize (grpF m (i + 1) r).1 = k at *
      obtain ⟨j, rfl⟩ : ∃ j, k = i + 1 + (j + 1) := ⟨k - (i + 1) - 1, by omega⟩
      rw [show i + 1 + (j + 1) - (i + 1) = j + 1 from by omega] at h3 h4 h5
      rw [show i + 1 + (j + 1) - 1 - (i + 1) = j from by omega] at h5
      rw [show i + 1 + (j + 1) - i = j + 1 + 1 from by omega, show i + 1 + (j + 1) - 1 - i = j + 1 from by omega]
      refine ⟨by omega, by omega, by simp; omega, ?_, ?_⟩
      · rw [List.take_succ_cons]
        cases hr : r.take (j + 1) with
        | nil => rw [hr] at h4; exact h4.elim
        | cons y q => rw [hr] at h4; exact ⟨by omega, h4⟩
      · rw [List.take_succ_cons, List.getD_cons_succ, ← h5]
        cases hr : r.take (j + 1) with
        | nil => rw [hr] at h4; exact h4.elim
        | cons y q => rfl
theorem getUF_grp : ∀ (l : List UInt8) (i n : Nat), i ≤ 9 → getUF i n l = if (grpF (10 - i) i l).2 ≠ 0 then (0, 0, (grpF (10 - i) i l).2) else
    if okLast (grpF (10 - i) i l).1 (l.getD ((grpF (10 - i) i l).1 - 1 - i) 0).toNat then (n + V (l.take ((grpF (10 - i) i l).1 - i)) * 2 ^ (7 * i), (grpF (10 - i) i l).1, 0) else (0, 0, 4)
  | [], i, n, hi => by
    obtain ⟨m, hm⟩ : ∃ m, 10 - i = m + 1 := ⟨9 - i, by omega⟩
    rw [hm]; simp [getUF, grpF]
  | x :: r, i, n, hi => by
    obtain ⟨m, hm⟩ : ∃ m, 10 - i = m + 1 := ⟨9 - i, by omega⟩
    rw [hm]
    unfold getUF grpF
    by_cases hx : x.toNat < 128
    · rw [if_pos hx, if_pos hx]
      simp only [show i + 1 - 1 - i = 0 from by omega, show i + 1 - i = 1 from by omega, List.getD_cons_zero, ne_eq, not_true_eq_false, if_false, List.take_succ_cons, List.take_zero, V, Nat.mul_zero, Nat.add_zero]
      by_cases c : (i = 9 ∧ 1 < x.toNat) ∨ (0 < i ∧ x.toNat = 0)
      · rw [if_pos c, if_neg (by unfold okLast; omega)]
      · rw [if_neg c, if_pos (by unfold okLast; omega)]
    · rw [if_neg hx, if_neg hx]
      by_cases h9 : i = 9
      · subst h9
        have : m = 0 := by omega
        subst this
        rw [if_pos (.inl ⟨rfl, by omega⟩)]
        simp [grpF]
      · rw [if_neg (by omega), getUF_grp r (i + 1) _ (by omega), show 10 - (i + 1) = m from by omega]
        by_cases he : (grpF m (i + 1) r).2 = 0
        · obtain ⟨h1, h2, h3, h4, h5⟩ := grpF_bounds m (i + 1) r he
          generalize (grpF m (i + 1) r).1 = k at *
          obtain ⟨j, rfl⟩ : ∃ j, k = i + 1 + (j + 1) := ⟨k - (i + 1) - 1, by omega⟩
          simp only [he, ne_eq, not_true_eq_false, if_false]
          rw [show i + 1 + (j + 1) - (i + 1) = j + 1 from by omega, show i + 1 + (j + 1) - 1 - (i + 1) = j from by omega, show i + 1 + (j + 1) - i = j + 1 + 1 from by omega, show i + 1 + (j + 1) - 1 - i = j + 1 from by omega]
          rw [List.getD_cons_succ, List.take_succ_cons]
          have e : n + x.toNat % 128 * 2 ^ (7 * i) + V (r.take (j + 1)) * 2 ^ (7 * (i + 1)) = n + V (x :: r.take (j + 1)) * 2 ^ (7 * i) := by
            rw [pow_step]
            show _ = n + (x.toNat % 128 + 128 * V (r.take (j + 1))) * 2 ^ (7 * i)
            rw [Nat.add_mul, Nat.mul_assoc, Nat.mul_left_comm (V _) 128]; omega
          rw [e]
        · simp [he]
/-- The reference's way. -/
def refU (b : List UInt8) : Nat × Nat × Int :=
  if (grp b).2 ≠ 0 then (0, 0, (grp b).2) else if lebU (rv (b.take (grp b).1)) = b.take (grp b).1 then (rv (b.take (grp b).1), (grp b).1, 0) else (0, 0, 4)
theorem getU_refU (b : List UInt8) : getU b = refU b := by
  unfold getU refU grp
  rw [getUF_grp b 0 0 (by omega)]
  simp only [Nat.sub_zero, Nat.mul_zero, Nat.pow_zero, Nat.mul_one, Nat.zero_add]
  by_cases he : (grpF 10 0 b).2 = 0
  · obtain ⟨h1, h2, h3, h4, h5⟩ := grpF_bounds 10 0 b he
    simp only [Nat.sub_zero] at h3 h4 h5
    simp only [he, ne_eq, not_true_eq_false, if_false]
    have hlen : (b.take (grpF 10 0 b).1).length = (grpF 10 0 b).1 := by simp; omega
    obtain ⟨k1, k2⟩ := leb_rv h4 (by omega)
    rw [hlen, h5] at k1 k2
    by_cases c : okLast (grpF 10 0 b).1 (b.getD ((grpF 10 0 b).1 - 1) 0).toNat
    · rw [if_pos c, if_pos (k1.2 c), k2 c]
    · rw [if_neg c, if_neg (fun e => c (k1.1 e))]
  · simp [he]
theorem grpF_nil {i : Nat} (hi : i < 10) : grpF (10 - i) i [] = (0, 3) := by
  obtain ⟨m, hm⟩ : ∃ m, 10 - i = m + 1 := ⟨9 - i, by omega⟩
  rw [hm]; rfl
theorem grpF_lt {i : Nat} (hi : i < 10) {x : UInt8} {r : List UInt8} (hx : x.toNat < 128) : grpF (10 - i) i (x :: r) = (i + 1, 0) := by
  obtain ⟨m, hm⟩ : ∃ m, 10 - i = m + 1 := ⟨9 - i, by omega⟩
  rw [hm]; unfold grpF; rw [if_pos hx]
theorem grpF_ge {i : Nat} (hi : i < 10) {x : UInt8} {r : List UInt8} (hx : ¬ x.toNat < 128) : grpF (10 - i) i (x :: r) = grpF (10 - (i + 1)) (i + 1) r := by
  obtain ⟨m, hm⟩ : ∃ m, 10 - i = m + 1 := ⟨9 - i, by omega⟩
  rw [hm, show 10 - (i + 1) = m from by omega]
  conv => lhs; unfold grpF
  rw [if_neg hx]
theorem or_rv (m r : Nat) (hr : r < 128) : bitsOf .or .u64 (IntKind.u64.wrap ((m : Int) * 2 ^ min (7 : Int).toNat IntKind.u64.bits)) ((r : Nat) : Int) = (((r + 128 * m) % 18446744073709551616 : Nat) : Int) := by
  have e0 : IntKind.u64.wrap ((m : Int) * 2 ^ min (7 : Int).toNat IntKind.u64.bits) = ((m % 144115188075855872 * 2 ^ 7 : Nat) : Int) := by
    show IntKind.u64.wrap ((m : Int) * 2 ^ 7) = _
    rw [wrap_u64]; omega
  rw [e0, show bitsOf .or .u64 ((m % 144115188075855872 * 2 ^ 7 : Nat) : Int) (r : Int) = bitsOf .or .u64 (r : Int) ((m % 144115188075855872 * 2 ^ 7 : Nat) : Int) from ?_, or_sum (k := 7) (by omega) (by omega)]
  · congr 1; omega
  · show IntKind.u64.wrap _ = IntKind.u64.wrap _
    congr 2
    exact congrArg BitVec.toNat (BitVec.or_comm _ _)
theorem toStr_inj {a b : List UInt8} (h : toStr a = toStr b) : a = b := by
  unfold toStr at h
  injection h with h
  injection h
theorem rv_step {xs : List UInt8} {j k : Nat} (hj : j + 1 ≤ k) (hk : k ≤ xs.length) : rv ((xs.drop j).take (k - j)) = ((xs.getD j 0).toNat % 128 + 128 * rv ((xs.drop (j + 1)).take (k - (j + 1)))) % 18446744073709551616 := by
  rw [drop_cons (by omega), show k - j = k - (j + 1) + 1 from by omega, List.take_succ_cons]
  rfl
theorem grp_bounds {b : List UInt8} (h : (grp b).2 = 0) : 0 < (grp b).1 ∧ (grp b).1 ≤ 10 ∧ (grp b).1 ≤ b.length := by
  unfold grp at h ⊢
  obtain ⟨h1, h2, h3, _⟩ := grpF_bounds 10 0 b h
  omega
end Go.Proofs.Eng
