import Derived.Test.YtlmfpocifkpggaaDoorKSF1
import Derived.Lib.Atoi
import Derived.Lib.ItoaNum
import Derived.Lib.AtoiErrMem
import Derived.Test.YtlmfpocifkpggaaDoorSh
import Derived.Test.YtlmfpocifkpggaaDoorRows
import Derived.Stop.LaidErr
import Derived.Lib.LaidTab
import Derived.Scope
import Derived.ChangeKeysEq
import Derived.Test.YtlmfpocifkpggaaDoorProg
/- Merged: PY PM QV QN QP RG QB QG4 QD QE QF RH RS T0 A2 A7 T1 V1 T2 V2 T3 V3 T4 V4 T5 V5 T6 V6 T7 V7 T8 -/
section
set_option linter.unusedVariables false
set_option linter.unusedSimpArgs false
namespace Go.Proofs.Eng
open Go.RowKit
/-! ### frames -/
abbrev Frm := UInt8 × List UInt8
def bodyF (k : UInt8) (b : List UInt8) : List UInt8 := k :: (lebU b.length ++ b)
def sealF (k : UInt8) (b : List UInt8) : List UInt8 := bodyF k b ++ sumB (bodyF k b)
def noF (e : Int) : Frm × Nat × Int := ((0, []), 0, e)
def endF (b : List UInt8) : Nat := 1 + (getU (b.drop 1)).2.1 + (getU (b.drop 1)).1
def openF (b : List UInt8) : Frm × Nat × Int :=
  if b.length = 0 then noF 22 else if b.getD 0 0 = 0 then noF 4 else if (getU (b.drop 1)).2.2 ≠ 0 then noF (getU (b.drop 1)).2.2
  else if 1048576 < (getU (b.drop 1)).1 then noF 5 else if b.length < endF b + 4 then noF 3
  else if sumB (b.take (endF b)) ≠ (b.drop (endF b)).take 4 then noF 6
  else ((b.getD 0 0, (b.take (endF b)).drop (1 + (getU (b.drop 1)).2.1)), endF b + 4, 0)
/-- The bytes of a number that is read are those that it is laid as. -/
theorem getU_back {b : List UInt8} (h : (getU b).2.2 = 0) : lebU (getU b).1 = b.take (getU b).2.1 ∧ (getU b).2.1 ≤ b.length ∧ 0 < (getU b).2.1 := by
  obtain ⟨k1, k2, k3, k4⟩ := getU_bounds h
  refine ⟨?_, k1, k3⟩
  have hr := getU_refU b
  unfold refU at hr
  by_cases g1 : (grp b).2 ≠ 0
  · rw [if_pos g1] at hr; rw [hr] at h; exact absurd h g1
  · rw [if_neg g1] at hr
    by_cases g2 : lebU (rv (b.take (grp b).1)) = b.take (grp b).1
    · rw [if_pos g2] at hr; rw [hr]; exact g2
    · rw [if_neg g2] at hr; rw [hr] at h; cases h
theorem bodyF_len (k : UInt8) (b : List UInt8) : (bodyF k b).length = 1 + (lebU b.length).length + b.length := by simp [bodyF]; omega
theorem sealF_len (k : UInt8) (b : List UInt8) : (sealF k b).length = (bodyF k b).length + 4 := by simp [sealF, sumB_len]
theorem openF_seal {k : UInt8} {b : List UInt8} (hk : k ≠ 0) (hb : b.length ≤ 1048576) (t : List UInt8) : openF (sealF k b ++ t) = ((k, b), (sealF k b).length, 0) := by
  have e1 : (sealF k b ++ t).drop 1 = lebU b.length ++ (b ++ (sumB (bodyF k b) ++ t)) := by simp [sealF, bodyF]
  have hg := getU_lebU (n := b.length) (b ++ (sumB (bodyF k b) ++ t)) (by omega)
  have hl := bodyF_len k b
  have hE : endF (sealF k b ++ t) = (bodyF k b).length := by
    unfold endF; rw [e1, hg]; show 1 + (lebU b.length).length + b.length = _; omega
  have e0 : (sealF k b ++ t).getD 0 0 = k := by simp [sealF, bodyF]
  have ht : (sealF k b ++ t).take (bodyF k b).length = bodyF k b := by
    rw [sealF, List.append_assoc, List.take_left']; rfl
  have hd : (sealF k b ++ t).drop (bodyF k b).length = sumB (bodyF k b) ++ t := by
    rw [sealF, List.append_assoc, List.drop_left']; rfl
  have hs := sealF_len k b
  unfold openF
  rw [hE, e0, e1, hg, ht, hd]
  rw [if_neg (by rw [List.length_append]; omega), if_neg hk, if_neg (by simp), if_neg (by simpa using hb), if_neg (by rw [List.length_append]; omega),
    if_neg (by rw [List.take_left' (sumB_len _)]; simp)]
  have h2 : (bodyF k b).drop (1 + (lebU b.length).length) = b := by
    show (k :: (lebU b.length ++ b)).drop (1 + (lebU b.length).length) = b
    rw [Nat.add_comm, List.drop_succ_cons, List.drop_left' rfl]
  rw [hs]
  show ((k, (bodyF k b).drop (1 + (lebU b.length).length)), _, _) = _
  rw [h2]
theorem openF_ok {b : List UInt8} (h : (openF b).2.2 = 0) : (openF b).1.1 ≠ 0 ∧ (openF b).1.2.length ≤ 1048576 ∧ 0 < (openF b).2.1 ∧ (openF b).2.1 ≤ b.length ∧ sealF (openF b).1.1 (openF b).1.2 = b.take (openF b).2.1 := by
  unfold openF at h ⊢
  split at h
  · exact absurd h (by show (22 : Int) ≠ 0; decide)
  split at h
  · exact absurd h (by show (4 : Int) ≠ 0; decide)
  split at h
  · rename_i h3; exact absurd h h3
  split at h
  · exact absurd h (by show (5 : Int) ≠ 0; decide)
  split at h
  · exact absurd h (by show (3 : Int) ≠ 0; decide)
  split at h
  · exact absurd h (by show (6 : Int) ≠ 0; decide)
  rename_i h1 h2 h3 h4 h5 h6
  rw [if_neg h1, if_neg h2, if_neg h3, if_neg h4, if_neg h5, if_neg h6]
  have hg : (getU (b.drop 1)).2.2 = 0 := Classical.byContradiction h3
  obtain ⟨hb, hk, hp⟩ := getU_back hg
  have hs : sumB (b.take (endF b)) = (b.drop (endF b)).take 4 := Classical.byContradiction h6
  have hE : endF b = 1 + (getU (b.drop 1)).2.1 + (getU (b.drop 1)).1 := rfl
  have hlen : ((b.take (endF b)).drop (1 + (getU (b.drop 1)).2.1)).length = (getU (b.drop 1)).1 := by rw [List.length_drop, List.length_take]; omega
  have hbody : bodyF (b.getD 0 0) ((b.take (endF b)).drop (1 + (getU (b.drop 1)).2.1)) = b.take (endF b) := by
    unfold bodyF
    rw [hlen, hb]
    cases b with
    | nil => exact absurd rfl h1
    | cons x r =>
      show x :: (r.take (getU r).2.1 ++ ((x :: r).take (1 + (getU r).2.1 + (getU r).1)).drop (1 + (getU r).2.1)) = (x :: r).take (1 + (getU r).2.1 + (getU r).1)
      rw [show 1 + (getU r).2.1 + (getU r).1 = ((getU r).2.1 + (getU r).1) + 1 by omega, List.take_succ_cons, show 1 + (getU r).2.1 = (getU r).2.1 + 1 by omega, List.drop_succ_cons]
      congr 1
      have : r.take (getU r).2.1 = (r.take ((getU r).2.1 + (getU r).1)).take (getU r).2.1 := by rw [List.take_take]; congr 1; omega
      rw [this, List.take_append_drop]
  refine ⟨h2, by rw [hlen]; omega, by show 0 < endF b + 4; omega, by show endF b + 4 ≤ _; omega, ?_⟩
  show sealF (b.getD 0 0) _ = b.take (endF b + 4)
  rw [sealF, hbody, hs, List.take_add]
theorem openF_nil {b : List UInt8} : (openF b).2.2 = 22 ↔ b = [] := by
  constructor
  · intro h
    unfold openF at h
    split at h
    · rename_i h1; exact List.length_eq_zero_iff.1 h1
    split at h
    · exact absurd h (by show (4 : Int) ≠ 22; decide)
    split at h
    · rename_i h3
      rcases (getU_zero h3).2.2 with e | e <;> (have h' : (getU (b.drop 1)).2.2 = 22 := h; omega)
    split at h
    · exact absurd h (by show (5 : Int) ≠ 22; decide)
    split at h
    · exact absurd h (by show (3 : Int) ≠ 22; decide)
    split at h
    · exact absurd h (by show (6 : Int) ≠ 22; decide)
    · exact absurd h (by show (0 : Int) ≠ 22; decide)
  · intro h; subst h; rfl
/-! ### segments -/
def putF (l : List (List UInt8)) : List UInt8 × Int := if l.all (fun c => decide (c.length ≤ 1048576)) then (l.flatMap (sealF 1), 0) else ([], 5)
def chunksF (b : List UInt8) : Option (List (List UInt8)) :=
  if hb : b = [] then some []
  else if h : (openF b).2.2 = 0 ∧ (openF b).1.1 = 1 then (chunksF (b.drop (openF b).2.1)).map ((openF b).1.2 :: ·)
  else none
termination_by b.length
decreasing_by
  have := openF_ok h.1
  have h2 : b.length ≠ 0 := fun e => hb (List.length_eq_zero_iff.1 e)
  rw [List.length_drop]
  omega
theorem chunksF_nil : chunksF [] = some [] := by rw [chunksF, dif_pos rfl]
theorem chunksF_bad {b : List UInt8} (hb : b ≠ []) (h : ¬ ((openF b).2.2 = 0 ∧ (openF b).1.1 = 1)) : chunksF b = none := by rw [chunksF, dif_neg hb, dif_neg h]
theorem chunksF_ok {b : List UInt8} (hb : b ≠ []) (h : (openF b).2.2 = 0 ∧ (openF b).1.1 = 1) : chunksF b = (chunksF (b.drop (openF b).2.1)).map ((openF b).1.2 :: ·) := by rw [chunksF, dif_neg hb, dif_pos h]
def getF (b : List UInt8) : List (List UInt8) × Int := match chunksF b with | some l => (l, 0) | none => ([], 4)
/-- All frames, one behind the other. -/
def scanF (b : List UInt8) : List Frm × Int :=
  if h : (openF b).2.2 = 0 then ((openF b).1 :: (scanF (b.drop (openF b).2.1)).1, (scanF (b.drop (openF b).2.1)).2)
  else if (openF b).2.2 = 22 then ([], 0) else ([], (openF b).2.2)
termination_by b.length
decreasing_by
  all_goals
    have := openF_ok h
    rw [List.length_drop]
    omega
theorem scanF_ok {b : List UInt8} (h : (openF b).2.2 = 0) : scanF b = ((openF b).1 :: (scanF (b.drop (openF b).2.1)).1, (scanF (b.drop (openF b).2.1)).2) := by rw [scanF, dif_pos h]
theorem scanF_bad {b : List UInt8} (h : ¬ (openF b).2.2 = 0) : scanF b = if (openF b).2.2 = 22 then ([], 0) else ([], (openF b).2.2) := by rw [scanF, dif_neg h]
theorem chunks_scan : ∀ (n : Nat) (b : List UInt8), b.length ≤ n → chunksF b = if (scanF b).2 = 0 ∧ (scanF b).1.all (fun x => decide (x.1 = 1)) = true then some ((scanF b).1.map (·.2)) else none := by
  intro n
  induction n with
  | zero =>
    intro b hb
    have : b = [] := List.length_eq_zero_iff.1 (by omega)
    subst this
    rw [chunksF_nil, scanF_bad (by decide)]; rfl
  | succ n ih =>
    intro b hb
    by_cases h0 : b = []
    · subst h0; rw [chunksF_nil, scanF_bad (by decide)]; rfl
    · by_cases h1 : (openF b).2.2 = 0
      · have hok := openF_ok h1
        have hi := ih (b.drop (openF b).2.1) (by rw [List.length_drop]; omega)
        rw [scanF_ok h1]
        by_cases h2 : (openF b).1.1 = 1
        · rw [chunksF_ok h0 ⟨h1, h2⟩, hi]
          by_cases h3 : (scanF (b.drop (openF b).2.1)).2 = 0 ∧ (scanF (b.drop (openF b).2.1)).1.all (fun x => decide (x.1 = 1)) = true
          · rw [if_pos h3, if_pos ⟨h3.1, by rw [List.all_cons, h3.2]; simp [h2]⟩]; rfl
          · rw [if_neg h3, if_neg (fun h => h3 ⟨h.1, by have := h.2; rw [List.all_cons, Bool.and_eq_true] at this; exact this.2⟩)]; rfl
        · rw [chunksF_bad h0 (fun h => h2 h.2), if_neg (fun h => by have := h.2; rw [List.all_cons, Bool.and_eq_true] at this; exact h2 (of_decide_eq_true this.1))]
      · rw [chunksF_bad h0 (fun h => h1 h.1), scanF_bad h1]
        have h22 : ¬ (openF b).2.2 = 22 := fun h => h0 (openF_nil.1 h)
        rw [if_neg h22, if_neg (fun h => h1 h.1)]
theorem chunks_put : ∀ l : List (List UInt8), (∀ c ∈ l, c.length ≤ 1048576) → chunksF (l.flatMap (sealF 1)) = some l
  | [], _ => chunksF_nil
  | c :: l, h => by
    have ho := openF_seal (k := 1) (b := c) (by decide) (h c (by simp)) (l.flatMap (sealF 1))
    have hne : sealF 1 c ++ l.flatMap (sealF 1) ≠ [] := by intro e; have := congrArg List.length e; rw [List.length_append, sealF_len] at this; simp at this
    rw [List.flatMap_cons, chunksF_ok hne (by rw [ho]; exact ⟨rfl, rfl⟩), ho]
    show (chunksF ((sealF 1 c ++ l.flatMap (sealF 1)).drop (sealF 1 c).length)).map (c :: ·) = _
    rw [List.drop_left' rfl, chunks_put l (fun x hx => h x (by simp [hx]))]
    rfl
theorem put_chunks : ∀ (n : Nat) (b : List UInt8), b.length ≤ n → ∀ l, chunksF b = some l → l.flatMap (sealF 1) = b ∧ ∀ c ∈ l, c.length ≤ 1048576 := by
  intro n
  induction n with
  | zero =>
    intro b hb l h
    have : b = [] := List.length_eq_zero_iff.1 (by omega)
    subst this
    rw [chunksF_nil] at h; cases h
    exact ⟨rfl, fun c hc => by simp at hc⟩
  | succ n ih =>
    intro b hb l h
    by_cases h0 : b = []
    · subst h0; rw [chunksF_nil] at h; cases h; exact ⟨rfl, fun c hc => by simp at hc⟩
    · by_cases h1 : (openF b).2.2 = 0 ∧ (openF b).1.1 = 1
      · have hok := openF_ok h1.1
        rw [chunksF_ok h0 h1] at h
        obtain ⟨l', hl, rfl⟩ := Option.map_eq_some_iff.1 h
        obtain ⟨h2, h3⟩ := ih _ (by rw [List.length_drop]; omega) _ hl
        refine ⟨?_, fun c hc => ?_⟩
        · rw [List.flatMap_cons, h2, ← h1.2, hok.2.2.2.2, List.take_append_drop]
        · rcases List.mem_cons.1 hc with rfl | hc
          · exact hok.2.1
          · exact h3 c hc
      · rw [chunksF_bad h0 h1] at h; cases h
end Go.Proofs.Eng
end
section
set_option linter.unusedVariables false
set_option linter.unusedSimpArgs false
namespace Go.Proofs.Eng
open Go.RowKit
/-! ### the names of segments -/
def dig : Nat → Nat → List UInt8
  | 0, _ => []
  | k + 1, n => dig k (n / 10) ++ [UInt8.ofNat (48 + n % 10)]
def begF : List UInt8 := [115, 101, 103, 45]
def nameL (n : Nat) : List UInt8 := begF ++ dig 6 n
def nameF (n : Int) : List UInt8 := if n < 1 ∨ 999999 < n then [] else nameL n.toNat
theorem dig_len : ∀ k n, (dig k n).length = k
  | 0, _ => rfl
  | k + 1, n => by rw [dig, List.length_append, dig_len k]; rfl
theorem nameL_len (n : Nat) : (nameL n).length = 10 := by rw [nameL, List.length_append, dig_len]; rfl
theorem digit_toNat (d : Nat) : (UInt8.ofNat (48 + d % 10)).toNat = 48 + d % 10 := by rw [UInt8.toNat_ofNat']; omega
theorem dig_mem : ∀ k n c, c ∈ dig k n → 48 ≤ c.toNat ∧ c.toNat ≤ 57
  | 0, _, _, h => by simp [dig] at h
  | k + 1, n, c, h => by
    rw [dig, List.mem_append] at h
    rcases h with h | h
    · exact dig_mem k _ c h
    · have : c = UInt8.ofNat (48 + n % 10) := by simpa using h
      subst this
      rw [digit_toNat]; omega
def valF (l : List UInt8) : Nat := l.foldl (fun a c => 10 * a + (c.toNat - 48)) 0
theorem valF_dig : ∀ k n, valF (dig k n) = n % 10 ^ k
  | 0, n => by simp [dig, valF, Nat.mod_one]
  | k + 1, n => by
    have ih := valF_dig k (n / 10)
    unfold valF at ih ⊢
    rw [dig, List.foldl_append, ih]
    show 10 * (n / 10 % 10 ^ k) + ((UInt8.ofNat (48 + n % 10)).toNat - 48) = _
    rw [digit_toNat, Nat.pow_succ', Nat.mod_mul]
    omega
theorem valF_name {n : Nat} (h : n ≤ 999999) : valF ((nameL n).drop 4) = n := by
  show valF (dig 6 n) = n
  rw [valF_dig]; omega
theorem nameL_inj {a b : Nat} (ha : a ≤ 999999) (hb : b ≤ 999999) (h : nameL a = nameL b) : a = b := by
  rw [← valF_name ha, ← valF_name hb, h]
theorem dig_zero : ∀ k, dig k 0 = List.replicate k 48
  | 0 => rfl
  | k + 1 => by rw [dig, dig_zero k, List.replicate_succ']; rfl
theorem dec_len : ∀ (k n : Nat), n < 10 ^ (k + 1) → (Lib.decDigits n).length ≤ k + 1
  | 0, n, h => by rw [Lib.decDigits, dif_pos (by omega)]; simp
  | k + 1, n, h => by
    rw [Lib.decDigits]
    split
    · simp
    · rw [List.length_append]
      have := dec_len k (n / 10) (by rw [Nat.pow_succ] at h; omega)
      simp; omega
theorem dec_dig : ∀ (k n : Nat), n < 10 ^ (k + 1) → List.replicate (k + 1 - (Lib.decDigits n).length) 48 ++ Lib.decDigits n = dig (k + 1) n
  | 0, n, h => by
    have h' : n < 10 := by omega
    rw [Lib.decDigits, dif_pos h', dig, dig, Nat.mod_eq_of_lt h']; rfl
  | k + 1, n, h => by
    rw [dig, Lib.decDigits]
    split
    · rename_i h1
      rw [Nat.div_eq_of_lt h1, dig_zero, Nat.mod_eq_of_lt h1]; rfl
    · have h3 : n / 10 < 10 ^ (k + 1) := by rw [Nat.pow_succ] at h; omega
      rw [List.length_append, ← dec_dig k (n / 10) h3, ← List.append_assoc]
      congr 2
      show List.replicate (k + 1 + 1 - (_ + 1)) _ = _
      rw [Nat.add_sub_add_right]
theorem itoa_name {n : Int} (h1 : 1 ≤ n) (h2 : n ≤ 999999) : (Lib.itoa n).length ≤ 6 ∧ begF ++ (List.replicate (6 - (Lib.itoa n).length) 48 ++ Lib.itoa n) = nameL n.toNat := by
  have e : Lib.itoa n = Lib.decDigits n.toNat := by unfold Lib.itoa; rw [if_neg (by omega)]
  rw [e]
  exact ⟨dec_len 5 _ (by omega), by rw [dec_dig 5 _ (by omega)]; rfl⟩
theorem decFrom_app : ∀ (l : List UInt8) (a : Nat) (c : UInt8), Lib.decFrom a (l ++ [c]) = (Lib.decFrom a l).bind fun n => (Lib.digitVal c).map (n * 10 + ·)
  | [], a, c => by
    show Lib.decFrom a [c] = _
    unfold Lib.decFrom
    cases Lib.digitVal c <;> rfl
  | b :: l, a, c => by
    show Lib.decFrom a (b :: (l ++ [c])) = _
    unfold Lib.decFrom
    cases h : Lib.digitVal b with
    | none => rfl
    | some d => exact decFrom_app l _ c
theorem decFrom_dig : ∀ k n, Lib.decFrom 0 (dig k n) = some (n % 10 ^ k)
  | 0, n => by simp [dig, Lib.decFrom, Nat.mod_one]
  | k + 1, n => by
    rw [dig, decFrom_app, decFrom_dig k]
    have hd : Lib.digitVal (UInt8.ofNat (48 + n % 10)) = some (n % 10) := by
      unfold Lib.digitVal
      rw [digit_toNat, if_pos (by omega)]
      congr 1; omega
    rw [hd]
    show some (n / 10 % 10 ^ k * 10 + n % 10) = _
    rw [Nat.pow_succ', Nat.mod_mul]
    congr 1; omega
theorem atoi_dig {n : Nat} (h : n ≤ 999999) : Lib.atoi (dig 6 n) = some (n : Int) := by
  have hl := dig_len 6 n
  have hm := dig_mem 6 n
  have hd := decFrom_dig 6 n
  rw [Nat.mod_eq_of_lt (by omega)] at hd
  cases hx : dig 6 n with
  | nil => rw [hx] at hl; cases hl
  | cons b r =>
    have hb := hm b (by rw [hx]; simp)
    have n45 : (b == 45) = false := by
      rw [beq_eq_false_iff_ne]; intro e; subst e; exact absurd hb.1 (by decide)
    have n43 : (b == 43) = false := by
      rw [beq_eq_false_iff_ne]; intro e; subst e; exact absurd hb.1 (by decide)
    have hdn : Lib.decNat (b :: r) = some n := by
      unfold Lib.decNat
      rw [if_neg (by simp), ← hx, hd]
    simp [Lib.atoi, n45, n43, hdn]
/-- What is told as a name's number. -/
def IsNum (s : List UInt8) (r : Int) : Prop := (∀ n : Nat, 1 ≤ n → n ≤ 999999 → s = nameL n → r = n) ∧ (r = 0 ∨ (1 ≤ r ∧ r ≤ 999999 ∧ nameL r.toNat = s))
end Go.Proofs.Eng
end
section
set_option linter.unusedVariables false
set_option linter.unusedSimpArgs false
namespace Go.Proofs.Eng
open Go.RowKit
open Extern.Stop (cell)
/-- The table of the sums' four steps, as a variable's block has it. -/
def Qt (w : World) : Prop := ∀ i, i < 16 → w.cell? ⟨3, i, none⟩ = some (.int .u32 ((quart.getD i 0 : Nat) : Int))
theorem Qt.ext {w w' : World} (h : Qt w) (x : Ext w w') : Qt w' := fun i hi => x.cell (h i hi)
theorem one_made {w w' : World} {g : Nat} {b : UInt8} (hN : New w w' g #[cell b] 5) {B0 : Nat} (hB : B0 ≤ w.heap.size) : Own kByte 5 0 B0 w' (some ⟨g, 0, none⟩) 1 1 [b] :=
  Own.made kByte 5 0 B0 hN [b] [[cell b]] 1 1 rfl (byte_all _ _ _) hB (by omega) (by omega) (by rfl) (by rfl)
theorem none_made {w w' : World} {g : Nat} (hN : New w w' g #[] 5) {B0 : Nat} (hB : B0 ≤ w.heap.size) : Own kByte 5 0 B0 w' (some ⟨g, 0, none⟩) 0 0 [] :=
  Own.made kByte 5 0 B0 hN [] [] 0 0 rfl trivial hB (by omega) (by omega) (by rfl) (by rfl)
section
variable {w w' : World} {g B B0 : Nat} {p1 p2 p3 : Option Addr} {n1 n2 n3 c1 c2 c3 : Nat} {a b c : List UInt8} {e : TypeId}
theorem sl1_own (hN : New w w' g #[.slice p1 n1 c1] e) (h1 : Sl kByte 5 B w' p1 n1 c1 a) (hB : B0 ≤ w.heap.size) : Own (kSl kByte 5) e B B0 w' (some ⟨g, 0, none⟩) 1 1 [a] :=
  Own.made (kSl kByte 5) e B B0 hN [a] [[.slice p1 n1 c1]] 1 1 rfl ⟨⟨_, _, _, rfl, h1⟩, trivial⟩ hB (by omega) (by omega) (by rfl) (by rfl)
theorem sl1_made (hN : New w w' g #[.slice p1 n1 c1] e) (h1 : Sl kByte 5 B w' p1 n1 c1 a) : Sl (kSl kByte 5) e B w' (some ⟨g, 0, none⟩) 1 1 [a] := (sl1_own (B0 := 0) hN h1 (Nat.zero_le _)).sl
theorem sl2_made (hN : New w w' g #[.slice p1 n1 c1, .slice p2 n2 c2] e) (h1 : Sl kByte 5 B w' p1 n1 c1 a) (h2 : Sl kByte 5 B w' p2 n2 c2 b) : Sl (kSl kByte 5) e B w' (some ⟨g, 0, none⟩) 2 2 [a, b] :=
  (Own.made (kSl kByte 5) e B 0 hN [a, b] [[.slice p1 n1 c1], [.slice p2 n2 c2]] 2 2 rfl ⟨⟨_, _, _, rfl, h1⟩, ⟨_, _, _, rfl, h2⟩, trivial⟩ (Nat.zero_le _) (by omega) (by omega) (by rfl) (by rfl)).sl
theorem sl3_made (hN : New w w' g #[.slice p1 n1 c1, .slice p2 n2 c2, .slice p3 n3 c3] e) (h1 : Sl kByte 5 B w' p1 n1 c1 a) (h2 : Sl kByte 5 B w' p2 n2 c2 b) (h3 : Sl kByte 5 B w' p3 n3 c3 c) : Sl (kSl kByte 5) e B w' (some ⟨g, 0, none⟩) 3 3 [a, b, c] :=
  (Own.made (kSl kByte 5) e B 0 hN [a, b, c] [[.slice p1 n1 c1], [.slice p2 n2 c2], [.slice p3 n3 c3]] 3 3 rfl ⟨⟨_, _, _, rfl, h1⟩, ⟨_, _, _, rfl, h2⟩, ⟨_, _, _, rfl, h3⟩, trivial⟩ (Nat.zero_le _) (by omega) (by omega) (by rfl) (by rfl)).sl
end
theorem flat3 (xs : List UInt8) (n : Nat) (h : xs.length = n) : [[(1 : UInt8)], lebU n, xs].flatten = bodyF 1 xs := by subst h; simp [bodyF]
theorem flat2 (b : List UInt8) : [b, sumB b].flatten = b ++ sumB b := by simp
theorem flatMap_take_succ {α β : Type} {f : α → List β} [Inhabited α] {xss : List α} {k : Nat} {z : α} (h : k < xss.length) : (xss.take (k + 1)).flatMap f = (xss.take k).flatMap f ++ f (xss.getD k z) := by
  have e : xss.getD k z = xss[k] := by rw [List.getD_eq_getElem?_getD, List.getElem?_eq_getElem h]; rfl
  rw [e, List.take_succ_eq_append_getElem h, List.flatMap_append]; simp
theorem flatMap_take_le {α β : Type} (f : α → List β) (xss : List α) (k : Nat) : ((xss.take k).flatMap f).length ≤ (xss.flatMap f).length := by
  conv => rhs; rw [← List.take_append_drop k xss]
  rw [List.flatMap_append, List.length_append]; omega
theorem flatMap_take_add {α β : Type} [Inhabited α] {f : α → List β} {xss : List α} {k : Nat} {z : α} (h : k < xss.length) : ((xss.take k).flatMap f).length + (f (xss.getD k z)).length ≤ (xss.flatMap f).length := by
  have h1 := flatMap_take_le f xss (k + 1)
  rw [flatMap_take_succ (z := z) h, List.length_append] at h1
  exact h1
theorem putF_bad {xss : List (List UInt8)} {i : Nat} (hi : i < xss.length) (h : 1048576 < (xss.getD i []).length) : putF xss = ([], 5) := by
  unfold putF
  rw [if_neg]
  intro ha
  rw [List.all_eq_true] at ha
  have e : xss.getD i [] = xss[i] := by rw [List.getD_eq_getElem?_getD, List.getElem?_eq_getElem hi]; rfl
  have := ha xss[i] (List.getElem_mem hi)
  rw [← e] at this
  have := of_decide_eq_true this
  omega
theorem putF_ok {xss : List (List UInt8)} (h : ∀ i, i < xss.length → (xss.getD i []).length ≤ 1048576) : putF xss = (xss.flatMap (sealF 1), 0) := by
  unfold putF
  rw [if_pos]
  rw [List.all_eq_true]
  intro x hx
  obtain ⟨i, hi, rfl⟩ := List.getElem_of_mem hx
  have := h i hi
  rw [List.getD_eq_getElem?_getD, List.getElem?_eq_getElem hi] at this
  exact decide_eq_true this
/-- Only these blocks, and new ones, have turned. -/
def Fx (w : World) (a0 a1 a2 : Nat) (w' : World) : Prop := ∀ w0, Ext w0 w → w0.heap.size ≤ a0 → w0.heap.size ≤ a1 → w0.heap.size ≤ a2 → Ext w0 w'
theorem Fx.refl (w : World) (a0 a1 a2 : Nat) : Fx w a0 a1 a2 w := fun _ h _ _ _ => h
theorem Fx.ext {w w' w'' : World} {a0 a1 a2 : Nat} (h : Fx w a0 a1 a2 w') (x : Ext w' w'') : Fx w a0 a1 a2 w'' := fun w0 h0 h1 h2 h3 => (h w0 h0 h1 h2 h3).trans x
theorem Fx.put {w w' w'' : World} {a0 a1 a2 g : Nat} {cs : Array Value} {t : TypeId} (h : Fx w a0 a1 a2 w') (p : Put w' w'' g cs t) (hg : g = a0 ∨ g = a1 ∨ g = a2 ∨ w.heap.size ≤ g) : Fx w a0 a1 a2 w'' :=
  fun w0 h0 h1 h2 h3 => (h w0 h0 h1 h2 h3).put p (by have := h0.size; rcases hg with rfl | rfl | rfl | hg <;> omega)
theorem flat1 {α : Type} (x : List α) : [x].flatten = x := by simp
/-! ### chunks and frames whose bytes are the call's own -/
theorem own_keep5 {Bl B : Nat} {w w' : World} {p : Option Addr} {n c : Nat} {x : List UInt8} {E : List TypeId} (h : Own kByte 5 0 Bl w p n c x) (hs : Same B E w w') (h5 : 5 ∈ E) : Own kByte 5 0 Bl w' p n c x :=
  h.of_heap (fun k hk ho => by
    rcases ho with ho | ⟨t, ht, _⟩
    · omega
    · simp [kByte, Kind.pure] at ht) (fun k hk hlt => by
    rcases h.form with ⟨h1, _, _⟩ | ⟨g, cur, h1, _, h3, _⟩
    · rw [h1] at hk; cases hk
    · rw [h1] at hk; injection hk with hk; injection hk with hk; subst hk
      exact hs _ hlt (.inr ⟨5, h5, h3.ty⟩))
def kOb (Bl : Nat) : Kind (List UInt8) where
  sz := 1
  E := [5]
  K := fun _ w x cs => ∃ p n c, cs = [.slice p n c] ∧ Own kByte 5 0 Bl w p n c x
  len := by rintro _ _ _ _ ⟨p, n, c, rfl, _⟩; rfl
  one := by
    rintro _ _ _ _ ⟨p, n, c, rfl, _⟩ v hv
    simp only [List.mem_singleton] at hv
    subst hv; rfl
  keep := fun hs ⟨p, n, c, h1, h2⟩ => ⟨p, n, c, h1, own_keep5 h2 hs (by simp)⟩
  mono := fun _ h => h
theorem kOb_pos {Bl : Nat} : 0 < (kOb Bl).sz := Nat.one_pos
def kFo (Bl : Nat) : Kind Frm where
  sz := 2
  E := [5]
  K := fun _ w x cs => ∃ p n c, cs = [.int .u8 (x.1.toNat : Int), .slice p n c] ∧ Own kByte 5 0 Bl w p n c x.2
  len := by rintro _ _ _ _ ⟨p, n, c, rfl, _⟩; rfl
  one := by
    rintro _ _ _ _ ⟨p, n, c, rfl, _⟩ v hv
    simp only [List.mem_cons, List.not_mem_nil, or_false] at hv
    rcases hv with rfl | rfl <;> rfl
  keep := fun hs ⟨p, n, c, h1, h2⟩ => ⟨p, n, c, h1, own_keep5 h2 hs (by simp)⟩
  mono := fun _ h => h
theorem kFo_pos {Bl : Nat} : 0 < (kFo Bl).sz := Nat.succ_pos 1
section
variable {w w' : World} {g Bl B B0 : Nat} {p : Option Addr} {n c : Nat} {e : TypeId}
theorem ob_made {x : List UInt8} (hN : New w w' g #[.slice p n c] e) (h : Own kByte 5 0 Bl w' p n c x) : Sl (kOb Bl) e 0 w' (some ⟨g, 0, none⟩) 1 1 [x] :=
  (Own.made (kOb Bl) e 0 0 hN [x] [[.slice p n c]] 1 1 rfl ⟨⟨_, _, _, rfl, h⟩, trivial⟩ (Nat.zero_le _) (by omega) (by omega) (by rfl) (by rfl)).sl
theorem fo_made {x : Frm} (hN : New w w' g #[.int .u8 (x.1.toNat : Int), .slice p n c] e) (h : Own kByte 5 0 Bl w' p n c x.2) : Sl (kFo Bl) e 0 w' (some ⟨g, 0, none⟩) 1 1 [x] :=
  (Own.made (kFo Bl) e 0 0 hN [x] [[.int .u8 (x.1.toNat : Int), .slice p n c]] 1 1 rfl ⟨⟨_, _, _, rfl, h⟩, trivial⟩ (Nat.zero_le _) (by omega) (by omega) (by rfl) (by rfl)).sl
theorem Sl.obAt {xs : List (List UInt8)} (h : Sl (kOb Bl) e B w p n c xs) (i : Nat) (hi : i < n) : ∃ q m c1, w.cell? ⟨ab p, ao p + i, none⟩ = some (.slice q m c1) ∧ Own kByte 5 0 Bl w q m c1 (xs.getD i []) := by
  obtain ⟨cs, ⟨q, m, c1, rfl, hs⟩, hr⟩ := h.get [] i hi
  have := hr 0 _ rfl
  have e1 : (kOb Bl).sz = 1 := rfl
  rw [e1] at this
  exact ⟨q, m, c1, by simpa using this, hs⟩
theorem Sl.foAt {xs : List Frm} (h : Sl (kFo Bl) e B w p n c xs) (i : Nat) (hi : i < n) : ∃ q m c1, w.cell? ⟨ab p, ao p + i * 2, none⟩ = some (.int .u8 ((xs.getD i (0, [])).1.toNat : Int)) ∧ w.cell? ⟨ab p, ao p + i * 2 + 1, none⟩ = some (.slice q m c1) ∧ Own kByte 5 0 Bl w q m c1 (xs.getD i (0, [])).2 := by
  obtain ⟨cs, ⟨q, m, c1, rfl, hs⟩, hr⟩ := h.get (0, []) i hi
  exact ⟨q, m, c1, hr 0 _ rfl, hr 1 _ rfl, hs⟩
end
theorem getF_scan (b : List UInt8) : getF b = if (scanF b).2 = 0 ∧ (scanF b).1.all (fun x => decide (x.1 = 1)) = true then ((scanF b).1.map (·.2), 0) else ([], 4) := by
  unfold getF
  rw [chunks_scan b.length b (Nat.le_refl _)]
  by_cases h : (scanF b).2 = 0 ∧ (scanF b).1.all (fun x => decide (x.1 = 1)) = true
  · rw [if_pos h, if_pos h]
  · rw [if_neg h, if_neg h]
theorem all_kind {l : List Frm} (h : ∀ i, i < l.length → (l.getD i (0, [])).1 = 1) : l.all (fun x => decide (x.1 = 1)) = true := by
  rw [List.all_eq_true]
  intro x hx
  obtain ⟨i, hi, rfl⟩ := List.getElem_of_mem hx
  have := h i hi
  rw [List.getD_eq_getElem?_getD, List.getElem?_eq_getElem hi] at this
  exact decide_eq_true this
theorem not_kind {l : List Frm} {i : Nat} (hi : i < l.length) (h : (l.getD i (0, [])).1 ≠ 1) : ¬ l.all (fun x => decide (x.1 = 1)) = true := by
  intro ha
  rw [List.all_eq_true] at ha
  have := ha l[i] (List.getElem_mem hi)
  rw [List.getD_eq_getElem?_getD, List.getElem?_eq_getElem hi] at h
  exact h (of_decide_eq_true this)
theorem map_take_succ {α β : Type} (f : α → β) {l : List α} {k : Nat} (z : α) (h : k < l.length) : (l.take (k + 1)).map f = (l.take k).map f ++ [f (l.getD k z)] := by
  have e : l.getD k z = l[k] := by rw [List.getD_eq_getElem?_getD, List.getElem?_eq_getElem h]; rfl
  rw [e, List.take_succ_eq_append_getElem h, List.map_append]; rfl
theorem openF_used {b : List UInt8} (h : (openF b).2.2 = 0) : 0 < (openF b).2.1 ∧ (openF b).2.1 ≤ b.length ∧ (openF b).1.2.length ≤ b.length := by
  have hk := openF_ok h
  have := congrArg List.length hk.2.2.2.2
  rw [sealF_len, bodyF_len, List.length_take] at this
  omega
theorem scanF_lenN : ∀ (n : Nat) (b : List UInt8), b.length ≤ n → (scanF b).1.length ≤ b.length := by
  intro n
  induction n with
  | zero =>
    intro b hb
    have : b = [] := List.length_eq_zero_iff.1 (by omega)
    subst this
    rw [scanF_bad (by decide)]; decide
  | succ n ih =>
    intro b hb
    by_cases h : (openF b).2.2 = 0
    · have hu := openF_used h
      have := ih (b.drop (openF b).2.1) (by rw [List.length_drop]; omega)
      rw [List.length_drop] at this
      rw [scanF_ok h]
      show (scanF (b.drop (openF b).2.1)).1.length + 1 ≤ _
      omega
    · rw [scanF_bad h]
      split <;> exact Nat.zero_le _
theorem scanF_len (b : List UInt8) : (scanF b).1.length ≤ b.length := scanF_lenN b.length b (Nat.le_refl _)
/-! ### what goes through a segment hands over -/
structure Ck where
  p : Option Addr
  n : Nat
  c : Nat
  body : List UInt8
  e : Int
def encC (x : Ck) : List Value := [.slice x.p x.n x.c, .int .i64 x.e]
def XC (Bl : Nat) (b0 : List UInt8) (pre : List Ck) (x : Ck) (W : World) : Prop := Own kByte 5 0 Bl W x.p x.n x.c x.body ∧ (x.e = 0 ∨ (x.e = 4 ∧ chunksF b0 = none)) ∧ pre.length < b0.length
def SC (b0 : List UInt8) (xs : List Ck) : Prop := (∀ x ∈ xs, x.e = 0) → chunksF b0 = some (xs.map (·.body))
theorem Qt.lt {w : World} (h : Qt w) : 3 < w.heap.size := World.block_lt_of_cell? w ⟨3, 0, none⟩ (h 0 (by omega))
theorem Qt.rndG {w w' : World} (h : Qt w) {Bd g : Nat} {E : List TypeId} (m : RndG Bd g E w w') (hB : 3 < Bd) : Qt w' := fun i hi => (World.cell?_of_block (w := w) (m.old 3 h.lt (.inl hB))).trans (h i hi)
theorem Qt.but {w w' : World} (h : Qt w) {g : Nat} {t : TypeId} (m : But g t w w') (hg : 3 ≠ g) : Qt w' := fun i hi => (World.cell?_of_block (w := w) (m.old 3 h.lt (.inl hg))).trans (h i hi)
theorem chunks_step {b0 rest bd tl : List UInt8} {pre : List Ck} {x : Ck} (hC : chunksF b0 = (chunksF rest).map (fun l => pre.map (·.body) ++ l)) (hx : x.body = bd) (hCo : chunksF rest = (chunksF tl).map (bd :: ·)) :
    chunksF b0 = (chunksF tl).map (fun l => (pre ++ [x]).map (·.body) ++ l) := by
  rw [hC, hCo, Option.map_map, List.map_append]
  congr 1
  funext l
  simp [hx]
end Go.Proofs.Eng
end
section
set_option linter.unusedVariables false
set_option linter.unusedSimpArgs false
namespace Go.Proofs.Eng
open Go.RowKit
open Extern.Stop (cell)
/-! ### strings as lists -/
theorem toStr_size (xs : List UInt8) : (toStr xs).size = xs.length := by unfold toStr; simp [ByteArray.size]
theorem toStr_append (xs ys : List UInt8) : toStr xs ++ toStr ys = toStr (xs ++ ys) := by
  apply ByteArray.ext
  simp [toStr, ByteArray.data_append]
theorem toStr_extract (xs : List UInt8) (a b : Nat) : (toStr xs).extract a b = toStr ((xs.take b).drop a) := by
  apply ByteArray.ext
  apply Array.ext'
  simp [toStr, ByteArray.data_extract, List.drop_take]
section
variable {P : Program} {N : Nat} {f : Nat → Value} {w : World} {dst : Option Nat} {T T' ty0 : TypeId} {pos : String} {aft : Array Edge} {gd : Option (Nat × Bool)} {x y u : Operand} {xs ys : List UInt8} {k k' : IntKind} {a b : Nat}
theorem x_add_strL (hx : ev N f x = .string (toStr xs)) (hy : ev N f y = .string (toStr ys)) (h : xs.length + ys.length ≤ 9223372036854775807) : Ex P w N f ⟨dst, .binOp .add T x y T', ty0, pos, aft, gd⟩ (.string (toStr (xs ++ ys))) := by
  refine ex_bin hx hy (guard_str _ _) ?_
  have h1 : ¬ (IntKind.i64.max < (((toStr xs).size + (toStr ys).size : Nat) : Int)) := by rw [toStr_size, toStr_size]; show ¬ ((9223372036854775807 : Int) < _); omega
  simp only [binOp, Op.stringOp]
  rw [if_neg (by first | exact h1 | (intro h2; exact h1 h2)), toStr_append]
  rfl
theorem x_len_strL (hT : P.underlying T = some .string) (hx : ev N f x = .string (toStr xs)) : Ex P w N f ⟨dst, .call ⟨.builtin .len, #[x], #[T]⟩, ty0, pos, aft, gd⟩ (.int .i64 (xs.length : Int)) := by
  have := x_len_str (P := P) (w := w) (dst := dst) (ty := ty0) (pos := pos) (aft := aft) (gd := gd) hT hx
  rwa [toStr_size] at this
theorem x_slice_str_lL (hT : P.underlying T = some .string) (hx : ev N f x = .string (toStr xs)) (hy : ev N f y = .int k (a : Int)) (h1 : a ≤ xs.length) :
    Ex P w N f ⟨dst, .slice T x (some y) none none, ty0, pos, aft, gd⟩ (.string (toStr (xs.drop a))) := by
  have hs : (toStr xs).size = xs.length := toStr_size xs
  have e : (toStr xs).extract a xs.length = toStr (xs.drop a) := by rw [toStr_extract, List.take_length]
  unfold Ex execOp
  simp only [Option.map, hx, hy]
  simp [Instr.sliceAt, Instr.slice, Sem.run_bind, run_underlying hT, Instr.sliceBounds, Instr.sliceBound, asIntOf, hs, h1, e]
end
theorem num0_len {xs : List UInt8} (h : xs.length ≠ 10) : IsNum xs 0 := ⟨fun n _ _ e => by subst e; exact absurd (nameL_len n) h, .inl rfl⟩
theorem nameF_ok {n : Int} (h1 : 1 ≤ n) (h2 : n ≤ 999999) : nameF n = nameL n.toNat := if_neg (by omega)
theorem num_back {xs : List UInt8} {n : Int} (hx : xs ≠ []) (h : nameF n = xs) : IsNum xs n := by
  by_cases hn : n < 1 ∨ 999999 < n
  · exact absurd (h.symm.trans (if_pos hn)) hx
  · have h2 : nameL n.toNat = xs := (nameF_ok (by omega) (by omega)).symm.trans h
    refine ⟨fun m h3 h4 e => ?_, .inr ⟨by omega, by omega, h2⟩⟩
    have := nameL_inj (a := n.toNat) (b := m) (by omega) h4 (h2.trans e)
    omega
theorem num_not {xs : List UInt8} {n : Int} (hv : ∀ m : Nat, 1 ≤ m → m ≤ 999999 → xs = nameL m → n = m) (h : nameF n ≠ xs) : IsNum xs 0 :=
  ⟨fun m h1 h2 e => by
    have := hv m h1 h2 e
    subst this
    have h9 : nameF (m : Int) = nameL m := by rw [nameF_ok (by omega) (by omega), Int.toNat_natCast]
    exact absurd (h9.trans e.symm) h, .inl rfl⟩
end Go.Proofs.Eng
end
section
set_option linter.unusedVariables false
set_option linter.unusedSimpArgs false
namespace Go.Proofs.Eng
open Go.RowKit
open Extern.Stop (cell)
/-! ### the variables, and the library's functions -/
theorem var_ext {P : Program} {w w' : World} {nm : String} {cs : Array Value} (h : w.var? P nm = some cs) (x : Ext w w') : w'.var? P nm = some cs := by
  unfold World.var? at h ⊢
  cases hg : P.globalNamed nm with
  | none => rw [hg] at h; cases h
  | some g =>
    rw [hg] at h
    simp only [Option.bind_some] at h ⊢
    have hlt : g < w.heap.size := by
      rcases Nat.lt_or_ge g w.heap.size with h1 | h1
      · exact h1
      · rw [Array.getElem?_eq_none h1] at h; cases h
    rw [x.old g hlt]; exact h
/-- The package's variables, as the program lays them. -/
structure Gl (w : World) : Prop where
  q : Qt w
  t : Lib.TabIs Tryd.prog w "internal/strconv.uint64pow10" .u64 Lib.pow10Tab
  e : ∃ tp p, w.var? Tryd.prog "strconv.ErrSyntax" = some #[.iface tp p]
theorem Gl.ext {w w' : World} (h : Gl w) (x : Ext w w') : Gl w' := ⟨h.q.ext x, var_ext h.t x, by obtain ⟨tp, p, he⟩ := h.e; exact ⟨tp, p, var_ext he x⟩⟩
theorem ext_grow (w : World) (k : Nat) (os : Array Obj) : Ext w (Sort.grow (w.drewN k) os) :=
  ⟨by show w.heap.size ≤ (w.heap ++ os).size; rw [Array.size_append]; omega, fun i hi => by show (w.heap ++ os)[i]? = _; rw [Array.getElem?_append_left hi], rfl, rfl, rfl, Nat.le_refl _⟩
theorem toStr_list (xs : List UInt8) : (toStr xs).data.toList = xs := by unfold toStr; simp
theorem itoa_ret (n : Int) (h1 : 1 ≤ n) (h2 : n ≤ 999999) (w : World) (hg : Gl w) : Ret Tryd.prog 21 [.int .i64 n] w (fun v w' => v = .string (toStr (Lib.itoa n)) ∧ Ext w w') :=
  ⟨Calls.mono (Tryd.strconv_Itoa n (by omega) (by omega) w hg.t) fun e w' ⟨he, k, os, hw⟩ => ⟨_, he, rfl, by rw [hw]; exact ext_grow w k os⟩⟩
theorem atoi_ret (xs : List UInt8) (hl : xs.length ≤ 18) (w : World) (hg : Gl w) :
    Ret Tryd.prog 23 [.string (toStr xs)] w (fun v w' => (∃ (r : Int) (ev : Value) (b : Bool), v = .tuple #[.int .i64 r, ev] ∧ ((b = false ∧ Lib.atoi xs = some r ∧ ev = .nilIface) ∨ (b = true ∧ Lib.atoi xs = none ∧ ∃ u pv, ev = .iface u pv))) ∧ Ext w w') := by
  cases h : Lib.atoi xs with
  | some r =>
    refine ⟨Calls.mono (Tryd.strconv_Atoi (toStr xs) r (by rw [toStr_size]; exact hl) (by rw [toStr_list]; exact h) w) fun e w' ⟨he, t, hw⟩ => ⟨_, he, ⟨r, .nilIface, false, rfl, .inl ⟨rfl, rfl, rfl⟩⟩, ?_⟩⟩
    rw [hw]; exact Ext.ofBelow (Lib.bytesWorld_below w 5 t)
  | none =>
    obtain ⟨tp, p, hv⟩ := hg.e
    refine ⟨Calls.mono (Tryd.strconv_Atoi_err_var (toStr xs) (by rw [toStr_size]; exact hl) (by rw [toStr_list]; exact h) tp p w hv) fun e w' ⟨N, he, _, _, hB⟩ => ⟨_, he, ⟨0, _, true, rfl, .inr ⟨rfl, rfl, _, _, rfl⟩⟩, Ext.ofBelow hB⟩⟩
theorem cut_ret (xs : List UInt8) (w : World) :
    Ret Tryd.prog 22 [.string (toStr xs), .string (toStr begF)] w (fun v w' => (∃ (hp : Bool) (s2 : List UInt8), v = .tuple #[.string (toStr s2), .bool hp] ∧ (hp = true → xs = begF ++ s2) ∧ (hp = false → ∀ n, xs ≠ nameL n)) ∧ Ext w w') := by
  refine ⟨Calls.mono (Tryd.strings_CutPrefix (toStr xs) (toStr begF) w) fun e w' ⟨he, hw⟩ => ⟨_, he, ⟨_, _, rfl, ?_, ?_⟩, by rw [hw]; exact Ext.refl w⟩⟩
  · intro hp
    rw [toStr_list, toStr_list] at hp ⊢
    unfold Lib.trimPrefix
    rw [if_pos hp]
    unfold Lib.hasPrefix at hp
    obtain ⟨t, ht⟩ := List.isPrefixOf_iff_prefix.1 hp
    rw [← ht, List.drop_left' rfl]
  · intro hp n hn
    rw [toStr_list, toStr_list] at hp
    unfold Lib.hasPrefix at hp
    have : begF.isPrefixOf xs = true := List.isPrefixOf_iff_prefix.2 ⟨dig 6 n, hn.symm⟩
    rw [hp] at this; cases this
/-- An error that is there, or not. -/
theorem x_neq_err {P : Program} {n : Nat} {f : Nat → Value} {w : World} {dst : Option Nat} {ty0 : TypeId} {pos : String} {aft : Array Edge} {gd : Option (Nat × Bool)} {x : Operand} {T T' : TypeId} {ev : Value} {c : Value} {b : Bool} (hT : P.underlying T = some (.interface (P.methodsAt T))) (hx : Eng.ev n f x = ev) (hy : Eng.ev n f (.const c) = .nilIface)
    (h : (b = false ∧ ev = .nilIface) ∨ (b = true ∧ ∃ u pv, ev = .iface u pv)) : Ex P w n f ⟨dst, .binOp .neq T x (.const c) T', ty0, pos, aft, gd⟩ (.bool b) := by
  rcases h with ⟨rfl, rfl⟩ | ⟨rfl, u, pv, rfl⟩
  · exact x_neq_ifnil0 hT hx hy
  · exact x_neq_ifnil hT hx hy
theorem num_cut {xs s2 : List UInt8} {hp : Bool} (h1 : hp = true → xs = begF ++ s2) (h0 : hp = false → ∀ n, xs ≠ nameL n) (h : hp = false ∨ s2.length ≠ 6) : IsNum xs 0 := by
  rcases h with h | h
  · exact ⟨fun n _ _ e => absurd e (h0 h n), .inl rfl⟩
  · cases hp with
    | false => exact ⟨fun n _ _ e => absurd e (h0 rfl n), .inl rfl⟩
    | true => exact num0_len (by rw [h1 rfl, List.length_append]; show 4 + s2.length ≠ 10; omega)
theorem num_atoi {xs s2 : List UInt8} {r : Int} {b : Bool} {ev : Value} (hx : xs = begF ++ s2) (hA : (b = false ∧ Lib.atoi s2 = some r ∧ ev = .nilIface) ∨ (b = true ∧ Lib.atoi s2 = none ∧ ∃ u pv, ev = .iface u pv)) (h : b = true ∨ toStr (nameF r) ≠ toStr xs) : IsNum xs 0 := by
  have key : ∀ m : Nat, m ≤ 999999 → xs = nameL m → Lib.atoi s2 = some (m : Int) := fun m hm e => by
    have : s2 = dig 6 m := List.append_cancel_left (hx.symm.trans e)
    rw [this]; exact atoi_dig hm
  rcases hA with ⟨rfl, ha, _⟩ | ⟨rfl, ha, _⟩
  · refine num_not (n := r) (fun m _ h2 e => ?_) (fun e => (h.resolve_left (by decide)) (by rw [e]))
    have := (key m h2 e).symm.trans ha
    injection this with this; exact this.symm
  · exact ⟨fun m _ h2 e => (by rw [key m h2 e] at ha; cases ha), .inl rfl⟩
end Go.Proofs.Eng
end
section
set_option linter.unusedVariables false
set_option maxRecDepth 100000
namespace Go.Proofs.Eng
open Go.RowKit Go.Proofs.YtlmfpocifkpggaaDoor
theorem gQ : Tryd.prog.globalNamed "stemma/frame.quarter" = some 3 := by kernel_rfl
theorem gQT : (Tryd.prog.globals[3]?).map (·.type) = some 118 := by kernel_rfl
theorem gP : Tryd.prog.globalNamed "internal/strconv.uint64pow10" = some 5 := by kernel_rfl
theorem gPT : (Tryd.prog.globals[5]?).map (·.type) = some 123 := by kernel_rfl
theorem gES : Tryd.prog.globalNamed "strconv.ErrSyntax" = some 1 := by kernel_rfl
theorem gEST : (Tryd.prog.globals[1]?).map (·.type) = some 51 := by kernel_rfl
theorem c63 : Tryd.prog.cellsOf 63 = 1 := by kernel_rfl
theorem c118 : Tryd.prog.cellsOf 118 = 16 := by kernel_rfl
theorem c71 : Tryd.prog.cellsOf 71 = 1 := by kernel_rfl
theorem c123 : Tryd.prog.cellsOf 123 = 20 := by kernel_rfl
theorem c132 : Tryd.prog.cellsOf 132 = 1 := by kernel_rfl
theorem c9 : Tryd.prog.cellsOf 9 = 1 := by kernel_rfl
theorem star : "*" ++ "errors.errorString" = "*errors.errorString" := by decide
theorem row130 (u : TypeId) (h : Tryd.prog.typeName? 3 u = some "*errors.errorString") : u = 130 :=
  typeName_ptr_named (nm := "errors.errorString") (by rw [star]; kernel_rfl) (by kernel_rfl) (by decide) u (by rw [star]; exact h)
theorem gl_parts {W : World} {r1 r2 r3 : List (String × DataW Unit)} {text : List UInt8} (h1 : laidMet Tryd.prog (("internal/strconv.uint64pow10", Lib.tabData .u64 Lib.pow10Tab) :: r1) W)
    (h2 : laidMet Tryd.prog (("stemma/frame.quarter", Lib.tabData .u32 (quart.map fun n : Nat => (n : Int))) :: r2) W) (h3 : laidMet Tryd.prog (("strconv.ErrSyntax", .iface "*errors.errorString" (.ptr (.agg [.lit (.string text)]))) :: r3) W) : Gl W := by
  have t1 := Lib.tabIs_of_head gP gPT Tryd.underlying123 Tryd.underlying71 c71 c123 h1
  have t2 := Lib.tabIs_of_head gQ gQT Tryd.underlying118 Tryd.underlying63 c63 c118 h2
  obtain ⟨a, s, hv, _, _, _⟩ := laid_sentinel h3 gES gEST Tryd.underlying51 row130 Tryd.underlying130 Tryd.underlying132 rfl rfl Tryd.underlying9 c132 c9
  refine ⟨fun i hi => ?_, t1, _, _, hv⟩
  have := t2.cell gQ i (by simpa [quart] using hi)
  rw [this]
  have h16 : i < quart.length := hi
  simp [List.getD_eq_getElem?_getD, List.getElem?_eq_getElem h16]
theorem gl8 {W : World} (h : laidMetH Tryd.prog Rows.segmentFindsRow.laid W) : Gl W :=
  gl_parts (W := W) (laidMet.tail (laidMet.tail h)) (laidMet.tail (laidMet.tail (laidMet.tail h))) (laidMet.tail (laidMet.tail (laidMet.tail (laidMet.tail (laidMet.tail (laidMet.tail (laidMet.tail h)))))))
end Go.Proofs.Eng
end
section
set_option linter.unusedVariables false
set_option linter.unusedSimpArgs false
namespace Go.Proofs.Eng
open Go.RowKit
open Extern.Stop (cell)
theorem One.mod {t : TypeId} {r B : Nat} {w w' : World} (m : One t r w w') (hr : B ≤ r) : Mod B t w w' :=
  ⟨m.size, fun k hk ho => m.old k hk fun e => by
    subst e
    rcases ho with ho | ho
    · omega
    · exact ho m.was, fun k hk => by
    by_cases e : k = r
    · subst e; rw [m.now, m.was]
    · exact ty_of_heap (m.old k hk e), m.drawn, m.os, m.tape, m.output⟩
section
variable {P : Program} {ops : Array Oper} {Q : Exit → Act → World → Prop} {rest : List Oper} {n : Nat} {f : Nat → Value} {w : World}
variable {T e ty0 : TypeId} {x : Operand} {pos : String} {aft : Array Edge} {dst : Nat}
/-- '[]byte("..")' as it stands in the code: a row that is marked. -/
theorem o_convBB {g m c : Nat} {cs : Array Value} {t : TypeId} (hT : P.underlying T = some (.slice e)) (he : P.underlying e = some (.int .u8)) (hx : ev n f x = .slice (some ⟨g, 0, none⟩) m c) (hB : Blk w g cs t)
    (k : ∀ w', One t g w w' → (∀ p vs, Row w p vs → Row w' p vs) → Lst P ops Q rest (fr n (upd f dst (.slice (some ⟨g, 0, none⟩) m c))) w') :
    Lst P ops Q (⟨some dst, .convert T T x, ty0, pos, aft, none⟩ :: rest) (fr n f) w := by
  have hlt := hB.lt
  have hb : w.heap[g]? = some (.cells cs t (0, 0)) := hB
  have hg : ∀ k, (w.freeze ⟨g, cs.size, none⟩ 1).heap[k]? = if k = g then some (.cells cs t (cs.size, cs.size + 1)) else w.heap[k]? := fun k => by
    unfold World.freeze
    rw [if_neg (by decide)]
    simp only [Array.getElem?_modify]
    by_cases e1 : k = g
    · subst e1; rw [if_pos rfl, if_pos rfl, hb]; rfl
    · rw [if_neg (fun q => e1 q.symm), if_neg e1]
  refine l1 (w' := w.freeze ⟨g, cs.size, none⟩ 1) (v := .slice (some ⟨g, 0, none⟩) m c) ?_ (k _ ⟨?_, fun k hk hne => by rw [hg k, if_neg hne], hB.ty, ?_, ?_, ?_, ?_, ?_⟩ fun p vs h => ⟨h.adr, fun j v hv => ?_⟩)
  · simp only [execOp, hx]
    have hsh : w.shape? g = some (t, cs.size) := by unfold World.shape?; rw [hb]
    have : (convert T T (.slice (some ⟨g, 0, none⟩) m c)).run P w = .ok (.slice (some ⟨g, 0, none⟩) m c) (w.freeze ⟨g, cs.size, none⟩ 1) := by
      simp [convert, run_underlying hT, run_underlying he, markStringish, Sem.run_bind, shape, freeze, Sem.run, hsh]
    rw [Sem.run_bind, this]; rfl
  · unfold World.freeze; rw [if_neg (by decide)]; simp
  · unfold Eng.ty
    rw [hg g, if_pos rfl]
  · unfold World.freeze; rw [if_neg (by decide)]; exact Nat.le_refl _
  · unfold World.freeze; rw [if_neg (by decide)]
  · unfold World.freeze; rw [if_neg (by decide)]
  · unfold World.freeze; rw [if_neg (by decide)]
  · have h0 := h.at_ j v hv
    rw [← h0]
    unfold World.cell?
    rw [hg]
    by_cases e1 : ab p = g
    · rw [if_pos e1, e1, hb]
    · rw [if_neg e1]
end
theorem sl_mark {g n c : Nat} {w w' : World} {xs : List UInt8} (h : Sl kByte 5 0 w (some ⟨g, 0, none⟩) n c xs) (hR : ∀ p vs, Row w p vs → Row w' p vs) (hty : ty w' g = some 5) : Sl kByte 5 0 w' (some ⟨g, 0, none⟩) n c xs := by
  obtain ⟨css, ha, hr⟩ := h.row
  exact ⟨h.len, h.cap, h.fit, css, by rw [all_pure ha]; exact byte_all _ _ _, ⟨hR _ _ hr.row, fun _ => .inr hty⟩⟩
theorem aw_seal : (sealF 1 [97]).length = 7 := by rw [sealF_len, bodyF_len, lebU_lt (by decide)]; rfl
theorem aw_flat : ([[97]] : List (List UInt8)).flatMap (sealF 1) = sealF 1 [97] := by simp
theorem aw_put : putF [[97]] = (sealF 1 [97], 0) := by
  unfold putF
  rw [if_pos (by decide), aw_flat]
theorem aw_get : getF (sealF 1 [97]) = ([[97]], 0) := by
  have := chunks_put [[97]] (by simp)
  rw [aw_flat] at this
  unfold getF
  rw [this]
def aw7 : List UInt8 := [115, 101, 103, 45, 48, 48, 48, 48, 48, 55]
theorem aw_name : nameF 7 = aw7 := by decide
theorem aw_num {r : Int} (h : IsNum aw7 r) : r = 7 := h.1 7 (by omega) (by omega) (by decide)
theorem aw_own {Bl B0 : Nat} {w : World} {q : Option Addr} {m c : Nat} (h : Own (kOb Bl) 27 0 B0 w q m c (getF (sealF 1 [97])).1) : Own (kOb Bl) 27 0 B0 w q m c [[97]] := by
  rw [aw_get] at h
  exact h
end Go.Proofs.Eng
end
section
set_option linter.unusedVariables false
set_option linter.unusedSimpArgs false
namespace Go.Proofs.Eng
open Go.RowKit
open Extern.Stop (cell)
/-! ### rows that are written into -/
def ShBy (Bl : Nat) (w : World) (p : Option Addr) (n : Nat) : Prop := n = 0 ∨ ∃ g cur, p = some ⟨g, 0, none⟩ ∧ Bl ≤ g ∧ Blk w g cur 5 ∧ n ≤ cur.size ∧ ∀ j, j < n → ∃ b : UInt8, cur[j]? = some (cell b)
theorem ShBy.same {Bl B : Nat} {w w' : World} {p : Option Addr} {n : Nat} {E : List TypeId} (h : ShBy Bl w p n) (hs : Same B E w w') (h5 : 5 ∈ E) : ShBy Bl w' p n := by
  rcases h with h | ⟨g, cur, h1, h2, h3, h4, h5'⟩
  · exact .inl h
  · exact .inr ⟨g, cur, h1, h2, (hs g h3.lt (.inr ⟨5, h5, h3.ty⟩)).trans h3, h4, h5'⟩
theorem ShBy.put {Bl : Nat} {w w' : World} {p : Option Addr} {n g k : Nat} {cur : Array Value} {b : UInt8} (h : ShBy Bl w p n) (hB : Blk w g cur 5) (hP : Put w w' g (cur.setIfInBounds k (cell b)) 5) : ShBy Bl w' p n := by
  rcases h with h | ⟨g1, cur1, h1, h2, h3, h4, h5⟩
  · exact .inl h
  · by_cases e : g1 = g
    · subst e
      have : cur1 = cur := by
        have h9 := h3.symm.trans hB
        injection h9 with h9; injection h9
      subst this
      refine .inr ⟨g1, _, h1, h2, hP.blk, by simpa using h4, fun j hj => ?_⟩
      by_cases ej : k = j
      · subst ej; exact ⟨b, by rw [Array.getElem?_setIfInBounds_self_of_lt (by omega)]⟩
      · rw [Array.getElem?_setIfInBounds_ne ej]; exact h5 j hj
    · exact .inr ⟨g1, cur1, h1, h2, hP.keep h3 e, h4, h5⟩
theorem getF_le (b : List UInt8) (i : Nat) : ((getF b).1.getD i []).length ≤ 1048576 := by
  unfold getF
  cases hc : chunksF b with
  | none => simp
  | some l =>
    have := put_chunks b.length b (Nat.le_refl _) l hc
    rw [List.getD_eq_getElem?_getD]
    cases h : l[i]? with
    | none => simp
    | some x => exact this.2 x (List.mem_of_getElem? h)
end Go.Proofs.Eng
end
section
set_option linter.unusedVariables false
set_option linter.unusedSimpArgs false
namespace Go.Proofs.Eng
open Go.RowKit
open Extern.Stop (cell)
/-! ### SHA-256: words as numbers, told by the model's own operations -/
def wds (l : List Int) : Array Value := (l.map (Value.int .u32)).toArray
theorem wds_size (l : List Int) : (wds l).size = l.length := by simp [wds]
theorem wds_get {l : List Int} {i : Nat} (h : i < l.length) : (wds l)[i]? = some (.int .u32 (l.getD i 0)) := by
  simp [wds, List.getD_eq_getElem?_getD, List.getElem?_eq_getElem h]
theorem wds_set (l : List Int) (i : Nat) (v : Int) : (wds l).setIfInBounds i (.int .u32 v) = wds (l.set i v) := by
  simp [wds, List.setIfInBounds_toArray, List.map_set]
theorem wds_one (l : List Int) : ∀ v ∈ (wds l).toList, v.oneCell' = true := by
  intro v hv
  simp only [wds, List.mem_map] at hv
  obtain ⟨x, _, rfl⟩ := hv
  rfl
structure W8 where
  (a b c d e f g h : Int)
def W8.l (s : W8) : List Int := [s.a, s.b, s.c, s.d, s.e, s.f, s.g, s.h]
theorem W8.len (s : W8) : s.l.length = 8 := rfl
def rotW (x n : Int) : Int := bitsOf .or .u32 (x.fdiv (2 ^ min n.toNat IntKind.u32.bits)) (IntKind.u32.wrap (x * 2 ^ min (32 - n).toNat IntKind.u32.bits))
def pls (a b : Int) : Int := IntKind.u32.wrap (a + b)
def xrw (a b : Int) : Int := bitsOf .xor .u32 a b
def anw (a b : Int) : Int := bitsOf .and .u32 a b
def sgl (x : Int) : Int := xrw (xrw (rotW x 7) (rotW x 18)) (x.fdiv (2 ^ min (3 : Int).toNat IntKind.u32.bits))
def sgh (x : Int) : Int := xrw (xrw (rotW x 17) (rotW x 19)) (x.fdiv (2 ^ min (10 : Int).toNat IntKind.u32.bits))
/-- The word that the schedule has at i. -/
def schW (l : List Int) (i : Nat) : Int := pls (pls (pls (l.getD (i - 16) 0) (sgl (l.getD (i - 15) 0))) (l.getD (i - 7) 0)) (sgh (l.getD (i - 2) 0))
def kTab : List Int := [0x428a2f98, 0x71374491, 0xb5c0fbcf, 0xe9b5dba5, 0x3956c25b, 0x59f111f1, 0x923f82a4, 0xab1c5ed5, 0xd807aa98, 0x12835b01, 0x243185be, 0x550c7dc3, 0x72be5d74, 0x80deb1fe, 0x9bdc06a7, 0xc19bf174, 0xe49b69c1, 0xefbe4786, 0x0fc19dc6, 0x240ca1cc, 0x2de92c6f, 0x4a7484aa, 0x5cb0a9dc, 0x76f988da, 0x983e5152, 0xa831c66d, 0xb00327c8, 0xbf597fc7, 0xc6e00bf3, 0xd5a79147, 0x06ca6351, 0x14292967, 0x27b70a85, 0x2e1b2138, 0x4d2c6dfc, 0x53380d13, 0x650a7354, 0x766a0abb, 0x81c2c92e, 0x92722c85, 0xa2bfe8a1, 0xa81a664b, 0xc24b8b70, 0xc76c51a3, 0xd192e819, 0xd6990624, 0xf40e3585, 0x106aa070, 0x19a4c116, 0x1e376c08, 0x2748774c, 0x34b0bcb5, 0x391c0cb3, 0x4ed8aa4a, 0x5b9cca4f, 0x682e6ff3, 0x748f82ee, 0x78a5636f, 0x84c87814, 0x8cc70208, 0x90befffa, 0xa4506ceb, 0xbef9a3f7, 0xc67178f2]
def s0W : W8 := ⟨0x6a09e667, 0xbb67ae85, 0x3c6ef372, 0xa54ff53a, 0x510e527f, 0x9b05688c, 0x1f83d9ab, 0x5be0cd19⟩
theorem kTab_len : kTab.length = 64 := by decide
/-- A round. -/
def tW (k w : Int) (s : W8) : Int := pls (pls (pls (pls s.h (xrw (xrw (rotW s.e 6) (rotW s.e 11)) (rotW s.e 25))) (xrw (anw s.e s.f) (anw (bitsOf .xor .u32 4294967295 s.e) s.g))) k) w
def uW (s : W8) : Int := pls (xrw (xrw (rotW s.a 2) (rotW s.a 13)) (rotW s.a 22)) (xrw (xrw (anw s.a s.b) (anw s.a s.c)) (anw s.b s.c))
def rndW (k w : Int) (s : W8) : W8 := ⟨pls (tW k w s) (uW s), s.a, s.b, s.c, pls s.d (tW k w s), s.e, s.f, s.g⟩
def runW (W : List Int) (s : W8) : Nat → W8
  | 0 => s
  | n + 1 => rndW (kTab.getD n 0) (W.getD n 0) (runW W s n)
/-- The block's own words, then the others. -/
def be4 (bs : List UInt8) (o : Nat) : Int := (((bs.getD o 0).toNat * 16777216 + (bs.getD (o + 1) 0).toNat * 65536 + (bs.getD (o + 2) 0).toNat * 256 + (bs.getD (o + 3) 0).toNat : Nat) : Int)
def ownW (bs : List UInt8) : Nat → List Int
  | 0 => List.replicate 64 0
  | n + 1 => (ownW bs n).set n (be4 bs (4 * n))
def extW (l : List Int) : Nat → List Int
  | 0 => l
  | n + 1 => (extW l n).set (16 + n) (schW (extW l n) (16 + n))
def addW (x : List Int) (l : List Int) : Nat → List Int
  | 0 => l
  | n + 1 => (addW x l n).set n (pls ((addW x l n).getD n 0) (x.getD n 0))
def add8 (s t : W8) : W8 := ⟨pls s.a t.a, pls s.b t.b, pls s.c t.c, pls s.d t.d, pls s.e t.e, pls s.f t.f, pls s.g t.g, pls s.h t.h⟩
def mixF (s : W8) (bs : List UInt8) : W8 := add8 s (runW (extW (ownW bs 16) 48) s 64)
theorem addW_8 (s t : W8) : addW t.l s.l 8 = (add8 s t).l := rfl
theorem ownW_len (bs : List UInt8) : ∀ n, (ownW bs n).length = 64
  | 0 => by simp [ownW]
  | n + 1 => by rw [ownW, List.length_set, ownW_len bs n]
theorem extW_len (l : List Int) : ∀ n, (extW l n).length = l.length
  | 0 => rfl
  | n + 1 => by rw [extW, List.length_set, extW_len l n]
theorem addW_len (x l : List Int) : ∀ n, (addW x l n).length = l.length
  | 0 => rfl
  | n + 1 => by rw [addW, List.length_set, addW_len x l n]
theorem ownW_zero (bs : List UInt8) : ∀ n i, n ≤ i → (ownW bs n).getD i 0 = 0
  | 0, i, _ => by
    rw [ownW, List.getD_eq_getElem?_getD, List.getElem?_replicate]
    split <;> rfl
  | n + 1, i, h => by
    rw [ownW, List.getD_eq_getElem?_getD, List.getElem?_set_ne (by omega), ← List.getD_eq_getElem?_getD]
    exact ownW_zero bs n i (by omega)
theorem set_same {l : List Int} {i : Nat} {v : Int} (h : l.getD i 0 = v) (hi : i < l.length) : l.set i v = l := by
  rw [← h, List.getD_eq_getElem?_getD, List.getElem?_eq_getElem hi]; simp
theorem getD_set {l : List Int} {i : Nat} {v : Int} (hi : i < l.length) : (l.set i v).getD i 0 = v := by
  rw [List.getD_eq_getElem?_getD, List.getElem?_set_self hi]; rfl
/-! a word out of four bytes, both ways -/
def accB (bs : List UInt8) (o : Nat) : Nat → Int
  | 0 => 0
  | k + 1 => pls (IntKind.u32.wrap (256 * accB bs o k)) ((bs.getD (o + k) 0).toNat : Int)
theorem accB_4 (bs : List UInt8) (o : Nat) : accB bs o 4 = be4 bs o := by
  have h0 := (bs.getD o 0).toNat_lt
  have h1 := (bs.getD (o + 1) 0).toNat_lt
  have h2 := (bs.getD (o + 2) 0).toNat_lt
  have h3 := (bs.getD (o + 3) 0).toNat_lt
  simp only [accB, pls, be4, wrap_u32, Nat.add_zero]
  omega
theorem or_add {x y k : Nat} (h : y < 2 ^ k) : (x * 2 ^ k) ||| y = x * 2 ^ k + y := by
  have := Nat.shiftLeft_add_eq_or_of_lt h x
  rw [Nat.shiftLeft_eq] at this
  exact this.symm
theorem shlB (b : UInt8) : IntKind.u32.wrap ((b.toNat : Int) * 2 ^ min (24 : Int).toNat IntKind.u32.bits) = ((b.toNat * 16777216 : Nat) : Int) ∧ IntKind.u32.wrap ((b.toNat : Int) * 2 ^ min (16 : Int).toNat IntKind.u32.bits) = ((b.toNat * 65536 : Nat) : Int) ∧ IntKind.u32.wrap ((b.toNat : Int) * 2 ^ min (8 : Int).toNat IntKind.u32.bits) = ((b.toNat * 256 : Nat) : Int) := by
  have h := b.toNat_lt
  have e1 : (2 : Int) ^ min (24 : Int).toNat IntKind.u32.bits = 16777216 := by decide
  have e2 : (2 : Int) ^ min (16 : Int).toNat IntKind.u32.bits = 65536 := by decide
  have e3 : (2 : Int) ^ min (8 : Int).toNat IntKind.u32.bits = 256 := by decide
  rw [e1, e2, e3]
  simp only [wrap_u32]
  omega
theorem or4 (bs : List UInt8) (o : Nat) : bitsOf .or .u32 (bitsOf .or .u32 (bitsOf .or .u32 (IntKind.u32.wrap (((bs.getD o 0).toNat : Int) * 2 ^ min (24 : Int).toNat IntKind.u32.bits)) (IntKind.u32.wrap (((bs.getD (o + 1) 0).toNat : Int) * 2 ^ min (16 : Int).toNat IntKind.u32.bits))) (IntKind.u32.wrap (((bs.getD (o + 2) 0).toNat : Int) * 2 ^ min (8 : Int).toNat IntKind.u32.bits))) ((bs.getD (o + 3) 0).toNat : Int) = be4 bs o := by
  have h0 := (bs.getD o 0).toNat_lt
  have h1 := (bs.getD (o + 1) 0).toNat_lt
  have h2 := (bs.getD (o + 2) 0).toNat_lt
  have h3 := (bs.getD (o + 3) 0).toNat_lt
  unfold be4
  rw [(shlB _).1, (shlB _).2.1, (shlB _).2.2]
  generalize (bs.getD o 0).toNat = a at *
  generalize (bs.getD (o + 1) 0).toNat = b at *
  generalize (bs.getD (o + 2) 0).toNat = c at *
  have e1 : a * 16777216 ||| b * 65536 = (a * 256 + b) * 65536 := by
    have := or_add (x := a) (y := b * 65536) (k := 24) (by omega)
    rw [show a * 16777216 = a * 2 ^ 24 by omega, this]; omega
  have e2 : (a * 256 + b) * 65536 ||| c * 256 = (a * 65536 + b * 256 + c) * 256 := by
    have := or_add (x := a * 256 + b) (y := c * 256) (k := 16) (by omega)
    rw [show (a * 256 + b) * 65536 = (a * 256 + b) * 2 ^ 16 by omega, this]; omega
  have e3 : (a * 65536 + b * 256 + c) * 256 ||| (bs.getD (o + 3) 0).toNat = a * 16777216 + b * 65536 + c * 256 + (bs.getD (o + 3) 0).toNat := by
    have := or_add (x := a * 65536 + b * 256 + c) (y := (bs.getD (o + 3) 0).toNat) (k := 8) (by omega)
    rw [show (a * 65536 + b * 256 + c) * 256 = (a * 65536 + b * 256 + c) * 2 ^ 8 by omega, this]; omega
  rw [or_u32 (by omega) (by omega), e1, or_u32 (by omega) (by omega), e2, or_u32 (by omega) (by omega), e3]
/-! bytes of words -/
def byI (x : Int) : UInt8 := UInt8.ofNat (x % 256).toNat
theorem wrapI (x : Int) : IntKind.u8.wrap x = ((byI x).toNat : Int) := by
  rw [wrap_u8, byI, UInt8.toNat_ofNat']; omega
def beB (n i : Nat) : UInt8 := byI (((n * 8 : Nat) : Int).fdiv (2 ^ min (56 - 8 * (i : Int)).toNat IntKind.u64.bits))
def be8 (n : Nat) : List UInt8 := (List.range 8).map (beB n)
def ouB (s : W8) (i : Nat) : UInt8 := byI ((s.l.getD (i / 4) 0).fdiv (2 ^ min (24 - 8 * ((i % 4 : Nat) : Int)).toNat IntKind.u32.bits))
def outB (s : W8) : List UInt8 := (List.range 32).map (ouB s)
def outH (s : W8) : Hash := ⟨outB s, by simp [outB]⟩
def padZ (n : Nat) : Nat := (119 - n % 64) % 64
def padF (xs : List UInt8) : List UInt8 := xs ++ [128] ++ List.replicate (padZ xs.length) 0 ++ be8 xs.length
theorem be8_len (n : Nat) : (be8 n).length = 8 := by simp [be8]
theorem be8_take (n : Nat) {i : Nat} (h : i < 8) : (be8 n).take i ++ [beB n i] = (be8 n).take (i + 1) := by
  rw [List.take_succ_eq_append_getElem (by rw [be8_len]; exact h)]
  simp [be8]
theorem padZ_mod (n : Nat) : (n + 1 + padZ n) % 64 = 56 := by unfold padZ; omega
theorem padZ_lt {n j : Nat} (h : j < padZ n) : (n + 1 + j) % 64 ≠ 56 := by unfold padZ at h; omega
theorem padZ_le (n : Nat) : padZ n < 64 := Nat.mod_lt _ (by omega)
theorem padF_len (xs : List UInt8) : (padF xs).length = xs.length + 1 + padZ xs.length + 8 := by simp [padF, be8_len]; omega
theorem padF_mod (xs : List UInt8) : (padF xs).length % 64 = 0 := by have := padZ_mod xs.length; rw [padF_len]; omega
/-- The state behind n blocks. -/
def stN (l : List UInt8) : Nat → W8
  | 0 => s0W
  | n + 1 => mixF (stN l n) ((l.drop (64 * n)).take 64)
def shaF (xs : List UInt8) : Hash := outH (stN (padF xs) ((padF xs).length / 64))
theorem stN_app (l m : List UInt8) : ∀ n, 64 * n ≤ l.length → stN (l ++ m) n = stN l n
  | 0, _ => rfl
  | n + 1, h => by
    rw [stN, stN, stN_app l m n (by omega), List.drop_append_of_le_length (by omega), List.take_append_of_le_length (by rw [List.length_drop]; omega)]
end Go.Proofs.Eng
end
section
set_option linter.unusedVariables false
set_option linter.unusedSimpArgs false
namespace Go.Proofs.Eng
open Go.RowKit
open Extern.Stop (cell)
/-! ### scopes and labels, without a jump -/
section
variable {P : Program} {Q : Exit → Act → World → Prop} {a : Act} {w : World}
theorem c_scope {c : Code} (h : Wp P c (Exit.noGoto Q) a w) : Wp P (.scope c) Q a w := ⟨wp_scope_straight h.out⟩
theorem c_label {l : Nat} (h : Q .normal a w) : Wp P (.label l) Q a w := ⟨wp_label h⟩
theorem s_r (h : Q .ret a w) : Exit.noGoto Q .ret a w := h
end
section
variable {P : Program} {ops : Array Oper} {Q : Exit → Act → World → Prop} {rest : List Oper} {N : Nat} {f : Nat → Value} {w : World}
variable {ty0 : TypeId} {pos : String} {aft : Array Edge} {gd : Option (Nat × Bool)} {x y : Operand} {T T2 : TypeId} {dst : Option Nat}
/-- 'a[lo:]' of an array behind its address. -/
theorem x_slice_arr_l {e : TypeId} {len : Nat} (hT : P.underlying T = some (.array len e)) (hz : (P.info? e).map (·.size) = some 1) {b o lo : Nat} {k : IntKind} (hx : ev N f x = .pointer (some ⟨b, o, none⟩)) (hy : ev N f y = .int k (lo : Int)) (h3 : lo < len) :
    Ex P w N f ⟨dst, .slice T x (some y) none none, ty0, pos, aft, gd⟩ (.slice (some ⟨b, o + lo, none⟩) (len - lo) (len - lo)) := by
  obtain ⟨ii, hi', hs⟩ := Option.map_eq_some_iff.1 hz
  unfold Ex execOp
  simp only [Option.map, hx, hy]
  have hne : ¬ len = lo := by omega
  simp [Instr.sliceAt, Instr.sureAddr, Sem.run_bind, run_underlying hT, run_bounds_l (P := P) (w := w) (a := (lo : Int)) (Int.natCast_nonneg _) (by omega : (lo : Int) ≤ (len : Int)), sizeOf, typeInfo, hi', hs, hne, Addr.add_mid]
/-- An element of an array that is a value. -/
theorem x_ixval {e : TypeId} {len : Nat} (hT : P.underlying T = some (.array len e)) (hz : (P.info? e).map (·.size) = some 1) (he : P.plainKey e = true) {i : Nat} {cs : Array Value} {k : IntKind} {v : Value} (hx : ev N f x = .agg cs) (hy : ev N f y = .int k (i : Int)) (hi : i < len) (hv : cs[i]? = some v) :
    Ex P w N f ⟨dst, .index T x y, ty0, pos, aft, gd⟩ v := by
  obtain ⟨ii, hi', hs⟩ := Option.map_eq_some_iff.1 hz
  have hp := run_part_plain (P := P) (w := w) he hv
  unfold Ex execOp
  simp only [hx, hy]
  simp [Instr.index, asIntOf, Sem.run_bind, run_underlying hT, sizeOf, typeInfo, hi', hs, hi, hp]
/-- 'copy' of a row of bytes onto places of a block. -/
theorem o_copyB {d : Nat} {eb es : TypeId} {B : Nat} {q : Option Addr} {g o dl dc l c2 : Nat} {cs : Array Value} {t : TypeId} {zs : List UInt8} (hT : P.underlying T = some (.slice eb)) (hz : (P.info? eb).map (·.size) = some 1)
    (hx : ev N f x = .slice (some ⟨g, o, none⟩) dl dc) (hy : ev N f y = .slice q l c2) (hB : Blk w g cs t) (ho : o + dl ≤ cs.size) (hs : Sl kByte es B w q l c2 zs) (hl : 0 < l)
    (k : ∀ w', Put w w' g (cs.toList.take o ++ (zs.take (min l dl)).map cell ++ cs.toList.drop (o + min l dl)).toArray t → Lst P ops Q rest (fr N (upd f d (.int .i64 (min l dl : Nat)))) w') :
    Lst P ops Q (⟨some d, .call ⟨.builtin .copy, #[x, y], #[T, T2]⟩, ty0, pos, aft, none⟩ :: rest) (fr N f) w := by
  have hzl := hs.len
  have hq := hs.adr kByte_pos hl
  have hcl : ((zs.take (min l dl)).map cell).length = min l dl := by rw [List.length_map, List.length_take]; omega
  have hsrc : ∀ j v, ((zs.take (min l dl)).map cell)[j]? = some v → w.cell? ((⟨ab q, ao q, none⟩ : Addr).add j) = some v := by
    intro j v hv
    have hj : j < min l dl := by
      rcases Nat.lt_or_ge j (min l dl) with h | h
      · exact h
      · rw [List.getElem?_eq_none (by omega)] at hv; cases hv
    rw [List.getElem?_map, List.getElem?_take, if_pos hj, List.getElem?_eq_getElem (by omega)] at hv
    simp only [Option.map_some] at hv
    injection hv with hv
    subst hv
    rw [Addr.add_mid, hs.byteAt j (by omega), List.getD_eq_getElem?_getD, List.getElem?_eq_getElem (by omega)]
    rfl
  have hrun := run_copy_cells (P := P) w T T2 ty0 eb g o dl dc ⟨ab q, ao q, none⟩ l c2 ((zs.take (min l dl)).map cell) hT hz hcl hsrc
    (fun j hj => by rw [hB.cell (v := cs[o + j]'(by omega)) (Array.getElem?_eq_getElem (by omega))]; rfl) (fun j hj => frozen_of_row w g _ cs t hB)
    (fun v hv => by simp only [List.mem_map] at hv; obtain ⟨b, _, rfl⟩ := hv; rfl)
  have hP := put_setCells ((zs.take (min l dl)).map cell) hB (o := o) (by omega)
  rw [hcl] at hP
  refine l1 (w' := w.setCells g o ((zs.take (min l dl)).map cell)) (v := .int .i64 (min l dl : Nat)) ?_ (k _ hP)
  rw [hq] at hy
  simp only [execOp, resolve, invoke, builtin, Sem.run_bind, Sem.run_pure, Result.andThen_ok, List.map_toArray, List.map_cons, List.map_nil, hx, hy, hrun]
  rw [hcl]; rfl
end
/-! ### arrays of words and of bytes behind addresses -/
def bcs (l : List UInt8) : Array Value := (l.map cell).toArray
theorem bcs_size (l : List UInt8) : (bcs l).size = l.length := by simp [bcs]
theorem bcs_get {l : List UInt8} {i : Nat} (h : i < l.length) : (bcs l)[i]? = some (.int .u8 ((l.getD i 0).toNat : Int)) := by
  simp [bcs, List.getD_eq_getElem?_getD, List.getElem?_eq_getElem h, cell]
theorem bcs_set (l : List UInt8) (i : Nat) (b : UInt8) : (bcs l).setIfInBounds i (.int .u8 (b.toNat : Int)) = bcs (l.set i b) := by
  simp [bcs, List.setIfInBounds_toArray, List.map_set, cell]
theorem w8_0 (s : W8) : (wds s.l)[0]? = some (.int .u32 s.a) := rfl
theorem w8_1 (s : W8) : (wds s.l)[1]? = some (.int .u32 s.b) := rfl
theorem w8_2 (s : W8) : (wds s.l)[2]? = some (.int .u32 s.c) := rfl
theorem w8_3 (s : W8) : (wds s.l)[3]? = some (.int .u32 s.d) := rfl
theorem w8_4 (s : W8) : (wds s.l)[4]? = some (.int .u32 s.e) := rfl
theorem w8_5 (s : W8) : (wds s.l)[5]? = some (.int .u32 s.f) := rfl
theorem w8_6 (s : W8) : (wds s.l)[6]? = some (.int .u32 s.g) := rfl
theorem w8_7 (s : W8) : (wds s.l)[7]? = some (.int .u32 s.h) := rfl
/-- The first n words of a block. -/
def Rd (w : World) (g n : Nat) (l : List Int) : Prop := ∀ j, j < n → w.cell? ⟨g, j, none⟩ = some (.int .u32 (l.getD j 0))
theorem Rd.ext {w w' : World} {g n : Nat} {l : List Int} (h : Rd w g n l) (x : Ext w w') : Rd w' g n l := fun j hj => x.cell (h j hj)
theorem rd_of {w : World} {g n : Nat} {l : List Int} {t : TypeId} (h : Blk w g (wds l) t) (hn : n ≤ l.length) : Rd w g n l := fun j hj => h.cell (wds_get (by omega))
theorem rd_set {w : World} {g n : Nat} {l : List Int} {v : Int} {t : TypeId} (h : Blk w g (wds (l.set n v)) t) (hn : n ≤ l.length) : Rd w g n l := fun j hj => by
  have := rd_of h (n := n) (by rw [List.length_set]; exact hn) j hj
  rw [this, List.getD_eq_getElem?_getD, List.getElem?_set_ne (by omega), ← List.getD_eq_getElem?_getD]
/-- The table of the rounds. -/
def Rt (w : World) : Prop := ∀ i, i < 64 → w.cell? ⟨4, i, none⟩ = some (.int .u32 (kTab.getD i 0))
theorem Rt.ext {w w' : World} (h : Rt w) (x : Ext w w') : Rt w' := fun i hi => x.cell (h i hi)
end Go.Proofs.Eng
end
section
set_option linter.unusedVariables false
set_option linter.unusedSimpArgs false
namespace Go.Proofs.Eng
open Go.RowKit
open Extern.Stop (cell)
/-! ### a hasher's block: the state, what waits, how much of it, how much in all -/
def hstL (s : W8) (wt : List UInt8) (k n : Nat) : List Value := s.l.map (Value.int .u32) ++ (wt.map cell ++ [.int .i64 (k : Int), .int .i64 (n : Int)])
def hst (s : W8) (wt : List UInt8) (k n : Nat) : Array Value := (hstL s wt k n).toArray
theorem hst_at (s : W8) (wt : List UInt8) (k n i : Nat) : (hst s wt k n)[i]? = (hstL s wt k n)[i]? := List.getElem?_toArray
theorem flat_cells : ∀ l : List UInt8, (l.map fun b => [cell b]).flatten = l.map cell
  | [] => rfl
  | x :: l => by rw [List.map_cons, List.flatten_cons, flat_cells l]; rfl
section
variable {s : W8} {wt : List UInt8} {k n : Nat} (hw : wt.length = 64)
include hw
theorem hst_size : (hst s wt k n).size = 74 := by simp [hst, hstL, W8.l, hw]
theorem hst_k : (hst s wt k n)[0 + 72]? = some (.int .i64 (k : Int)) := by
  rw [hst_at, show 0 + 72 = 72 from rfl]
  unfold hstL
  rw [List.getElem?_append_right (by simp [W8.l]), List.getElem?_append_right (by simp [W8.l, hw])]
  simp [W8.l, hw]
theorem hst_n : (hst s wt k n)[0 + 73]? = some (.int .i64 (n : Int)) := by
  rw [hst_at, show 0 + 73 = 73 from rfl]
  unfold hstL
  rw [List.getElem?_append_right (by simp [W8.l]), List.getElem?_append_right (by simp [W8.l, hw])]
  simp [W8.l, hw]
theorem hst_setk (m : Nat) : (hst s wt k n).setIfInBounds (0 + 72) (.int .i64 (m : Int)) = hst s wt m n := by
  unfold hst hstL
  rw [List.setIfInBounds_toArray, List.set_append_right _ _ (by simp [W8.l]), List.set_append_right _ _ (by simp [W8.l, hw])]
  simp [W8.l, hw]
theorem hst_setn (m : Nat) : (hst s wt k n).setIfInBounds (0 + 73) (.int .i64 (m : Int)) = hst s wt k m := by
  unfold hst hstL
  rw [List.setIfInBounds_toArray, List.set_append_right _ _ (by simp [W8.l]), List.set_append_right _ _ (by simp [W8.l, hw])]
  simp [W8.l, hw]
omit hw in
theorem hst_sets (t : W8) : ((hst s wt k n).toList.take (0 + 0) ++ (wds t.l).toList ++ (hst s wt k n).toList.drop (0 + 0 + (wds t.l).size)).toArray = hst t wt k n := by
  unfold hst hstL
  rw [wds_size]
  simp [W8.l, wds]
omit hw in
theorem hst_one : ∀ v ∈ (hst s wt k n).toList, v.oneCell' = true := by
  intro v hv
  simp only [hst, hstL, List.mem_append, List.mem_map, List.mem_cons, List.not_mem_nil, or_false] at hv
  rcases hv with ⟨x, _, rfl⟩ | ⟨x, _, rfl⟩ | rfl | rfl <;> rfl
theorem hst_copy (zs : List UInt8) (o j : Nat) (ho : o + j ≤ 64) (hj : j ≤ zs.length) :
    ((hst s wt k n).toList.take (0 + 8 + o) ++ (zs.take j).map cell ++ (hst s wt k n).toList.drop (0 + 8 + o + j)).toArray = hst s (wt.take o ++ zs.take j ++ wt.drop (o + j)) k n := by
  have hs : (s.l.map (Value.int .u32)).length = 8 := by simp [W8.l]
  unfold hst hstL
  rw [List.take_append, List.drop_append, hs, List.take_of_length_le (by omega), List.drop_eq_nil_of_le (by omega), show 0 + 8 + o - 8 = o by omega, show 0 + 8 + o + j - 8 = o + j by omega,
    List.take_append_of_le_length (by simp [hw]; omega), List.drop_append_of_le_length (by simp [hw]; omega)]
  simp [List.map_take, List.map_drop]
end
theorem hst_s {s : W8} {wt : List UInt8} {k n i : Nat} (h : i < 8) : (hst s wt k n)[i]? = some (.int .u32 (s.l.getD i 0)) := by
  rw [hst_at]
  unfold hstL
  rw [List.getElem?_append_left (by simp [W8.l]; omega), List.getElem?_map, List.getD_eq_getElem?_getD, List.getElem?_eq_getElem (by rw [W8.len]; exact h)]
  rfl
theorem hst_range_s {w : World} {g : Nat} {s : W8} {wt : List UInt8} {k n : Nat} {t : TypeId} (h : Blk w g (hst s wt k n) t) : w.rangeAt g (0 + 0) (s.l.map (Value.int .u32)) := fun j v hv => by
  have hj : j < (s.l.map (Value.int .u32)).length := by
    rcases Nat.lt_or_ge j (s.l.map (Value.int .u32)).length with h | h
    · exact h
    · rw [List.getElem?_eq_none h] at hv; cases hv
  rw [show 0 + 0 + j = j by omega]
  refine h.cell ?_
  rw [hst_at]
  unfold hstL
  rw [List.getElem?_append_left hj]; exact hv
theorem hst_range_w {w : World} {g : Nat} {s : W8} {wt : List UInt8} {k n : Nat} {t : TypeId} (h : Blk w g (hst s wt k n) t) : w.rangeAt g (0 + 8) (wt.map cell) := fun j v hv => by
  have hj : j < (wt.map cell).length := by
    rcases Nat.lt_or_ge j (wt.map cell).length with h | h
    · exact h
    · rw [List.getElem?_eq_none h] at hv; cases hv
  rw [show 0 + 8 + j = 8 + j by omega]
  refine h.cell ?_
  rw [hst_at]
  unfold hstL
  rw [List.getElem?_append_right (by simp [W8.l]), show 8 + j - (s.l.map (Value.int .u32)).length = j by simp [W8.l], List.getElem?_append_left hj]; exact hv
/-- A hasher that was written 'done'. -/
structure HsP (s : W8) (wt : List UInt8) (k : Nat) (done : List UInt8) : Prop where
  wl : wt.length = 64
  st : s = stN done (done.length / 64)
  kk : k = done.length % 64
  wait : wt.take k = done.drop (64 * (done.length / 64))
theorem HsP.lt {s : W8} {wt : List UInt8} {k : Nat} {done : List UInt8} (h : HsP s wt k done) : k < 64 := by rw [h.kk]; exact Nat.mod_lt _ (by omega)
theorem HsP.new (wt : List UInt8) (h : wt.length = 64) : HsP s0W wt 0 [] := ⟨h, rfl, rfl, rfl⟩
theorem HsP.part {s : W8} {wt : List UInt8} {k : Nat} {done : List UInt8} (h : HsP s wt k done) (zs : List UInt8) {j : Nat} (hj : j ≤ zs.length) (hlt : k + j < 64) :
    HsP s (wt.take k ++ zs.take j ++ wt.drop (k + j)) (k + j) (done ++ zs.take j) := by
  have hk := h.kk
  have hwl := h.wl
  have hl : (done ++ zs.take j).length = done.length + j := by rw [List.length_append, List.length_take]; omega
  have hd : (done.length + j) / 64 = done.length / 64 := by omega
  refine ⟨by simp; omega, ?_, by rw [hl]; omega, ?_⟩
  · rw [hl, hd, stN_app _ _ _ (by omega)]; exact h.st
  · rw [hl, hd, List.drop_append_of_le_length (by omega), ← h.wait, List.take_append_of_le_length (by simp; omega), List.take_of_length_le (by simp; omega)]
theorem HsP.full {s : W8} {wt : List UInt8} {k : Nat} {done : List UInt8} (h : HsP s wt k done) (zs : List UInt8) {j : Nat} (hj : j ≤ zs.length) (hlt : k + j = 64) :
    HsP (mixF s (wt.take k ++ zs.take j ++ wt.drop (k + j))) (wt.take k ++ zs.take j ++ wt.drop (k + j)) 0 (done ++ zs.take j) := by
  have hk := h.kk
  have hwl := h.wl
  have hl : (done ++ zs.take j).length = done.length + j := by rw [List.length_append, List.length_take]; omega
  have hd : (done.length + j) / 64 = done.length / 64 + 1 := by omega
  have hdr : wt.drop (k + j) = [] := List.drop_eq_nil_of_le (by omega)
  refine ⟨by simp; omega, ?_, by rw [hl]; omega, ?_⟩
  · rw [hl, hd, stN, stN_app _ _ _ (by omega), ← h.st, List.drop_append_of_le_length (by omega), ← h.wait, hdr, List.append_nil, List.take_of_length_le (l := wt.take k ++ zs.take j) (by simp; omega)]
  · rw [hl, hd, List.take_zero, List.drop_eq_nil_of_le (by rw [hl]; omega)]
def Hs (w : World) (g : Nat) (all : List UInt8) : Prop := ∃ s wt k, HsP s wt k all ∧ Blk w g (hst s wt k all.length) 104
theorem Hs.ext {w w' : World} {g : Nat} {all : List UInt8} (h : Hs w g all) (x : Ext w w') : Hs w' g all := by
  obtain ⟨s, wt, k, h1, h2⟩ := h
  exact ⟨s, wt, k, h1, h2.ext x⟩
theorem Hs.keep {w w' : World} {g k : Nat} {all : List UInt8} {cs : Array Value} {t : TypeId} (h : Hs w g all) (hP : Put w w' k cs t) (hne : g ≠ k) : Hs w' g all := by
  obtain ⟨s, wt, j, h1, h2⟩ := h
  exact ⟨s, wt, j, h1, hP.keep h2 hne⟩
theorem Hs.lt {w : World} {g : Nat} {all : List UInt8} (h : Hs w g all) : g < w.heap.size := by obtain ⟨s, wt, k, h1, h2⟩ := h; exact h2.lt
theorem But.ext {g : Nat} {t : TypeId} {a b c : World} (h : But g t a b) (k : Ext b c) : But g t a c := h.trans (.ofExt k)
theorem Sl.but {α : Type} {d : Kind α} {e : TypeId} {B : Nat} {w w' : World} {p : Option Addr} {n c : Nat} {xs : List α} (h : Sl d e B w p n c xs) {g : Nat} {t : TypeId} (m : But g t w w') (hB : B ≤ g) (hE : ∀ u ∈ e :: d.E, u ≠ t) : Sl d e B w' p n c xs :=
  h.keep (fun k hk ho => m.old k hk (ho.imp (fun h => by omega) fun ⟨u, hu, hty⟩ => by rw [hty]; intro q; injection q with q; exact hE u hu q))
theorem Rt.but {w w' : World} {g : Nat} {t : TypeId} (h : Rt w) (m : But g t w w') (hg : 4 < g) : Rt w' := fun i hi => by
  have h1 := h i hi
  have h2 := World.block_lt_of_cell? w _ h1
  exact (World.cell?_of_block (w := w) (a := ⟨4, i, none⟩) (m.old 4 h2 (.inl (by omega)))).trans h1
def RwB (w : World) (g : Nat) (wt : List UInt8) : Prop := w.rangeAt g (0 + 8) (wt.map cell)
theorem RwB.ext {w w' : World} {g : Nat} {wt : List UInt8} (h : RwB w g wt) (x : Ext w w') : RwB w' g wt := fun j v hv => x.cell (h j v hv)
def KwB (w : World) (g k : Nat) : Prop := w.cell? ⟨g, 0 + 72, none⟩ = some (.int .i64 (k : Int))
theorem KwB.ext {w w' : World} {g k : Nat} (h : KwB w g k) (x : Ext w w') : KwB w' g k := x.cell h
/-- The first hasher's state. -/
def Bt (w : World) : Prop := ∀ i, i < 8 → w.cell? ⟨0, i, none⟩ = some (.int .u32 (s0W.l.getD i 0))
theorem Bt.ext {w w' : World} (h : Bt w) (x : Ext w w') : Bt w' := fun i hi => x.cell (h i hi)
theorem Bt.range {w : World} (h : Bt w) : w.rangeAt 0 0 (s0W.l.map (Value.int .u32)) := fun j v hv => by
  have hj : j < 8 := by
    rcases Nat.lt_or_ge j 8 with h | h
    · exact h
    · rw [List.getElem?_eq_none (by simp [W8.l]; omega)] at hv; cases hv
  rw [Nat.zero_add, h j hj, ← hv, List.getElem?_map, List.getD_eq_getElem?_getD, List.getElem?_eq_getElem (by rw [W8.len]; exact hj)]
  rfl
/-- Places that are laid one by one. -/
def setB (f : Nat → UInt8) (l : List UInt8) : Nat → List UInt8
  | 0 => l
  | i + 1 => (setB f l i).set i (f i)
theorem setB_len (f : Nat → UInt8) (l : List UInt8) : ∀ n, (setB f l n).length = l.length
  | 0 => rfl
  | n + 1 => by rw [setB, List.length_set, setB_len f l n]
theorem setB_eq (f : Nat → UInt8) (l : List UInt8) : ∀ n, n ≤ l.length → setB f l n = (List.range n).map f ++ l.drop n
  | 0, _ => rfl
  | n + 1, h => by
    rw [setB, setB_eq f l n (by omega), List.set_append_right _ _ (by simp), List.range_succ, List.map_append, List.append_assoc]
    congr 1
    simp only [List.length_map, List.length_range, Nat.sub_self]
    rw [List.drop_eq_getElem_cons (by omega : n < l.length)]
    rfl
/-- An array of bytes that is read as a slice. -/
theorem sl_bcs {w : World} {g m : Nat} {l : List UInt8} {t : TypeId} (h : Blk w g (bcs l) t) (hl : l.length = m) (hm : m ≤ 9223372036854775807) : Sl kByte t 0 w (some ⟨g, 0, none⟩) m m l := by
  refine ⟨hl, Nat.le_refl _, hm, l.map fun b => [cell b], byte_all _ _ _, ?_⟩
  rw [flat_cells]
  refine ⟨⟨fun _ => rfl, fun j v hv => ?_⟩, fun _ => .inr h.ty⟩
  show w.cell? ⟨g, 0 + j, none⟩ = _
  rw [Nat.zero_add]
  exact h.cell (by simpa [bcs] using hv)
theorem shl3 {n : Nat} (h : n ≤ 1000000000000000) : IntKind.u64.wrap ((n : Int) * 2 ^ min (3 : Int).toNat IntKind.u64.bits) = ((n * 8 : Nat) : Int) := by
  have e1 : (2 : Int) ^ min (3 : Int).toNat IntKind.u64.bits = 8 := by decide
  have e2 : ((n : Int) * 8) = ((n * 8 : Nat) : Int) := by omega
  rw [e1, e2]
  exact fits_u64 (by omega) (by omega)
/-- The first chunk that has a hash. -/
def findF (l : List (List UInt8)) (h : Hash) : Option (List UInt8) := l.find? fun x => decide (shaF x = h)
theorem findF_none : ∀ {l : List (List UInt8)} {h : Hash}, (∀ j, j < l.length → shaF (l.getD j []) ≠ h) → findF l h = none
  | [], _, _ => rfl
  | x :: l, h, hn => by
    have h0 : shaF x ≠ h := hn 0 (by simp)
    have ih := findF_none (l := l) (h := h) fun j hj => hn (j + 1) (by simp; omega)
    unfold findF at ih ⊢
    rw [List.find?_cons_of_neg (by simpa using h0), ih]
theorem findF_some : ∀ {l : List (List UInt8)} {h : Hash} {i : Nat}, i < l.length → shaF (l.getD i []) = h → (∀ j, j < i → shaF (l.getD j []) ≠ h) → findF l h = some (l.getD i [])
  | [], _, _, hi, _, _ => by simp at hi
  | x :: l, h, 0, _, he, _ => by
    have he : shaF x = h := he
    unfold findF
    rw [List.find?_cons_of_pos (by simpa using he)]; rfl
  | x :: l, h, i + 1, hi, he, hn => by
    have h0 : shaF x ≠ h := hn 0 (by omega)
    have ih := findF_some (l := l) (h := h) (i := i) (by simpa using hi) he fun j hj => hn (j + 1) (by omega)
    unfold findF at ih ⊢
    rw [List.find?_cons_of_neg (by simpa using h0), ih]; rfl
theorem Rt.lt {w : World} (h : Rt w) : 4 < w.heap.size := World.block_lt_of_cell? w _ (h 0 (by omega))
end Go.Proofs.Eng
end
section
set_option linter.unusedVariables false
set_option maxRecDepth 100000
namespace Go.Proofs.Eng
open Go.RowKit Go.Proofs.YtlmfpocifkpggaaDoor
theorem gR : Tryd.prog.globalNamed "stemma/sha.rounds" = some 4 := by kernel_rfl
theorem gRT : (Tryd.prog.globals[4]?).map (·.type) = some 82 := by kernel_rfl
theorem gB : Tryd.prog.globalNamed "stemma/sha.begin" = some 0 := by kernel_rfl
theorem gBT : (Tryd.prog.globals[0]?).map (·.type) = some 64 := by kernel_rfl
theorem c82 : Tryd.prog.cellsOf 82 = 64 := by kernel_rfl
theorem c64 : Tryd.prog.cellsOf 64 = 8 := by kernel_rfl
theorem rt_of {W : World} {r : List (String × DataW Unit)} (h : laidMet Tryd.prog (("stemma/sha.rounds", Lib.tabData .u32 kTab) :: r) W) : Rt W := fun i hi => by
  have t := Lib.tabIs_of_head gR gRT Tryd.underlying82 Tryd.underlying63 c63 c82 h
  have := t.cell gR i (by rw [kTab_len]; exact hi)
  rw [this]
theorem bt_of {W : World} {r : List (String × DataW Unit)} (h : laidMet Tryd.prog (("stemma/sha.begin", Lib.tabData .u32 s0W.l) :: r) W) : Bt W := fun i hi => by
  have t := Lib.tabIs_of_head gB gBT Tryd.underlying64 Tryd.underlying63 c63 c64 h
  have := t.cell gB i (by rw [W8.len]; exact hi)
  rw [this]
theorem rt8 {W : World} (h : laidMetH Tryd.prog Rows.segmentFindsRow.laid W) : Rt W := rt_of (W := W) (laidMet.tail (laidMet.tail (laidMet.tail (laidMet.tail h))))
theorem bt8 {W : World} (h : laidMetH Tryd.prog Rows.segmentFindsRow.laid W) : Bt W := bt_of (W := W) (laidMet.tail (laidMet.tail (laidMet.tail (laidMet.tail (laidMet.tail h)))))
end Go.Proofs.Eng
end
section
set_option linter.unusedVariables false
set_option maxRecDepth 100000
namespace Go.Proofs.Eng
open Go.ChangeShapes Go.WideShapes Go.ChangeAt Go.RowKit Go.Proofs.YtlmfpocifkpggaaDoor
section
variable {H : Type} {enc : TypeId × Value → H} {P : Program} {W : World} {α : Type}
def All2 {A B : Type} (R : A → B → Prop) : List A → List B → Prop
  | [], [] => True
  | a :: l, b :: m => R a b ∧ All2 R l m
  | _, _ => False
theorem all2_map {A B : Type} {R : A → B → Prop} {D : Nat → A} {Y : Nat → B} : ∀ (l : List Nat), (∀ i ∈ l, R (D i) (Y i)) → All2 R (l.map D) (l.map Y)
  | [], _ => trivial
  | i :: l, h => ⟨h i (by simp), all2_map l (fun j hj => h j (by simp [hj]))⟩
theorem all2_len {A B : Type} {R : A → B → Prop} : ∀ {l : List A} {m : List B}, All2 R l m → l.length = m.length
  | [], [], _ => rfl
  | _ :: _, _ :: _, h => by rw [List.length_cons, List.length_cons, all2_len h.2]
  | [], _ :: _, h => h.elim
  | _ :: _, [], h => h.elim
/-- What a cell run's reading tells, and how the datum bears on it. -/
def OpensR (enc : TypeId × Value → H) (P : Program) (W : World) (d : Kind α) (e : TypeId) (R : DataW H → α → Prop) : Prop :=
  ∀ fuel cs x, DataW.trod enc P W 0 (fun _ => true) true fuel e cs = some x → ∃ y, d.K W.heap.size W y cs ∧ R x.1 y
theorem open_slR [Inhabited α] {d : Kind α} {t e : TypeId} {R : DataW H → α → Prop} (ht : P.underlying t = some (.slice e)) (hc : P.cellsOf e = d.sz) (hO : OpensR enc P W d e R) {fuel : Nat} {cs : List Value} {x : DataW H × List MemPlace}
    (h : DataW.trod enc P W 0 (fun _ => true) true fuel t cs = some x) : ∃ p n c xs, cs = [.slice p n c] ∧ Sl d e W.heap.size W p n c xs ∧ c ≤ maxLen ∧ ((x.1 = .nil ∧ xs = []) ∨ ∃ es rs, x.1 = .slice es rs ∧ All2 R es xs) := by
  rcases Deep.open_slice ht h with ⟨h0, h1⟩ | ⟨a, len, cap, m, n, D, Pl, rfl, hb, hl, hm, hmm, rfl, hx⟩
  · exact ⟨none, 0, 0, [], h0, Sl.nil _ _ _ _ _ _ (by omega), by unfold maxLen; omega, .inl ⟨by rw [h1], rfl⟩⟩
  · have hmm : m = cap := by simpa using hmm
    subst hmm
    rw [hc] at hx
    obtain ⟨C, hC⟩ := Deep.choose_lt (α := List Value) (n := len) (p := fun i cs' => W.cells? 0 (a.add (i * d.sz)) d.sz = some cs' ∧ DataW.trod enc P W 0 (fun _ => true) true n e cs' = some (D i, Pl i)) (fun i hi => hx i (by omega))
    obtain ⟨Y, hY⟩ := Deep.choose_lt (α := α) (n := len) (p := fun i y => d.K W.heap.size W y (C i) ∧ R (D i) y) (fun i hi => hO _ _ _ (hC i hi).2)
    have hfit : m ≤ 9223372036854775807 := by unfold maxLen at hm; omega
    have cell : ∀ j v, (((List.range len).map C).flatten)[j]? = some v → W.cell? (a.add j) = some v := by
      intro j v hv
      obtain ⟨hs, hi, hr⟩ := flat_inv len j v (fun i hi => d.len (hY i hi).1) hv
      obtain ⟨_, hlen, hcell⟩ := World.cells?_some (hC _ hi).1
      have := hcell (j % d.sz) (Nat.mod_lt _ hs)
      rw [hr] at this
      have e1 : j / d.sz * d.sz + j % d.sz = j := by have := Nat.div_add_mod j d.sz; rw [Nat.mul_comm] at this; omega
      rw [Addr.add_add, e1] at this
      exact this
    have plain : ((List.range len).map C).flatten ≠ [] → a = ⟨a.block, a.off, none⟩ := by
      intro hne
      cases hfl : ((List.range len).map C).flatten with
      | nil => exact absurd hfl hne
      | cons v r =>
        have := cell 0 v (by rw [hfl]; rfl)
        rw [add_nought] at this; exact cell_plain this
    refine ⟨some a, len, m, (List.range len).map Y, rfl, ⟨by simp, hl, hfit, (List.range len).map C, all_map _ (fun i hi => (hY i (by simpa using hi)).1), ?_⟩, hm, .inr ⟨_, _, rfl, all2_map _ (fun i hi => (hY i (by simpa using hi)).2)⟩⟩
    refine ⟨⟨fun hne => congrArg some (plain hne), fun j v hv => ?_⟩, fun hne => ?_⟩
    · have hp := plain (by intro e; rw [e] at hv; simp at hv)
      have := cell j v hv
      show W.cell? ⟨a.block, a.off + j, none⟩ = some v
      rw [hp, Addr.add_mid] at this
      exact this
    · left
      cases hfl : ((List.range len).map C).flatten with
      | nil => exact absurd hfl hne
      | cons v r =>
        have := World.block_lt_of_cell? W _ (cell 0 v (by rw [hfl]; rfl))
        show a.block < W.heap.size
        have e2 : (a.add 0).block = a.block := by unfold Addr.add; split <;> rfl
        rw [e2] at this; exact this
theorem arg_slR [Inhabited α] {k : Kind α} {t e : TypeId} {r : Reach} {b0 : Nat} {v : Value} {d : DataW H} {ps : List MemPlace} {R : DataW H → α → Prop} (ht : P.underlying t = some (.slice e)) (hc : P.cellsOf e = k.sz) (hO : OpensR enc P W k e R) (hval : Value.okWide P W r b0 t v)
    (h : DataW.Trod enc P W 0 (fun _ => true) true t v d ps) : ∃ p n c xs, v = .slice p n c ∧ Sl k e W.heap.size W p n c xs ∧ c ≤ maxLen ∧ ((d = .nil ∧ xs = []) ∨ ∃ es rs, d = .slice es rs ∧ All2 R es xs) := by
  obtain ⟨p, n, c, rfl⟩ := okWide_slice ht hval
  obtain ⟨fuel, hf⟩ := h
  obtain ⟨p', n', c', xs, h1, h2, h3, h4⟩ := open_slR ht hc hO hf
  have h1 : [Value.slice p n c] = [.slice p' n' c'] := h1
  injection h1 with h1
  injection h1 with e1 e2 e3
  subst e1 e2 e3
  exact ⟨p, n, c, xs, rfl, h2, h3, h4⟩
theorem opensR_any {d : Kind α} {e : TypeId} (h : Opens enc P W d e) : OpensR enc P W d e (fun _ _ => True) := fun fuel cs x hx => by
  obtain ⟨y, hy⟩ := h fuel cs x hx
  exact ⟨y, hy, trivial⟩
/-! ### how much an argument is -/
theorem bulk_pos (d : DataW H) : 1 ≤ Rows.uptoBulk d := by
  cases d with
  | lit l => cases l <;> simp [Rows.uptoBulk]
  | _ => simp [Rows.uptoBulk]
theorem bulk_len : ∀ l : List (DataW H), l.length ≤ Rows.uptoBulkAll l
  | [] => by simp [Rows.uptoBulkAll]
  | d :: l => by
    have := bulk_len l
    have := bulk_pos d
    simp only [Rows.uptoBulkAll, List.length_cons]; omega
theorem bulk_bytes {β : Type} {R : DataW H → β → Prop} {d : DataW H} {xs : List β} (h : (d = .nil ∧ xs = []) ∨ ∃ es rs, d = .slice es rs ∧ All2 R es xs) : xs.length + 1 ≤ Rows.uptoBulk d := by
  rcases h with ⟨rfl, rfl⟩ | ⟨es, rs, rfl, h⟩
  · simp [Rows.uptoBulk]
  · have h1 := all2_len h
    have h2 := bulk_len es
    simp only [Rows.uptoBulk]; omega
theorem small_of {k : (H : Type) → List (DataW H) → Bool} {ds : List (DataW H)} (h : Rows.uptoSmall H ds = true) : Rows.uptoBulkAll ds ≤ 1048576 := of_decide_eq_true h
end
end Go.Proofs.Eng
end
section
set_option linter.unusedVariables false
set_option linter.unusedSimpArgs false
set_option maxRecDepth 100000
set_option maxHeartbeats 4000000
namespace Go.Proofs.Eng
open Go.RowKit
open Extern.Stop (cell)
theorem mixed : Tryd.prog.follows .mixedOrders = true := by kernel_rfl
theorem fb38 : Tryd.f38.body.isNone = false := by kernel_rfl
theorem fb69 : Tryd.f69.body.isNone = false := by kernel_rfl
theorem fn38 : (Tryd.f38.name == "runtime.NumGoroutine") = false := by kernel_rfl
theorem fn69 : (Tryd.f69.name == "runtime.NumGoroutine") = false := by kernel_rfl
theorem inf5 : (Tryd.prog.info? 5).map (fun i => (i.zero, i.size, i.bytes)) = some (some (.int .u8 0), 1, 1) := by kernel_rfl
theorem sz5 : (Tryd.prog.info? 5).map (·.size) = some 1 := by kernel_rfl
theorem u27 : Tryd.prog.underlying 27 = some (.slice 5) := by kernel_rfl
theorem u5 : Tryd.prog.underlying 5 = some (.int .u8) := by kernel_rfl
theorem u67 : Tryd.prog.underlying 67 = some (.int .u64) := by kernel_rfl
theorem u71 : Tryd.prog.underlying 71 = some (.int .u64) := by kernel_rfl
theorem u9 : Tryd.prog.underlying 9 = some (.string) := by kernel_rfl
theorem un5 : (Tryd.prog.underlying 5).map TypeDesc.isRow = some false := by kernel_rfl
theorem us3 : (Tryd.prog.underlying 3).isSome = true := by kernel_rfl
theorem us5 : (Tryd.prog.underlying 5).isSome = true := by kernel_rfl
theorem us71 : (Tryd.prog.underlying 71).isSome = true := by kernel_rfl
end Go.Proofs.Eng
end
section
set_option linter.unusedVariables false
set_option linter.unusedSimpArgs false
set_option maxRecDepth 100000
set_option maxHeartbeats 4000000
namespace Go.Proofs.Eng
open Go.RowKit
open Extern.Stop (cell)
theorem leb_Uint (N : Nat) (hN : N < 18446744073709551616) (w : World) :
    Ret Tryd.prog 36 [.int .u64 (N : Int)] w (fun v w' => (∃ p l c, v = .slice p l c ∧ Own kByte 5 0 w.heap.size w' p l c (lebU N)) ∧ Ext w w') := by
  have hX := Ext.refl w
  refine enter 20 _ Tryd.func36 rfl rfl (Nat.le_of_ble_eq_true rfl) rfl ?_
  refine c_seq ?_
  refine r_plain ?_
  refine p1 (x_assign (by conv => lhs; whnf)) ?_
  refine r_nil ?_
  refine t_n ?_
  refine c_seq ?_
  refine r_plain ?_
  refine o_make u27 inf5 rfl rfl (by omega) (by omega) (by omega) (by omega) ?_
  intro w1 g4 hN4
  have hE1 := hN4.ext
  have hX := hX.ext hE1
  have hO : Own kByte 5 0 w.heap.size w1 (some ⟨g4, 0, none⟩) 0 10 [] := Own.made kByte 5 0 _ hN4 [] [] 0 10 rfl trivial (by have := hX.size; have := hN4.g_eq; have := hN4.ext.size; omega) (by omega) (by omega) (by rw [size_madeCells]; rfl) (by simp)
  refine p1 (x_assign (by conv => lhs; whnf)) ?_
  refine r_nil ?_
  refine t_n ?_
  refine c_seq ?_
  refine c_block ?_
  refine c_loop (ι := Nat × List UInt8 × Option Addr × Nat × Nat) [0, 3, 5, 6, 7, 8, 9, 10, 11, 12, 13, 14] (fun (m, acc, p, l, c) => [(0, .int .u64 (m : Int)), (3, .slice p l c)]) (fun (m, acc, p, l, c) w' => Ext w w' ∧ (Own kByte 5 0 w.heap.size w' p l c acc ∧ acc ++ lebU m = lebU N ∧ m < 18446744073709551616)) (fun (m, acc, p, l, c) => m) ((N, [], some ⟨g4, 0, none⟩, 0, 10)) ⟨rfl, rfl, trivial⟩ ⟨hX, ⟨hO, by simp, hN⟩⟩ ?_
  rintro ⟨m, acc, p, l, c⟩ GL0 w2 ⟨hE2, hO, hacc, hm⟩
  have hX := hE2
  refine c_seq ?_
  refine c_seq ?_
  refine r_plain ?_
  refine p1 (x_move (by conv => lhs; whnf)) ?_
  refine p1 (x_geq rfl rfl) ?_
  refine r_nil ?_
  refine t_n ?_
  first | refine c_dec rfl (fun hc6 => ?_) (fun hc6 => ?_) | refine c_if rfl (fun hc6 => ?_) (fun hc6 => ?_)
  · try simp only [decide_eq_true_eq, decide_eq_false_iff_not, Bool.not_eq_true, Bool.not_eq_false, Bool.not_eq_eq_eq_not, Bool.not_true, Bool.not_false, Int.not_lt, Int.not_le] at hc6
    refine c_skip ?_
    refine t_n ?_
    refine c_seq ?_
    refine c_block ?_
    refine r_plain ?_
    refine p1 (x_move (by conv => lhs; whnf)) ?_
    refine p1 (x_move (by conv => lhs; whnf)) ?_
    refine p1 (x_conv u5 us71 rfl) ?_
    refine p1 ((x_or rfl rfl).cast (congrArg _ (or128 m))) ?_
    refine o_buildSlice u27 inf5 rfl (by decide) (fun base hb => fill_one (by rfl) base hb) ?_
    intro w3 g13 hN13
    have hE3 := hN13.ext
    have hX := hX.ext hE3
    have hO := hO.ext hE3
    have hS : Blk w3 g13 #[cell (UInt8.ofNat (m % 128 + 128))] 5 := hN13.blk
    have hlen : acc.length = l := hO.len
    have hl10 := lebU_len10 hN
    rw [← hacc, List.length_append] at hl10
    have hB0 := hX.size
    refine o_append (d := kByte) ([UInt8.ofNat (m % 128 + 128)]) u27 inf5 rfl kByte_pos rfl rfl hO (src_byte u27 hS) rfl (byte_all _ _ _) (flat_single _) (by omega) (by omega) (by omega) (by omega) (by decide) ?_
    intro p14 c14 w4 hO hM4
    have hX := hX.mod hM4 (Nat.le_refl _)
    refine p1 (x_assign (by conv => lhs; whnf)) ?_
    refine r_nil ?_
    refine b_n ?_
    refine t_n ?_
    refine r_plain ?_
    refine p1 (x_move (by conv => lhs; whnf)) ?_
    refine p1 ((x_shr rfl rfl (by omega)).cast (congrArg _ (shr7 m))) ?_
    refine p1 (x_assign (by conv => lhs; whnf)) ?_
    refine r_nil ?_
    refine t_n (At.mk ((m / 128, acc ++ [UInt8.ofNat (m % 128 + 128)], p14, l + 1, c14)) (by repeat (first | exact Agr.refl _ _ | exact Agr.hav _ _ _ | refine Agr.upd rfl ?_ | refine Agr.updR rfl ?_ | refine Agr.updL ?_ _ rfl | refine Agr.hav' rfl ?_)) ⟨rfl, rfl, trivial⟩ ?_)
    exact ⟨⟨hX, ⟨hO, by rw [← hacc, lebU_ge (n := m) (by omega)]; simp, by omega⟩⟩, by first | (dsimp only; omega) | ((show _ < _); omega)⟩
  · try simp only [decide_eq_true_eq, decide_eq_false_iff_not, Bool.not_eq_true, Bool.not_eq_false, Bool.not_eq_eq_eq_not, Bool.not_true, Bool.not_false, Int.not_lt, Int.not_le] at hc6
    refine c_exit ?_
    refine t_e ?_
    refine t_e ?_
    refine b_hit ?_
    refine t_n ?_
    refine c_seq ?_
    refine r_plain ?_
    refine p1 (x_move (by conv => lhs; whnf)) ?_
    refine p1 (x_move (by conv => lhs; whnf)) ?_
    refine p1 ((x_convf u5 us71 rfl (fits_u8 (by omega) (by omega))).cast (congrArg _ (ofNat_toNat (n := m) (by omega)).symm)) ?_
    refine o_buildSlice u27 inf5 rfl (by decide) (fun base hb => fill_one (by rfl) base hb) ?_
    intro w5 g18 hN18
    have hE5 := hN18.ext
    have hX := hX.ext hE5
    have hO := hO.ext hE5
    have hS : Blk w5 g18 #[cell (UInt8.ofNat m)] 5 := hN18.blk
    have hlen : acc.length = l := hO.len
    have hl10 := lebU_len10 hN
    rw [← hacc, List.length_append] at hl10
    have hB0 := hX.size
    refine o_append (d := kByte) ([UInt8.ofNat m]) u27 inf5 rfl kByte_pos rfl rfl hO (src_byte u27 hS) rfl (byte_all _ _ _) (flat_single _) (by omega) (by omega) (by omega) (by omega) (by decide) ?_
    intro p19 c19 w6 hO hM6
    have hX := hX.mod hM6 (Nat.le_refl _)
    refine p1 (x_assign (by conv => lhs; whnf)) ?_
    refine r_nil ?_
    refine t_n ?_
    refine c_ret ?_
    refine end1 rfl (by conv => lhs; whnf) ?_
    rw [lebU_lt (n := m) (by omega)] at hacc
    exact ⟨⟨_, _, _, rfl, by rw [← hacc]; exact hO⟩, hX⟩
theorem ref02_Uint (N : Nat) (hN : N < 18446744073709551616) (w : World) :
    Ret Tryd.prog 38 [.int .u64 (N : Int)] w (fun v w' => (∃ p l c, v = .slice p l c ∧ Own kByte 5 0 w.heap.size w' p l c (lebU N)) ∧ Ext w w') := by
  have hX := Ext.refl w
  refine enter 20 _ Tryd.func38 rfl rfl (Nat.le_of_ble_eq_true rfl) rfl ?_
  refine c_seq ?_
  refine r_plain ?_
  refine p1 (x_assign (by conv => lhs; whnf)) ?_
  refine r_nil ?_
  refine t_n ?_
  refine c_seq ?_
  refine r_plain ?_
  refine p1 (x_assign (by conv => lhs; whnf)) ?_
  refine r_nil ?_
  refine t_n ?_
  refine c_seq ?_
  refine c_block ?_
  have hO : Own kByte 5 0 w.heap.size w none 0 0 [] := Own.nil _ _ _ _ _
  refine c_loop (ι := Nat × List UInt8 × Option Addr × Nat × Nat) [0, 3, 4, 5, 6, 7, 8, 9, 10, 11, 12, 13, 14] (fun (m, acc, p, l, c) => [(0, .int .u64 (m : Int)), (3, .slice p l c)]) (fun (m, acc, p, l, c) w' => Ext w w' ∧ (Own kByte 5 0 w.heap.size w' p l c acc ∧ acc ++ lebU m = lebU N ∧ m < 18446744073709551616)) (fun (m, acc, p, l, c) => m) ((N, [], none, 0, 0)) ⟨rfl, rfl, trivial⟩ ⟨hX, ⟨hO, by simp, hN⟩⟩ ?_
  rintro ⟨m, acc, p, l, c⟩ GL0 w1 ⟨hE1, hO, hacc, hm⟩
  have hX := hE1
  refine c_seq ?_
  refine c_seq ?_
  refine r_plain ?_
  refine p1 (x_move (by conv => lhs; whnf)) ?_
  refine p1 (x_geq rfl rfl) ?_
  refine r_nil ?_
  refine t_n ?_
  first | refine c_dec rfl (fun hc5 => ?_) (fun hc5 => ?_) | refine c_if rfl (fun hc5 => ?_) (fun hc5 => ?_)
  · try simp only [decide_eq_true_eq, decide_eq_false_iff_not, Bool.not_eq_true, Bool.not_eq_false, Bool.not_eq_eq_eq_not, Bool.not_true, Bool.not_false, Int.not_lt, Int.not_le] at hc5
    refine c_skip ?_
    refine t_n ?_
    refine c_block ?_
    refine c_seq ?_
    refine r_plain ?_
    refine p1 (x_move (by conv => lhs; whnf)) ?_
    refine p1 (x_move (by conv => lhs; whnf)) ?_
    refine p1 (x_rem rfl rfl (by omega) (by omega)) ?_
    refine p1 (x_convf u5 us71 rfl (fits_u8 (by omega) (by omega))) ?_
    refine p1 ((x_add rfl rfl (fits_u8 (by omega) (by omega))).cast (congrArg _ (by rw [ofNat_toNat (by omega)]; omega : _ = ((UInt8.ofNat (m % 128 + 128)).toNat : Int)))) ?_
    refine o_buildSlice u27 inf5 rfl (by decide) (fun base hb => fill_one (by rfl) base hb) ?_
    intro w2 g11 hN11
    have hE2 := hN11.ext
    have hX := hX.ext hE2
    have hO := hO.ext hE2
    have hS : Blk w2 g11 #[cell (UInt8.ofNat (m % 128 + 128))] 5 := hN11.blk
    have hlen : acc.length = l := hO.len
    have hl10 := lebU_len10 hN
    rw [← hacc, List.length_append] at hl10
    have hB0 := hX.size
    refine o_append (d := kByte) ([UInt8.ofNat (m % 128 + 128)]) u27 inf5 rfl kByte_pos rfl rfl hO (src_byte u27 hS) rfl (byte_all _ _ _) (flat_single _) (by omega) (by omega) (by omega) (by omega) (by decide) ?_
    intro p12 c12 w3 hO hM3
    have hX := hX.mod hM3 (Nat.le_refl _)
    refine p1 (x_assign (by conv => lhs; whnf)) ?_
    refine r_nil ?_
    refine t_n ?_
    refine r_plain ?_
    refine p1 (x_move (by conv => lhs; whnf)) ?_
    refine p1 (x_quo rfl rfl (by omega) (by omega) (fits_u64 (by omega) (by omega))) ?_
    refine p1 (x_assign (by conv => lhs; whnf)) ?_
    refine r_nil ?_
    refine b_n ?_
    refine t_n (At.mk ((m / 128, acc ++ [UInt8.ofNat (m % 128 + 128)], p12, l + 1, c12)) (by repeat (first | exact Agr.refl _ _ | exact Agr.hav _ _ _ | refine Agr.upd rfl ?_ | refine Agr.updR rfl ?_ | refine Agr.updL ?_ _ rfl | refine Agr.hav' rfl ?_)) ⟨rfl, rfl, trivial⟩ ?_)
    exact ⟨⟨hX, ⟨hO, by rw [← hacc, lebU_ge (n := m) (by omega)]; simp, by omega⟩⟩, by first | (dsimp only; omega) | ((show _ < _); omega)⟩
  · try simp only [decide_eq_true_eq, decide_eq_false_iff_not, Bool.not_eq_true, Bool.not_eq_false, Bool.not_eq_eq_eq_not, Bool.not_true, Bool.not_false, Int.not_lt, Int.not_le] at hc5
    refine c_exit ?_
    refine t_e ?_
    refine t_e ?_
    refine b_hit ?_
    refine t_n ?_
    refine c_seq ?_
    refine r_plain ?_
    refine p1 (x_move (by conv => lhs; whnf)) ?_
    refine p1 (x_move (by conv => lhs; whnf)) ?_
    refine p1 ((x_convf u5 us71 rfl (fits_u8 (by omega) (by omega))).cast (congrArg _ (ofNat_toNat (n := m) (by omega)).symm)) ?_
    refine o_buildSlice u27 inf5 rfl (by decide) (fun base hb => fill_one (by rfl) base hb) ?_
    intro w4 g18 hN18
    have hE4 := hN18.ext
    have hX := hX.ext hE4
    have hO := hO.ext hE4
    have hS : Blk w4 g18 #[cell (UInt8.ofNat m)] 5 := hN18.blk
    have hlen : acc.length = l := hO.len
    have hl10 := lebU_len10 hN
    rw [← hacc, List.length_append] at hl10
    have hB0 := hX.size
    refine o_append (d := kByte) ([UInt8.ofNat m]) u27 inf5 rfl kByte_pos rfl rfl hO (src_byte u27 hS) rfl (byte_all _ _ _) (flat_single _) (by omega) (by omega) (by omega) (by omega) (by decide) ?_
    intro p19 c19 w5 hO hM5
    have hX := hX.mod hM5 (Nat.le_refl _)
    refine p1 (x_assign (by conv => lhs; whnf)) ?_
    refine r_nil ?_
    refine t_n ?_
    refine c_ret ?_
    refine end1 rfl (by conv => lhs; whnf) ?_
    rw [lebU_lt (n := m) (by omega)] at hacc
    exact ⟨⟨_, _, _, rfl, by rw [← hacc]; exact hO⟩, hX⟩
end Go.Proofs.Eng
end
section
set_option linter.unusedVariables false
set_option linter.unusedSimpArgs false
set_option maxRecDepth 100000
set_option maxHeartbeats 4000000
namespace Go.Proofs.Eng
open Go.RowKit
open Extern.Stop (cell)
theorem leb_GetUint (xs : List UInt8) (B : Nat) (p : Option Addr) (n c : Nat) (w : World) (hl : Sl kByte 5 B w p n c xs) :
    Ret Tryd.prog 59 [.slice p n c] w (fun v w' => v = .tuple #[.int .u64 ((getU xs).1 : Int), .int .i64 ((getU xs).2.1 : Int), .int .i64 (getU xs).2.2] ∧ Ext w w') := by
  have hX := Ext.refl w
  refine enter 43 _ Tryd.func59 rfl rfl (Nat.le_of_ble_eq_true rfl) rfl ?_
  refine c_seq ?_
  refine r_plain ?_
  refine p1 (x_assign (by conv => lhs; whnf)) ?_
  refine p1 (x_assign (by conv => lhs; whnf)) ?_
  refine p1 (x_assign (by conv => lhs; whnf)) ?_
  refine r_nil ?_
  refine t_n ?_
  refine c_seq ?_
  refine c_seq ?_
  refine r_plain ?_
  refine p1 (x_move (by conv => lhs; whnf)) ?_
  refine p1 (x_len_slice u27 rfl) ?_
  refine p1 (x_move (by conv => lhs; whnf)) ?_
  refine r_nil ?_
  refine t_n ?_
  refine c_block ?_
  have hWL0 := Ext.refl w
  have hlen := hl.len
  have hfit := hl.fit
  have hcap := hl.cap
  refine c_loop (ι := Nat × Nat) [2, 3, 4, 5, 6, 9, 10, 11, 12, 13, 14, 15, 16, 17, 18, 19, 20, 21, 22, 23, 24, 25, 26, 27, 28, 29, 30, 31, 32, 33, 34, 35, 36, 37, 38, 39, 40, 41, 42] (fun (i, m) => [(2, .int .u64 (m : Int)), (9, .int .i64 (i : Int))]) (fun (i, m) w' => Ext w w' ∧ (i ≤ n ∧ i ≤ 9 ∧ m < 2 ^ (7 * i) ∧ getUF i m (xs.drop i) = getU xs)) (fun (i, m) => n - i) ((0, 0)) ⟨rfl, rfl, trivial⟩ ⟨Ext.refl _, ⟨by omega, by omega, by simp, rfl⟩⟩ ?_
  rintro ⟨i, m⟩ GL0 w1 ⟨hE1, hi, hi9, hm, hL⟩
  have hX := hX.ext hE1
  have hWL0 := hE1
  refine c_seq ?_
  refine r_plain ?_
  refine p1 (x_lss rfl rfl) ?_
  refine r_nil ?_
  refine t_n ?_
  refine c_seq ?_
  first | refine c_dec rfl (fun hc10 => ?_) (fun hc10 => ?_) | refine c_if rfl (fun hc10 => ?_) (fun hc10 => ?_)
  · try simp only [decide_eq_true_eq, decide_eq_false_iff_not, Bool.not_eq_true, Bool.not_eq_false, Bool.not_eq_eq_eq_not, Bool.not_true, Bool.not_false, Int.not_lt, Int.not_le] at hc10
    refine c_skip ?_
    refine t_n ?_
    refine c_seq ?_
    refine c_block ?_
    refine c_seq ?_
    refine r_plain ?_
    refine p1 (x_move (by conv => lhs; whnf)) ?_
    refine p1 (x_ixs0 u27 sz5 rfl rfl ((hl.ext hX).adr kByte_pos (by omega)) (by omega)) ?_
    refine p1 (x_load1 un5 rfl ((hl.ext hX).byteAt _ (by omega))) ?_
    refine p1 (x_assign (by conv => lhs; whnf)) ?_
    refine p1 (x_assign (by conv => lhs; whnf)) ?_
    refine r_nil ?_
    refine t_n ?_
    refine c_seq ?_
    refine c_seq ?_
    have hWr4 := Ext.refl w1
    refine c_cut (ι := Unit) [14, 15, 16, 17, 18, 19, 20, 21, 22, 23, 24, 25, 26, 27] (fun _ => [(27, .bool (decide ((i = 9 ∧ 1 < (xs.getD i 0).toNat) ∨ (0 < i ∧ (xs.getD i 0).toNat = 0))))]) (fun _ w' => Ext w1 w') ?_ ?_
    · skip
      refine r_plain ?_
      refine p1 (x_move (by conv => lhs; whnf)) ?_
      refine p1 (x_eql rfl rfl) ?_
      refine p1b (x_move (by conv => lhs; whnf)) (fun hb4_2 => ?_) (fun hb4_2 => ?_)
      · try simp only [decide_eq_true_eq, decide_eq_false_iff_not, Bool.not_eq_true, Bool.not_eq_false, Bool.not_eq_eq_eq_not, Bool.not_true, Bool.not_false, Int.not_lt, Int.not_le] at hb4_2
        refine g1 16 rfl rfl (x_move (by conv => lhs; whnf)) ?_
        refine g1 16 rfl rfl (x_gtr rfl rfl) ?_
        refine p1 (x_pick_t rfl (by conv => lhs; whnf)) ?_
        refine p1b (x_move (by conv => lhs; whnf)) (fun hb4_6 => ?_) (fun hb4_6 => ?_)
        · try simp only [decide_eq_true_eq, decide_eq_false_iff_not, Bool.not_eq_true, Bool.not_eq_false, Bool.not_eq_eq_eq_not, Bool.not_true, Bool.not_false, Int.not_lt, Int.not_le] at hb4_6
          refine g0 20 rfl (by first | exact .inl rfl | exact .inr rfl) ?_
          refine g0 20 rfl (by first | exact .inl rfl | exact .inr rfl) ?_
          refine g0 20 rfl (by first | exact .inl rfl | exact .inr rfl) ?_
          refine g0 23 rfl (by first | exact .inl rfl | exact .inr rfl) ?_
          refine g0 23 rfl (by first | exact .inl rfl | exact .inr rfl) ?_
          refine g0 20 rfl (by first | exact .inl rfl | exact .inr rfl) ?_
          refine p1 (x_pick_t rfl (by conv => lhs; whnf)) ?_
          refine r_nil ?_
          refine t_n (At.mk () (by repeat (first | exact Agr.refl _ _ | exact Agr.hav _ _ _ | refine Agr.upd rfl ?_ | refine Agr.updR rfl ?_ | refine Agr.updL ?_ _ rfl | refine Agr.hav' rfl ?_)) ⟨congrArg Value.bool (by first | rfl | exact (decide_eq_true (by omega)).symm | exact (decide_eq_false (by omega)).symm | exact decide_eq_decide.2 (by omega) | (simp_all; done) | grind), trivial⟩ hWr4)
        · try simp only [decide_eq_true_eq, decide_eq_false_iff_not, Bool.not_eq_true, Bool.not_eq_false, Bool.not_eq_eq_eq_not, Bool.not_true, Bool.not_false, Int.not_lt, Int.not_le] at hb4_6
          refine g1 20 rfl rfl (x_move (by conv => lhs; whnf)) ?_
          refine g1 20 rfl rfl (x_gtr rfl rfl) ?_
          refine g1b 20 rfl rfl (x_move (by conv => lhs; whnf)) (fun hb4_9 => ?_) (fun hb4_9 => ?_)
          · try simp only [decide_eq_true_eq, decide_eq_false_iff_not, Bool.not_eq_true, Bool.not_eq_false, Bool.not_eq_eq_eq_not, Bool.not_true, Bool.not_false, Int.not_lt, Int.not_le] at hb4_9
            refine g1 23 rfl rfl (x_move (by conv => lhs; whnf)) ?_
            refine g1 23 rfl rfl (x_eql rfl rfl) ?_
            refine g1 20 rfl rfl (x_pick_t rfl (by conv => lhs; whnf)) ?_
            refine p1 (x_pick_f rfl (by conv => lhs; whnf)) ?_
            refine r_nil ?_
            refine t_n (At.mk () (by repeat (first | exact Agr.refl _ _ | exact Agr.hav _ _ _ | refine Agr.upd rfl ?_ | refine Agr.updR rfl ?_ | refine Agr.updL ?_ _ rfl | refine Agr.hav' rfl ?_)) ⟨congrArg Value.bool (by first | rfl | exact (decide_eq_true (by omega)).symm | exact (decide_eq_false (by omega)).symm | exact decide_eq_decide.2 (by omega) | (simp_all; done) | grind), trivial⟩ hWr4)
          · try simp only [decide_eq_true_eq, decide_eq_false_iff_not, Bool.not_eq_true, Bool.not_eq_false, Bool.not_eq_eq_eq_not, Bool.not_true, Bool.not_false, Int.not_lt, Int.not_le] at hb4_9
            refine g0 23 rfl (by first | exact .inl rfl | exact .inr rfl) ?_
            refine g0 23 rfl (by first | exact .inl rfl | exact .inr rfl) ?_
            refine g1 20 rfl rfl (x_pick_f rfl (by conv => lhs; whnf)) ?_
            refine p1 (x_pick_f rfl (by conv => lhs; whnf)) ?_
            refine r_nil ?_
            refine t_n (At.mk () (by repeat (first | exact Agr.refl _ _ | exact Agr.hav _ _ _ | refine Agr.upd rfl ?_ | refine Agr.updR rfl ?_ | refine Agr.updL ?_ _ rfl | refine Agr.hav' rfl ?_)) ⟨congrArg Value.bool (by first | rfl | exact (decide_eq_true (by omega)).symm | exact (decide_eq_false (by omega)).symm | exact decide_eq_decide.2 (by omega) | (simp_all; done) | grind), trivial⟩ hWr4)
      · try simp only [decide_eq_true_eq, decide_eq_false_iff_not, Bool.not_eq_true, Bool.not_eq_false, Bool.not_eq_eq_eq_not, Bool.not_true, Bool.not_false, Int.not_lt, Int.not_le] at hb4_2
        refine g0 16 rfl (by first | exact .inl rfl | exact .inr rfl) ?_
        refine g0 16 rfl (by first | exact .inl rfl | exact .inr rfl) ?_
        refine p1 (x_pick_f rfl (by conv => lhs; whnf)) ?_
        refine p1 (x_move (by conv => lhs; whnf)) ?_
        refine g1 20 rfl rfl (x_move (by conv => lhs; whnf)) ?_
        refine g1 20 rfl rfl (x_gtr rfl rfl) ?_
        refine g1b 20 rfl rfl (x_move (by conv => lhs; whnf)) (fun hb4_9 => ?_) (fun hb4_9 => ?_)
        · try simp only [decide_eq_true_eq, decide_eq_false_iff_not, Bool.not_eq_true, Bool.not_eq_false, Bool.not_eq_eq_eq_not, Bool.not_true, Bool.not_false, Int.not_lt, Int.not_le] at hb4_9
          refine g1 23 rfl rfl (x_move (by conv => lhs; whnf)) ?_
          refine g1 23 rfl rfl (x_eql rfl rfl) ?_
          refine g1 20 rfl rfl (x_pick_t rfl (by conv => lhs; whnf)) ?_
          refine p1 (x_pick_f rfl (by conv => lhs; whnf)) ?_
          refine r_nil ?_
          refine t_n (At.mk () (by repeat (first | exact Agr.refl _ _ | exact Agr.hav _ _ _ | refine Agr.upd rfl ?_ | refine Agr.updR rfl ?_ | refine Agr.updL ?_ _ rfl | refine Agr.hav' rfl ?_)) ⟨congrArg Value.bool (by first | rfl | exact (decide_eq_true (by omega)).symm | exact (decide_eq_false (by omega)).symm | exact decide_eq_decide.2 (by omega) | (simp_all; done) | grind), trivial⟩ hWr4)
        · try simp only [decide_eq_true_eq, decide_eq_false_iff_not, Bool.not_eq_true, Bool.not_eq_false, Bool.not_eq_eq_eq_not, Bool.not_true, Bool.not_false, Int.not_lt, Int.not_le] at hb4_9
          refine g0 23 rfl (by first | exact .inl rfl | exact .inr rfl) ?_
          refine g0 23 rfl (by first | exact .inl rfl | exact .inr rfl) ?_
          refine g1 20 rfl rfl (x_pick_f rfl (by conv => lhs; whnf)) ?_
          refine p1 (x_pick_f rfl (by conv => lhs; whnf)) ?_
          refine r_nil ?_
          refine t_n (At.mk () (by repeat (first | exact Agr.refl _ _ | exact Agr.hav _ _ _ | refine Agr.upd rfl ?_ | refine Agr.updR rfl ?_ | refine Agr.updL ?_ _ rfl | refine Agr.hav' rfl ?_)) ⟨congrArg Value.bool (by first | rfl | exact (decide_eq_true (by omega)).symm | exact (decide_eq_false (by omega)).symm | exact decide_eq_decide.2 (by omega) | (simp_all; done) | grind), trivial⟩ hWr4)
    · rintro _ Gr4 w2 hE2
      have hX := hX.ext hE2
      have hWL0 := hWL0.ext hE2
      refine t_n ?_
      first | refine c_dec rfl (fun hc27 => ?_) (fun hc27 => ?_) | refine c_if rfl (fun hc27 => ?_) (fun hc27 => ?_)
      · try simp only [decide_eq_true_eq, decide_eq_false_iff_not, Bool.not_eq_true, Bool.not_eq_false, Bool.not_eq_eq_eq_not, Bool.not_true, Bool.not_false, Int.not_lt, Int.not_le] at hc27
        have hp : getU xs = (0, 0, 4) := by rw [← hL, drop_cons (by omega)]; unfold getUF; rw [if_pos hc27]
        refine c_seq ?_
        refine r_plain ?_
        refine p1 (x_assign (by conv => lhs; whnf)) ?_
        refine p1 (x_assign (by conv => lhs; whnf)) ?_
        refine p1 (x_assign (by conv => lhs; whnf)) ?_
        refine r_nil ?_
        refine t_n ?_
        refine c_ret ?_
        refine t_r ?_
        refine b_r ?_
        refine t_r ?_
        refine t_r ?_
        refine b_r ?_
        refine t_r ?_
        refine end3 rfl (by conv => lhs; whnf) (by conv => lhs; whnf) (by conv => lhs; whnf) ?_
        exact ⟨by (rw [hp]; try rfl), hX⟩
      · try simp only [decide_eq_true_eq, decide_eq_false_iff_not, Bool.not_eq_true, Bool.not_eq_false, Bool.not_eq_eq_eq_not, Bool.not_true, Bool.not_false, Int.not_lt, Int.not_le] at hc27
        have h9 : i = 9 → (xs.getD i 0).toNat % 128 ≤ 1 := by omega
        have hfit2 := getU_fit hm hi9 (Nat.mod_lt (xs.getD i 0).toNat (by omega : 0 < 128)) h9
        refine c_skip ?_
        refine t_n ?_
        refine c_seq ?_
        refine r_plain ?_
        refine p1 (x_move (by conv => lhs; whnf)) ?_
        refine p1 (x_move (by conv => lhs; whnf)) ?_
        refine p1 ((x_andNot rfl rfl).cast (congrArg _ (andNot128 (xs.getD i 0)))) ?_
        refine p1 (x_convf u71 us5 rfl (fits_u64 (by omega) (by omega))) ?_
        refine p1 (x_move (by conv => lhs; whnf)) ?_
        refine p1 (x_mul rfl rfl (fits_i64 (by omega) (by omega))) ?_
        refine p1 (x_convf u67 us3 rfl (fits_u64 (by omega) (by omega))) ?_
        refine p1 ((x_shl rfl rfl (by omega)).cast (congrArg _ (shl7 (i := i) hi9 (Nat.mod_lt _ (by omega)) h9))) ?_
        refine p1 ((x_or rfl rfl).cast (congrArg _ (or_sum hm hfit2))) ?_
        refine p1 (x_assign (by conv => lhs; whnf)) ?_
        refine r_nil ?_
        refine t_n ?_
        refine c_seq ?_
        refine r_plain ?_
        refine p1 (x_move (by conv => lhs; whnf)) ?_
        refine p1 (x_lss rfl rfl) ?_
        refine r_nil ?_
        refine t_n ?_
        first | refine c_dec rfl (fun hc38 => ?_) (fun hc38 => ?_) | refine c_if rfl (fun hc38 => ?_) (fun hc38 => ?_)
        · try simp only [decide_eq_true_eq, decide_eq_false_iff_not, Bool.not_eq_true, Bool.not_eq_false, Bool.not_eq_eq_eq_not, Bool.not_true, Bool.not_false, Int.not_lt, Int.not_le] at hc38
          have hp : getU xs = (m + (xs.getD i 0).toNat % 128 * 2 ^ (7 * i), i + 1, 0) := by rw [← hL, drop_cons (by omega)]; unfold getUF; rw [if_neg hc27, if_pos (by omega)]
          refine c_seq ?_
          refine r_plain ?_
          refine p1 (x_move (by conv => lhs; whnf)) ?_
          refine p1 (x_move (by conv => lhs; whnf)) ?_
          refine p1 (x_add rfl rfl (fits_i64 (by omega) (by omega))) ?_
          refine p1 (x_assign (by conv => lhs; whnf)) ?_
          refine p1 (x_assign (by conv => lhs; whnf)) ?_
          refine p1 (x_assign (by conv => lhs; whnf)) ?_
          refine r_nil ?_
          refine t_n ?_
          refine c_ret ?_
          refine b_r ?_
          refine t_r ?_
          refine t_r ?_
          refine b_r ?_
          refine t_r ?_
          refine end3 rfl (by conv => lhs; whnf) (by conv => lhs; whnf) (by conv => lhs; whnf) ?_
          exact ⟨by (rw [hp]; try rfl), hX⟩
        · try simp only [decide_eq_true_eq, decide_eq_false_iff_not, Bool.not_eq_true, Bool.not_eq_false, Bool.not_eq_eq_eq_not, Bool.not_true, Bool.not_false, Int.not_lt, Int.not_le] at hc38
          have hp2 : getUF (i + 1) (m + (xs.getD i 0).toNat % 128 * 2 ^ (7 * i)) (xs.drop (i + 1)) = getU xs := by rw [← hL, drop_cons (by omega : i < xs.length)]; conv => rhs; unfold getUF; rw [if_neg hc27, if_neg (by omega)]
          refine c_skip ?_
          refine b_n ?_
          refine t_n ?_
          refine r_plain ?_
          refine p1 (x_add rfl rfl (fits_i64 (by omega) (by omega))) ?_
          refine p1 (x_move (by conv => lhs; whnf)) ?_
          refine r_nil ?_
          refine t_n (At.mk ((i + 1, m + (xs.getD i 0).toNat % 128 * 2 ^ (7 * i))) (by repeat (first | exact Agr.refl _ _ | exact Agr.hav _ _ _ | refine Agr.upd rfl ?_ | refine Agr.updR rfl ?_ | refine Agr.updL ?_ _ rfl | refine Agr.hav' rfl ?_)) ⟨rfl, rfl, trivial⟩ ?_)
          exact ⟨⟨hWL0, ⟨by omega, by omega, getU_sum hm (Nat.mod_lt _ (by omega)), hp2⟩⟩, by first | (dsimp only; omega) | ((show _ < _); omega)⟩
  · try simp only [decide_eq_true_eq, decide_eq_false_iff_not, Bool.not_eq_true, Bool.not_eq_false, Bool.not_eq_eq_eq_not, Bool.not_true, Bool.not_false, Int.not_lt, Int.not_le] at hc10
    have hp : getU xs = (0, 0, 3) := by rw [← hL, List.drop_of_length_le (by omega)]; rfl
    refine c_exit ?_
    refine t_e ?_
    refine t_e ?_
    refine b_hit ?_
    refine t_n ?_
    refine c_seq ?_
    refine r_plain ?_
    refine p1 (x_assign (by conv => lhs; whnf)) ?_
    refine p1 (x_assign (by conv => lhs; whnf)) ?_
    refine p1 (x_assign (by conv => lhs; whnf)) ?_
    refine r_nil ?_
    refine t_n ?_
    refine c_ret ?_
    refine end3 rfl (by conv => lhs; whnf) (by conv => lhs; whnf) (by conv => lhs; whnf) ?_
    exact ⟨by (rw [hp]; try rfl), hX⟩
theorem ref02_groups (xs : List UInt8) (B : Nat) (p : Option Addr) (n c : Nat) (w : World) (hl : Sl kByte 5 B w p n c xs) :
    Ret Tryd.prog 69 [.slice p n c] w (fun v w' => v = .tuple #[.int .i64 ((grp xs).1 : Int), .int .i64 (grp xs).2] ∧ Ext w w') := by
  have hX := Ext.refl w
  refine enter 20 _ Tryd.func69 rfl rfl (Nat.le_of_ble_eq_true rfl) rfl ?_
  refine c_seq ?_
  refine r_plain ?_
  refine p1 (x_assign (by conv => lhs; whnf)) ?_
  refine p1 (x_assign (by conv => lhs; whnf)) ?_
  refine r_nil ?_
  refine t_n ?_
  refine c_seq ?_
  refine c_seq ?_
  refine r_plain ?_
  refine p1 (x_assign (by conv => lhs; whnf)) ?_
  refine r_nil ?_
  refine t_n ?_
  refine c_block ?_
  have hWL0 := Ext.refl w
  have hlen := hl.len
  have hfit := hl.fit
  have hcap := hl.cap
  refine c_loop (ι := Nat) [2, 3, 4, 5, 6, 7, 8, 9, 10, 11, 12, 13, 14, 15, 16, 17, 18, 19] (fun i => [(4, .int .i64 (i : Int))]) (fun i w' => Ext w w' ∧ (i ≤ 10 ∧ i ≤ n ∧ grpF (10 - i) i (xs.drop i) = grp xs)) (fun i => 10 - i) (0) ⟨rfl, trivial⟩ ⟨Ext.refl _, ⟨by omega, by omega, rfl⟩⟩ ?_
  rintro i GL0 w1 ⟨hE1, hi, hin, hL⟩
  have hX := hX.ext hE1
  have hWL0 := hE1
  refine c_seq ?_
  refine c_seq ?_
  refine r_plain ?_
  refine p1 (x_move (by conv => lhs; whnf)) ?_
  refine p1 (x_lss rfl rfl) ?_
  refine r_nil ?_
  refine t_n ?_
  first | refine c_dec rfl (fun hc6 => ?_) (fun hc6 => ?_) | refine c_if rfl (fun hc6 => ?_) (fun hc6 => ?_)
  · try simp only [decide_eq_true_eq, decide_eq_false_iff_not, Bool.not_eq_true, Bool.not_eq_false, Bool.not_eq_eq_eq_not, Bool.not_true, Bool.not_false, Int.not_lt, Int.not_le] at hc6
    refine c_skip ?_
    refine t_n ?_
    refine c_seq ?_
    refine c_block ?_
    refine c_seq ?_
    refine c_seq ?_
    refine r_plain ?_
    refine p1 (x_move (by conv => lhs; whnf)) ?_
    refine p1 (x_move (by conv => lhs; whnf)) ?_
    refine p1 (x_len_slice u27 rfl) ?_
    refine p1 (x_eql rfl rfl) ?_
    refine r_nil ?_
    refine t_n ?_
    first | refine c_dec rfl (fun hc12 => ?_) (fun hc12 => ?_) | refine c_if rfl (fun hc12 => ?_) (fun hc12 => ?_)
    · try simp only [decide_eq_true_eq, decide_eq_false_iff_not, Bool.not_eq_true, Bool.not_eq_false, Bool.not_eq_eq_eq_not, Bool.not_true, Bool.not_false, Int.not_lt, Int.not_le] at hc12
      have hp : grp xs = (0, 3) := by rw [← hL, List.drop_of_length_le (by omega), grpF_nil (by omega)]
      refine c_seq ?_
      refine r_plain ?_
      refine p1 (x_assign (by conv => lhs; whnf)) ?_
      refine p1 (x_assign (by conv => lhs; whnf)) ?_
      refine r_nil ?_
      refine t_n ?_
      refine c_ret ?_
      refine t_r ?_
      refine b_r ?_
      refine t_r ?_
      refine t_r ?_
      refine b_r ?_
      refine t_r ?_
      refine end2 rfl (by conv => lhs; whnf) (by conv => lhs; whnf) ?_
      exact ⟨by (rw [hp]; try rfl), hX⟩
    · try simp only [decide_eq_true_eq, decide_eq_false_iff_not, Bool.not_eq_true, Bool.not_eq_false, Bool.not_eq_eq_eq_not, Bool.not_true, Bool.not_false, Int.not_lt, Int.not_le] at hc12
      refine c_skip ?_
      refine t_n ?_
      refine c_seq ?_
      refine r_plain ?_
      refine p1 (x_move (by conv => lhs; whnf)) ?_
      refine p1 (x_move (by conv => lhs; whnf)) ?_
      refine p1 (x_ixs0 u27 sz5 rfl rfl ((hl.ext hX).adr kByte_pos (by omega)) (by omega)) ?_
      refine p1 (x_load1 un5 rfl ((hl.ext hX).byteAt _ (by omega))) ?_
      refine p1 (x_lss rfl rfl) ?_
      refine r_nil ?_
      refine t_n ?_
      first | refine c_dec rfl (fun hc17 => ?_) (fun hc17 => ?_) | refine c_if rfl (fun hc17 => ?_) (fun hc17 => ?_)
      · try simp only [decide_eq_true_eq, decide_eq_false_iff_not, Bool.not_eq_true, Bool.not_eq_false, Bool.not_eq_eq_eq_not, Bool.not_true, Bool.not_false, Int.not_lt, Int.not_le] at hc17
        have hp : grp xs = (i + 1, 0) := by rw [← hL, drop_cons (by omega), grpF_lt (by omega) (by omega)]
        refine c_seq ?_
        refine r_plain ?_
        refine p1 (x_move (by conv => lhs; whnf)) ?_
        refine p1 (x_add rfl rfl (fits_i64 (by omega) (by omega))) ?_
        refine p1 (x_assign (by conv => lhs; whnf)) ?_
        refine p1 (x_assign (by conv => lhs; whnf)) ?_
        refine r_nil ?_
        refine t_n ?_
        refine c_ret ?_
        refine b_r ?_
        refine t_r ?_
        refine t_r ?_
        refine b_r ?_
        refine t_r ?_
        refine end2 rfl (by conv => lhs; whnf) (by conv => lhs; whnf) ?_
        exact ⟨by (rw [hp]; try rfl), hX⟩
      · try simp only [decide_eq_true_eq, decide_eq_false_iff_not, Bool.not_eq_true, Bool.not_eq_false, Bool.not_eq_eq_eq_not, Bool.not_true, Bool.not_false, Int.not_lt, Int.not_le] at hc17
        have hp2 : grpF (10 - (i + 1)) (i + 1) (xs.drop (i + 1)) = grp xs := by rw [← hL, drop_cons (by omega : i < xs.length), grpF_ge (by omega) (by omega)]
        refine c_skip ?_
        refine b_n ?_
        refine t_n ?_
        refine r_plain ?_
        refine p1 (x_move (by conv => lhs; whnf)) ?_
        refine p1 (x_add rfl rfl (fits_i64 (by omega) (by omega))) ?_
        refine p1 (x_assign (by conv => lhs; whnf)) ?_
        refine r_nil ?_
        refine t_n (At.mk (i + 1) (by repeat (first | exact Agr.refl _ _ | exact Agr.hav _ _ _ | refine Agr.upd rfl ?_ | refine Agr.updR rfl ?_ | refine Agr.updL ?_ _ rfl | refine Agr.hav' rfl ?_)) ⟨rfl, trivial⟩ ?_)
        exact ⟨⟨hWL0, ⟨by omega, by omega, hp2⟩⟩, by first | (dsimp only; omega) | ((show _ < _); omega)⟩
  · try simp only [decide_eq_true_eq, decide_eq_false_iff_not, Bool.not_eq_true, Bool.not_eq_false, Bool.not_eq_eq_eq_not, Bool.not_true, Bool.not_false, Int.not_lt, Int.not_le] at hc6
    have h10 : i = 10 := by omega
    have hp : grp xs = (0, 4) := by rw [← hL, h10]; rfl
    refine c_exit ?_
    refine t_e ?_
    refine t_e ?_
    refine b_hit ?_
    refine t_n ?_
    refine c_seq ?_
    refine r_plain ?_
    refine p1 (x_assign (by conv => lhs; whnf)) ?_
    refine p1 (x_assign (by conv => lhs; whnf)) ?_
    refine r_nil ?_
    refine t_n ?_
    refine c_ret ?_
    refine end2 rfl (by conv => lhs; whnf) (by conv => lhs; whnf) ?_
    exact ⟨by (rw [hp]; try rfl), hX⟩
theorem ref02_GetUint (xs : List UInt8) (B : Nat) (p : Option Addr) (n c : Nat) (w : World) (hl : Sl kByte 5 B w p n c xs) :
    Ret Tryd.prog 60 [.slice p n c] w (fun v w' => v = .tuple #[.int .u64 ((getU xs).1 : Int), .int .i64 ((getU xs).2.1 : Int), .int .i64 (getU xs).2.2] ∧ Ext w w') := by
  have hX := Ext.refl w
  refine enter 42 _ Tryd.func60 rfl rfl (Nat.le_of_ble_eq_true rfl) rfl ?_
  refine c_seq ?_
  refine r_plain ?_
  refine p1 (x_assign (by conv => lhs; whnf)) ?_
  refine p1 (x_assign (by conv => lhs; whnf)) ?_
  refine p1 (x_assign (by conv => lhs; whnf)) ?_
  refine r_nil ?_
  refine t_n ?_
  refine c_seq ?_
  refine r_plain ?_
  refine p1 (x_move (by conv => lhs; whnf)) ?_
  refine o_call Tryd.func69 fn69 fb69 (ref02_groups xs _ _ _ _ _ (hl.ext hX)) rfl ?_
  rintro v1 w1 ⟨rfl, hE1⟩
  have hX := hX.ext hE1
  refine p1 (x_move (by conv => lhs; whnf)) ?_
  refine p1 (x_extract rfl rfl) ?_
  refine p1 (x_extract rfl rfl) ?_
  refine p1 (x_assign (by conv => lhs; whnf)) ?_
  refine p1 (x_assign (by conv => lhs; whnf)) ?_
  refine r_nil ?_
  refine t_n ?_
  refine c_seq ?_
  refine c_seq ?_
  refine r_plain ?_
  refine p1 (x_move (by conv => lhs; whnf)) ?_
  refine p1 (x_neq rfl rfl) ?_
  refine r_nil ?_
  refine t_n ?_
  first | refine c_dec rfl (fun hc15 => ?_) (fun hc15 => ?_) | refine c_if rfl (fun hc15 => ?_) (fun hc15 => ?_)
  · try simp only [decide_eq_true_eq, decide_eq_false_iff_not, Bool.not_eq_true, Bool.not_eq_false, Bool.not_eq_eq_eq_not, Bool.not_true, Bool.not_false, Int.not_lt, Int.not_le] at hc15
    have hp : getU xs = (0, 0, (grp xs).2) := by rw [getU_refU]; unfold refU; rw [if_pos hc15]
    refine c_seq ?_
    refine r_plain ?_
    refine p1 (x_move (by conv => lhs; whnf)) ?_
    refine p1 (x_assign (by conv => lhs; whnf)) ?_
    refine p1 (x_assign (by conv => lhs; whnf)) ?_
    refine p1 (x_assign (by conv => lhs; whnf)) ?_
    refine r_nil ?_
    refine t_n ?_
    refine c_ret ?_
    refine t_r ?_
    refine end3 rfl (by conv => lhs; whnf) (by conv => lhs; whnf) (by conv => lhs; whnf) ?_
    exact ⟨by (rw [hp]; try rfl), hX⟩
  · try simp only [decide_eq_true_eq, decide_eq_false_iff_not, Bool.not_eq_true, Bool.not_eq_false, Bool.not_eq_eq_eq_not, Bool.not_true, Bool.not_false, Int.not_lt, Int.not_le] at hc15
    have he0 : (grp xs).2 = 0 := Classical.byContradiction hc15
    have hk4 := grp_bounds he0
    refine c_skip ?_
    refine t_n ?_
    refine c_seq ?_
    refine r_plain ?_
    refine p1 (x_assign (by conv => lhs; whnf)) ?_
    refine r_nil ?_
    refine t_n ?_
    refine c_seq ?_
    refine c_seq ?_
    refine r_plain ?_
    refine p1 (x_move (by conv => lhs; whnf)) ?_
    refine p1 (x_sub rfl rfl (fits_i64 (by omega) (by omega))) ?_
    refine p1 (x_assign (by conv => lhs; whnf)) ?_
    refine r_nil ?_
    refine t_n ?_
    refine c_block ?_
    have hWL0 := Ext.refl w1
    have hlen := hl.len
    have hfit := hl.fit
    have hcap := hl.cap
    refine c_loop (ι := Nat × Int × Nat) [7, 8, 19, 20, 21, 22, 23, 24, 25, 26, 27, 28, 29, 30, 31] (fun (j, z, m) => [(7, .int .u64 (m : Int)), (8, .int .i64 z)]) (fun (j, z, m) w' => Ext w1 w' ∧ (z = (j : Int) - 1 ∧ j ≤ (grp xs).1 ∧ m = rv ((xs.drop j).take ((grp xs).1 - j)))) (fun (j, z, m) => j) (((grp xs).1, ((grp xs).1 : Int) - 1, 0)) ⟨rfl, rfl, trivial⟩ ⟨Ext.refl _, ⟨rfl, Nat.le_refl _, by rw [Nat.sub_self, List.take_zero]; rfl⟩⟩ ?_
    rintro ⟨j, z, m⟩ GL0 w2 ⟨hE2, hz, hj, hm⟩
    have hX := hX.ext hE2
    have hWL0 := hE2
    refine c_seq ?_
    refine c_seq ?_
    refine r_plain ?_
    refine p1 (x_move (by conv => lhs; whnf)) ?_
    refine p1 (x_geq rfl rfl) ?_
    refine r_nil ?_
    refine t_n ?_
    first | refine c_dec rfl (fun hc20 => ?_) (fun hc20 => ?_) | refine c_if rfl (fun hc20 => ?_) (fun hc20 => ?_)
    · try simp only [decide_eq_true_eq, decide_eq_false_iff_not, Bool.not_eq_true, Bool.not_eq_false, Bool.not_eq_eq_eq_not, Bool.not_true, Bool.not_false, Int.not_lt, Int.not_le] at hc20
      obtain ⟨j, rfl⟩ : ∃ i, j = i + 1 := ⟨j - 1, by omega⟩
      have ez : z.toNat = j := by omega
      refine c_skip ?_
      refine t_n ?_
      refine c_seq ?_
      refine c_block ?_
      refine r_plain ?_
      refine p1 (x_move (by conv => lhs; whnf)) ?_
      refine p1 (x_shl rfl rfl (by omega)) ?_
      refine p1 (x_move (by conv => lhs; whnf)) ?_
      refine p1 (x_move (by conv => lhs; whnf)) ?_
      refine p1 (x_ixs u27 sz5 rfl rfl ((hl.ext hX).adr kByte_pos (by omega)) (by omega) (by omega)) ?_
      refine p1 (x_load1 un5 rfl ((hl.ext hX).byteAtI _ (by omega) (by omega))) ?_
      refine p1 ((x_rem rfl rfl (by omega) (by omega)).cast (congrArg _ (by rw [ez]; omega : _ = (((xs.getD j 0).toNat % 128 : Nat) : Int)))) ?_
      refine p1 (x_convf u71 us5 rfl (fits_u64 (by omega) (by omega))) ?_
      refine p1 ((x_or rfl rfl).cast (congrArg _ (or_rv m ((xs.getD j 0).toNat % 128) (Nat.mod_lt _ (by omega))))) ?_
      refine p1 (x_assign (by conv => lhs; whnf)) ?_
      refine r_nil ?_
      refine b_n ?_
      refine t_n ?_
      refine r_plain ?_
      refine p1 (x_move (by conv => lhs; whnf)) ?_
      refine p1 (x_sub rfl rfl (fits_i64 (by omega) (by omega))) ?_
      refine p1 (x_assign (by conv => lhs; whnf)) ?_
      refine r_nil ?_
      refine t_n (At.mk ((j, z - 1, ((xs.getD j 0).toNat % 128 + 128 * m) % 18446744073709551616)) (by repeat (first | exact Agr.refl _ _ | exact Agr.hav _ _ _ | refine Agr.upd rfl ?_ | refine Agr.updR rfl ?_ | refine Agr.updL ?_ _ rfl | refine Agr.hav' rfl ?_)) ⟨rfl, rfl, trivial⟩ ?_)
      exact ⟨⟨hWL0, ⟨by omega, by omega, by rw [rv_step (xs := xs) (j := j) (k := (grp xs).1) (by omega) (by omega), ← hm]⟩⟩, by first | (dsimp only; omega) | ((show _ < _); omega)⟩
    · try simp only [decide_eq_true_eq, decide_eq_false_iff_not, Bool.not_eq_true, Bool.not_eq_false, Bool.not_eq_eq_eq_not, Bool.not_true, Bool.not_false, Int.not_lt, Int.not_le] at hc20
      have hj0 : j = 0 := by omega
      subst hj0
      rw [List.drop_zero, Nat.sub_zero] at hm
      subst hm
      refine c_exit ?_
      refine t_e ?_
      refine t_e ?_
      refine b_hit ?_
      refine t_n ?_
      refine c_seq ?_
      refine c_seq ?_
      refine r_held (fun w1 w2 => Ext w1 w2) mixed ?_
      intro w3 hE3
      have hX := hX.ext hE3
      have hSr9 : (fun w1 w2 => Ext w1 w2) w3 w3 := Ext.refl w3
      refine h_take 0 rfl (by kernel_rfl) (by kernel_rfl) (by kernel_rfl) hSr9 (fun wS hSS => by (have hX := hX.ext hSS; exact (x_move (by conv => lhs; whnf)))) ?_
      refine h_take 3 rfl (by kernel_rfl) (by kernel_rfl) (by kernel_rfl) hSr9 (fun wS hSS => by (have hX := hX.ext hSS; exact (x_move (by conv => lhs; whnf)))) ?_
      refine h_take 4 rfl (by kernel_rfl) (by kernel_rfl) (by kernel_rfl) hSr9 (fun wS hSS => by (have hX := hX.ext hSS; exact (x_move (by conv => lhs; whnf)))) ?_
      refine h_take 5 rfl (by kernel_rfl) (by kernel_rfl) (by kernel_rfl) hSr9 (fun wS hSS => by (have hX := hX.ext hSS; exact (x_slice_hN u27 sz5 rfl rfl (by omega)))) ?_
      refine h_take 6 rfl (by kernel_rfl) (by kernel_rfl) (by kernel_rfl) hSr9 (fun wS hSS => by (have hX := hX.ext hSS; exact (x_bytes_str u27 u5 u9 rfl ((hl.ext hX).take (grp xs).1 (by omega))))) ?_
      refine h_one 1 _ rfl (by kernel_rfl) (hop_of_list (fun Q1 hQ1 => ?_))
      refine o_call Tryd.func38 fn38 fb38 (ref02_Uint (rv (xs.take (grp xs).1)) (rv_lt _) _) rfl ?_
      rintro v4 w4 ⟨⟨q, l2, c2, rfl, hO⟩, hE4⟩
      have hX := hX.ext hE4
      have hSr9 := hSr9.ext hE4
      refine hop_end hQ1 ⟨hSr9, ?_⟩
      refine h_one 2 _ rfl (by kernel_rfl) (hop_of_list (fun Q2 hQ2 => ?_))
      refine p1 (x_bytes_str u27 u5 u9 rfl hO.sl) ?_
      refine hop_end hQ2 ⟨hSr9, ?_⟩
      refine h_take 7 rfl (by kernel_rfl) (by kernel_rfl) (by kernel_rfl) hSr9 (fun wS hSS => by ( exact (x_neq_str rfl rfl))) ?_
      refine h_done (by kernel_rfl) ?_
      refine t_n ?_
      first | refine c_dec rfl (fun hc39 => ?_) (fun hc39 => ?_) | refine c_if rfl (fun hc39 => ?_) (fun hc39 => ?_)
      · try simp only [decide_eq_true_eq, decide_eq_false_iff_not, Bool.not_eq_true, Bool.not_eq_false, Bool.not_eq_eq_eq_not, Bool.not_true, Bool.not_false, Int.not_lt, Int.not_le] at hc39
        have hp : getU xs = (0, 0, 4) := by rw [getU_refU]; unfold refU; rw [if_neg hc15, if_neg (fun e => hc39 (by rw [e]))]
        refine c_seq ?_
        refine r_plain ?_
        refine p1 (x_assign (by conv => lhs; whnf)) ?_
        refine p1 (x_assign (by conv => lhs; whnf)) ?_
        refine p1 (x_assign (by conv => lhs; whnf)) ?_
        refine r_nil ?_
        refine t_n ?_
        refine c_ret ?_
        refine t_r ?_
        refine end3 rfl (by conv => lhs; whnf) (by conv => lhs; whnf) (by conv => lhs; whnf) ?_
        exact ⟨by (rw [hp]; try rfl), hX⟩
      · try simp only [decide_eq_true_eq, decide_eq_false_iff_not, Bool.not_eq_true, Bool.not_eq_false, Bool.not_eq_eq_eq_not, Bool.not_true, Bool.not_false, Int.not_lt, Int.not_le] at hc39
        have hp : getU xs = (rv (xs.take (grp xs).1), (grp xs).1, 0) := by rw [getU_refU]; unfold refU; rw [if_neg hc15, if_pos (toStr_inj (Classical.byContradiction hc39))]
        refine c_skip ?_
        refine t_n ?_
        refine c_seq ?_
        refine r_plain ?_
        refine p1 (x_move (by conv => lhs; whnf)) ?_
        refine p1 (x_move (by conv => lhs; whnf)) ?_
        refine p1 (x_assign (by conv => lhs; whnf)) ?_
        refine p1 (x_assign (by conv => lhs; whnf)) ?_
        refine p1 (x_assign (by conv => lhs; whnf)) ?_
        refine r_nil ?_
        refine t_n ?_
        refine c_ret ?_
        refine end3 rfl (by conv => lhs; whnf) (by conv => lhs; whnf) (by conv => lhs; whnf) ?_
        exact ⟨by (rw [hp]; try rfl), hX⟩
end Go.Proofs.Eng
end
section
set_option linter.unusedVariables false
set_option linter.unusedSimpArgs false
set_option maxRecDepth 100000
set_option maxHeartbeats 4000000
namespace Go.Proofs.Eng
open Go.RowKit
open Extern.Stop (cell)
theorem fb55 : Tryd.f55.body.isNone = false := by kernel_rfl
theorem fb56 : Tryd.f56.body.isNone = false := by kernel_rfl
theorem fn55 : (Tryd.f55.name == "runtime.NumGoroutine") = false := by kernel_rfl
theorem fn56 : (Tryd.f56.name == "runtime.NumGoroutine") = false := by kernel_rfl
theorem sz27 : (Tryd.prog.info? 27).map (·.size) = some 1 := by kernel_rfl
theorem sz63 : (Tryd.prog.info? 63).map (·.size) = some 1 := by kernel_rfl
theorem u118 : Tryd.prog.underlying 118 = some (.array 16 63) := by kernel_rfl
theorem u26 : Tryd.prog.underlying 26 = some (.slice 27) := by kernel_rfl
theorem u63 : Tryd.prog.underlying 63 = some (.int .u32) := by kernel_rfl
theorem un27 : (Tryd.prog.underlying 27).map TypeDesc.isRow = some false := by kernel_rfl
theorem un63 : (Tryd.prog.underlying 63).map TypeDesc.isRow = some false := by kernel_rfl
theorem us63 : (Tryd.prog.underlying 63).isSome = true := by kernel_rfl
end Go.Proofs.Eng
end
section
set_option linter.unusedVariables false
set_option linter.unusedSimpArgs false
set_option maxRecDepth 100000
set_option maxHeartbeats 4000000
namespace Go.Proofs.Eng
open Go.RowKit
open Extern.Stop (cell)
theorem frame_Crc (xs : List UInt8) (B : Nat) (p : Option Addr) (n c : Nat) (w : World) (hl : Sl kByte 5 B w p n c xs) (hq : Qt w) :
    Ret Tryd.prog 55 [.slice p n c] w (fun v w' => v = .int .u32 ((crcF xs : Nat) : Int) ∧ Ext w w') := by
  have hX := Ext.refl w
  refine enter 33 _ Tryd.func55 rfl rfl (Nat.le_of_ble_eq_true rfl) rfl ?_
  refine c_seq ?_
  refine r_plain ?_
  refine p1 (x_assign (by conv => lhs; whnf)) ?_
  refine r_nil ?_
  refine t_n ?_
  refine c_seq ?_
  refine r_plain ?_
  refine p1 (x_assign (by conv => lhs; whnf)) ?_
  refine r_nil ?_
  refine t_n ?_
  refine c_seq ?_
  refine c_seq ?_
  refine r_plain ?_
  refine p1 (x_move (by conv => lhs; whnf)) ?_
  refine p1 (x_len_slice u27 rfl) ?_
  refine p1 (x_move (by conv => lhs; whnf)) ?_
  refine r_nil ?_
  refine t_n ?_
  refine c_block ?_
  have hWL0 := Ext.refl w
  have hlen := hl.len
  have hfit := hl.fit
  have hcap := hl.cap
  refine c_loop (ι := Nat × Nat) [3, 5, 8, 9, 10, 11, 12, 13, 14, 15, 16, 17, 18, 19, 20, 21, 22, 23, 24, 25, 26, 27, 28, 29, 30] (fun (k, s) => [(3, .int .u32 (s : Int)), (8, .int .i64 (k : Int))]) (fun (k, s) w' => Ext w w' ∧ (k ≤ n ∧ s < 4294967296 ∧ s = (xs.take k).foldl byteC 4294967295)) (fun (k, s) => n - k) ((0, 4294967295)) ⟨rfl, rfl, trivial⟩ ⟨Ext.refl _, ⟨by omega, by decide, rfl⟩⟩ ?_
  rintro ⟨k, s⟩ GL0 w1 ⟨hE1, hk, hs, hL⟩
  have hX := hX.ext hE1
  have hWL0 := hE1
  refine c_seq ?_
  refine r_plain ?_
  refine p1 (x_lss rfl rfl) ?_
  refine r_nil ?_
  refine t_n ?_
  refine c_seq ?_
  first | refine c_dec rfl (fun hc9 => ?_) (fun hc9 => ?_) | refine c_if rfl (fun hc9 => ?_) (fun hc9 => ?_)
  · try simp only [decide_eq_true_eq, decide_eq_false_iff_not, Bool.not_eq_true, Bool.not_eq_false, Bool.not_eq_eq_eq_not, Bool.not_true, Bool.not_false, Int.not_lt, Int.not_le] at hc9
    have hx8 := (xs.getD k 0).toNat_lt
    have hs1 : (s ^^^ (xs.getD k 0).toNat) < 4294967296 := xor_lt hs (by omega)
    refine c_skip ?_
    refine t_n ?_
    refine c_seq ?_
    refine c_block ?_
    refine c_seq ?_
    refine r_plain ?_
    refine p1 (x_ixs0 u27 sz5 rfl rfl ((hl.ext hX).adr kByte_pos (by omega)) (by omega)) ?_
    refine p1 (x_load1 un5 rfl ((hl.ext hX).byteAt _ (by omega))) ?_
    refine p1 (x_assign (by conv => lhs; whnf)) ?_
    refine r_nil ?_
    refine t_n ?_
    refine c_seq ?_
    refine r_plain ?_
    refine p1 (x_move (by conv => lhs; whnf)) ?_
    refine p1 (x_move (by conv => lhs; whnf)) ?_
    refine p1 (x_convf u63 us5 rfl (fits_u32 (by omega) (by omega))) ?_
    refine p1 ((x_xor rfl rfl).cast (congrArg _ (xor_u32 hs (by omega)))) ?_
    refine p1 (x_assign (by conv => lhs; whnf)) ?_
    refine r_nil ?_
    refine t_n ?_
    refine c_seq ?_
    refine r_plain ?_
    refine p1 (x_move (by conv => lhs; whnf)) ?_
    refine p1 ((x_shr rfl rfl (by omega)).cast (congrArg _ (shr4 (s ^^^ (xs.getD k 0).toNat)))) ?_
    refine p1 (x_move (by conv => lhs; whnf)) ?_
    refine p1 ((x_and rfl rfl).cast (congrArg _ (and15 (s ^^^ (xs.getD k 0).toNat) hs1))) ?_
    refine p1 (x_ixa0 (i := (s ^^^ (xs.getD k 0).toNat) % 16) u118 sz63 rfl rfl (by omega)) ?_
    refine p1 (x_load1 un63 rfl (hq.ext hX ((s ^^^ (xs.getD k 0).toNat) % 16) (by omega))) ?_
    refine p1 ((x_xor rfl rfl).cast (congrArg _ (look4 hs1))) ?_
    refine p1 (x_assign (by conv => lhs; whnf)) ?_
    refine r_nil ?_
    refine t_n ?_
    refine r_plain ?_
    refine p1 (x_move (by conv => lhs; whnf)) ?_
    refine p1 ((x_shr rfl rfl (by omega)).cast (congrArg _ (shr4 (step4 (s ^^^ (xs.getD k 0).toNat))))) ?_
    refine p1 (x_move (by conv => lhs; whnf)) ?_
    refine p1 ((x_and rfl rfl).cast (congrArg _ (and15 (step4 (s ^^^ (xs.getD k 0).toNat)) (step4_lt hs1)))) ?_
    refine p1 (x_ixa0 (i := (step4 (s ^^^ (xs.getD k 0).toNat)) % 16) u118 sz63 rfl rfl (by omega)) ?_
    refine p1 (x_load1 un63 rfl (hq.ext hX ((step4 (s ^^^ (xs.getD k 0).toNat)) % 16) (by omega))) ?_
    refine p1 ((x_xor rfl rfl).cast (congrArg _ (look4 (step4_lt hs1)))) ?_
    refine p1 (x_assign (by conv => lhs; whnf)) ?_
    refine r_nil ?_
    refine b_n ?_
    refine t_n ?_
    refine r_plain ?_
    refine p1 (x_add rfl rfl (fits_i64 (by omega) (by omega))) ?_
    refine p1 (x_move (by conv => lhs; whnf)) ?_
    refine r_nil ?_
    refine t_n (At.mk ((k + 1, byteC s (xs.getD k 0))) (by repeat (first | exact Agr.refl _ _ | exact Agr.hav _ _ _ | refine Agr.upd rfl ?_ | refine Agr.updR rfl ?_ | refine Agr.updL ?_ _ rfl | refine Agr.hav' rfl ?_)) ⟨rfl, rfl, trivial⟩ ?_)
    exact ⟨⟨hWL0, ⟨by omega, byteC_lt hs _, by rw [foldC_take (by omega), ← hL]⟩⟩, by first | (dsimp only; omega) | ((show _ < _); omega)⟩
  · try simp only [decide_eq_true_eq, decide_eq_false_iff_not, Bool.not_eq_true, Bool.not_eq_false, Bool.not_eq_eq_eq_not, Bool.not_true, Bool.not_false, Int.not_lt, Int.not_le] at hc9
    have hp : crcF xs = 4294967295 ^^^ s := by rw [hL, List.take_of_length_le (by omega)]; rfl
    refine c_exit ?_
    refine t_e ?_
    refine t_e ?_
    refine b_hit ?_
    refine t_n ?_
    refine c_seq ?_
    refine r_plain ?_
    refine p1 (x_move (by conv => lhs; whnf)) ?_
    refine p1 (x_cpl32 rfl |>.cast (congrArg _ (cplP hs))) ?_
    refine p1 (x_assign (by conv => lhs; whnf)) ?_
    refine r_nil ?_
    refine t_n ?_
    refine c_ret ?_
    refine end1 rfl (by conv => lhs; whnf) ?_
    exact ⟨by rw [hp], hX⟩
theorem ref04_Crc (xs : List UInt8) (B : Nat) (p : Option Addr) (n c : Nat) (w : World) (hl : Sl kByte 5 B w p n c xs) :
    Ret Tryd.prog 56 [.slice p n c] w (fun v w' => v = .int .u32 ((crcF xs : Nat) : Int) ∧ Ext w w') := by
  have hX := Ext.refl w
  refine enter 34 _ Tryd.func56 rfl rfl (Nat.le_of_ble_eq_true rfl) rfl ?_
  refine c_seq ?_
  refine r_plain ?_
  refine p1 (x_assign (by conv => lhs; whnf)) ?_
  refine r_nil ?_
  refine t_n ?_
  refine c_seq ?_
  refine r_plain ?_
  refine p1 (x_assign (by conv => lhs; whnf)) ?_
  refine r_nil ?_
  refine t_n ?_
  refine c_seq ?_
  refine c_seq ?_
  refine r_plain ?_
  refine p1 (x_assign (by conv => lhs; whnf)) ?_
  refine r_nil ?_
  refine t_n ?_
  refine c_block ?_
  have hWL0 := Ext.refl w
  have hlen := hl.len
  have hfit := hl.fit
  have hcap := hl.cap
  refine c_loop (ι := Nat × Nat) [3, 4, 5, 6, 7, 8, 9, 10, 11, 12, 13, 14, 15, 16, 17, 18, 19, 20, 21, 22, 23, 24, 25, 26, 27, 28, 29, 30, 31] (fun (k, s) => [(3, .int .u32 (s : Int)), (4, .int .i64 (k : Int))]) (fun (k, s) w' => Ext w w' ∧ (k ≤ n ∧ s < 4294967296 ∧ s = (xs.take k).foldl byteC 4294967295)) (fun (k, s) => n - k) ((0, 4294967295)) ⟨rfl, rfl, trivial⟩ ⟨Ext.refl _, ⟨by omega, by decide, rfl⟩⟩ ?_
  rintro ⟨k, s⟩ GL0 w1 ⟨hE1, hk, hs, hL⟩
  have hX := hX.ext hE1
  have hWL0 := hE1
  refine c_seq ?_
  refine c_seq ?_
  refine r_plain ?_
  refine p1 (x_move (by conv => lhs; whnf)) ?_
  refine p1 (x_move (by conv => lhs; whnf)) ?_
  refine p1 (x_len_slice u27 rfl) ?_
  refine p1 (x_lss rfl rfl) ?_
  refine r_nil ?_
  refine t_n ?_
  first | refine c_dec rfl (fun hc10 => ?_) (fun hc10 => ?_) | refine c_if rfl (fun hc10 => ?_) (fun hc10 => ?_)
  · try simp only [decide_eq_true_eq, decide_eq_false_iff_not, Bool.not_eq_true, Bool.not_eq_false, Bool.not_eq_eq_eq_not, Bool.not_true, Bool.not_false, Int.not_lt, Int.not_le] at hc10
    have hx8 := (xs.getD k 0).toNat_lt
    have hs1 : (s ^^^ (xs.getD k 0).toNat) < 4294967296 := xor_lt hs (by omega)
    refine c_skip ?_
    refine t_n ?_
    refine c_seq ?_
    refine c_block ?_
    refine c_seq ?_
    refine r_plain ?_
    refine p1 (x_move (by conv => lhs; whnf)) ?_
    refine p1 (x_move (by conv => lhs; whnf)) ?_
    refine p1 (x_move (by conv => lhs; whnf)) ?_
    refine p1 (x_ixs0 u27 sz5 rfl rfl ((hl.ext hX).adr kByte_pos (by omega)) (by omega)) ?_
    refine p1 (x_load1 un5 rfl ((hl.ext hX).byteAt _ (by omega))) ?_
    refine p1 (x_convf u63 us5 rfl (fits_u32 (by omega) (by omega))) ?_
    refine p1 ((x_xor rfl rfl).cast (congrArg _ (xor_u32 hs (by omega)))) ?_
    refine p1 (x_assign (by conv => lhs; whnf)) ?_
    refine r_nil ?_
    refine t_n ?_
    refine c_seq ?_
    refine r_plain ?_
    refine p1 (x_assign (by conv => lhs; whnf)) ?_
    refine r_nil ?_
    refine t_n ?_
    refine c_block ?_
    have hWL2 := Ext.refl w1
    refine c_loop (ι := Nat × Nat) [3, 5, 6, 20, 21, 22, 23, 24, 25, 26, 27, 28, 29, 30, 31] (fun (j, r) => [(3, .int .u32 (r : Int)), (5, .int .i64 (j : Int))]) (fun (j, r) w' => Ext w1 w' ∧ (j ≤ 8 ∧ r < 4294967296 ∧ r = stepN j (s ^^^ (xs.getD k 0).toNat))) (fun (j, r) => 8 - j) ((0, (s ^^^ (xs.getD k 0).toNat))) ⟨rfl, rfl, trivial⟩ ⟨Ext.refl _, ⟨by omega, hs1, rfl⟩⟩ ?_
    rintro ⟨j, r⟩ GL2 w2 ⟨hE2, hj, hr, hM⟩
    have hX := hX.ext hE2
    have hWL0 := hWL0.ext hE2
    have hWL2 := hE2
    refine c_seq ?_
    refine c_seq ?_
    refine r_plain ?_
    refine p1 (x_move (by conv => lhs; whnf)) ?_
    refine p1 (x_lss rfl rfl) ?_
    refine r_nil ?_
    refine t_n ?_
    first | refine c_dec rfl (fun hc21 => ?_) (fun hc21 => ?_) | refine c_if rfl (fun hc21 => ?_) (fun hc21 => ?_)
    · try simp only [decide_eq_true_eq, decide_eq_false_iff_not, Bool.not_eq_true, Bool.not_eq_false, Bool.not_eq_eq_eq_not, Bool.not_true, Bool.not_false, Int.not_lt, Int.not_le] at hc21
      refine c_skip ?_
      refine t_n ?_
      refine c_seq ?_
      refine c_block ?_
      refine c_seq ?_
      refine r_plain ?_
      refine p1 (x_move (by conv => lhs; whnf)) ?_
      refine p1 ((x_rem rfl rfl (by omega) (by omega)).cast (congrArg _ (by omega : ((r : Int) % 2) = ((r % 2 : Nat) : Int)))) ?_
      refine p1 (x_eql rfl rfl) ?_
      refine p1 (x_assign (by conv => lhs; whnf)) ?_
      refine r_nil ?_
      refine t_n ?_
      refine c_seq ?_
      refine r_plain ?_
      refine p1 (x_move (by conv => lhs; whnf)) ?_
      refine p1 ((x_quo rfl rfl (by omega) (by omega) (fits_u32 (by omega) (by omega))).cast (congrArg _ (by omega : ((r : Int) / 2) = ((r / 2 : Nat) : Int)))) ?_
      refine p1 (x_assign (by conv => lhs; whnf)) ?_
      refine r_nil ?_
      refine t_n ?_
      refine c_seq ?_
      refine r_plain ?_
      refine p1 (x_move (by conv => lhs; whnf)) ?_
      refine r_nil ?_
      refine t_n ?_
      first | refine c_dec rfl (fun hc29 => ?_) (fun hc29 => ?_) | refine c_if rfl (fun hc29 => ?_) (fun hc29 => ?_)
      · try simp only [decide_eq_true_eq, decide_eq_false_iff_not, Bool.not_eq_true, Bool.not_eq_false, Bool.not_eq_eq_eq_not, Bool.not_true, Bool.not_false, Int.not_lt, Int.not_le] at hc29
        have hst : stepC r = (r / 2) ^^^ 3988292384 := if_pos (by omega)
        refine r_plain ?_
        refine p1 (x_move (by conv => lhs; whnf)) ?_
        refine p1 ((x_xor rfl rfl).cast (congrArg _ (xorP (by omega)))) ?_
        refine p1 (x_assign (by conv => lhs; whnf)) ?_
        refine r_nil ?_
        refine b_n ?_
        refine t_n ?_
        refine r_plain ?_
        refine p1 (x_move (by conv => lhs; whnf)) ?_
        refine p1 (x_add rfl rfl (fits_i64 (by omega) (by omega))) ?_
        refine p1 (x_assign (by conv => lhs; whnf)) ?_
        refine r_nil ?_
        first
          | exact t_n (At.mk ((j + 1, (r / 2) ^^^ 3988292384)) (by repeat (first | exact Agr.refl _ _ | exact Agr.hav _ _ _ | refine Agr.upd rfl ?_ | refine Agr.updR rfl ?_ | refine Agr.updL ?_ _ rfl | refine Agr.hav' rfl ?_)) ⟨rfl, rfl, trivial⟩ ⟨⟨hWL2, ⟨by omega, hst ▸ stepC_lt hr, by rw [← hst, hM]; rfl⟩⟩, by first | (dsimp only; omega) | ((show _ < _); omega)⟩)
          | exact t_n (At.mk ((j + 1, r / 2)) (by repeat (first | exact Agr.refl _ _ | exact Agr.hav _ _ _ | refine Agr.upd rfl ?_ | refine Agr.updR rfl ?_ | refine Agr.updL ?_ _ rfl | refine Agr.hav' rfl ?_)) ⟨rfl, rfl, trivial⟩ ⟨⟨hWL2, ⟨by omega, hst ▸ stepC_lt hr, by rw [← hst, hM]; rfl⟩⟩, by first | (dsimp only; omega) | ((show _ < _); omega)⟩)
      · try simp only [decide_eq_true_eq, decide_eq_false_iff_not, Bool.not_eq_true, Bool.not_eq_false, Bool.not_eq_eq_eq_not, Bool.not_true, Bool.not_false, Int.not_lt, Int.not_le] at hc29
        have hst : stepC r = r / 2 := if_neg (by omega)
        refine c_skip ?_
        refine b_n ?_
        refine t_n ?_
        refine r_plain ?_
        refine p1 (x_move (by conv => lhs; whnf)) ?_
        refine p1 (x_add rfl rfl (fits_i64 (by omega) (by omega))) ?_
        refine p1 (x_assign (by conv => lhs; whnf)) ?_
        refine r_nil ?_
        first
          | exact t_n (At.mk ((j + 1, (r / 2) ^^^ 3988292384)) (by repeat (first | exact Agr.refl _ _ | exact Agr.hav _ _ _ | refine Agr.upd rfl ?_ | refine Agr.updR rfl ?_ | refine Agr.updL ?_ _ rfl | refine Agr.hav' rfl ?_)) ⟨rfl, rfl, trivial⟩ ⟨⟨hWL2, ⟨by omega, hst ▸ stepC_lt hr, by rw [← hst, hM]; rfl⟩⟩, by first | (dsimp only; omega) | ((show _ < _); omega)⟩)
          | exact t_n (At.mk ((j + 1, r / 2)) (by repeat (first | exact Agr.refl _ _ | exact Agr.hav _ _ _ | refine Agr.upd rfl ?_ | refine Agr.updR rfl ?_ | refine Agr.updL ?_ _ rfl | refine Agr.hav' rfl ?_)) ⟨rfl, rfl, trivial⟩ ⟨⟨hWL2, ⟨by omega, hst ▸ stepC_lt hr, by rw [← hst, hM]; rfl⟩⟩, by first | (dsimp only; omega) | ((show _ < _); omega)⟩)
    · try simp only [decide_eq_true_eq, decide_eq_false_iff_not, Bool.not_eq_true, Bool.not_eq_false, Bool.not_eq_eq_eq_not, Bool.not_true, Bool.not_false, Int.not_lt, Int.not_le] at hc21
      have h8 : j = 8 := by omega
      subst h8
      refine c_exit ?_
      refine t_e ?_
      refine t_e ?_
      refine b_hit ?_
      refine b_n ?_
      refine t_n ?_
      refine r_plain ?_
      refine p1 (x_move (by conv => lhs; whnf)) ?_
      refine p1 (x_add rfl rfl (fits_i64 (by omega) (by omega))) ?_
      refine p1 (x_assign (by conv => lhs; whnf)) ?_
      refine r_nil ?_
      refine t_n (At.mk ((k + 1, r)) (by repeat (first | exact Agr.refl _ _ | exact Agr.hav _ _ _ | refine Agr.upd rfl ?_ | refine Agr.updR rfl ?_ | refine Agr.updL ?_ _ rfl | refine Agr.hav' rfl ?_)) ⟨rfl, rfl, trivial⟩ ?_)
      exact ⟨⟨hWL0, ⟨by omega, hr, by rw [foldC_take (by omega), ← hL, hM]; rfl⟩⟩, by first | (dsimp only; omega) | ((show _ < _); omega)⟩
  · try simp only [decide_eq_true_eq, decide_eq_false_iff_not, Bool.not_eq_true, Bool.not_eq_false, Bool.not_eq_eq_eq_not, Bool.not_true, Bool.not_false, Int.not_lt, Int.not_le] at hc10
    have hp : crcF xs = 4294967295 ^^^ s := by rw [hL, List.take_of_length_le (by omega)]; rfl
    refine c_exit ?_
    refine t_e ?_
    refine t_e ?_
    refine b_hit ?_
    refine t_n ?_
    refine c_seq ?_
    refine r_plain ?_
    refine p1 (x_move (by conv => lhs; whnf)) ?_
    refine p1 (x_cpl32 rfl |>.cast (congrArg _ (cplP hs))) ?_
    refine p1 (x_assign (by conv => lhs; whnf)) ?_
    refine r_nil ?_
    refine t_n ?_
    refine c_ret ?_
    refine end1 rfl (by conv => lhs; whnf) ?_
    exact ⟨by rw [hp], hX⟩
theorem le4_made {w w' : World} {g s : Nat} (hN : New w w' g #[.int .u8 (UInt8.ofNat s).toNat, .int .u8 (UInt8.ofNat (s / 256)).toNat, .int .u8 (UInt8.ofNat (s / 65536)).toNat, .int .u8 (UInt8.ofNat (s / 16777216)).toNat] 5) {B0 : Nat} (hB : B0 ≤ w.heap.size) :
    Own kByte 5 0 B0 w' (some ⟨g, 0, none⟩) 4 4 (le4 s) :=
  Own.made kByte 5 0 B0 hN (le4 s) ((le4 s).map fun b => [cell b]) 4 4 rfl (byte_all _ _ _) hB (by omega) (by omega) (by rfl) (by rfl)
theorem frame_sum (xs : List UInt8) (B : Nat) (p : Option Addr) (n c : Nat) (w : World) (hl : Sl kByte 5 B w p n c xs) (hq : Qt w) :
    Ret Tryd.prog 37 [.slice p n c] w (fun v w' => (∃ q c', v = .slice q 4 c' ∧ Own kByte 5 0 w.heap.size w' q 4 c' (sumB xs)) ∧ Ext w w') := by
  have hX := Ext.refl w
  refine enter 18 _ Tryd.func37 rfl rfl (Nat.le_of_ble_eq_true rfl) rfl ?_
  refine c_seq ?_
  refine r_plain ?_
  refine p1 (x_assign (by conv => lhs; whnf)) ?_
  refine r_nil ?_
  refine t_n ?_
  refine c_seq ?_
  refine r_plain ?_
  refine p1 (x_move (by conv => lhs; whnf)) ?_
  refine o_call Tryd.func55 fn55 fb55 (frame_Crc xs _ _ _ _ _ (hl.ext hX) (hq.ext hX)) rfl ?_
  rintro v1 w1 ⟨rfl, hE1⟩
  have hX := hX.ext hE1
  refine p1 (x_assign (by conv => lhs; whnf)) ?_
  refine r_nil ?_
  refine t_n ?_
  refine c_seq ?_
  refine r_plain ?_
  refine p1 (x_move (by conv => lhs; whnf)) ?_
  refine p1 ((x_conv u5 us63 rfl).cast (congrArg _ (low8 (crcF xs)))) ?_
  refine p1 (x_move (by conv => lhs; whnf)) ?_
  refine p1 ((x_shr rfl rfl (by omega)).cast (congrArg _ (shr8 (crcF xs)))) ?_
  refine p1 ((x_conv u5 us63 rfl).cast (congrArg _ (low8 ((crcF xs) / 256)))) ?_
  refine p1 (x_move (by conv => lhs; whnf)) ?_
  refine p1 ((x_shr rfl rfl (by omega)).cast (congrArg _ (shr16 (crcF xs)))) ?_
  refine p1 ((x_conv u5 us63 rfl).cast (congrArg _ (low8 ((crcF xs) / 65536)))) ?_
  refine p1 (x_move (by conv => lhs; whnf)) ?_
  refine p1 ((x_shr rfl rfl (by omega)).cast (congrArg _ (shr24 (crcF xs)))) ?_
  refine p1 ((x_conv u5 us63 rfl).cast (congrArg _ (low8 ((crcF xs) / 16777216)))) ?_
  have hXs := hX.size
  refine o_buildSlice u27 inf5 rfl (by decide) (fun base hb => fill4 (by rfl) (by rfl) (by rfl) (by rfl) base hb) ?_
  intro w2 g17 hN17
  have hE2 := hN17.ext
  have hX := hX.ext hE2
  have hO := le4_made hN17 (B0 := w.heap.size) hXs
  refine p1 (x_assign (by conv => lhs; whnf)) ?_
  refine r_nil ?_
  refine t_n ?_
  refine c_ret ?_
  refine end1 rfl (by conv => lhs; whnf) ?_
  exact ⟨⟨_, _, rfl, hO⟩, hX⟩
theorem ref04_summed (xs : List UInt8) (B0 : Nat) (p : Option Addr) (n c : Nat) (w : World) (hO : Own kByte 5 0 B0 w p n c xs) (hB0 : B0 ≤ w.heap.size) (hs : n ≤ 140737490000000) :
    Ret Tryd.prog 39 [.slice p n c] w (fun v w' => (∃ q c', v = .slice q (n + 4) c' ∧ Own kByte 5 0 B0 w' q (n + 4) c' (xs ++ sumB xs)) ∧ Mod B0 5 w w') := by
  have hX := Mod.refl B0 5 w
  refine enter 20 _ Tryd.func39 rfl rfl (Nat.le_of_ble_eq_true rfl) rfl ?_
  refine c_seq ?_
  refine r_plain ?_
  refine p1 (x_assign (by conv => lhs; whnf)) ?_
  refine r_nil ?_
  refine t_n ?_
  refine c_seq ?_
  refine r_plain ?_
  refine p1 (x_move (by conv => lhs; whnf)) ?_
  refine o_call Tryd.func56 fn56 fb56 (ref04_Crc xs _ _ _ _ _ hO.sl) rfl ?_
  rintro v1 w1 ⟨rfl, hE1⟩
  have hX := hX.ext hE1
  have hO := hO.ext hE1
  refine p1 (x_assign (by conv => lhs; whnf)) ?_
  refine r_nil ?_
  refine t_n ?_
  refine c_seq ?_
  refine r_plain ?_
  refine p1 (x_move (by conv => lhs; whnf)) ?_
  refine p1 (x_move (by conv => lhs; whnf)) ?_
  refine p1 ((x_conv u5 us63 rfl).cast (congrArg _ (low8 (crcF xs)))) ?_
  refine p1 (x_move (by conv => lhs; whnf)) ?_
  refine p1 ((x_shr rfl rfl (by omega)).cast (congrArg _ (shr8 (crcF xs)))) ?_
  refine p1 ((x_conv u5 us63 rfl).cast (congrArg _ (low8 ((crcF xs) / 256)))) ?_
  refine p1 (x_move (by conv => lhs; whnf)) ?_
  refine p1 ((x_shr rfl rfl (by omega)).cast (congrArg _ (shr16 (crcF xs)))) ?_
  refine p1 ((x_conv u5 us63 rfl).cast (congrArg _ (low8 ((crcF xs) / 65536)))) ?_
  refine p1 (x_move (by conv => lhs; whnf)) ?_
  refine p1 ((x_shr rfl rfl (by omega)).cast (congrArg _ (shr24 (crcF xs)))) ?_
  refine p1 ((x_conv u5 us63 rfl).cast (congrArg _ (low8 ((crcF xs) / 16777216)))) ?_
  have hXs := hX.size
  refine o_buildSlice u27 inf5 rfl (by decide) (fun base hb => fill4 (by rfl) (by rfl) (by rfl) (by rfl) base hb) ?_
  intro w2 g18 hN18
  have hE2 := hN18.ext
  have hX := hX.ext hE2
  have hO := hO.ext hE2
  have hS := le4_made hN18 (B0 := w.heap.size) hXs
  have hXs3 := hX.size
  refine o_append (d := kByte) (sumB xs) u27 inf5 rfl kByte_pos rfl rfl hO (src_sl u27 hS.sl) rfl (byte_all _ _ _) (flat_single _) (by omega) (by omega) (by omega) (by omega) (by decide) ?_
  intro p19 c19 w3 hO hM3
  have hX := hX.mod hM3 (trivial)
  refine p1 (x_assign (by conv => lhs; whnf)) ?_
  refine r_nil ?_
  refine t_n ?_
  refine c_ret ?_
  refine end1 rfl (by conv => lhs; whnf) ?_
  exact ⟨⟨_, _, rfl, hO⟩, hX⟩
theorem frame_joined (xss : List (List UInt8)) (B : Nat) (p : Option Addr) (n c : Nat) (w : World) (hl : Sl (kSl kByte 5) 27 B w p n c xss) (hs : xss.flatten.length ≤ 140737490000000) :
    Ret Tryd.prog 35 [.slice p n c] w (fun v w' => (∃ q m c', v = .slice q m c' ∧ Own kByte 5 0 w.heap.size w' q m c' xss.flatten) ∧ Ext w w') := by
  have hX := Ext.refl w
  refine enter 17 _ Tryd.func35 rfl rfl (Nat.le_of_ble_eq_true rfl) rfl ?_
  refine c_seq ?_
  refine r_plain ?_
  refine p1 (x_assign (by conv => lhs; whnf)) ?_
  refine r_nil ?_
  refine t_n ?_
  refine c_seq ?_
  refine r_plain ?_
  refine p1 (x_assign (by conv => lhs; whnf)) ?_
  refine r_nil ?_
  refine t_n ?_
  refine c_seq ?_
  refine c_seq ?_
  refine r_plain ?_
  refine p1 (x_move (by conv => lhs; whnf)) ?_
  refine p1 (x_len_slice u26 rfl) ?_
  refine p1 (x_move (by conv => lhs; whnf)) ?_
  refine r_nil ?_
  refine t_n ?_
  refine c_block ?_
  have hO : Own kByte 5 0 w.heap.size w none 0 0 [] := Own.nil _ _ _ _ _
  have hlen := hl.len
  have hfit := hl.fit
  have hcap := hl.cap
  refine c_loop (ι := Nat × Option Addr × Nat × Nat) [3, 5, 8, 9, 10, 11, 12, 13, 14, 15] (fun (k, q, m, d) => [(3, .slice q m d), (8, .int .i64 (k : Int))]) (fun (k, q, m, d) w' => Ext w w' ∧ (k ≤ n ∧ Own kByte 5 0 w.heap.size w' q m d (xss.take k).flatten)) (fun (k, q, m, d) => n - k) ((0, none, 0, 0)) ⟨rfl, rfl, trivial⟩ ⟨hX, ⟨by omega, hO⟩⟩ ?_
  rintro ⟨k, q, m, d⟩ GL0 w1 ⟨hE1, hk, hO⟩
  have hX := hE1
  refine c_seq ?_
  refine r_plain ?_
  refine p1 (x_lss rfl rfl) ?_
  refine r_nil ?_
  refine t_n ?_
  refine c_seq ?_
  first | refine c_dec rfl (fun hc9 => ?_) (fun hc9 => ?_) | refine c_if rfl (fun hc9 => ?_) (fun hc9 => ?_)
  · try simp only [decide_eq_true_eq, decide_eq_false_iff_not, Bool.not_eq_true, Bool.not_eq_false, Bool.not_eq_eq_eq_not, Bool.not_true, Bool.not_false, Int.not_lt, Int.not_le] at hc9
    obtain ⟨r, i, j, hcell, hrow⟩ := (hl.ext hX).slAt k (by omega)
    refine c_skip ?_
    refine t_n ?_
    refine c_seq ?_
    refine c_block ?_
    refine c_seq ?_
    refine r_plain ?_
    refine p1 (x_ixs0 u26 sz27 rfl rfl ((hl.ext hX).adr kSl_pos (by omega)) (by omega)) ?_
    refine p1 (x_load1 un27 rfl hcell) ?_
    refine p1 (x_assign (by conv => lhs; whnf)) ?_
    refine r_nil ?_
    refine t_n ?_
    refine r_plain ?_
    refine p1 (x_move (by conv => lhs; whnf)) ?_
    refine p1 (x_move (by conv => lhs; whnf)) ?_
    have hol := hO.len
    have hrl := hrow.len
    have hft := flat_take_add (xss := xss) (k := k) (by omega)
    have hB0 := hX.size
    refine o_append (d := kByte) (xss.getD k []) u27 inf5 rfl kByte_pos rfl rfl hO (src_sl u27 hrow) hrow.len (byte_all _ _ _) (flat_single _) (by omega) (by omega) (by omega) (by omega) (by decide) ?_
    intro p14 c14 w2 hO hM2
    have hX := hX.mod hM2 (Nat.le_refl _)
    refine p1 (x_assign (by conv => lhs; whnf)) ?_
    refine r_nil ?_
    refine b_n ?_
    refine t_n ?_
    refine r_plain ?_
    refine p1 (x_add rfl rfl (fits_i64 (by omega) (by omega))) ?_
    refine p1 (x_move (by conv => lhs; whnf)) ?_
    refine r_nil ?_
    refine t_n (At.mk ((k + 1, p14, m + i, c14)) (by repeat (first | exact Agr.refl _ _ | exact Agr.hav _ _ _ | refine Agr.upd rfl ?_ | refine Agr.updR rfl ?_ | refine Agr.updL ?_ _ rfl | refine Agr.hav' rfl ?_)) ⟨rfl, rfl, trivial⟩ ?_)
    exact ⟨⟨hX, ⟨by omega, by rw [flat_take_succ (by omega)]; exact hO⟩⟩, by first | (dsimp only; omega) | ((show _ < _); omega)⟩
  · try simp only [decide_eq_true_eq, decide_eq_false_iff_not, Bool.not_eq_true, Bool.not_eq_false, Bool.not_eq_eq_eq_not, Bool.not_true, Bool.not_false, Int.not_lt, Int.not_le] at hc9
    have hp : xss.flatten = (xss.take k).flatten := by rw [List.take_of_length_le (by omega)]
    refine c_exit ?_
    refine t_e ?_
    refine t_e ?_
    refine b_hit ?_
    refine t_n ?_
    refine c_seq ?_
    refine r_plain ?_
    refine p1 (x_move (by conv => lhs; whnf)) ?_
    refine p1 (x_assign (by conv => lhs; whnf)) ?_
    refine r_nil ?_
    refine t_n ?_
    refine c_ret ?_
    refine end1 rfl (by conv => lhs; whnf) ?_
    exact ⟨⟨_, _, _, rfl, by rw [hp]; exact hO⟩, hX⟩
end Go.Proofs.Eng
end
section
set_option linter.unusedVariables false
set_option linter.unusedSimpArgs false
set_option maxRecDepth 100000
set_option maxHeartbeats 4000000
namespace Go.Proofs.Eng
open Go.RowKit
open Extern.Stop (cell)
theorem fb24 : Tryd.f24.body.isNone = false := by kernel_rfl
theorem fb35 : Tryd.f35.body.isNone = false := by kernel_rfl
theorem fb36 : Tryd.f36.body.isNone = false := by kernel_rfl
theorem fb37 : Tryd.f37.body.isNone = false := by kernel_rfl
theorem fb39 : Tryd.f39.body.isNone = false := by kernel_rfl
theorem fn24 : (Tryd.f24.name == "runtime.NumGoroutine") = false := by kernel_rfl
theorem fn35 : (Tryd.f35.name == "runtime.NumGoroutine") = false := by kernel_rfl
theorem fn36 : (Tryd.f36.name == "runtime.NumGoroutine") = false := by kernel_rfl
theorem fn37 : (Tryd.f37.name == "runtime.NumGoroutine") = false := by kernel_rfl
theorem fn39 : (Tryd.f39.name == "runtime.NumGoroutine") = false := by kernel_rfl
theorem inf27 : (Tryd.prog.info? 27).map (fun i => (i.zero, i.size, i.bytes)) = some (some (.slice none 0 0), 1, 24) := by kernel_rfl
end Go.Proofs.Eng
end
section
set_option linter.unusedVariables false
set_option linter.unusedSimpArgs false
set_option maxRecDepth 100000
set_option maxHeartbeats 4000000
namespace Go.Proofs.Eng
open Go.RowKit
open Extern.Stop (cell)
theorem frame_Seal (xs : List UInt8) (B : Nat) (p : Option Addr) (n c : Nat) (w : World) (hl : Sl kByte 5 B w p n c xs) (hq : Qt w) :
    Ret Tryd.prog 24 [.int .u8 1, .slice p n c] w (fun v w' => (∃ q m c' e, v = .tuple #[.slice q m c', .int .i64 e] ∧ ((e = 0 ∧ n ≤ 1048576 ∧ Own kByte 5 0 w.heap.size w' q m c' (sealF 1 xs)) ∨ (e = 5 ∧ 1048576 < n))) ∧ Ext w w') := by
  have hX := Ext.refl w
  refine enter 28 _ Tryd.func24 rfl rfl (Nat.le_of_ble_eq_true rfl) rfl ?_
  refine c_seq ?_
  refine r_plain ?_
  refine p1 (x_assign (by conv => lhs; whnf)) ?_
  refine p1 (x_assign (by conv => lhs; whnf)) ?_
  refine r_nil ?_
  refine t_n ?_
  refine c_seq ?_
  refine c_block ?_
  refine c_seq ?_
  refine r_plain ?_
  refine p1 (x_move (by conv => lhs; whnf)) ?_
  refine p1 ((x_eql rfl rfl).cast (congrArg _ (decide_eq_false (by decide)))) ?_
  refine p1 (x_assign (by conv => lhs; whnf)) ?_
  refine r_nil ?_
  refine t_n ?_
  refine c_f rfl ?_
  refine c_seq ?_
  have hlen := hl.len
  have hfit := hl.fit
  have hcap := hl.cap
  refine r_plain ?_
  refine p1 (x_move (by conv => lhs; whnf)) ?_
  refine p1 (x_len_slice u27 rfl) ?_
  refine p1 (x_gtr rfl rfl) ?_
  refine p1 (x_assign (by conv => lhs; whnf)) ?_
  refine r_nil ?_
  refine t_n ?_
  first | refine c_dec rfl (fun hc10 => ?_) (fun hc10 => ?_) | refine c_if rfl (fun hc10 => ?_) (fun hc10 => ?_)
  · try simp only [decide_eq_true_eq, decide_eq_false_iff_not, Bool.not_eq_true, Bool.not_eq_false, Bool.not_eq_eq_eq_not, Bool.not_true, Bool.not_false, Int.not_lt, Int.not_le] at hc10
    refine c_seq ?_
    refine r_plain ?_
    refine p1 (x_assign (by conv => lhs; whnf)) ?_
    refine p1 (x_assign (by conv => lhs; whnf)) ?_
    refine r_nil ?_
    refine t_n ?_
    refine c_ret ?_
    refine b_r ?_
    refine t_r ?_
    refine end2 rfl (by conv => lhs; whnf) (by conv => lhs; whnf) ?_
    first
      | exact ⟨⟨_, _, _, _, rfl, .inr ⟨rfl, by omega⟩⟩, hX⟩
      | exact ⟨⟨_, _, _, _, rfl, .inl ⟨rfl, by omega, hO⟩⟩, hX⟩
  · try simp only [decide_eq_true_eq, decide_eq_false_iff_not, Bool.not_eq_true, Bool.not_eq_false, Bool.not_eq_eq_eq_not, Bool.not_true, Bool.not_false, Int.not_lt, Int.not_le] at hc10
    refine c_skip ?_
    refine b_n ?_
    refine t_n ?_
    refine c_seq ?_
    have hXs := hX.size
    refine r_plain ?_
    refine p1 (x_move (by conv => lhs; whnf)) ?_
    refine o_buildSlice u27 inf5 rfl (by decide) (fun base hb => fill_one (by rfl) base hb) ?_
    intro w1 g15 hN15
    have hE1 := hN15.ext
    have hX := hX.ext hE1
    have hO1 := one_made (b := 1) hN15 hXs
    refine p1 (x_move (by conv => lhs; whnf)) ?_
    refine p1 (x_len_slice u27 rfl) ?_
    refine p1 (x_convf u71 us3 rfl (fits_u64 (by omega) (by omega))) ?_
    refine o_call Tryd.func36 fn36 fb36 (leb_Uint n (by omega) _) rfl ?_
    rintro v2 w2 ⟨⟨q19, l19, c19, rfl, hU⟩, hE2⟩
    have hX := hX.ext hE2
    have hO1 := hO1.ext hE2
    refine p1 (x_move (by conv => lhs; whnf)) ?_
    refine o_buildSlice u26 inf27 rfl (by decide) (fun base hb => fill3 (by rfl) (by rfl) (by rfl) base hb) ?_
    intro w3 g21 hN21
    have hE3 := hN21.ext
    have hX := hX.ext hE3
    have hO1 := hO1.ext hE3
    have hU := hU.ext hE3
    have hJ := sl3_made hN21 (hO1.sl.mono (Nat.zero_le B)) (hU.sl.mono (Nat.zero_le B)) (hl.ext hX)
    have e3 := flat3 xs n hl.len
    have hl10 := lebU_len10 (n := n) (by omega)
    have hbl := bodyF_len 1 xs
    rw [hlen] at hbl
    refine o_call Tryd.func35 fn35 fb35 (frame_joined _ _ _ _ _ _ hJ (by rw [e3]; omega)) rfl ?_
    rintro v4 w4 ⟨⟨q22, m22, c22, rfl, hA⟩, hE4⟩
    have hX := hX.ext hE4
    have hO1 := hO1.ext hE4
    have hU := hU.ext hE4
    have hJ := hJ.ext hE4
    rw [e3] at hA
    have hXs22 := hX.size
    refine p1 (x_assign (by conv => lhs; whnf)) ?_
    refine r_nil ?_
    refine t_n ?_
    refine c_seq ?_
    refine r_plain ?_
    refine p1 (x_move (by conv => lhs; whnf)) ?_
    refine p1 (x_move (by conv => lhs; whnf)) ?_
    refine o_call Tryd.func37 fn37 fb37 (frame_sum _ _ _ _ _ _ hA.sl (hq.ext hX)) rfl ?_
    rintro v5 w5 ⟨⟨q25, c25, rfl, hU⟩, hE5⟩
    have hX := hX.ext hE5
    have hA := hA.ext hE5
    refine o_buildSlice u26 inf27 rfl (by decide) (fun base hb => fill2 (by rfl) (by rfl) base hb) ?_
    intro w6 g26 hN26
    have hE6 := hN26.ext
    have hX := hX.ext hE6
    have hA := hA.ext hE6
    have hU := hU.ext hE6
    have hJ := sl2_made hN26 hA.sl hU.sl
    have e2 := flat2 (bodyF 1 xs)
    have hXs26 := hX.size
    refine o_call Tryd.func35 fn35 fb35 (frame_joined _ _ _ _ _ _ hJ (by rw [e2, List.length_append, sumB_len]; omega)) rfl ?_
    rintro v7 w7 ⟨⟨q27, m27, c27, rfl, hO⟩, hE7⟩
    have hX := hX.ext hE7
    have hA := hA.ext hE7
    have hU := hU.ext hE7
    have hJ := hJ.ext hE7
    rw [e2] at hO
    have hO := hO.lower hXs26
    refine p1 (x_assign (by conv => lhs; whnf)) ?_
    refine p1 (x_assign (by conv => lhs; whnf)) ?_
    refine r_nil ?_
    refine t_n ?_
    refine c_ret ?_
    refine end2 rfl (by conv => lhs; whnf) (by conv => lhs; whnf) ?_
    first
      | exact ⟨⟨_, _, _, _, rfl, .inr ⟨rfl, by omega⟩⟩, hX⟩
      | exact ⟨⟨_, _, _, _, rfl, .inl ⟨rfl, by omega, hO⟩⟩, hX⟩
theorem segment_Put (xss : List (List UInt8)) (B : Nat) (p : Option Addr) (n c : Nat) (w : World) (hl : Sl (kSl kByte 5) 27 B w p n c xss) (hs : (xss.flatMap (sealF 1)).length ≤ 140737490000000) (hq : Qt w) :
    Ret Tryd.prog 13 [.slice p n c] w (fun v w' => (∃ q m c', v = .tuple #[.slice q m c', .int .i64 (putF xss).2] ∧ Own kByte 5 0 w.heap.size w' q m c' (putF xss).1) ∧ Ext w w') := by
  have hX := Ext.refl w
  refine enter 28 _ Tryd.func13 rfl rfl (Nat.le_of_ble_eq_true rfl) rfl ?_
  refine c_seq ?_
  refine r_plain ?_
  refine p1 (x_assign (by conv => lhs; whnf)) ?_
  refine p1 (x_assign (by conv => lhs; whnf)) ?_
  refine r_nil ?_
  refine t_n ?_
  refine c_seq ?_
  refine r_plain ?_
  refine p1 (x_assign (by conv => lhs; whnf)) ?_
  refine r_nil ?_
  refine t_n ?_
  refine c_seq ?_
  refine c_seq ?_
  refine r_plain ?_
  refine p1 (x_move (by conv => lhs; whnf)) ?_
  refine p1 (x_len_slice u26 rfl) ?_
  refine p1 (x_move (by conv => lhs; whnf)) ?_
  refine r_nil ?_
  refine t_n ?_
  refine c_block ?_
  have hO : Own kByte 5 0 w.heap.size w none 0 0 [] := Own.nil _ _ _ _ _
  have hlen := hl.len
  have hfit := hl.fit
  have hcap := hl.cap
  refine c_loop (ι := Nat × Option Addr × Nat × Nat) [2, 3, 4, 6, 7, 8, 11, 12, 13, 14, 15, 16, 17, 18, 19, 20, 21, 22, 23, 24, 25, 26] (fun (k, q, m, d) => [(4, .slice q m d), (11, .int .i64 (k : Int))]) (fun (k, q, m, d) w' => Ext w w' ∧ (k ≤ n ∧ (∀ i, i < k → (xss.getD i []).length ≤ 1048576) ∧ Own kByte 5 0 w.heap.size w' q m d ((xss.take k).flatMap (sealF 1)))) (fun (k, q, m, d) => n - k) ((0, none, 0, 0)) ⟨rfl, rfl, trivial⟩ ⟨hX, ⟨by omega, fun i hi => by omega, hO⟩⟩ ?_
  rintro ⟨k, q, m, d⟩ GL0 w1 ⟨hE1, hk, hok, hO⟩
  have hX := hE1
  refine c_seq ?_
  refine r_plain ?_
  refine p1 (x_lss rfl rfl) ?_
  refine r_nil ?_
  refine t_n ?_
  refine c_seq ?_
  first | refine c_dec rfl (fun hc12 => ?_) (fun hc12 => ?_) | refine c_if rfl (fun hc12 => ?_) (fun hc12 => ?_)
  · try simp only [decide_eq_true_eq, decide_eq_false_iff_not, Bool.not_eq_true, Bool.not_eq_false, Bool.not_eq_eq_eq_not, Bool.not_true, Bool.not_false, Int.not_lt, Int.not_le] at hc12
    obtain ⟨r, i, j, hcell, hrow⟩ := (hl.ext hX).slAt k (by omega)
    refine c_skip ?_
    refine t_n ?_
    refine c_seq ?_
    refine c_block ?_
    refine c_seq ?_
    refine r_plain ?_
    refine p1 (x_ixs0 u26 sz27 rfl rfl ((hl.ext hX).adr kSl_pos (by omega)) (by omega)) ?_
    refine p1 (x_load1 un27 rfl hcell) ?_
    refine p1 (x_assign (by conv => lhs; whnf)) ?_
    refine r_nil ?_
    refine t_n ?_
    refine c_seq ?_
    refine r_plain ?_
    refine p1 (x_move (by conv => lhs; whnf)) ?_
    refine o_call Tryd.func24 fn24 fb24 (frame_Seal _ _ _ _ _ _ hrow (hq.ext hX)) rfl ?_
    rintro v2 w2 ⟨⟨qs, ms, cs, es, rfl, hS⟩, hE2⟩
    have hX := hX.ext hE2
    have hO := hO.ext hE2
    have hrl := hrow.len
    have hB0 := hX.size
    refine p1 (x_move (by conv => lhs; whnf)) ?_
    refine p1 (x_extract rfl rfl) ?_
    refine p1 (x_extract rfl rfl) ?_
    refine p1 (x_assign (by conv => lhs; whnf)) ?_
    refine p1 (x_assign (by conv => lhs; whnf)) ?_
    refine r_nil ?_
    refine t_n ?_
    refine c_seq ?_
    refine c_seq ?_
    refine r_plain ?_
    refine p1 (x_move (by conv => lhs; whnf)) ?_
    refine p1 (x_neq rfl rfl) ?_
    refine r_nil ?_
    refine t_n ?_
    first | refine c_dec rfl (fun hc21 => ?_) (fun hc21 => ?_) | refine c_if rfl (fun hc21 => ?_) (fun hc21 => ?_)
    · try simp only [decide_eq_true_eq, decide_eq_false_iff_not, Bool.not_eq_true, Bool.not_eq_false, Bool.not_eq_eq_eq_not, Bool.not_true, Bool.not_false, Int.not_lt, Int.not_le] at hc21
      have hp : putF xss = ([], 5) := putF_bad (i := k) (by omega) (by rcases hS with ⟨h, _⟩ | ⟨_, h⟩; (· exact absurd h hc21); (· omega))
      have he5 : es = 5 := by rcases hS with ⟨h, _⟩ | ⟨h, _⟩; (· exact absurd h hc21); (· exact h)
      subst he5
      refine c_seq ?_
      refine r_plain ?_
      refine p1 (x_move (by conv => lhs; whnf)) ?_
      refine p1 (x_assign (by conv => lhs; whnf)) ?_
      refine p1 (x_assign (by conv => lhs; whnf)) ?_
      refine r_nil ?_
      refine t_n ?_
      refine c_ret ?_
      refine t_r ?_
      refine b_r ?_
      refine t_r ?_
      refine t_r ?_
      refine b_r ?_
      refine t_r ?_
      refine end2 rfl (by conv => lhs; whnf) (by conv => lhs; whnf) ?_
      first
        | exact ⟨⟨_, _, _, by rw [hp], by rw [hp]; exact Own.nil _ _ _ _ _⟩, hX⟩
        | exact ⟨⟨_, _, _, by rw [hp], by rw [hp]; exact hO⟩, hX⟩
    · try simp only [decide_eq_true_eq, decide_eq_false_iff_not, Bool.not_eq_true, Bool.not_eq_false, Bool.not_eq_eq_eq_not, Bool.not_true, Bool.not_false, Int.not_lt, Int.not_le] at hc21
      have hz : es = 0 := Classical.byContradiction hc21
      have hsm : i ≤ 1048576 := by rcases hS with ⟨_, h, _⟩ | ⟨h, _⟩; (· exact h); (· omega)
      have hS := (hS.resolve_right (fun h => by omega)).2.2
      refine c_skip ?_
      refine t_n ?_
      refine r_plain ?_
      refine p1 (x_move (by conv => lhs; whnf)) ?_
      refine p1 (x_move (by conv => lhs; whnf)) ?_
      have hol := hO.len
      have hsl := hS.len
      have hft := flatMap_take_add (f := sealF 1) (xss := xss) (k := k) (z := []) (by omega)
      have hB0 := hX.size
      refine o_append (d := kByte) (sealF 1 (xss.getD k [])) u27 inf5 rfl kByte_pos rfl rfl hO (src_sl u27 hS.sl) hS.len (byte_all _ _ _) (flat_single _) (by omega) (by omega) (by omega) (by omega) (by decide) ?_
      intro p25 c25 w3 hO hM3
      have hX := hX.mod hM3 (Nat.le_refl _)
      refine p1 (x_assign (by conv => lhs; whnf)) ?_
      refine r_nil ?_
      refine b_n ?_
      refine t_n ?_
      refine r_plain ?_
      refine p1 (x_add rfl rfl (fits_i64 (by omega) (by omega))) ?_
      refine p1 (x_move (by conv => lhs; whnf)) ?_
      refine r_nil ?_
      refine t_n (At.mk ((k + 1, p25, m + ms, c25)) (by repeat (first | exact Agr.refl _ _ | exact Agr.hav _ _ _ | refine Agr.upd rfl ?_ | refine Agr.updR rfl ?_ | refine Agr.updL ?_ _ rfl | refine Agr.hav' rfl ?_)) ⟨rfl, rfl, trivial⟩ ?_)
      exact ⟨⟨hX, ⟨by omega, fun j hj => if h : j < k then hok j h else by rw [show j = k from by omega]; omega, by rw [flatMap_take_succ (z := []) (by omega)]; exact hO⟩⟩, by first | (dsimp only; omega) | ((show _ < _); omega)⟩
  · try simp only [decide_eq_true_eq, decide_eq_false_iff_not, Bool.not_eq_true, Bool.not_eq_false, Bool.not_eq_eq_eq_not, Bool.not_true, Bool.not_false, Int.not_lt, Int.not_le] at hc12
    have hp : putF xss = ((xss.take k).flatMap (sealF 1), 0) := by rw [putF_ok (fun i hi => hok i (by omega)), List.take_of_length_le (by omega)]
    refine c_exit ?_
    refine t_e ?_
    refine t_e ?_
    refine b_hit ?_
    refine t_n ?_
    refine c_seq ?_
    refine r_plain ?_
    refine p1 (x_move (by conv => lhs; whnf)) ?_
    refine p1 (x_assign (by conv => lhs; whnf)) ?_
    refine p1 (x_assign (by conv => lhs; whnf)) ?_
    refine r_nil ?_
    refine t_n ?_
    refine c_ret ?_
    refine end2 rfl (by conv => lhs; whnf) (by conv => lhs; whnf) ?_
    first
      | exact ⟨⟨_, _, _, by rw [hp], by rw [hp]; exact Own.nil _ _ _ _ _⟩, hX⟩
      | exact ⟨⟨_, _, _, by rw [hp], by rw [hp]; exact hO⟩, hX⟩
end Go.Proofs.Eng
end
section
set_option linter.unusedVariables false
set_option linter.unusedSimpArgs false
set_option maxRecDepth 100000
set_option maxHeartbeats 4000000
namespace Go.Proofs.Eng
open Go.RowKit
open Extern.Stop (cell)
theorem fo95_0 : fieldOf Tryd.prog 95 0 = some (28, 0) := by kernel_rfl
theorem pl73 : placed Tryd.prog 73 = some (.agg #[.int .u8 0, .slice none 0 0], [(0, 1), (1, 1)]) := by kernel_rfl
theorem pl95 : placed Tryd.prog 95 = some (.agg #[.int .i64 0], [(0, 1)]) := by kernel_rfl
theorem sz28 : (Tryd.prog.info? 28).map (·.size) = some 1 := by kernel_rfl
theorem sz3 : (Tryd.prog.info? 3).map (·.size) = some 1 := by kernel_rfl
theorem sz73 : (Tryd.prog.info? 73).map (·.size) = some 2 := by kernel_rfl
theorem sz95 : (Tryd.prog.info? 95).map (·.size) = some 1 := by kernel_rfl
theorem ua95 : (Tryd.prog.underlying 95).map TypeDesc.isRow = some true := by kernel_rfl
theorem un28 : (Tryd.prog.underlying 28).map TypeDesc.isRow = some false := by kernel_rfl
theorem zr95 : (Tryd.prog.info? 95).map (·.zero) = some (some (.agg #[.int .i64 0])) := by kernel_rfl
end Go.Proofs.Eng
end
section
set_option linter.unusedVariables false
set_option linter.unusedSimpArgs false
set_option maxRecDepth 100000
set_option maxHeartbeats 4000000
namespace Go.Proofs.Eng
open Go.RowKit
open Extern.Stop (cell)
theorem frame_check (b : Bool) (e : Int) (w : World) :
    RetP Tryd.prog 58 [.bool b, .int .i64 e] w (fun v w' => b = true ∧ Ext w w') (fun ch w' => b = false ∧ ch = [{ v := .iface 95 (.agg #[.int .i64 e]), recovered := false }] ∧ Ext w w') := by
  have hX := Ext.refl w
  refine enterP 9 _ Tryd.func58 rfl rfl (Nat.le_of_ble_eq_true rfl) rfl ?_
  refine c_seq ?_
  refine r_plain ?_
  refine p1 (x_move (by conv => lhs; whnf)) ?_
  refine p1 (x_not rfl) ?_
  refine r_nil ?_
  refine t_n ?_
  first | refine c_dec rfl (fun hc5 => ?_) (fun hc5 => ?_) | refine c_if rfl (fun hc5 => ?_) (fun hc5 => ?_)
  · try simp only [decide_eq_true_eq, decide_eq_false_iff_not, Bool.not_eq_true, Bool.not_eq_false, Bool.not_eq_eq_eq_not, Bool.not_true, Bool.not_false, Int.not_lt, Int.not_le] at hc5
    have hb : b = false := by simpa using hc5
    refine r_plain ?_
    refine p1 (x_move (by conv => lhs; whnf)) ?_
    refine p1 (x_build1 pl95 rfl rfl) ?_
    refine p1 (x_mkIface ua95 rfl) ?_
    refine o_panic rfl ?_
    skip
    exact endPan ⟨hb, rfl, hX⟩
  · try simp only [decide_eq_true_eq, decide_eq_false_iff_not, Bool.not_eq_true, Bool.not_eq_false, Bool.not_eq_eq_eq_not, Bool.not_true, Bool.not_false, Int.not_lt, Int.not_le] at hc5
    have hb : b = true := by simpa using hc5
    refine c_skip ?_
    exact end0nP rfl ⟨hb, hX⟩
/-- What the closure leaves, where it has recovered. -/
structure Rcv (w : World) (a0 a1 a2 : Nat) (e : Int) (w' : World) : Prop where
  b0 : Blk w' a0 #[.int .u8 0, .slice none 0 0] 73
  b1 : Blk w' a1 #[.int .i64 0] 3
  b2 : Blk w' a2 #[.int .i64 e] 28
  fx : Fx w a0 a1 a2 w'
theorem u20i : Tryd.prog.underlying 20 = some (.interface (Tryd.prog.methodsAt 20)) := by kernel_rfl
theorem open1_pan (a0 a1 a2 : Nat) (x0 y0 x1 x2 : Value) (e : Int) (w : World) (hC0 : Blk w a0 #[x0, y0] 73) (hC1 : Blk w a1 #[x1] 3) (hC2 : Blk w a2 #[x2] 28) (h01 : a0 < a1) (h12 : a1 < a2) :
    CallsD Tryd.prog 57 #[.pointer (some ⟨a0, 0, none⟩), .pointer (some ⟨a1, 0, none⟩), .pointer (some ⟨a2, 0, none⟩)] (.panicking [{ v := .iface 95 (.agg #[.int .i64 e]), recovered := false }]) w (fun e' u' w' => (∃ v, e' = .returned v) ∧ u' = .panicking [{ v := .iface 95 (.agg #[.int .i64 e]), recovered := true }] ∧ Rcv w a0 a1 a2 e w') := by
  refine enterS 20 [.pointer (some ⟨a0, 0, none⟩), .pointer (some ⟨a1, 0, none⟩), .pointer (some ⟨a2, 0, none⟩)] Tryd.func57 rfl rfl (Nat.le_of_ble_eq_true rfl) rfl (fun c₀ fs hu => ?_)
  have hX := Fx.refl w a0 a1 a2
  refine cs_seq ?_
  refine rs_plain ?_
  refine (show LstS _ _ _ [0, 1] _ _ _ from ?_)
  refine ls_rec rfl (recoverD_pan hu) ?_
  refine ls_1 rfl (x_assign rfl) ?_
  refine ls_nil ?_
  refine ts_n ?_
  refine cs_wp ?_
  refine c_seq ?_
  refine r_plain ?_
  refine p1 (x_move (by conv => lhs; whnf)) ?_
  refine p1 (x_neq_ifnil u20i rfl rfl) ?_
  refine r_nil ?_
  refine t_n ?_
  refine c_t (rfl) ?_
  refine c_seq ?_
  refine r_plain ?_
  refine p1 (x_move (by conv => lhs; whnf)) ?_
  refine p1 (x_assert ua95 rfl) ?_
  refine p1 (x_move (by conv => lhs; whnf)) ?_
  refine p1 (x_extract rfl rfl) ?_
  refine p1 (x_extract rfl rfl) ?_
  have hlt := hC2.lt
  refine o_alloc zr95 ?_
  intro w1 g4 hN4
  have hE1 := hN4.ext
  have hX := hX.ext hE1
  have hC0 := hC0.ext hE1
  have hC1 := hC1.ext hE1
  have hC2 := hC2.ext hE1
  have hB4 := hN4.blk
  have hge4 := hN4.g_eq
  have hXs4 := hN4.ext.size
  refine o_storeAll rfl (by conv => lhs; whnf) (by simp [Value.oneCell']) (by exact sz95) hB4 (by rfl) ?_
  intro w2 hP2
  have hX := hX.put hP2 (.inr (.inr (.inr (by omega))))
  have hC0 := hP2.keep hC0 (by omega)
  have hC1 := hP2.keep hC1 (by omega)
  have hC2 := hP2.keep hC2 (by omega)
  have hB4 := hP2.blk
  refine p1 (x_assign (by conv => lhs; whnf)) ?_
  refine r_nil ?_
  refine t_n ?_
  refine c_seq ?_
  refine c_seq ?_
  refine r_plain ?_
  refine p1 (x_move (by conv => lhs; whnf)) ?_
  refine p1 (x_not rfl) ?_
  refine r_nil ?_
  refine t_n ?_
  refine c_f (rfl) ?_
  refine c_skip ?_
  refine t_n ?_
  have hge4 := hge4
  refine r_held (fun _ w2 => Blk w2 g4 #[.int .i64 e] 95) mixed ?_
  intro w3 hE3
  have hX := hX.ext hE3
  have hC0 := hC0.ext hE3
  have hC1 := hC1.ext hE3
  have hC2 := hC2.ext hE3
  have hB4 := hB4.ext hE3
  have hSr5 : (fun _ w2 => Blk w2 g4 #[.int .i64 e] 95) w3 w3 := hB4
  refine h_take 0 rfl (by kernel_rfl) (by kernel_rfl) (by kernel_rfl) hSr5 (fun wS hSS => by ( exact (x_build0 pl73 rfl))) ?_
  refine h_take 1 rfl (by kernel_rfl) (by kernel_rfl) (by kernel_rfl) hSr5 (fun wS hSS => by ( exact (x_fieldAddr fo95_0 sz28 rfl))) ?_
  refine h_take 2 rfl (by kernel_rfl) (by kernel_rfl) (by kernel_rfl) hSr5 (fun wS hSS => by (have hB4 := hSS; exact (x_load1 un28 rfl (hB4.cell rfl)))) ?_
  refine h_one 3 _ rfl (by kernel_rfl) (hop_of_list (fun Q3 hQ3 => ?_))
  refine o_storeAll rfl (by conv => lhs; whnf) (by simp [Value.oneCell']) (by exact sz73) hC0 (by rfl) ?_
  intro w4 hP4
  have hX := hX.put hP4 (.inl rfl)
  have hC0 := hP4.blk
  have hC1 := hP4.keep hC1 (by omega)
  have hC2 := hP4.keep hC2 (by omega)
  have hB4 := hP4.keep hB4 (by omega)
  have hSr5 := hP4.keep hSr5 (by omega)
  refine hop_end hQ3 ⟨hSr5, ?_⟩
  refine h_one 4 _ rfl (by kernel_rfl) (hop_of_list (fun Q4 hQ4 => ?_))
  refine o_store1 rfl (by conv => lhs; whnf) rfl rfl sz3 hC1 (by simp) ?_
  intro w5 hP5
  have hX := hX.put hP5 (.inr (.inl rfl))
  have hC0 := hP5.keep hC0 (by omega)
  have hC1 := hP5.blk
  simp only [List.setIfInBounds_toArray, List.set_cons_zero, List.set_cons_succ] at hC1
  have hC2 := hP5.keep hC2 (by omega)
  have hB4 := hP5.keep hB4 (by omega)
  have hSr5 := hP5.keep hSr5 (by omega)
  refine hop_end hQ4 ⟨hSr5, ?_⟩
  refine h_one 5 _ rfl (by kernel_rfl) (hop_of_list (fun Q5 hQ5 => ?_))
  refine o_store1 rfl (by conv => lhs; whnf) rfl rfl sz28 hC2 (by simp) ?_
  intro w6 hP6
  have hX := hX.put hP6 (.inr (.inr (.inl rfl)))
  have hC0 := hP6.keep hC0 (by omega)
  have hC1 := hP6.keep hC1 (by omega)
  have hC2 := hP6.blk
  simp only [List.setIfInBounds_toArray, List.set_cons_zero, List.set_cons_succ] at hC2
  have hB4 := hP6.keep hB4 (by omega)
  have hSr5 := hP6.keep hSr5 (by omega)
  refine hop_end hQ5 ⟨hSr5, ?_⟩
  refine h_done (by kernel_rfl) ?_
  exact ⟨rfl, _, rfl, .tuple #[], results_none rfl _ _ _, ⟨_, rfl⟩, rfl, ⟨hC0, hC1, hC2, hX⟩⟩
theorem open1_idle (a0 a1 a2 : Nat) (w : World) :
    CallsD Tryd.prog 57 #[.pointer (some ⟨a0, 0, none⟩), .pointer (some ⟨a1, 0, none⟩), .pointer (some ⟨a2, 0, none⟩)] .returning w (fun e' u' w' => (∃ v, e' = .returned v) ∧ u' = .returning ∧ w' = w) := by
  refine enterS 20 [.pointer (some ⟨a0, 0, none⟩), .pointer (some ⟨a1, 0, none⟩), .pointer (some ⟨a2, 0, none⟩)] Tryd.func57 rfl rfl (Nat.le_of_ble_eq_true rfl) rfl (fun c₀ fs hu => ?_)
  refine cs_seq ?_
  refine rs_plain ?_
  refine (show LstS _ _ _ [0, 1] _ _ _ from ?_)
  refine ls_rec0 rfl (recoverD_ret hu) ?_
  refine ls_1 rfl (x_assign rfl) ?_
  refine ls_nil ?_
  refine ts_n ?_
  refine cs_wp ?_
  refine c_seq ?_
  refine r_plain ?_
  refine p1 (x_move (by conv => lhs; whnf)) ?_
  refine p1 (x_neq_ifnil0 u20i rfl rfl) ?_
  refine r_nil ?_
  refine t_n ?_
  refine c_f rfl ?_
  refine c_skip ?_
  exact ⟨rfl, .returning, by cases c₀; simp_all, .tuple #[], results_none rfl _ _ _, ⟨_, rfl⟩, rfl, rfl⟩
end Go.Proofs.Eng
end
section
set_option linter.unusedVariables false
set_option linter.unusedSimpArgs false
set_option maxRecDepth 100000
set_option maxHeartbeats 4000000
namespace Go.Proofs.Eng
open Go.RowKit
open Extern.Stop (cell)
theorem fb57 : Tryd.f57.body.isNone = false := by kernel_rfl
theorem fb58 : Tryd.f58.body.isNone = false := by kernel_rfl
theorem fb59 : Tryd.f59.body.isNone = false := by kernel_rfl
theorem fn57 : (Tryd.f57.name == "runtime.NumGoroutine") = false := by kernel_rfl
theorem fn58 : (Tryd.f58.name == "runtime.NumGoroutine") = false := by kernel_rfl
theorem fn59 : (Tryd.f59.name == "runtime.NumGoroutine") = false := by kernel_rfl
theorem u3 : Tryd.prog.underlying 3 = some (.int .i64) := by kernel_rfl
theorem ua73 : (Tryd.prog.underlying 73).map TypeDesc.isRow = some true := by kernel_rfl
theorem un3 : (Tryd.prog.underlying 3).map TypeDesc.isRow = some false := by kernel_rfl
theorem zr28 : (Tryd.prog.info? 28).map (·.zero) = some (some (.int .i64 0)) := by kernel_rfl
theorem zr3 : (Tryd.prog.info? 3).map (·.zero) = some (some (.int .i64 0)) := by kernel_rfl
theorem zr73 : (Tryd.prog.info? 73).map (·.zero) = some (some (.agg #[.int .u8 0, .slice none 0 0])) := by kernel_rfl
end Go.Proofs.Eng
end
section
set_option linter.unusedVariables false
set_option linter.unusedSimpArgs false
set_option maxRecDepth 100000
set_option maxHeartbeats 4000000
namespace Go.Proofs.Eng
open Go.RowKit
open Extern.Stop (cell)
theorem open_post_bad {xs : List UInt8} {w w1 w' : World} {g2 g3 g4 : Nat} {e : Int} (hp : openF xs = noF e) (hX : Ext w w1) (hR : Rcv w1 g2 g3 g4 e w') (h2 : w.heap.size ≤ g2) (h3 : w.heap.size ≤ g3) (h4 : w.heap.size ≤ g4) :
    (∃ q m c', Value.tuple #[.agg #[.int .u8 0, .slice none 0 0], .int .i64 0, .int .i64 e] = .tuple #[.agg #[.int .u8 ((openF xs).1.1.toNat : Int), .slice q m c'], .int .i64 ((openF xs).2.1 : Int), .int .i64 (openF xs).2.2] ∧ Own kByte 5 0 w.heap.size w' q m c' (openF xs).1.2) ∧ Ext w w' := by
  rw [hp]
  exact ⟨⟨none, 0, 0, rfl, Own.nil _ _ _ _ _⟩, hR.fx w hX h2 h3 h4⟩
theorem frame_Open (xs : List UInt8) (B : Nat) (p : Option Addr) (n c : Nat) (w : World) (hl : Sl kByte 5 B w p n c xs) (hq : Qt w) :
    Ret Tryd.prog 41 [.slice p n c] w (fun v w' => (∃ q m c', v = .tuple #[.agg #[.int .u8 ((openF xs).1.1.toNat : Int), .slice q m c'], .int .i64 ((openF xs).2.1 : Int), .int .i64 (openF xs).2.2] ∧ Own kByte 5 0 w.heap.size w' q m c' (openF xs).1.2) ∧ Ext w w') := by
  have hX := Ext.refl w
  refine enterD 71 _ Tryd.func41 rfl rfl (Nat.le_of_ble_eq_true rfl) rfl ?_
  refine c_seq ?_
  refine r_plain ?_
  refine o_alloc zr73 ?_
  intro w1 g2 hN2
  have hE1 := hN2.ext
  have hX := hX.ext hE1
  have hB2 := hN2.blk
  have hl2 := hB2.lt
  refine o_alloc zr3 ?_
  intro w2 g3 hN3
  have hE2 := hN3.ext
  have hX := hX.ext hE2
  have hB2 := hB2.ext hE2
  have hB3 := hN3.blk
  have hl3 := hB3.lt
  refine o_alloc zr28 ?_
  intro w3 g4 hN4
  have hE3 := hN4.ext
  have hX := hX.ext hE3
  have hB2 := hB2.ext hE3
  have hB3 := hB3.ext hE3
  have hB4 := hN4.blk
  refine r_nil ?_
  refine t_n ?_
  refine c_seq ?_
  have e2 := hN2.g_eq
  have e3 := hN3.g_eq
  have e4 := hN4.g_eq
  have s2 := hN2.ext.size
  have s3 := hN3.ext.size
  have h23 : g2 < g3 := by omega
  have h34 : g3 < g4 := by omega
  have hg2 : w.heap.size ≤ g2 := by omega
  have hg3 : w.heap.size ≤ g3 := by omega
  have hg4 : w.heap.size ≤ g4 := by omega
  have hB2 : Blk _ g2 #[.int .u8 0, .slice none 0 0] 73 := hB2
  have hB3 : Blk _ g3 #[.int .i64 0] 3 := hB3
  have hB4 : Blk _ g4 #[.int .i64 0] 28 := hB4
  have hlen := hl.len
  have hfit := hl.fit
  have hcap := hl.cap
  refine r_plain ?_
  refine p1 (x_makeFunc (fs := []) (cs := [.pointer (some ⟨g2, 0, none⟩), .pointer (some ⟨g3, 0, none⟩), .pointer (some ⟨g4, 0, none⟩)]) rfl rfl) ?_
  refine o_defer (oas := []) (fs := []) (vs := []) rfl rfl rfl rfl ?_
  refine r_nil ?_
  refine t_n ?_
  refine c_seq ?_
  refine r_plain ?_
  refine p1 (x_move (by conv => lhs; whnf)) ?_
  refine p1 (x_len_slice u27 rfl) ?_
  refine p1 (x_gtr rfl rfl) ?_
  refine o_callP Tryd.func58 fn58 fb58 (frame_check _ _ _) rfl ?_ ?_
  rotate_left
  · rintro ch w4 ⟨hb, rfl, hE4⟩
    have hb := of_decide_eq_false hb
    skip
    have hp : openF xs = noF (22) := by unfold openF; rw [if_pos (by omega)]
    have hX := hX.ext hE4
    have hB2 := hB2.ext hE4
    have hB3 := hB3.ext hE4
    have hB4 := hB4.ext hE4
    refine t_p ?_
    exact endD_pan rfl Tryd.func57 fn57 fb57 rfl (open1_pan g2 g3 g4 _ _ _ _ (22) _ hB2 hB3 hB4 h23 h34) (fun w9 hR => ⟨_, results_ccc rfl (run_result_cell ua73 rfl hR.b0 sz73) (run_result_one un3 rfl hR.b1) (run_result_one un28 rfl hR.b2), open_post_bad hp hX hR hg2 hg3 hg4⟩)
  rintro v4 w4 ⟨hb4, hE4⟩
  have h1 := of_decide_eq_true hb4
  have hX := hX.ext hE4
  have hB2 := hB2.ext hE4
  have hB3 := hB3.ext hE4
  have hB4 := hB4.ext hE4
  skip
  refine r_nil ?_
  refine t_n ?_
  refine c_seq ?_
  refine r_plain ?_
  refine p1 (x_move (by conv => lhs; whnf)) ?_
  refine p1 (x_ixs0 (i := 0) u27 sz5 rfl rfl ((hl.ext hX).adr kByte_pos (by omega)) (by omega)) ?_
  refine p1 (x_load1 un5 rfl ((hl.ext hX).byteAt 0 (by omega))) ?_
  refine p1 (x_neq rfl rfl) ?_
  refine o_callP Tryd.func58 fn58 fb58 (frame_check _ _ _) rfl ?_ ?_
  rotate_left
  · rintro ch w5 ⟨hb, rfl, hE5⟩
    have hb := of_decide_eq_false hb
    have e0 : xs.getD 0 0 = 0 := u8_inj.1 (Classical.byContradiction hb)
    have hp : openF xs = noF (4) := by unfold openF; rw [if_neg (by omega), if_pos e0]
    have hX := hX.ext hE5
    have hB2 := hB2.ext hE5
    have hB3 := hB3.ext hE5
    have hB4 := hB4.ext hE5
    refine t_p ?_
    exact endD_pan rfl Tryd.func57 fn57 fb57 rfl (open1_pan g2 g3 g4 _ _ _ _ (4) _ hB2 hB3 hB4 h23 h34) (fun w9 hR => ⟨_, results_ccc rfl (run_result_cell ua73 rfl hR.b0 sz73) (run_result_one un3 rfl hR.b1) (run_result_one un28 rfl hR.b2), open_post_bad hp hX hR hg2 hg3 hg4⟩)
  rintro v5 w5 ⟨hb5, hE5⟩
  have h2 := of_decide_eq_true hb5
  have hX := hX.ext hE5
  have hB2 := hB2.ext hE5
  have hB3 := hB3.ext hE5
  have hB4 := hB4.ext hE5
  have h2 : xs.getD 0 0 ≠ 0 := fun e => h2 (by rw [e]; rfl)
  have hdl : (xs.drop 1).length = n - 1 := by rw [List.length_drop, hlen]
  refine r_nil ?_
  refine t_n ?_
  refine c_seq ?_
  refine r_plain ?_
  refine p1 (x_move (by conv => lhs; whnf)) ?_
  refine p1 (x_slice_lN (m := 1) u27 sz5 rfl rfl (by omega)) ?_
  refine o_call Tryd.func59 fn59 fb59 (leb_GetUint (xs.drop 1) _ _ _ _ _ ((hl.ext hX).dropI 1 (by omega))) rfl ?_
  rintro v6 w6 ⟨rfl, hE6⟩
  have hX := hX.ext hE6
  have hB2 := hB2.ext hE6
  have hB3 := hB3.ext hE6
  have hB4 := hB4.ext hE6
  refine p1 (x_move (by conv => lhs; whnf)) ?_
  refine p1 (x_extract rfl rfl) ?_
  refine p1 (x_extract rfl rfl) ?_
  refine p1 (x_extract rfl rfl) ?_
  refine p1 (x_assign (by conv => lhs; whnf)) ?_
  refine p1 (x_assign (by conv => lhs; whnf)) ?_
  refine p1 (x_assign (by conv => lhs; whnf)) ?_
  refine r_nil ?_
  refine t_n ?_
  refine c_seq ?_
  refine r_plain ?_
  refine p1 (x_move (by conv => lhs; whnf)) ?_
  refine p1 (x_eql rfl rfl) ?_
  refine p1 (x_move (by conv => lhs; whnf)) ?_
  refine o_callP Tryd.func58 fn58 fb58 (frame_check _ _ _) rfl ?_ ?_
  rotate_left
  · rintro ch w7 ⟨hb, rfl, hE7⟩
    have hb := of_decide_eq_false hb
    skip
    have hp : openF xs = noF ((getU (xs.drop 1)).2.2) := by unfold openF; rw [if_neg (by omega), if_neg h2, if_pos hb]
    have hX := hX.ext hE7
    have hB2 := hB2.ext hE7
    have hB3 := hB3.ext hE7
    have hB4 := hB4.ext hE7
    refine t_p ?_
    exact endD_pan rfl Tryd.func57 fn57 fb57 rfl (open1_pan g2 g3 g4 _ _ _ _ ((getU (xs.drop 1)).2.2) _ hB2 hB3 hB4 h23 h34) (fun w9 hR => ⟨_, results_ccc rfl (run_result_cell ua73 rfl hR.b0 sz73) (run_result_one un3 rfl hR.b1) (run_result_one un28 rfl hR.b2), open_post_bad hp hX hR hg2 hg3 hg4⟩)
  rintro v7 w7 ⟨hb7, hE7⟩
  have h3 := of_decide_eq_true hb7
  have hX := hX.ext hE7
  have hB2 := hB2.ext hE7
  have hB3 := hB3.ext hE7
  have hB4 := hB4.ext hE7
  have hgb := getU_bounds h3
  have hEd : (endF xs) = 1 + (getU (xs.drop 1)).2.1 + (getU (xs.drop 1)).1 := rfl
  refine r_nil ?_
  refine t_n ?_
  refine c_seq ?_
  refine r_plain ?_
  refine p1 (x_move (by conv => lhs; whnf)) ?_
  refine p1 (x_leq rfl rfl) ?_
  refine o_callP Tryd.func58 fn58 fb58 (frame_check _ _ _) rfl ?_ ?_
  rotate_left
  · rintro ch w8 ⟨hb, rfl, hE8⟩
    have hb := of_decide_eq_false hb
    skip
    have hp : openF xs = noF (5) := by unfold openF; rw [if_neg (by omega), if_neg h2, if_neg (by simpa using h3), if_pos (by omega)]
    have hX := hX.ext hE8
    have hB2 := hB2.ext hE8
    have hB3 := hB3.ext hE8
    have hB4 := hB4.ext hE8
    refine t_p ?_
    exact endD_pan rfl Tryd.func57 fn57 fb57 rfl (open1_pan g2 g3 g4 _ _ _ _ (5) _ hB2 hB3 hB4 h23 h34) (fun w9 hR => ⟨_, results_ccc rfl (run_result_cell ua73 rfl hR.b0 sz73) (run_result_one un3 rfl hR.b1) (run_result_one un28 rfl hR.b2), open_post_bad hp hX hR hg2 hg3 hg4⟩)
  rintro v8 w8 ⟨hb8, hE8⟩
  have h4 := of_decide_eq_true hb8
  have hX := hX.ext hE8
  have hB2 := hB2.ext hE8
  have hB3 := hB3.ext hE8
  have hB4 := hB4.ext hE8
  skip
  refine r_nil ?_
  refine t_n ?_
  refine c_seq ?_
  refine r_plain ?_
  refine p1 (x_move (by conv => lhs; whnf)) ?_
  refine p1 ((x_add rfl rfl (fits_i64 (by omega) (by omega))).cast (congrArg _ (by omega : (1 : Int) + ((getU (xs.drop 1)).2.1 : Int) = ((1 + (getU (xs.drop 1)).2.1 : Nat) : Int)))) ?_
  refine p1 (x_assign (by conv => lhs; whnf)) ?_
  refine r_nil ?_
  refine t_n ?_
  refine c_seq ?_
  refine r_plain ?_
  refine p1 (x_move (by conv => lhs; whnf)) ?_
  refine p1 (x_move (by conv => lhs; whnf)) ?_
  refine p1 (x_convf u3 us71 rfl (fits_i64 (by omega) (by omega))) ?_
  refine p1 ((x_add rfl rfl (fits_i64 (by omega) (by omega))).cast (congrArg _ (by omega : ((1 + (getU (xs.drop 1)).2.1 : Nat) : Int) + ((getU (xs.drop 1)).1 : Int) = ((endF xs) : Int)))) ?_
  refine p1 (x_assign (by conv => lhs; whnf)) ?_
  refine r_nil ?_
  refine t_n ?_
  refine c_seq ?_
  refine r_plain ?_
  refine p1 (x_move (by conv => lhs; whnf)) ?_
  refine p1 (x_len_slice u27 rfl) ?_
  refine p1 (x_move (by conv => lhs; whnf)) ?_
  refine p1 (x_sub rfl rfl (fits_i64 (by omega) (by omega))) ?_
  refine p1 (x_geq rfl rfl) ?_
  refine o_callP Tryd.func58 fn58 fb58 (frame_check _ _ _) rfl ?_ ?_
  rotate_left
  · rintro ch w9 ⟨hb, rfl, hE9⟩
    have hb := of_decide_eq_false hb
    skip
    have hp : openF xs = noF (3) := by unfold openF; rw [if_neg (by omega), if_neg h2, if_neg (by simpa using h3), if_neg (by omega), if_pos (by omega)]
    have hX := hX.ext hE9
    have hB2 := hB2.ext hE9
    have hB3 := hB3.ext hE9
    have hB4 := hB4.ext hE9
    refine t_p ?_
    exact endD_pan rfl Tryd.func57 fn57 fb57 rfl (open1_pan g2 g3 g4 _ _ _ _ (3) _ hB2 hB3 hB4 h23 h34) (fun w9 hR => ⟨_, results_ccc rfl (run_result_cell ua73 rfl hR.b0 sz73) (run_result_one un3 rfl hR.b1) (run_result_one un28 rfl hR.b2), open_post_bad hp hX hR hg2 hg3 hg4⟩)
  rintro v9 w9 ⟨hb9, hE9⟩
  have h5 := of_decide_eq_true hb9
  have hX := hX.ext hE9
  have hB2 := hB2.ext hE9
  have hB3 := hB3.ext hE9
  have hB4 := hB4.ext hE9
  skip
  refine r_nil ?_
  refine t_n ?_
  refine c_seq ?_
  refine r_heldP [2, 3, 4] (fun ch w' => ch = [{ v := .iface 95 (.agg #[.int .i64 6]), recovered := false }] ∧ openF xs = noF 6 ∧ Ext w9 w') (fun w1 w2 => Ext w1 w2) mixed ?_ ?_
  · intro ch a w' hk hx
    refine t_p ?_
    obtain ⟨rfl, hp, hE⟩ := hx
    exact endD_panK hk rfl Tryd.func57 fn57 fb57 rfl (open1_pan g2 g3 g4 _ _ _ _ 6 _ (hB2.ext hE) (hB3.ext hE) (hB4.ext hE) h23 h34) (fun w9 hR => ⟨_, results_ccc rfl (by rw [hk.getD 2 (by simp)]; exact run_result_cell ua73 rfl hR.b0 sz73) (by rw [hk.getD 3 (by simp)]; exact run_result_one un3 rfl hR.b1) (by rw [hk.getD 4 (by simp)]; exact run_result_one un28 rfl hR.b2), open_post_bad hp (hX.ext hE) hR hg2 hg3 hg4⟩)
  intro w10 hE10
  have hX := hX.ext hE10
  have hB2 := hB2.ext hE10
  have hB3 := hB3.ext hE10
  have hB4 := hB4.ext hE10
  have hSr10 : (fun w1 w2 => Ext w1 w2) w10 w10 := Ext.refl w10
  have hST := hE10
  refine hp_take 0 rfl (by kernel_rfl) (by kernel_rfl) (by kernel_rfl) hSr10 (fun wS hSS => by (have hX := hX.ext hSS; have hB2 := hB2.ext hSS; have hB3 := hB3.ext hSS; have hB4 := hB4.ext hSS; exact (x_move (by conv => lhs; whnf)))) ?_
  refine hp_take 1 rfl (by kernel_rfl) (by kernel_rfl) (by kernel_rfl) hSr10 (fun wS hSS => by (have hX := hX.ext hSS; have hB2 := hB2.ext hSS; have hB3 := hB3.ext hSS; have hB4 := hB4.ext hSS; exact (x_move (by conv => lhs; whnf)))) ?_
  refine hp_take 2 rfl (by kernel_rfl) (by kernel_rfl) (by kernel_rfl) hSr10 (fun wS hSS => by (have hX := hX.ext hSS; have hB2 := hB2.ext hSS; have hB3 := hB3.ext hSS; have hB4 := hB4.ext hSS; exact (x_slice_hN u27 sz5 rfl rfl (by omega)))) ?_
  refine hp_take 5 rfl (by kernel_rfl) (by kernel_rfl) (by kernel_rfl) hSr10 (fun wS hSS => by (have hX := hX.ext hSS; have hB2 := hB2.ext hSS; have hB3 := hB3.ext hSS; have hB4 := hB4.ext hSS; exact (x_move (by conv => lhs; whnf)))) ?_
  refine hp_take 6 rfl (by kernel_rfl) (by kernel_rfl) (by kernel_rfl) hSr10 (fun wS hSS => by (have hX := hX.ext hSS; have hB2 := hB2.ext hSS; have hB3 := hB3.ext hSS; have hB4 := hB4.ext hSS; exact (x_move (by conv => lhs; whnf)))) ?_
  refine hp_take 7 rfl (by kernel_rfl) (by kernel_rfl) (by kernel_rfl) hSr10 (fun wS hSS => by (have hX := hX.ext hSS; have hB2 := hB2.ext hSS; have hB3 := hB3.ext hSS; have hB4 := hB4.ext hSS; exact (x_move (by conv => lhs; whnf)))) ?_
  refine hp_take 8 rfl (by kernel_rfl) (by kernel_rfl) (by kernel_rfl) hSr10 (fun wS hSS => by (have hX := hX.ext hSS; have hB2 := hB2.ext hSS; have hB3 := hB3.ext hSS; have hB4 := hB4.ext hSS; exact ((x_add rfl rfl (fits_i64 (by omega) (by omega))).cast (congrArg _ (by omega : ((endF xs) : Int) + 4 = (((endF xs) + 4 : Nat) : Int)))))) ?_
  refine hp_take 9 rfl (by kernel_rfl) (by kernel_rfl) (by kernel_rfl) hSr10 (fun wS hSS => by (have hX := hX.ext hSS; have hB2 := hB2.ext hSS; have hB3 := hB3.ext hSS; have hB4 := hB4.ext hSS; exact ((x_slice_lhN u27 sz5 rfl rfl rfl (by omega) (by omega)).cast (by rw [Nat.add_sub_cancel_left] : _ = Value.slice (adw p c (endF xs) 1) 4 (c - (endF xs)))))) ?_
  refine hp_take 10 rfl (by kernel_rfl) (by kernel_rfl) (by kernel_rfl) hSr10 (fun wS hSS => by (have hX := hX.ext hSS; have hB2 := hB2.ext hSS; have hB3 := hB3.ext hSS; have hB4 := hB4.ext hSS; exact (x_bytes_str u27 u5 u9 rfl (((hl.ext hX).dropI (endF xs) (by omega)).take 4 (by omega))))) ?_
  refine hp_one 3 _ rfl (by kernel_rfl) (hopP_of_list (fun Q3 hQ3 hP3 => ?_))
  refine o_call Tryd.func37 fn37 fb37 (frame_sum (xs.take (endF xs)) _ _ _ _ _ ((hl.ext hX).take (endF xs) (by omega)) (hq.ext hX)) rfl ?_
  rintro v11 w11 ⟨⟨q49, c49, rfl, hU⟩, hE11⟩
  have hX := hX.ext hE11
  have hB2 := hB2.ext hE11
  have hB3 := hB3.ext hE11
  have hB4 := hB4.ext hE11
  have hSr10 := hSr10.ext hE11
  have hST := hST.ext hE11
  refine hop_end hQ3 ⟨hSr10, ?_⟩
  refine hp_one 4 _ rfl (by kernel_rfl) (hopP_of_list (fun Q4 hQ4 hP4 => ?_))
  refine p1 (x_bytes_str u27 u5 u9 rfl hU.sl) ?_
  refine hop_end hQ4 ⟨hSr10, ?_⟩
  refine hp_take 11 rfl (by kernel_rfl) (by kernel_rfl) (by kernel_rfl) hSr10 (fun wS hSS => by ( exact (x_eql_str rfl rfl))) ?_
  refine hp_one 12 _ rfl (by kernel_rfl) (hopP_of_list (fun Q12 hQ12 hP12 => ?_))
  refine o_callP Tryd.func58 fn58 fb58 (frame_check _ _ _) rfl ?_ ?_
  rotate_left
  · rintro ch w12 ⟨hb, rfl, hE12⟩
    have hb := of_decide_eq_false hb
    have hne : sumB (xs.take (endF xs)) ≠ (xs.drop (endF xs)).take 4 := fun e => hb (by rw [e])
    have hp : openF xs = noF (6) := by unfold openF; rw [if_neg (by omega), if_neg h2, if_neg (by simpa using h3), if_neg (by omega), if_neg (by omega), if_pos hne]
    exact hP12 _ _ _ (Keep.of (by intro t ht; simp only [List.mem_cons, List.not_mem_nil, or_false] at ht; rcases ht with rfl | rfl | rfl <;> rfl) rfl) ⟨rfl, hp, hST.ext hE12⟩
  rintro v12 w12 ⟨hb12, hE12⟩
  have h6 := toStr_inj (of_decide_eq_true hb12)
  have hX := hX.ext hE12
  have hB2 := hB2.ext hE12
  have hB3 := hB3.ext hE12
  have hB4 := hB4.ext hE12
  have hSr10 := hSr10.ext hE12
  have hST := hST.ext hE12
  have hU := hU.ext hE12
  refine hop_end hQ12 ⟨hSr10, ?_⟩
  refine hp_done (by kernel_rfl) ?_
  refine t_n ?_
  refine c_seq ?_
  have hp : openF xs = ((xs.getD 0 0, (xs.take (endF xs)).drop (1 + (getU (xs.drop 1)).2.1)), (endF xs) + 4, 0) := by unfold openF; rw [if_neg (by omega), if_neg h2, if_neg (by simpa using h3), if_neg (by omega), if_neg (by omega), if_neg (by rw [h6]; simp)]
  have hbl : ((xs.take (endF xs)).drop (1 + (getU (xs.drop 1)).2.1)).length = (getU (xs.drop 1)).1 := by rw [List.length_drop, List.length_take]; omega
  refine r_held (fun _ w2 => Ext w w2) mixed ?_
  intro w13 hE13
  have hX := hX.ext hE13
  have hB2 := hB2.ext hE13
  have hB3 := hB3.ext hE13
  have hB4 := hB4.ext hE13
  have hST := hST.ext hE13
  have hU := hU.ext hE13
  have hSr11 : (fun _ w2 => Ext w w2) w13 w13 := hX
  refine h_take 0 rfl (by kernel_rfl) (by kernel_rfl) (by kernel_rfl) hSr11 (fun wS hSS => by ( exact (x_move (by conv => lhs; whnf)))) ?_
  refine h_take 1 rfl (by kernel_rfl) (by kernel_rfl) (by kernel_rfl) hSr11 (fun wS hSS => by ( exact (x_ixs0 (i := 0) u27 sz5 rfl rfl ((hl.ext hX).adr kByte_pos (by omega)) (by omega)))) ?_
  refine h_take 2 rfl (by kernel_rfl) (by kernel_rfl) (by kernel_rfl) hSr11 (fun wS hSS => by (have hX := hSS; exact (x_load1 un5 rfl ((hl.ext hX).byteAt 0 (by omega))))) ?_
  refine h_take 3 rfl (by kernel_rfl) (by kernel_rfl) (by kernel_rfl) hSr11 (fun wS hSS => by ( exact (x_move (by conv => lhs; whnf)))) ?_
  refine h_take 4 rfl (by kernel_rfl) (by kernel_rfl) (by kernel_rfl) hSr11 (fun wS hSS => by ( exact (x_move (by conv => lhs; whnf)))) ?_
  refine h_take 5 rfl (by kernel_rfl) (by kernel_rfl) (by kernel_rfl) hSr11 (fun wS hSS => by ( exact (x_move (by conv => lhs; whnf)))) ?_
  refine h_take 6 rfl (by kernel_rfl) (by kernel_rfl) (by kernel_rfl) hSr11 (fun wS hSS => by ( exact (x_slice_lhN u27 sz5 rfl rfl rfl (by omega) (by omega)))) ?_
  refine h_take 10 rfl (by kernel_rfl) (by kernel_rfl) (by kernel_rfl) hSr11 (fun wS hSS => by ( exact (x_move (by conv => lhs; whnf)))) ?_
  refine h_take 11 rfl (by kernel_rfl) (by kernel_rfl) (by kernel_rfl) hSr11 (fun wS hSS => by ( exact ((x_add rfl rfl (fits_i64 (by omega) (by omega))).cast (congrArg _ (by omega : ((endF xs) : Int) + 4 = (((endF xs) + 4 : Nat) : Int)))))) ?_
  refine h_one 7 _ rfl (by kernel_rfl) (hop_of_list (fun Q7 hQ7 => ?_))
  refine o_buildSlice u26 inf27 rfl (by decide) (fun base hb => fill_one (by rfl) base hb) ?_
  intro w14 g66 hN66
  have hE14 := hN66.ext
  have hX := hX.ext hE14
  have hB2 := hB2.ext hE14
  have hB3 := hB3.ext hE14
  have hB4 := hB4.ext hE14
  have hST := hST.ext hE14
  have hU := hU.ext hE14
  have hSr11 := hSr11.ext hE14
  have hJ := sl1_made hN66 (((hl.ext hX).take (endF xs) (by omega)).dropI (1 + (getU (xs.drop 1)).2.1) (by omega))
  refine hop_end hQ7 ⟨hSr11, ?_⟩
  refine h_one 8 _ rfl (by kernel_rfl) (hop_of_list (fun Q8 hQ8 => ?_))
  have hXs66 := hX.size
  refine o_call Tryd.func35 fn35 fb35 (frame_joined _ _ _ _ _ _ hJ (by rw [flat1, hbl]; omega)) rfl ?_
  rintro v15 w15 ⟨⟨q67, m67, c67, rfl, hO⟩, hE15⟩
  have hX := hX.ext hE15
  have hB2 := hB2.ext hE15
  have hB3 := hB3.ext hE15
  have hB4 := hB4.ext hE15
  have hST := hST.ext hE15
  have hU := hU.ext hE15
  have hSr11 := hSr11.ext hE15
  have hJ := hJ.ext hE15
  rw [flat1] at hO
  have hO := hO.lower hXs66
  refine hop_end hQ8 ⟨hSr11, ?_⟩
  refine h_take 9 rfl (by kernel_rfl) (by kernel_rfl) (by kernel_rfl) hSr11 (fun wS hSS => by ( exact (x_build2 pl73 (by conv => lhs; whnf) (by conv => lhs; whnf) rfl rfl))) ?_
  refine h_one 12 _ rfl (by kernel_rfl) (hop_of_list (fun Q12 hQ12 => ?_))
  refine o_storeAll rfl (by conv => lhs; whnf) (by simp [Value.oneCell']) (by exact sz73) hB2 (by rfl) ?_
  intro w16 hP16
  have hX := hX.put hP16 (hg2)
  have hB2 := hP16.blk
  have hB3 := hP16.keep hB3 (by omega)
  have hB4 := hP16.keep hB4 (by omega)
  have hSr11 := hSr11.put hP16 (by omega)
  have hO := hO.mod (hP16.mod 0 (Nat.zero_le _)) (Nat.zero_le _) (by decide)
  refine hop_end hQ12 ⟨hSr11, ?_⟩
  refine h_one 13 _ rfl (by kernel_rfl) (hop_of_list (fun Q13 hQ13 => ?_))
  refine o_store1 rfl (by conv => lhs; whnf) rfl rfl sz3 hB3 (by simp) ?_
  intro w17 hP17
  have hX := hX.put hP17 (hg3)
  have hB2 := hP17.keep hB2 (by omega)
  have hB3 := hP17.blk
  simp only [List.setIfInBounds_toArray, List.set_cons_zero, List.set_cons_succ] at hB3
  have hB4 := hP17.keep hB4 (by omega)
  have hSr11 := hSr11.put hP17 (by omega)
  have hO := hO.mod (hP17.mod 0 (Nat.zero_le _)) (Nat.zero_le _) (by decide)
  refine hop_end hQ13 ⟨hSr11, ?_⟩
  refine h_one 14 _ rfl (by kernel_rfl) (hop_of_list (fun Q14 hQ14 => ?_))
  refine o_store1 rfl (by conv => lhs; whnf) rfl rfl sz28 hB4 (by simp) ?_
  intro w18 hP18
  have hX := hX.put hP18 (hg4)
  have hB2 := hP18.keep hB2 (by omega)
  have hB3 := hP18.keep hB3 (by omega)
  have hB4 := hP18.blk
  simp only [List.setIfInBounds_toArray, List.set_cons_zero, List.set_cons_succ] at hB4
  have hSr11 := hSr11.put hP18 (by omega)
  have hO := hO.mod (hP18.mod 0 (Nat.zero_le _)) (Nat.zero_le _) (by decide)
  refine hop_end hQ14 ⟨hSr11, ?_⟩
  refine h_done (by kernel_rfl) ?_
  refine t_n ?_
  refine c_ret ?_
  exact endD_ret rfl Tryd.func57 fn57 fb57 rfl (open1_idle g2 g3 g4 _) (fun w9 hR => by
    subst hR
    exact ⟨_, results_ccc rfl (run_result_cell ua73 rfl hB2 sz73) (run_result_one un3 rfl hB3) (run_result_one un28 rfl hB4), ⟨_, _, _, by rw [hp], by rw [hp]; exact hO⟩, hX⟩)
end Go.Proofs.Eng
end
section
set_option linter.unusedVariables false
set_option linter.unusedSimpArgs false
set_option maxRecDepth 100000
set_option maxHeartbeats 4000000
namespace Go.Proofs.Eng
open Go.RowKit
open Extern.Stop (cell)
theorem fb60 : Tryd.f60.body.isNone = false := by kernel_rfl
theorem fn60 : (Tryd.f60.name == "runtime.NumGoroutine") = false := by kernel_rfl
theorem pl62 : placed Tryd.prog 62 = some (.agg #[.int .u8 0, .slice none 0 0], [(0, 1), (1, 1)]) := by kernel_rfl
theorem sz62 : (Tryd.prog.info? 62).map (·.size) = some 2 := by kernel_rfl
theorem ua62 : (Tryd.prog.underlying 62).map TypeDesc.isRow = some true := by kernel_rfl
theorem zr62 : (Tryd.prog.info? 62).map (·.zero) = some (some (.agg #[.int .u8 0, .slice none 0 0])) := by kernel_rfl
end Go.Proofs.Eng
end
section
set_option linter.unusedVariables false
set_option linter.unusedSimpArgs false
set_option maxRecDepth 100000
set_option maxHeartbeats 4000000
namespace Go.Proofs.Eng
open Go.RowKit
open Extern.Stop (cell)
theorem ref04_Open (xs : List UInt8) (B : Nat) (p : Option Addr) (n c : Nat) (w : World) (hl : Sl kByte 5 B w p n c xs) :
    Ret Tryd.prog 42 [.slice p n c] w (fun v w' => (∃ q m c', v = .tuple #[.agg #[.int .u8 ((openF xs).1.1.toNat : Int), .slice q m c'], .int .i64 ((openF xs).2.1 : Int), .int .i64 (openF xs).2.2] ∧ Own kByte 5 0 w.heap.size w' q m c' (openF xs).1.2) ∧ Ext w w') := by
  have hX := Ext.refl w
  refine enter 74 _ Tryd.func42 rfl rfl (Nat.le_of_ble_eq_true rfl) rfl ?_
  refine c_seq ?_
  refine r_plain ?_
  refine o_alloc zr62 ?_
  intro w1 g2 hN2
  have hE1 := hN2.ext
  have hX := hX.ext hE1
  have hB2 := hN2.blk
  refine p1 (x_assign (by conv => lhs; whnf)) ?_
  refine p1 (x_assign (by conv => lhs; whnf)) ?_
  refine r_nil ?_
  refine t_n ?_
  refine c_seq ?_
  refine c_block ?_
  refine c_seq ?_
  have hlen := hl.len
  have hfit := hl.fit
  have hcap := hl.cap
  have hdl : (xs.drop 1).length = n - 1 := by rw [List.length_drop, hlen]
  refine r_plain ?_
  refine p1 (x_move (by conv => lhs; whnf)) ?_
  refine p1 (x_len_slice u27 rfl) ?_
  refine p1 (x_eql rfl rfl) ?_
  refine p1 (x_assign (by conv => lhs; whnf)) ?_
  refine r_nil ?_
  refine t_n ?_
  first | refine c_dec rfl (fun hc9 => ?_) (fun hc9 => ?_) | refine c_if rfl (fun hc9 => ?_) (fun hc9 => ?_)
  · try simp only [decide_eq_true_eq, decide_eq_false_iff_not, Bool.not_eq_true, Bool.not_eq_false, Bool.not_eq_eq_eq_not, Bool.not_true, Bool.not_false, Int.not_lt, Int.not_le] at hc9
    have hp : openF xs = noF 22 := by unfold openF; rw [if_pos (by omega)]
    refine c_seq ?_
    refine r_plain ?_
    refine p1 (x_build0 pl62 rfl) ?_
    refine o_storeAll rfl (by conv => lhs; whnf) (by simp [Value.oneCell']) (by exact sz62) hB2 (by rfl) ?_
    intro w2 hP2
    have hX := hX.put hP2 (by rw [hN2.g_eq]; exact Nat.le_refl _)
    have hB2 := hP2.blk
    refine p1 (x_assign (by conv => lhs; whnf)) ?_
    refine p1 (x_assign (by conv => lhs; whnf)) ?_
    refine r_nil ?_
    refine t_n ?_
    refine c_ret ?_
    refine b_r ?_
    refine t_r ?_
    refine end3c rfl ua62 rfl (by conv => lhs; whnf) (by conv => lhs; whnf) hB2 sz62 ?_
    first
      | exact ⟨⟨_, _, _, by rw [hp]; rfl, by rw [hp]; exact Own.nil _ _ _ _ _⟩, hX⟩
      | exact ⟨⟨_, _, _, by rw [hp], by rw [hp]; exact hO⟩, hX⟩
  · try simp only [decide_eq_true_eq, decide_eq_false_iff_not, Bool.not_eq_true, Bool.not_eq_false, Bool.not_eq_eq_eq_not, Bool.not_true, Bool.not_false, Int.not_lt, Int.not_le] at hc9
    have h1 : ¬ xs.length = 0 := by omega
    refine c_seq ?_
    refine r_plain ?_
    refine p1 (x_move (by conv => lhs; whnf)) ?_
    refine p1 (x_ixs0 (i := 0) u27 sz5 rfl rfl ((hl.ext hX).adr kByte_pos (by omega)) (by omega)) ?_
    refine p1 (x_load1 un5 rfl ((hl.ext hX).byteAt 0 (by omega))) ?_
    refine p1 (x_eql rfl rfl) ?_
    refine p1 (x_assign (by conv => lhs; whnf)) ?_
    refine r_nil ?_
    refine t_n ?_
    first | refine c_dec rfl (fun hc14 => ?_) (fun hc14 => ?_) | refine c_if rfl (fun hc14 => ?_) (fun hc14 => ?_)
    · try simp only [decide_eq_true_eq, decide_eq_false_iff_not, Bool.not_eq_true, Bool.not_eq_false, Bool.not_eq_eq_eq_not, Bool.not_true, Bool.not_false, Int.not_lt, Int.not_le] at hc14
      have hp : openF xs = noF 4 := by unfold openF; rw [if_neg h1, if_pos (u8_inj.1 hc14)]
      refine c_seq ?_
      refine r_plain ?_
      refine p1 (x_build0 pl62 rfl) ?_
      refine o_storeAll rfl (by conv => lhs; whnf) (by simp [Value.oneCell']) (by exact sz62) hB2 (by rfl) ?_
      intro w3 hP3
      have hX := hX.put hP3 (by rw [hN2.g_eq]; exact Nat.le_refl _)
      have hB2 := hP3.blk
      refine p1 (x_assign (by conv => lhs; whnf)) ?_
      refine p1 (x_assign (by conv => lhs; whnf)) ?_
      refine r_nil ?_
      refine t_n ?_
      refine c_ret ?_
      refine b_r ?_
      refine t_r ?_
      refine end3c rfl ua62 rfl (by conv => lhs; whnf) (by conv => lhs; whnf) hB2 sz62 ?_
      first
        | exact ⟨⟨_, _, _, by rw [hp]; rfl, by rw [hp]; exact Own.nil _ _ _ _ _⟩, hX⟩
        | exact ⟨⟨_, _, _, by rw [hp], by rw [hp]; exact hO⟩, hX⟩
    · try simp only [decide_eq_true_eq, decide_eq_false_iff_not, Bool.not_eq_true, Bool.not_eq_false, Bool.not_eq_eq_eq_not, Bool.not_true, Bool.not_false, Int.not_lt, Int.not_le] at hc14
      have h2 : xs.getD 0 0 ≠ 0 := fun e => hc14 (by rw [e]; rfl)
      refine c_skip ?_
      refine b_n ?_
      refine t_n ?_
      refine c_seq ?_
      refine r_plain ?_
      refine p1 (x_move (by conv => lhs; whnf)) ?_
      refine p1 (x_slice_lN (m := 1) u27 sz5 rfl rfl (by omega)) ?_
      refine o_call Tryd.func60 fn60 fb60 (ref02_GetUint (xs.drop 1) _ _ _ _ _ ((hl.ext hX).dropI 1 (by omega))) rfl ?_
      rintro v4 w4 ⟨rfl, hE4⟩
      have hX := hX.ext hE4
      have hB2 := hB2.ext hE4
      refine p1 (x_move (by conv => lhs; whnf)) ?_
      refine p1 (x_extract rfl rfl) ?_
      refine p1 (x_extract rfl rfl) ?_
      refine p1 (x_extract rfl rfl) ?_
      refine p1 (x_assign (by conv => lhs; whnf)) ?_
      refine p1 (x_assign (by conv => lhs; whnf)) ?_
      refine p1 (x_assign (by conv => lhs; whnf)) ?_
      refine r_nil ?_
      refine t_n ?_
      refine c_seq ?_
      refine c_block ?_
      refine c_seq ?_
      refine r_plain ?_
      refine p1 (x_move (by conv => lhs; whnf)) ?_
      refine p1 (x_neq rfl rfl) ?_
      refine p1 (x_assign (by conv => lhs; whnf)) ?_
      refine r_nil ?_
      refine t_n ?_
      first | refine c_dec rfl (fun hc27 => ?_) (fun hc27 => ?_) | refine c_if rfl (fun hc27 => ?_) (fun hc27 => ?_)
      · try simp only [decide_eq_true_eq, decide_eq_false_iff_not, Bool.not_eq_true, Bool.not_eq_false, Bool.not_eq_eq_eq_not, Bool.not_true, Bool.not_false, Int.not_lt, Int.not_le] at hc27
        have hp : openF xs = noF (getU (xs.drop 1)).2.2 := by unfold openF; rw [if_neg h1, if_neg h2, if_pos hc27]
        refine c_seq ?_
        refine r_plain ?_
        refine p1 (x_build0 pl62 rfl) ?_
        refine p1 (x_move (by conv => lhs; whnf)) ?_
        refine o_storeAll rfl (by conv => lhs; whnf) (by simp [Value.oneCell']) (by exact sz62) hB2 (by rfl) ?_
        intro w5 hP5
        have hX := hX.put hP5 (by rw [hN2.g_eq]; exact Nat.le_refl _)
        have hB2 := hP5.blk
        refine p1 (x_assign (by conv => lhs; whnf)) ?_
        refine p1 (x_assign (by conv => lhs; whnf)) ?_
        refine r_nil ?_
        refine t_n ?_
        refine c_ret ?_
        refine b_r ?_
        refine t_r ?_
        refine end3c rfl ua62 rfl (by conv => lhs; whnf) (by conv => lhs; whnf) hB2 sz62 ?_
        first
          | exact ⟨⟨_, _, _, by rw [hp]; rfl, by rw [hp]; exact Own.nil _ _ _ _ _⟩, hX⟩
          | exact ⟨⟨_, _, _, by rw [hp], by rw [hp]; exact hO⟩, hX⟩
      · try simp only [decide_eq_true_eq, decide_eq_false_iff_not, Bool.not_eq_true, Bool.not_eq_false, Bool.not_eq_eq_eq_not, Bool.not_true, Bool.not_false, Int.not_lt, Int.not_le] at hc27
        have h3 : (getU (xs.drop 1)).2.2 = 0 := Classical.byContradiction hc27
        have hgb := getU_bounds h3
        have hEd : (endF xs) = 1 + (getU (xs.drop 1)).2.1 + (getU (xs.drop 1)).1 := rfl
        refine c_seq ?_
        refine r_plain ?_
        refine p1 (x_move (by conv => lhs; whnf)) ?_
        refine p1 (x_gtr rfl rfl) ?_
        refine p1 (x_assign (by conv => lhs; whnf)) ?_
        refine r_nil ?_
        refine t_n ?_
        first | refine c_dec rfl (fun hc32 => ?_) (fun hc32 => ?_) | refine c_if rfl (fun hc32 => ?_) (fun hc32 => ?_)
        · try simp only [decide_eq_true_eq, decide_eq_false_iff_not, Bool.not_eq_true, Bool.not_eq_false, Bool.not_eq_eq_eq_not, Bool.not_true, Bool.not_false, Int.not_lt, Int.not_le] at hc32
          have hp : openF xs = noF 5 := by unfold openF; rw [if_neg h1, if_neg h2, if_neg (by simpa using h3), if_pos (by omega)]
          refine c_seq ?_
          refine r_plain ?_
          refine p1 (x_build0 pl62 rfl) ?_
          refine o_storeAll rfl (by conv => lhs; whnf) (by simp [Value.oneCell']) (by exact sz62) hB2 (by rfl) ?_
          intro w6 hP6
          have hX := hX.put hP6 (by rw [hN2.g_eq]; exact Nat.le_refl _)
          have hB2 := hP6.blk
          refine p1 (x_assign (by conv => lhs; whnf)) ?_
          refine p1 (x_assign (by conv => lhs; whnf)) ?_
          refine r_nil ?_
          refine t_n ?_
          refine c_ret ?_
          refine b_r ?_
          refine t_r ?_
          refine end3c rfl ua62 rfl (by conv => lhs; whnf) (by conv => lhs; whnf) hB2 sz62 ?_
          first
            | exact ⟨⟨_, _, _, by rw [hp]; rfl, by rw [hp]; exact Own.nil _ _ _ _ _⟩, hX⟩
            | exact ⟨⟨_, _, _, by rw [hp], by rw [hp]; exact hO⟩, hX⟩
        · try simp only [decide_eq_true_eq, decide_eq_false_iff_not, Bool.not_eq_true, Bool.not_eq_false, Bool.not_eq_eq_eq_not, Bool.not_true, Bool.not_false, Int.not_lt, Int.not_le] at hc32
          refine c_skip ?_
          refine b_n ?_
          refine t_n ?_
          refine c_seq ?_
          refine r_plain ?_
          refine p1 (x_move (by conv => lhs; whnf)) ?_
          refine p1 (x_add rfl rfl (fits_i64 (by omega) (by omega))) ?_
          refine p1 (x_move (by conv => lhs; whnf)) ?_
          refine p1 (x_convf u3 us71 rfl (fits_i64 (by omega) (by omega))) ?_
          refine p1 ((x_add rfl rfl (fits_i64 (by omega) (by omega))).cast (congrArg _ (by omega : (1 : Int) + ((getU (xs.drop 1)).2.1 : Int) + ((getU (xs.drop 1)).1 : Int) = ((endF xs) : Int)))) ?_
          refine p1 (x_assign (by conv => lhs; whnf)) ?_
          refine r_nil ?_
          refine t_n ?_
          refine c_seq ?_
          refine c_seq ?_
          refine r_plain ?_
          refine p1 (x_move (by conv => lhs; whnf)) ?_
          refine p1 (x_add rfl rfl (fits_i64 (by omega) (by omega))) ?_
          refine p1 (x_move (by conv => lhs; whnf)) ?_
          refine p1 (x_len_slice u27 rfl) ?_
          refine p1 (x_gtr rfl rfl) ?_
          refine r_nil ?_
          refine t_n ?_
          first | refine c_dec rfl (fun hc45 => ?_) (fun hc45 => ?_) | refine c_if rfl (fun hc45 => ?_) (fun hc45 => ?_)
          · try simp only [decide_eq_true_eq, decide_eq_false_iff_not, Bool.not_eq_true, Bool.not_eq_false, Bool.not_eq_eq_eq_not, Bool.not_true, Bool.not_false, Int.not_lt, Int.not_le] at hc45
            have hp : openF xs = noF 3 := by unfold openF; rw [if_neg h1, if_neg h2, if_neg (by simpa using h3), if_neg (by omega), if_pos (by omega)]
            refine c_seq ?_
            refine r_plain ?_
            refine p1 (x_build0 pl62 rfl) ?_
            refine o_storeAll rfl (by conv => lhs; whnf) (by simp [Value.oneCell']) (by exact sz62) hB2 (by rfl) ?_
            intro w7 hP7
            have hX := hX.put hP7 (by rw [hN2.g_eq]; exact Nat.le_refl _)
            have hB2 := hP7.blk
            refine p1 (x_assign (by conv => lhs; whnf)) ?_
            refine p1 (x_assign (by conv => lhs; whnf)) ?_
            refine r_nil ?_
            refine t_n ?_
            refine c_ret ?_
            refine t_r ?_
            refine end3c rfl ua62 rfl (by conv => lhs; whnf) (by conv => lhs; whnf) hB2 sz62 ?_
            first
              | exact ⟨⟨_, _, _, by rw [hp]; rfl, by rw [hp]; exact Own.nil _ _ _ _ _⟩, hX⟩
              | exact ⟨⟨_, _, _, by rw [hp], by rw [hp]; exact hO⟩, hX⟩
          · try simp only [decide_eq_true_eq, decide_eq_false_iff_not, Bool.not_eq_true, Bool.not_eq_false, Bool.not_eq_eq_eq_not, Bool.not_true, Bool.not_false, Int.not_lt, Int.not_le] at hc45
            refine c_skip ?_
            refine t_n ?_
            refine c_seq ?_
            refine c_seq ?_
            refine r_held (fun _ w2 => Ext w w2) mixed ?_
            intro w8 hE8
            have hX := hX.ext hE8
            have hB2 := hB2.ext hE8
            have hSr13 : (fun _ w2 => Ext w w2) w8 w8 := hX
            refine h_take 1 rfl (by kernel_rfl) (by kernel_rfl) (by kernel_rfl) hSr13 (fun wS hSS => by ( exact (x_move (by conv => lhs; whnf)))) ?_
            refine h_take 2 rfl (by kernel_rfl) (by kernel_rfl) (by kernel_rfl) hSr13 (fun wS hSS => by ( exact (x_move (by conv => lhs; whnf)))) ?_
            refine h_take 3 rfl (by kernel_rfl) (by kernel_rfl) (by kernel_rfl) hSr13 (fun wS hSS => by ( exact (x_slice_hN u27 sz5 rfl rfl (by omega)))) ?_
            refine h_take 7 rfl (by kernel_rfl) (by kernel_rfl) (by kernel_rfl) hSr13 (fun wS hSS => by ( exact (x_move (by conv => lhs; whnf)))) ?_
            refine h_take 8 rfl (by kernel_rfl) (by kernel_rfl) (by kernel_rfl) hSr13 (fun wS hSS => by ( exact (x_move (by conv => lhs; whnf)))) ?_
            refine h_take 9 rfl (by kernel_rfl) (by kernel_rfl) (by kernel_rfl) hSr13 (fun wS hSS => by ( exact ((x_add rfl rfl (fits_i64 (by omega) (by omega))).cast (congrArg _ (by omega : ((endF xs) : Int) + 4 = (((endF xs) + 4 : Nat) : Int)))))) ?_
            refine h_take 10 rfl (by kernel_rfl) (by kernel_rfl) (by kernel_rfl) hSr13 (fun wS hSS => by ( exact (x_slice_hN u27 sz5 rfl rfl (by omega)))) ?_
            refine h_take 11 rfl (by kernel_rfl) (by kernel_rfl) (by kernel_rfl) hSr13 (fun wS hSS => by (have hX := hSS; exact (x_bytes_str u27 u5 u9 rfl ((hl.ext hX).take ((endF xs) + 4) (by omega))))) ?_
            refine h_one 0 _ rfl (by kernel_rfl) (hop_of_list (fun Q0 hQ0 => ?_))
            have hXs0 := hX.size
            refine o_buildSlice u27 inf5 rfl (by decide) (fun base hb => by have h0 : base = #[] := Array.eq_empty_of_size_eq_zero (by simpa using hb); subst h0; rfl) ?_
            intro w9 g47 hN47
            have hE9 := hN47.ext
            have hX := hX.ext hE9
            have hB2 := hB2.ext hE9
            have hSr13 := hSr13.ext hE9
            have hV := none_made hN47 (B0 := w.heap.size) hXs0
            refine hop_end hQ0 ⟨hSr13, ?_⟩
            refine h_one 4 _ rfl (by kernel_rfl) (hop_of_list (fun Q4 hQ4 => ?_))
            have hB0 := hX.size
            have hl2 := (hl.ext hX).take (endF xs) (by omega)
            refine o_append (d := kByte) (xs.take (endF xs)) u27 inf5 rfl kByte_pos rfl rfl hV (src_sl u27 hl2) hl2.len (byte_all _ _ _) (flat_single _) (by omega) (by omega) (by omega) (by omega) (by decide) ?_
            intro p51 c51 w10 hV hM10
            have hX := hX.mod hM10 (Nat.le_refl _)
            have hB2 := hB2.mod hM10 (by decide)
            have hSr13 := hSr13.mod hM10 (Nat.le_refl _)
            refine hop_end hQ4 ⟨hSr13, ?_⟩
            refine h_one 5 _ rfl (by kernel_rfl) (hop_of_list (fun Q5 hQ5 => ?_))
            have hB0 := hX.size
            rw [List.nil_append] at hV
            refine o_call Tryd.func39 fn39 fb39 (ref04_summed _ _ _ _ _ _ hV hB0 (by omega)) rfl ?_
            rintro v11 w11 ⟨⟨q52, c52, rfl, hV⟩, hM11⟩
            have hX := hX.mod hM11 (Nat.le_refl _)
            have hB2 := hB2.mod hM11 (by decide)
            have hSr13 := hSr13.mod hM11 (Nat.le_refl _)
            refine hop_end hQ5 ⟨hSr13, ?_⟩
            refine h_one 6 _ rfl (by kernel_rfl) (hop_of_list (fun Q6 hQ6 => ?_))
            refine p1 (x_bytes_str u27 u5 u9 rfl hV.sl) ?_
            refine hop_end hQ6 ⟨hSr13, ?_⟩
            refine h_take 12 rfl (by kernel_rfl) (by kernel_rfl) (by kernel_rfl) hSr13 (fun wS hSS => by ( exact (x_neq_str rfl rfl))) ?_
            refine h_done (by kernel_rfl) ?_
            refine t_n ?_
            first | refine c_dec rfl (fun hc59 => ?_) (fun hc59 => ?_) | refine c_if rfl (fun hc59 => ?_) (fun hc59 => ?_)
            · try simp only [decide_eq_true_eq, decide_eq_false_iff_not, Bool.not_eq_true, Bool.not_eq_false, Bool.not_eq_eq_eq_not, Bool.not_true, Bool.not_false, Int.not_lt, Int.not_le] at hc59
              have hne : sumB (xs.take (endF xs)) ≠ (xs.drop (endF xs)).take 4 := fun e => hc59 (by rw [e, List.take_add])
              have hp : openF xs = noF 6 := by unfold openF; rw [if_neg h1, if_neg h2, if_neg (by simpa using h3), if_neg (by omega), if_neg (by omega), if_pos hne]
              refine c_seq ?_
              refine r_plain ?_
              refine p1 (x_build0 pl62 rfl) ?_
              refine o_storeAll rfl (by conv => lhs; whnf) (by simp [Value.oneCell']) (by exact sz62) hB2 (by rfl) ?_
              intro w12 hP12
              have hX := hX.put hP12 (by rw [hN2.g_eq]; exact Nat.le_refl _)
              have hB2 := hP12.blk
              refine p1 (x_assign (by conv => lhs; whnf)) ?_
              refine p1 (x_assign (by conv => lhs; whnf)) ?_
              refine r_nil ?_
              refine t_n ?_
              refine c_ret ?_
              refine t_r ?_
              refine end3c rfl ua62 rfl (by conv => lhs; whnf) (by conv => lhs; whnf) hB2 sz62 ?_
              first
                | exact ⟨⟨_, _, _, by rw [hp]; rfl, by rw [hp]; exact Own.nil _ _ _ _ _⟩, hX⟩
                | exact ⟨⟨_, _, _, by rw [hp], by rw [hp]; exact hO⟩, hX⟩
            · try simp only [decide_eq_true_eq, decide_eq_false_iff_not, Bool.not_eq_true, Bool.not_eq_false, Bool.not_eq_eq_eq_not, Bool.not_true, Bool.not_false, Int.not_lt, Int.not_le] at hc59
              have h6 : sumB (xs.take (endF xs)) = (xs.drop (endF xs)).take 4 := by
                have := toStr_inj (Classical.byContradiction hc59)
                rw [List.take_add] at this
                exact List.append_cancel_left this
              have hp : openF xs = ((xs.getD 0 0, (xs.take (endF xs)).drop (1 + (getU (xs.drop 1)).2.1)), (endF xs) + 4, 0) := by unfold openF; rw [if_neg h1, if_neg h2, if_neg (by simpa using h3), if_neg (by omega), if_neg (by omega), if_neg (by rw [h6]; simp)]
              refine c_skip ?_
              refine t_n ?_
              refine c_seq ?_
              refine r_held (fun _ w2 => Ext w w2) mixed ?_
              intro w13 hE13
              have hX := hX.ext hE13
              have hB2 := hB2.ext hE13
              have hV := hV.ext hE13
              have hSr15 : (fun _ w2 => Ext w w2) w13 w13 := hX
              refine h_take 0 rfl (by kernel_rfl) (by kernel_rfl) (by kernel_rfl) hSr15 (fun wS hSS => by ( exact (x_move (by conv => lhs; whnf)))) ?_
              refine h_take 1 rfl (by kernel_rfl) (by kernel_rfl) (by kernel_rfl) hSr15 (fun wS hSS => by ( exact (x_ixs0 (i := 0) u27 sz5 rfl rfl ((hl.ext hX).adr kByte_pos (by omega)) (by omega)))) ?_
              refine h_take 2 rfl (by kernel_rfl) (by kernel_rfl) (by kernel_rfl) hSr15 (fun wS hSS => by (have hX := hSS; exact (x_load1 un5 rfl ((hl.ext hX).byteAt 0 (by omega))))) ?_
              refine h_take 4 rfl (by kernel_rfl) (by kernel_rfl) (by kernel_rfl) hSr15 (fun wS hSS => by ( exact (x_move (by conv => lhs; whnf)))) ?_
              refine h_take 5 rfl (by kernel_rfl) (by kernel_rfl) (by kernel_rfl) hSr15 (fun wS hSS => by ( exact (x_move (by conv => lhs; whnf)))) ?_
              refine h_take 6 rfl (by kernel_rfl) (by kernel_rfl) (by kernel_rfl) hSr15 (fun wS hSS => by ( exact ((x_add rfl rfl (fits_i64 (by omega) (by omega))).cast (congrArg _ (by omega : (1 : Int) + ((getU (xs.drop 1)).2.1 : Int) = ((1 + (getU (xs.drop 1)).2.1 : Nat) : Int)))))) ?_
              refine h_take 7 rfl (by kernel_rfl) (by kernel_rfl) (by kernel_rfl) hSr15 (fun wS hSS => by ( exact (x_move (by conv => lhs; whnf)))) ?_
              refine h_take 8 rfl (by kernel_rfl) (by kernel_rfl) (by kernel_rfl) hSr15 (fun wS hSS => by ( exact (x_slice_lhN u27 sz5 rfl rfl rfl (by omega) (by omega)))) ?_
              refine h_take 11 rfl (by kernel_rfl) (by kernel_rfl) (by kernel_rfl) hSr15 (fun wS hSS => by ( exact (x_move (by conv => lhs; whnf)))) ?_
              refine h_take 12 rfl (by kernel_rfl) (by kernel_rfl) (by kernel_rfl) hSr15 (fun wS hSS => by ( exact ((x_add rfl rfl (fits_i64 (by omega) (by omega))).cast (congrArg _ (by omega : ((endF xs) : Int) + 4 = (((endF xs) + 4 : Nat) : Int)))))) ?_
              refine h_one 3 _ rfl (by kernel_rfl) (hop_of_list (fun Q3 hQ3 => ?_))
              have hXs0 := hX.size
              refine o_buildSlice u27 inf5 rfl (by decide) (fun base hb => by have h0 : base = #[] := Array.eq_empty_of_size_eq_zero (by simpa using hb); subst h0; rfl) ?_
              intro w14 g64 hN64
              have hE14 := hN64.ext
              have hX := hX.ext hE14
              have hB2 := hB2.ext hE14
              have hV := hV.ext hE14
              have hSr15 := hSr15.ext hE14
              have hO := none_made hN64 (B0 := w.heap.size) hXs0
              refine hop_end hQ3 ⟨hSr15, ?_⟩
              refine h_one 9 _ rfl (by kernel_rfl) (hop_of_list (fun Q9 hQ9 => ?_))
              have hB0 := hX.size
              have hl2 := ((hl.ext hX).take (endF xs) (by omega)).dropI (1 + (getU (xs.drop 1)).2.1) (by omega)
              refine o_append (d := kByte) ((xs.take (endF xs)).drop (1 + (getU (xs.drop 1)).2.1)) u27 inf5 rfl kByte_pos rfl rfl hO (src_sl u27 hl2) hl2.len (byte_all _ _ _) (flat_single _) (by omega) (by omega) (by omega) (by omega) (by decide) ?_
              intro p70 c70 w15 hO hM15
              have hX := hX.mod hM15 (Nat.le_refl _)
              have hB2 := hB2.mod hM15 (by decide)
              have hSr15 := hSr15.mod hM15 (Nat.le_refl _)
              refine hop_end hQ9 ⟨hSr15, ?_⟩
              rw [List.nil_append] at hO
              refine h_take 10 rfl (by kernel_rfl) (by kernel_rfl) (by kernel_rfl) hSr15 (fun wS hSS => by ( exact (x_build2 pl62 (by conv => lhs; whnf) (by conv => lhs; whnf) rfl rfl))) ?_
              refine h_one 13 _ rfl (by kernel_rfl) (hop_of_list (fun Q13 hQ13 => ?_))
              refine o_storeAll rfl (by conv => lhs; whnf) (by simp [Value.oneCell']) (by exact sz62) hB2 (by rfl) ?_
              intro w16 hP16
              have hX := hX.put hP16 (by rw [hN2.g_eq]; exact Nat.le_refl _)
              have hB2 := hP16.blk
              have hSr15 := hSr15.put hP16 (by rw [hN2.g_eq]; exact Nat.le_refl _)
              have hO := hO.mod (hP16.mod 0 (Nat.zero_le _)) (Nat.zero_le _) (by decide)
              refine hop_end hQ13 ⟨hSr15, ?_⟩
              refine h_take 14 rfl (by kernel_rfl) (by kernel_rfl) (by kernel_rfl) hSr15 (fun wS hSS => by ( exact (x_assign (by conv => lhs; whnf)))) ?_
              refine h_take 15 rfl (by kernel_rfl) (by kernel_rfl) (by kernel_rfl) hSr15 (fun wS hSS => by ( exact (x_assign (by conv => lhs; whnf)))) ?_
              refine h_done (by kernel_rfl) ?_
              refine t_n ?_
              refine c_ret ?_
              refine end3c rfl ua62 rfl (by conv => lhs; whnf) (by conv => lhs; whnf) hB2 sz62 ?_
              first
                | exact ⟨⟨_, _, _, by rw [hp]; rfl, by rw [hp]; exact Own.nil _ _ _ _ _⟩, hX⟩
                | exact ⟨⟨_, _, _, by rw [hp], by rw [hp]; exact hO⟩, hX⟩
end Go.Proofs.Eng
end
section
set_option linter.unusedVariables false
set_option linter.unusedSimpArgs false
set_option maxRecDepth 100000
set_option maxHeartbeats 4000000
namespace Go.Proofs.Eng
open Go.RowKit
open Extern.Stop (cell)
theorem fb27 : Tryd.f27.body.isNone = false := by kernel_rfl
theorem fb42 : Tryd.f42.body.isNone = false := by kernel_rfl
theorem fn27 : (Tryd.f27.name == "runtime.NumGoroutine") = false := by kernel_rfl
theorem fn42 : (Tryd.f42.name == "runtime.NumGoroutine") = false := by kernel_rfl
theorem fo62_0 : fieldOf Tryd.prog 62 0 = some (5, 0) := by kernel_rfl
theorem fo62_1 : fieldOf Tryd.prog 62 1 = some (27, 1) := by kernel_rfl
theorem inf62 : (Tryd.prog.info? 62).map (fun i => (i.zero, i.size, i.bytes)) = some (some (.agg #[.int .u8 0, .slice none 0 0]), 2, 32) := by kernel_rfl
theorem u58 : Tryd.prog.underlying 58 = some (.slice 62) := by kernel_rfl
end Go.Proofs.Eng
end
section
set_option linter.unusedVariables false
set_option linter.unusedSimpArgs false
set_option maxRecDepth 100000
set_option maxHeartbeats 4000000
namespace Go.Proofs.Eng
open Go.RowKit
open Extern.Stop (cell)
theorem ref04_Scan (xs : List UInt8) (B : Nat) (p : Option Addr) (n c : Nat) (w : World) (hl : Sl kByte 5 B w p n c xs) (hn : n ≤ 100000000) :
    Ret Tryd.prog 27 [.slice p n c] w (fun v w' => (∃ (q : Option Addr) (m c' : Nat) (u : Int), v = .tuple #[.slice q m c', .int .i64 u, .int .i64 (scanF xs).2] ∧ Own (kFo w.heap.size) 62 0 w.heap.size w' q m c' (scanF xs).1) ∧ Ext w w') := by
  have hX := Ext.refl w
  refine enter 34 _ Tryd.func27 rfl rfl (Nat.le_of_ble_eq_true rfl) rfl ?_
  refine c_seq ?_
  refine r_plain ?_
  refine p1 (x_assign (by conv => lhs; whnf)) ?_
  refine p1 (x_assign (by conv => lhs; whnf)) ?_
  refine p1 (x_assign (by conv => lhs; whnf)) ?_
  refine r_nil ?_
  refine t_n ?_
  refine c_seq ?_
  refine r_plain ?_
  refine p1 (x_assign (by conv => lhs; whnf)) ?_
  refine r_nil ?_
  refine t_n ?_
  refine c_seq ?_
  refine r_plain ?_
  refine p1 (x_assign (by conv => lhs; whnf)) ?_
  refine r_nil ?_
  refine t_n ?_
  refine c_block ?_
  have hO : Own (kFo w.heap.size) 62 0 w.heap.size w none 0 0 [] := Own.nil _ _ _ _ _
  have hlen := hl.len
  have hfit := hl.fit
  have hcap := hl.cap
  refine c_loop (ι := Nat × Option Addr × Nat × Nat × List Frm) [2, 3, 4, 5, 6, 7, 8, 9, 10, 11, 12, 13, 14, 15, 16, 17, 18, 19, 20, 21, 22, 23, 24, 25, 26, 27, 28, 29, 30, 31, 32, 33] (fun (a, q, m, d, acc) => [(5, .slice q m d), (6, .int .i64 (a : Int))]) (fun (a, q, m, d, acc) w' => Ext w w' ∧ (a ≤ n ∧ m ≤ a ∧ Own (kFo w.heap.size) 62 0 w.heap.size w' q m d acc ∧ (acc ++ (scanF (xs.drop a)).1, (scanF (xs.drop a)).2) = scanF xs)) (fun (a, q, m, d, acc) => n - a) ((0, none, 0, 0, [])) ⟨rfl, rfl, trivial⟩ ⟨hX, ⟨by omega, by omega, hO, rfl⟩⟩ ?_
  rintro ⟨a, q, m, d, acc⟩ GL0 w1 ⟨hE1, ha, hm, hO, hL⟩
  have hX := hE1
  have hdl : (xs.drop a).length = n - a := by rw [List.length_drop, hlen]
  have hB0 := hX.size
  have hol := hO.len
  refine c_block ?_
  refine c_seq ?_
  refine r_plain ?_
  refine p1 (x_move (by conv => lhs; whnf)) ?_
  refine p1 (x_move (by conv => lhs; whnf)) ?_
  refine p1 (x_slice_lN u27 sz5 rfl rfl (by omega)) ?_
  refine o_call Tryd.func42 fn42 fb42 (ref04_Open (xs.drop a) _ _ _ _ _ ((hl.ext hX).dropI a (by omega))) rfl ?_
  rintro v2 w2 ⟨⟨qo, mo, co, rfl, hF⟩, hE2⟩
  have hX := hX.ext hE2
  have hO := hO.ext hE2
  refine p1 (x_move (by conv => lhs; whnf)) ?_
  refine p1 (x_extract rfl rfl) ?_
  refine p1 (x_extract rfl rfl) ?_
  refine p1 (x_extract rfl rfl) ?_
  have hO0 := hO
  have hX0 := hX.size
  refine o_alloc zr62 ?_
  intro w3 g7 hN7
  have hE3 := hN7.ext
  have hX := hX.ext hE3
  have hO := hO.ext hE3
  have hF := hF.ext hE3
  have hB7 := hN7.blk
  refine o_storeAll rfl (by conv => lhs; whnf) (by simp [Value.oneCell']) (by exact sz62) hB7 (by rfl) ?_
  intro w4 hP4
  have hX := hX.put hP4 (by rw [hN7.g_eq]; exact hX0)
  have hO := hO0.ext (hN7.ext.put hP4 (by rw [hN7.g_eq]; exact Nat.le_refl _))
  have hF := hF.mod (hP4.mod 0 (Nat.zero_le _)) (Nat.zero_le _) (by decide)
  have hB7 := hP4.blk
  refine p1 (x_assign (by conv => lhs; whnf)) ?_
  refine p1 (x_assign (by conv => lhs; whnf)) ?_
  refine r_nil ?_
  refine t_n ?_
  refine c_seq ?_
  refine c_seq ?_
  refine r_plain ?_
  refine p1 (x_move (by conv => lhs; whnf)) ?_
  refine p1 (x_eql rfl rfl) ?_
  refine r_nil ?_
  refine t_n ?_
  first | refine c_dec rfl (fun hc19 => ?_) (fun hc19 => ?_) | refine c_if rfl (fun hc19 => ?_) (fun hc19 => ?_)
  · try simp only [decide_eq_true_eq, decide_eq_false_iff_not, Bool.not_eq_true, Bool.not_eq_false, Bool.not_eq_eq_eq_not, Bool.not_true, Bool.not_false, Int.not_lt, Int.not_le] at hc19
    have hp : scanF (xs.drop a) = ([], 0) := by rw [scanF_bad (by omega), if_pos hc19]
    rw [hp, List.append_nil] at hL
    have hz : (scanF xs).2 = 0 := by rw [← hL]
    have ho : (scanF xs).1 = acc := by rw [← hL]
    refine c_seq ?_
    refine r_plain ?_
    refine p1 (x_move (by conv => lhs; whnf)) ?_
    refine p1 (x_move (by conv => lhs; whnf)) ?_
    refine p1 (x_assign (by conv => lhs; whnf)) ?_
    refine p1 (x_assign (by conv => lhs; whnf)) ?_
    refine p1 (x_assign (by conv => lhs; whnf)) ?_
    refine r_nil ?_
    refine t_n ?_
    refine c_ret ?_
    refine t_r ?_
    refine b_r ?_
    refine t_r ?_
    refine b_r ?_
    refine end3 rfl (by conv => lhs; whnf) (by conv => lhs; whnf) (by conv => lhs; whnf) ?_
    exact ⟨⟨_, _, _, _, by rw [hz], by rw [ho]; exact hO⟩, hX⟩
  · try simp only [decide_eq_true_eq, decide_eq_false_iff_not, Bool.not_eq_true, Bool.not_eq_false, Bool.not_eq_eq_eq_not, Bool.not_true, Bool.not_false, Int.not_lt, Int.not_le] at hc19
    refine c_skip ?_
    refine t_n ?_
    refine c_seq ?_
    refine c_seq ?_
    refine r_plain ?_
    refine p1 (x_move (by conv => lhs; whnf)) ?_
    refine p1 (x_neq rfl rfl) ?_
    refine r_nil ?_
    refine t_n ?_
    first | refine c_dec rfl (fun hc23 => ?_) (fun hc23 => ?_) | refine c_if rfl (fun hc23 => ?_) (fun hc23 => ?_)
    · try simp only [decide_eq_true_eq, decide_eq_false_iff_not, Bool.not_eq_true, Bool.not_eq_false, Bool.not_eq_eq_eq_not, Bool.not_true, Bool.not_false, Int.not_lt, Int.not_le] at hc23
      have hp : scanF (xs.drop a) = ([], (openF (xs.drop a)).2.2) := by rw [scanF_bad hc23, if_neg hc19]
      rw [hp, List.append_nil] at hL
      have hz : (scanF xs).2 = (openF (xs.drop a)).2.2 := by rw [← hL]
      have ho : (scanF xs).1 = acc := by rw [← hL]
      refine c_seq ?_
      refine r_plain ?_
      refine p1 (x_move (by conv => lhs; whnf)) ?_
      refine p1 (x_move (by conv => lhs; whnf)) ?_
      refine p1 (x_move (by conv => lhs; whnf)) ?_
      refine p1 (x_assign (by conv => lhs; whnf)) ?_
      refine p1 (x_assign (by conv => lhs; whnf)) ?_
      refine p1 (x_assign (by conv => lhs; whnf)) ?_
      refine r_nil ?_
      refine t_n ?_
      refine c_ret ?_
      refine t_r ?_
      refine b_r ?_
      refine t_r ?_
      refine b_r ?_
      refine end3 rfl (by conv => lhs; whnf) (by conv => lhs; whnf) (by conv => lhs; whnf) ?_
      exact ⟨⟨_, _, _, _, by rw [hz], by rw [ho]; exact hO⟩, hX⟩
    · try simp only [decide_eq_true_eq, decide_eq_false_iff_not, Bool.not_eq_true, Bool.not_eq_false, Bool.not_eq_eq_eq_not, Bool.not_true, Bool.not_false, Int.not_lt, Int.not_le] at hc23
      have h0 : (openF (xs.drop a)).2.2 = 0 := Classical.byContradiction hc23
      have hu := openF_used h0
      rw [hdl] at hu
      rw [scanF_ok h0] at hL
      have hF := hF.lower hB0
      refine c_skip ?_
      refine t_n ?_
      refine c_seq ?_
      refine r_plain ?_
      refine p1 (x_move (by conv => lhs; whnf)) ?_
      refine p1 (x_loadB ua62 rfl hB7 sz62) ?_
      refine o_buildSlice u58 inf62 rfl (by decide) (fun base hb => fill_one (by rfl) base hb) ?_
      intro w5 g29 hN29
      have hE5 := hN29.ext
      have hX := hX.ext hE5
      have hO := hO.ext hE5
      have hF := hF.ext hE5
      have hB7 := hB7.ext hE5
      have hJ := fo_made (x := (openF (xs.drop a)).1) hN29 hF
      obtain ⟨cssJ, hAJ, hsrJ⟩ := src_kind u58 hJ kFo_pos
      have hB1 := hX.size
      refine o_append (d := (kFo _)) ([(openF (xs.drop a)).1]) u58 inf62 rfl kFo_pos rfl rfl hO (hsrJ) rfl (hAJ) (rfl) (by omega) (by omega) (by omega) (by omega) (by simp [kFo]) ?_
      intro p30 c30 w6 hO hM6
      have hX := hX.mod hM6 (Nat.le_refl _)
      have hF := hF.mod hM6 (Nat.zero_le _) (by decide)
      refine p1 (x_assign (by conv => lhs; whnf)) ?_
      refine r_nil ?_
      refine t_n ?_
      refine r_plain ?_
      refine p1 (x_move (by conv => lhs; whnf)) ?_
      refine p1 (x_move (by conv => lhs; whnf)) ?_
      refine p1 ((x_add rfl rfl (fits_i64 (by omega) (by omega))).cast (congrArg _ (by omega : (a : Int) + ((openF (xs.drop a)).2.1 : Int) = ((a + (openF (xs.drop a)).2.1 : Nat) : Int)))) ?_
      refine p1 (x_assign (by conv => lhs; whnf)) ?_
      refine r_nil ?_
      refine b_n ?_
      refine t_n (At.mk ((a + (openF (xs.drop a)).2.1, p30, m + 1, c30, acc ++ [(openF (xs.drop a)).1])) (by repeat (first | exact Agr.refl _ _ | exact Agr.hav _ _ _ | refine Agr.upd rfl ?_ | refine Agr.updR rfl ?_ | refine Agr.updL ?_ _ rfl | refine Agr.hav' rfl ?_)) ⟨rfl, rfl, trivial⟩ ?_)
      exact ⟨⟨hX, ⟨by omega, by omega, hO, by rw [← hL, List.drop_drop]; simp⟩⟩, by first | (dsimp only; omega) | ((show _ < _); omega)⟩
theorem ref18_Get (xs : List UInt8) (B : Nat) (p : Option Addr) (n c : Nat) (w : World) (hl : Sl kByte 5 B w p n c xs) (hn : n ≤ 100000000) :
    Ret Tryd.prog 16 [.slice p n c] w (fun v w' => (∃ q m c', v = .tuple #[.slice q m c', .int .i64 (getF xs).2] ∧ Own (kOb w.heap.size) 27 0 w.heap.size w' q m c' (getF xs).1) ∧ Ext w w') := by
  have hX := Ext.refl w
  refine enter 38 _ Tryd.func16 rfl rfl (Nat.le_of_ble_eq_true rfl) rfl ?_
  refine c_seq ?_
  refine r_plain ?_
  refine p1 (x_assign (by conv => lhs; whnf)) ?_
  refine p1 (x_assign (by conv => lhs; whnf)) ?_
  refine r_nil ?_
  refine t_n ?_
  refine c_seq ?_
  refine r_plain ?_
  refine p1 (x_move (by conv => lhs; whnf)) ?_
  refine o_call Tryd.func27 fn27 fb27 (ref04_Scan xs _ _ _ _ _ (hl.ext hX) hn) rfl ?_
  rintro v1 w1 ⟨⟨ql, ml, cl, ul, rfl, hS⟩, hE1⟩
  have hX := hX.ext hE1
  skip
  refine p1 (x_move (by conv => lhs; whnf)) ?_
  refine p1 (x_extract rfl rfl) ?_
  refine p1 (x_extract rfl rfl) ?_
  refine p1 (x_extract rfl rfl) ?_
  refine p1 (x_assign (by conv => lhs; whnf)) ?_
  refine p1 (x_assign (by conv => lhs; whnf)) ?_
  refine p1 (x_assign (by conv => lhs; whnf)) ?_
  refine r_nil ?_
  refine t_n ?_
  refine c_seq ?_
  refine c_seq ?_
  refine r_plain ?_
  refine p1 (x_move (by conv => lhs; whnf)) ?_
  refine p1 (x_neq rfl rfl) ?_
  refine r_nil ?_
  refine t_n ?_
  first | refine c_dec rfl (fun hc16 => ?_) (fun hc16 => ?_) | refine c_if rfl (fun hc16 => ?_) (fun hc16 => ?_)
  · try simp only [decide_eq_true_eq, decide_eq_false_iff_not, Bool.not_eq_true, Bool.not_eq_false, Bool.not_eq_eq_eq_not, Bool.not_true, Bool.not_false, Int.not_lt, Int.not_le] at hc16
    have hp : getF xs = ([], 4) := by rw [getF_scan, if_neg (fun h => hc16 h.1)]
    refine c_seq ?_
    refine r_plain ?_
    refine p1 (x_assign (by conv => lhs; whnf)) ?_
    refine p1 (x_assign (by conv => lhs; whnf)) ?_
    refine r_nil ?_
    refine t_n ?_
    refine c_ret ?_
    refine t_r ?_
    refine end2 rfl (by conv => lhs; whnf) (by conv => lhs; whnf) ?_
    first
      | exact ⟨⟨_, _, _, by rw [hp], by rw [hp]; exact Own.nil _ _ _ _ _⟩, hX⟩
      | exact ⟨⟨_, _, _, by rw [hp], by rw [hp]; exact hO⟩, hX⟩
  · try simp only [decide_eq_true_eq, decide_eq_false_iff_not, Bool.not_eq_true, Bool.not_eq_false, Bool.not_eq_eq_eq_not, Bool.not_true, Bool.not_false, Int.not_lt, Int.not_le] at hc16
    have hz : (scanF xs).2 = 0 := Classical.byContradiction hc16
    have hSl := hS.len
    have hSm := scanF_len xs
    have hlen := hl.len
    have hSc := hS.small
    refine c_skip ?_
    refine t_n ?_
    refine c_seq ?_
    refine r_plain ?_
    refine p1 (x_assign (by conv => lhs; whnf)) ?_
    refine r_nil ?_
    refine t_n ?_
    refine c_seq ?_
    refine c_seq ?_
    refine r_plain ?_
    refine p1 (x_assign (by conv => lhs; whnf)) ?_
    refine r_nil ?_
    refine t_n ?_
    refine c_block ?_
    have hX0 := hX
    have hS0 := hS
    have hB0 := hX.size
    have hO : Own (kOb w.heap.size) 27 0 w.heap.size w1 none 0 0 [] := Own.nil _ _ _ _ _
    refine c_loop (ι := Nat × Option Addr × Nat × Nat) [2, 3, 7, 8, 17, 18, 19, 20, 21, 22, 23, 24, 25, 26, 27, 28, 29, 30, 31, 32, 33, 34, 35, 36] (fun (k, q, m, d) => [(7, .slice q m d), (8, .int .i64 (k : Int))]) (fun (k, q, m, d) w' => Ext w w' ∧ (k ≤ ml ∧ m = k ∧ Own (kFo w.heap.size) 62 0 w.heap.size w' ql ml cl (scanF xs).1 ∧ (∀ i, i < k → ((scanF xs).1.getD i (0, [])).1 = 1) ∧ Own (kOb w.heap.size) 27 0 w.heap.size w' q m d (((scanF xs).1.take k).map (·.2)))) (fun (k, q, m, d) => ml - k) ((0, none, 0, 0)) ⟨rfl, rfl, trivial⟩ ⟨hX, ⟨by omega, rfl, hS, fun i hi => by omega, hO⟩⟩ ?_
    rintro ⟨k, q, m, d⟩ GL0 w2 ⟨hE2, hk, hmk, hS, hok, hO⟩
    have hX := hE2
    refine c_seq ?_
    refine c_seq ?_
    refine r_plain ?_
    refine p1 (x_move (by conv => lhs; whnf)) ?_
    refine p1 (x_move (by conv => lhs; whnf)) ?_
    refine p1 (x_len_slice u58 rfl) ?_
    refine p1 (x_lss rfl rfl) ?_
    refine r_nil ?_
    refine t_n ?_
    first | refine c_dec rfl (fun hc20 => ?_) (fun hc20 => ?_) | refine c_if rfl (fun hc20 => ?_) (fun hc20 => ?_)
    · try simp only [decide_eq_true_eq, decide_eq_false_iff_not, Bool.not_eq_true, Bool.not_eq_false, Bool.not_eq_eq_eq_not, Bool.not_true, Bool.not_false, Int.not_lt, Int.not_le] at hc20
      obtain ⟨qr, mr, cr, hk0, hk1, hrow⟩ := hS.sl.foAt k (by omega)
      refine c_skip ?_
      refine t_n ?_
      refine c_seq ?_
      refine c_block ?_
      refine c_seq ?_
      refine c_seq ?_
      refine r_plain ?_
      refine p1 (x_move (by conv => lhs; whnf)) ?_
      refine p1 (x_move (by conv => lhs; whnf)) ?_
      refine p1 (x_ixs u58 sz62 rfl rfl (hS.sl.adr kFo_pos (by omega)) (by omega) (by omega)) ?_
      refine p1 (x_fieldAddr fo62_0 sz5 rfl) ?_
      refine p1 (x_load1 un5 rfl hk0) ?_
      refine p1 (x_neq rfl rfl) ?_
      refine r_nil ?_
      refine t_n ?_
      first | refine c_dec rfl (fun hc28 => ?_) (fun hc28 => ?_) | refine c_if rfl (fun hc28 => ?_) (fun hc28 => ?_)
      · try simp only [decide_eq_true_eq, decide_eq_false_iff_not, Bool.not_eq_true, Bool.not_eq_false, Bool.not_eq_eq_eq_not, Bool.not_true, Bool.not_false, Int.not_lt, Int.not_le] at hc28
        have hp : getF xs = ([], 4) := by rw [getF_scan, if_neg (fun h => not_kind (i := k) (by omega) (fun e => hc28 (by rw [e]; rfl)) h.2)]
        refine c_seq ?_
        refine r_plain ?_
        refine p1 (x_assign (by conv => lhs; whnf)) ?_
        refine p1 (x_assign (by conv => lhs; whnf)) ?_
        refine r_nil ?_
        refine t_n ?_
        refine c_ret ?_
        refine t_r ?_
        refine b_r ?_
        refine t_r ?_
        refine t_r ?_
        refine b_r ?_
        refine t_r ?_
        refine end2 rfl (by conv => lhs; whnf) (by conv => lhs; whnf) ?_
        first
          | exact ⟨⟨_, _, _, by rw [hp], by rw [hp]; exact Own.nil _ _ _ _ _⟩, hX⟩
          | exact ⟨⟨_, _, _, by rw [hp], by rw [hp]; exact hO⟩, hX⟩
      · try simp only [decide_eq_true_eq, decide_eq_false_iff_not, Bool.not_eq_true, Bool.not_eq_false, Bool.not_eq_eq_eq_not, Bool.not_true, Bool.not_false, Int.not_lt, Int.not_le] at hc28
        have hk1k : ((scanF xs).1.getD k (0, [])).1 = 1 := u8_inj.1 (Classical.byContradiction hc28)
        refine c_skip ?_
        refine t_n ?_
        refine r_plain ?_
        refine p1 (x_move (by conv => lhs; whnf)) ?_
        refine p1 (x_move (by conv => lhs; whnf)) ?_
        refine p1 (x_move (by conv => lhs; whnf)) ?_
        refine p1 (x_ixs u58 sz62 rfl rfl (hS.sl.adr kFo_pos (by omega)) (by omega) (by omega)) ?_
        refine p1 (x_fieldAddr fo62_1 sz27 rfl) ?_
        refine p1 (x_load1 un27 rfl hk1) ?_
        refine o_buildSlice u26 inf27 rfl (by decide) (fun base hb => fill_one (by rfl) base hb) ?_
        intro w3 g35 hN35
        have hE3 := hN35.ext
        have hX := hX.ext hE3
        have hS := hS.ext hE3
        have hO := hO.ext hE3
        have hJ := ob_made (x := ((scanF xs).1.getD k (0, [])).2) hN35 (hrow.ext hN35.ext)
        obtain ⟨cssJ, hAJ, hsrJ⟩ := src_kind u26 hJ kOb_pos
        have hB1 := hX.size
        refine o_append (d := (kOb _)) ([((scanF xs).1.getD k (0, [])).2]) u26 inf27 rfl kOb_pos rfl rfl hO (hsrJ) rfl (hAJ) (rfl) (by omega) (by omega) (by omega) (by omega) (by simp [kOb]) ?_
        intro p36 c36 w4 hO hM4
        have hX := hX.mod hM4 (Nat.le_refl _)
        have hS := hS.mod hM4 (Nat.zero_le _) (by simp [kFo])
        refine p1 (x_assign (by conv => lhs; whnf)) ?_
        refine r_nil ?_
        refine b_n ?_
        refine t_n ?_
        refine r_plain ?_
        refine p1 (x_move (by conv => lhs; whnf)) ?_
        refine p1 (x_add rfl rfl (fits_i64 (by omega) (by omega))) ?_
        refine p1 (x_assign (by conv => lhs; whnf)) ?_
        refine r_nil ?_
        refine t_n (At.mk ((k + 1, p36, m + 1, c36)) (by repeat (first | exact Agr.refl _ _ | exact Agr.hav _ _ _ | refine Agr.upd rfl ?_ | refine Agr.updR rfl ?_ | refine Agr.updL ?_ _ rfl | refine Agr.hav' rfl ?_)) ⟨rfl, rfl, trivial⟩ ?_)
        exact ⟨⟨hX, ⟨by omega, by omega, hS, fun i hi => if h : i < k then hok i h else by rw [show i = k from by omega]; exact hk1k, by rw [map_take_succ (·.2) (0, []) (by omega)]; exact hO⟩⟩, by first | (dsimp only; omega) | ((show _ < _); omega)⟩
    · try simp only [decide_eq_true_eq, decide_eq_false_iff_not, Bool.not_eq_true, Bool.not_eq_false, Bool.not_eq_eq_eq_not, Bool.not_true, Bool.not_false, Int.not_lt, Int.not_le] at hc20
      have hp : getF xs = (((scanF xs).1.take k).map (·.2), 0) := by rw [getF_scan, if_pos ⟨hz, all_kind (fun i hi => hok i (by omega))⟩, List.take_of_length_le (by omega)]
      refine c_exit ?_
      refine t_e ?_
      refine t_e ?_
      refine b_hit ?_
      refine t_n ?_
      refine c_seq ?_
      refine r_plain ?_
      refine p1 (x_move (by conv => lhs; whnf)) ?_
      refine p1 (x_assign (by conv => lhs; whnf)) ?_
      refine p1 (x_assign (by conv => lhs; whnf)) ?_
      refine r_nil ?_
      refine t_n ?_
      refine c_ret ?_
      refine end2 rfl (by conv => lhs; whnf) (by conv => lhs; whnf) ?_
      first
        | exact ⟨⟨_, _, _, by rw [hp], by rw [hp]; exact Own.nil _ _ _ _ _⟩, hX⟩
        | exact ⟨⟨_, _, _, by rw [hp], by rw [hp]; exact hO⟩, hX⟩
end Go.Proofs.Eng
end
section
set_option linter.unusedVariables false
set_option linter.unusedSimpArgs false
set_option maxRecDepth 100000
set_option maxHeartbeats 4000000
namespace Go.Proofs.Eng
open Go.RowKit
open Extern.Stop (cell)
theorem fb26 : Tryd.f26.body.isNone = false := by kernel_rfl
theorem fb40 : Tryd.f40.body.isNone = false := by kernel_rfl
theorem fb41 : Tryd.f41.body.isNone = false := by kernel_rfl
theorem fn26 : (Tryd.f26.name == "runtime.NumGoroutine") = false := by kernel_rfl
theorem fn40 : (Tryd.f40.name == "runtime.NumGoroutine") = false := by kernel_rfl
theorem fn41 : (Tryd.f41.name == "runtime.NumGoroutine") = false := by kernel_rfl
theorem fo73_0 : fieldOf Tryd.prog 73 0 = some (5, 0) := by kernel_rfl
theorem fo73_1 : fieldOf Tryd.prog 73 1 = some (27, 1) := by kernel_rfl
theorem sz26 : (Tryd.prog.info? 26).map (·.size) = some 1 := by kernel_rfl
theorem un26 : (Tryd.prog.underlying 26).map TypeDesc.isRow = some false := by kernel_rfl
theorem zr26 : (Tryd.prog.info? 26).map (·.zero) = some (some (.slice none 0 0)) := by kernel_rfl
end Go.Proofs.Eng
end
section
set_option linter.unusedVariables false
set_option linter.unusedSimpArgs false
set_option maxRecDepth 100000
set_option maxHeartbeats 4000000
namespace Go.Proofs.Eng
open Go.RowKit
open Extern.Stop (cell)
theorem chunks_run (b0 : List UInt8) (Bl Bd B g : Nat) (p0 : Option Addr) (n0 c0 : Nat) (l : Nat) (J Jx : List Ck → World → Prop) (w : World) (hBg : Blk w g #[.slice p0 n0 c0] 27) (hS : Sl kByte 5 B w p0 n0 c0 b0) (hq : Qt w) (hUp : Up Bl w) (h3 : 3 < Bd) (hBB : B ≤ Bd) (hBg2 : Bd ≤ g)
    (hJ : Hd J (But g 27) [] w) (hY : ∀ pre x W1, J pre W1 → XC Bl b0 pre x W1 → YieldAt (fnc none) 0 Tryd.prog l (encC x).toArray W1 fun e W' => (e = .returned (.bool true) ∧ J (pre ++ [x]) W' ∧ RndG Bd g [26, 27, 28] W1 W') ∨ (e = .returned (.bool false) ∧ Jx (pre ++ [x]) W')) :
    Ret Tryd.prog 40 [.func (.yield l) #[] #[], .pointer (some ⟨g, 0, none⟩)] w (fun v w' => (∃ xs, SC b0 xs ∧ J xs w') ∨ (∃ pre, True ∧ Jx pre w')) := by
  have hX := Tv.mk
  refine enter 32 _ Tryd.func40 rfl rfl (Nat.le_of_ble_eq_true rfl) rfl ?_
  refine c_block ?_
  refine c_loop (ι := Option Addr × Nat × Nat × List UInt8 × List Ck) [3, 4, 5, 6, 7, 8, 9, 10, 11, 12, 13, 14, 15, 16, 17, 18, 19, 20, 21, 22, 23, 24, 25, 26, 27, 28, 29, 30, 31] (fun (p, n, c, rest, pre) => []) (fun (p, n, c, rest, pre) w' => Tv ∧ (Hd J (But g 27) pre w' ∧ Blk w' g #[.slice p n c] 27 ∧ Sl kByte 5 B w' p n c rest ∧ Qt w' ∧ Up Bl w' ∧ (∀ x ∈ pre, x.e = 0) ∧ pre.length + n ≤ b0.length ∧ chunksF b0 = (chunksF rest).map (fun l => pre.map (·.body) ++ l))) (fun (p, n, c, rest, pre) => n) ((p0, n0, c0, b0, [])) trivial ⟨hX, ⟨hJ, hBg, hS, hq, hUp, by simp, by simp [hS.len], by simp⟩⟩ ?_
  rintro ⟨p, n, c, rest, pre⟩ GL0 w1 ⟨hE1, hJ, hBg, hS, hq, hUp, hez, hcnt, hC⟩
  have hX := hE1
  refine c_seq ?_
  refine c_seq ?_
  refine r_plain ?_
  refine p1 (x_load1 un27 rfl (hBg.cell (rfl))) ?_
  refine p1 (x_len_slice u27 rfl) ?_
  refine p1 (x_gtr rfl rfl) ?_
  refine r_nil ?_
  refine t_n ?_
  first | refine c_dec rfl (fun hc8 => ?_) (fun hc8 => ?_) | refine c_if rfl (fun hc8 => ?_) (fun hc8 => ?_)
  · try simp only [decide_eq_true_eq, decide_eq_false_iff_not, Bool.not_eq_true, Bool.not_eq_false, Bool.not_eq_eq_eq_not, Bool.not_true, Bool.not_false, Int.not_lt, Int.not_le] at hc8
    have hrl := hS.len
    have hfit := hS.fit
    have hcap := hS.cap
    have hne : rest ≠ [] := fun e => by rw [e] at hrl; simp at hrl; omega
    refine c_skip ?_
    refine t_n ?_
    refine c_block ?_
    refine c_seq ?_
    refine r_plain ?_
    refine p1 (x_load1 un27 rfl (hBg.cell (rfl))) ?_
    have hUp1 := hUp.le
    refine o_call Tryd.func41 fn41 fb41 (frame_Open rest _ _ _ _ _ hS hq) rfl ?_
    rintro v2 w2 ⟨⟨qo, mo, co, rfl, hF⟩, hE2⟩
    have hX := hX.ext hE2
    have hJ := hJ.ext hE2
    have hBg := hBg.ext hE2
    have hS := hS.ext hE2
    have hq := hq.ext hE2
    have hUp := hUp.ext hE2
    have hF := hF.lower hUp1
    refine p1 (x_move (by conv => lhs; whnf)) ?_
    refine p1 (x_extract rfl rfl) ?_
    refine p1 (x_extract rfl rfl) ?_
    refine p1 (x_extract rfl rfl) ?_
    have hJ0 := hJ
    have hBg0 := hBg
    have hS0 := hS
    have hq0 := hq
    have hUp0 := hUp
    have hF0 := hF
    refine o_alloc zr73 ?_
    intro w3 g3 hN3
    have hE3 := hN3.ext
    have hX := hX.ext hE3
    have hJ := hJ.ext hE3
    have hBg := hBg.ext hE3
    have hS := hS.ext hE3
    have hq := hq.ext hE3
    have hUp := hUp.ext hE3
    have hF := hF.ext hE3
    have hB3 := hN3.blk
    refine o_storeAll rfl (by conv => lhs; whnf) (by simp [Value.oneCell']) (by exact sz73) hB3 (by rfl) ?_
    intro w4 hP4
    have hX := hX.put hP4 (True.intro)
    have hJ := hJ0.ext (hN3.ext.put hP4 (by rw [hN3.g_eq]; exact Nat.le_refl _))
    have hBg := hBg0.ext (hN3.ext.put hP4 (by rw [hN3.g_eq]; exact Nat.le_refl _))
    have hS := hS0.ext (hN3.ext.put hP4 (by rw [hN3.g_eq]; exact Nat.le_refl _))
    have hq := hq0.ext (hN3.ext.put hP4 (by rw [hN3.g_eq]; exact Nat.le_refl _))
    have hUp := hUp0.ext (hN3.ext.put hP4 (by rw [hN3.g_eq]; exact Nat.le_refl _))
    have hF := hF0.ext (hN3.ext.put hP4 (by rw [hN3.g_eq]; exact Nat.le_refl _))
    have hB3 := hP4.blk
    refine p1 (x_assign (by conv => lhs; whnf)) ?_
    refine p1 (x_assign (by conv => lhs; whnf)) ?_
    refine r_nil ?_
    refine t_n ?_
    refine c_seq ?_
    refine c_seq ?_
    have hWr2 := Ext.refl w4
    refine c_cut (ι := Unit) [15, 16, 17, 18, 19, 20, 21] (fun _ => [(21, .bool (decide ((openF rest).2.2 ≠ 0 ∨ ((openF rest).1.1.toNat : Int) ≠ 1)))]) (fun _ w' => Ext w4 w') ?_ ?_
    · skip
      refine r_plain ?_
      refine p1 (x_move (by conv => lhs; whnf)) ?_
      refine p1 (x_neq rfl rfl) ?_
      refine p1b (x_move (by conv => lhs; whnf)) (fun hb2_2 => ?_) (fun hb2_2 => ?_)
      · try simp only [decide_eq_true_eq, decide_eq_false_iff_not, Bool.not_eq_true, Bool.not_eq_false, Bool.not_eq_eq_eq_not, Bool.not_true, Bool.not_false, Int.not_lt, Int.not_le] at hb2_2
        refine Eng.g0 17 rfl (by first | exact .inl rfl | exact .inr rfl) ?_
        refine Eng.g0 17 rfl (by first | exact .inl rfl | exact .inr rfl) ?_
        refine Eng.g0 17 rfl (by first | exact .inl rfl | exact .inr rfl) ?_
        refine p1 (x_pick_t rfl (by conv => lhs; whnf)) ?_
        refine r_nil ?_
        refine t_n (At.mk () (by repeat (first | exact Agr.refl _ _ | exact Agr.hav _ _ _ | refine Agr.upd rfl ?_ | refine Agr.updR rfl ?_ | refine Agr.updL ?_ _ rfl | refine Agr.hav' rfl ?_)) ⟨congrArg Value.bool (by first | rfl | exact (decide_eq_true (by omega)).symm | exact (decide_eq_false (by omega)).symm | exact decide_eq_decide.2 (by omega) | (simp_all; done) | grind), trivial⟩ hWr2)
      · try simp only [decide_eq_true_eq, decide_eq_false_iff_not, Bool.not_eq_true, Bool.not_eq_false, Bool.not_eq_eq_eq_not, Bool.not_true, Bool.not_false, Int.not_lt, Int.not_le] at hb2_2
        refine Eng.g1 17 rfl rfl (x_fieldAddr fo73_0 sz5 rfl) ?_
        refine Eng.g1 17 rfl rfl (x_load1 un5 rfl (hB3.cell (rfl))) ?_
        refine Eng.g1 17 rfl rfl (x_neq rfl rfl) ?_
        refine p1 (x_pick_f rfl (by conv => lhs; whnf)) ?_
        refine r_nil ?_
        refine t_n (At.mk () (by repeat (first | exact Agr.refl _ _ | exact Agr.hav _ _ _ | refine Agr.upd rfl ?_ | refine Agr.updR rfl ?_ | refine Agr.updL ?_ _ rfl | refine Agr.hav' rfl ?_)) ⟨congrArg Value.bool (by first | rfl | exact (decide_eq_true (by omega)).symm | exact (decide_eq_false (by omega)).symm | exact decide_eq_decide.2 (by omega) | (simp_all; done) | grind), trivial⟩ hWr2)
    · rintro _ Gr2 w5 hE5
      have hX := hX.ext hE5
      have hJ := hJ.ext hE5
      have hBg := hBg.ext hE5
      have hS := hS.ext hE5
      have hq := hq.ext hE5
      have hUp := hUp.ext hE5
      have hF := hF.ext hE5
      have hB3 := hB3.ext hE5
      refine t_n ?_
      first | refine c_dec rfl (fun hc21 => ?_) (fun hc21 => ?_) | refine c_if rfl (fun hc21 => ?_) (fun hc21 => ?_)
      · try simp only [decide_eq_true_eq, decide_eq_false_iff_not, Bool.not_eq_true, Bool.not_eq_false, Bool.not_eq_eq_eq_not, Bool.not_true, Bool.not_false, Int.not_lt, Int.not_le] at hc21
        have hnb := chunksF_bad hne (fun h => by rcases hc21 with h1 | h1; (· exact h1 h.1); (· exact h1 (by rw [h.2]; rfl)))
        have hnone : chunksF b0 = none := by rw [hC, hnb]; rfl
        refine c_seq ?_
        refine Wf.toWp (f_plainY 1 rfl ?_)
        refine p1 (x_move (by conv => lhs; whnf)) ?_
        refine r_nil ?_
        refine t_n ?_
        refine o_yield rfl rfl (hY pre ⟨none, 0, 0, [], 4⟩ _ hJ.h ⟨Own.nil _ _ _ _ _, .inr ⟨rfl, hnone⟩, by omega⟩) (fun e w0 hr => by rcases hr with ⟨h, _⟩ | ⟨h, _⟩ <;> exact ⟨_, h⟩) ?_
        rintro v6 w6 (⟨hv6, hJ6, hRn6⟩ | ⟨hv6, hJx6⟩) <;> cases hv6
        · skip
          have hJ : Hd J (But g 27) (pre ++ [⟨none, 0, 0, [], 4⟩]) _ := hJ.to hJ6
          refine f_rest rfl ?_
          refine r_nil ?_
          refine t_n ?_
          refine t_n ?_
          refine c_ret ?_
          refine t_r ?_
          refine b_r ?_
          refine t_r ?_
          refine b_r ?_
          refine end0 rfl ?_
          first
            | exact .inr ⟨_, trivial, hJx⟩
            | exact .inl ⟨_, fun _ => hfin, hJ.h⟩
            | exact .inl ⟨_, fun hh => absurd (hh _ (List.mem_append_right _ (List.mem_singleton.2 rfl))) (by decide), hJ.h⟩
        · skip
          have hJx := hJx6
          refine f_rest rfl ?_
          refine r_nil ?_
          refine t_n ?_
          refine t_n ?_
          refine c_ret ?_
          refine t_r ?_
          refine b_r ?_
          refine t_r ?_
          refine b_r ?_
          refine end0 rfl ?_
          first
            | exact .inr ⟨_, trivial, hJx⟩
            | exact .inl ⟨_, fun _ => hfin, hJ.h⟩
            | exact .inl ⟨_, fun hh => absurd (hh _ (List.mem_append_right _ (List.mem_singleton.2 rfl))) (by decide), hJ.h⟩
      · try simp only [decide_eq_true_eq, decide_eq_false_iff_not, Bool.not_eq_true, Bool.not_eq_false, Bool.not_eq_eq_eq_not, Bool.not_true, Bool.not_false, Int.not_lt, Int.not_le] at hc21
        have hk0 : (openF rest).2.2 = 0 := Classical.byContradiction fun h => hc21 (.inl h)
        have hk1 : (openF rest).1.1 = 1 := u8_inj.1 (Classical.byContradiction fun h => hc21 (.inr h))
        have hu := openF_used hk0
        rw [hrl] at hu
        have hCo := chunksF_ok hne ⟨hk0, hk1⟩
        refine c_skip ?_
        refine t_n ?_
        refine c_seq ?_
        refine c_seq ?_
        refine Wf.toWp (f_plainY 3 rfl ?_)
        refine p1 (x_move (by conv => lhs; whnf)) ?_
        refine p1 (x_fieldAddr fo73_1 sz27 rfl) ?_
        refine p1 (x_load1 un27 rfl (hB3.cell (rfl))) ?_
        refine r_nil ?_
        refine t_n ?_
        refine o_yield rfl rfl (hY pre ⟨qo, mo, co, (openF rest).1.2, 0⟩ _ hJ.h ⟨hF, .inl rfl, by omega⟩) (fun e w0 hr => by rcases hr with ⟨h, _⟩ | ⟨h, _⟩ <;> exact ⟨_, h⟩) ?_
        rintro v7 w7 (⟨hv7, hJ7, hRn7⟩ | ⟨hv7, hJx7⟩) <;> cases hv7
        · skip
          have hJ : Hd J (But g 27) (pre ++ [⟨qo, mo, co, (openF rest).1.2, 0⟩]) _ := hJ.to hJ7
          have hBg := hBg.rndG hRn7 (.inr (.inr rfl))
          have hS := hS.rndG hRn7 hBB (by decide)
          have hq := hq.rndG hRn7 h3
          have hUp : Up Bl _ := ⟨Nat.le_trans hUp.le hRn7.size⟩
          refine f_rest rfl ?_
          refine p1 (x_not rfl) ?_
          refine r_nil ?_
          refine t_n ?_
          refine t_n ?_
          refine c_f rfl ?_
          refine c_skip ?_
          refine t_n ?_
          refine r_plain ?_
          refine p1 (x_load1 un27 rfl (hBg.cell (rfl))) ?_
          refine p1 (x_move (by conv => lhs; whnf)) ?_
          refine p1 (x_slice_lN u27 sz5 rfl rfl (by omega)) ?_
          refine o_store1 rfl (by conv => lhs; whnf) rfl rfl sz27 hBg (by simp) ?_
          intro w8 hP8
          have hX := hX.put hP8 (True.intro)
          have hJ := hJ.rel (But.ofPut hP8)
          have hBg := hP8.blk
          simp only [List.setIfInBounds_toArray, List.set_cons_zero, List.set_cons_succ] at hBg
          have hS := hS.mod (hP8.mod g (Nat.le_refl _)) (by omega) (by decide)
          have hq := hq.but (But.ofPut hP8) (by omega)
          have hUp := hUp.put hP8
          refine r_nil ?_
          refine b_n ?_
          refine t_n (At.mk ((adw p c (openF rest).2.1 1, n - (openF rest).2.1, c - (openF rest).2.1, rest.drop (openF rest).2.1, pre ++ [⟨qo, mo, co, (openF rest).1.2, 0⟩])) (by repeat (first | exact Agr.refl _ _ | exact Agr.hav _ _ _ | refine Agr.upd rfl ?_ | refine Agr.updR rfl ?_ | refine Agr.updL ?_ _ rfl | refine Agr.hav' rfl ?_)) trivial ?_)
          exact ⟨⟨hX, ⟨hJ, hBg, hS.dropI _ (by omega), hq, hUp, fun y hy => (List.mem_append.1 hy).elim (hez y) (fun hy => by simp only [List.mem_singleton] at hy; rw [hy]), by rw [List.length_append]; simp; omega, chunks_step hC rfl hCo⟩⟩, by first | (dsimp only; omega) | ((show _ < _); omega)⟩
        · skip
          have hJx := hJx7
          refine f_rest rfl ?_
          refine p1 (x_not rfl) ?_
          refine r_nil ?_
          refine t_n ?_
          refine t_n ?_
          refine c_t rfl ?_
          refine c_ret ?_
          refine t_r ?_
          refine b_r ?_
          refine t_r ?_
          refine b_r ?_
          refine end0 rfl ?_
          first
            | exact .inr ⟨_, trivial, hJx⟩
            | exact .inl ⟨_, fun _ => hfin, hJ.h⟩
            | exact .inl ⟨_, fun hh => absurd (hh _ (List.mem_append_right _ (List.mem_singleton.2 rfl))) (by decide), hJ.h⟩
  · try simp only [decide_eq_true_eq, decide_eq_false_iff_not, Bool.not_eq_true, Bool.not_eq_false, Bool.not_eq_eq_eq_not, Bool.not_true, Bool.not_false, Int.not_lt, Int.not_le] at hc8
    have hr0 : rest = [] := List.length_eq_zero_iff.1 (by have := hS.len; omega)
    have hfin : chunksF b0 = some (pre.map (·.body)) := by rw [hC, hr0, chunksF_nil]; simp
    refine c_exit ?_
    refine t_e ?_
    refine t_e ?_
    refine b_hit ?_
    refine end0n rfl ?_
    first
      | exact .inr ⟨_, trivial, hJx⟩
      | exact .inl ⟨_, fun _ => hfin, hJ.h⟩
      | exact .inl ⟨_, fun hh => absurd (hh _ (List.mem_append_right _ (List.mem_singleton.2 rfl))) (by decide), hJ.h⟩
theorem chunks_seq (b0 : List UInt8) (Bl Bd B g : Nat) (p0 : Option Addr) (n0 c0 : Nat) (w : World) (hBg : Blk w g #[.slice p0 n0 c0] 27) (hS : Sl kByte 5 B w p0 n0 c0 b0) (hq : Qt w) (hUp : Up Bl w) (h3 : 3 < Bd) (hBB : B ≤ Bd) (hBg2 : Bd ≤ g) :
    SeqOk Tryd.prog 40 [.pointer (some ⟨g, 0, none⟩)] encC (RndG Bd g [26, 27, 28]) (SC b0) (fun _ => True) (XC Bl b0) (But g 27) w :=
  ⟨fun l J Jx W hx hJ hJx hY h0 => Calls.mono (chunks_run b0 Bl Bd B g p0 n0 c0 l J Jx W (hBg.ext hx) (hS.ext hx) (hq.ext hx) (hUp.ext hx) h3 hBB hBg2 ⟨h0, hJ, fun _ _ h => .ofExt h⟩ hY).out
    fun e w' ⟨v, he, hr⟩ => ⟨⟨v, he⟩, hr⟩⟩
theorem segment_chunks (p : Option Addr) (n c : Nat) (w : World) :
    Ret Tryd.prog 26 [.slice p n c] w (fun v w' => (∃ g, v = .func (.func 40) #[] #[.pointer (some ⟨g, 0, none⟩)] ∧ g = w.heap.size ∧ Blk w' g #[.slice p n c] 27) ∧ Ext w w') := by
  have hX := Ext.refl w
  refine enter 4 _ Tryd.func26 rfl rfl (Nat.le_of_ble_eq_true rfl) rfl ?_
  refine c_seq ?_
  refine r_plain ?_
  refine o_box1 (by conv => lhs; whnf) rfl ?_
  intro w1 g1 hN1
  have hE1 := hN1.ext
  have hX := hX.ext hE1
  have hB1 := hN1.blk
  refine p1 (x_assign (by conv => lhs; whnf)) ?_
  refine r_nil ?_
  refine t_n ?_
  refine c_seq ?_
  refine r_plain ?_
  refine p1 (x_makeFunc (fs := []) (cs := [.pointer (some ⟨g1, 0, none⟩)]) rfl rfl) ?_
  refine p1 (x_assign (by conv => lhs; whnf)) ?_
  refine r_nil ?_
  refine t_n ?_
  refine c_ret ?_
  refine end1 rfl (by conv => lhs; whnf) ?_
  exact ⟨⟨g1, rfl, hN1.g_eq, hB1⟩, hX⟩
theorem segment_Get (xs : List UInt8) (B : Nat) (p : Option Addr) (n c : Nat) (w : World) (hl : Sl kByte 5 B w p n c xs) (hq : Qt w) (hBw : B ≤ w.heap.size) (hn : n ≤ 100000000) :
    Ret Tryd.prog 15 [.slice p n c] w (fun v w' => (∃ q m c', v = .tuple #[.slice q m c', .int .i64 (getF xs).2] ∧ Own (kOb w.heap.size) 27 0 w.heap.size w' q m c' (getF xs).1) ∧ Ext w w') := by
  have hX := Ext.refl w
  refine enterM 19 _ Tryd.func15 rfl rfl (Nat.le_of_ble_eq_true rfl) rfl ?_
  refine c_seq ?_
  refine r_plain ?_
  refine o_alloc zr26 ?_
  intro w1 g2 hN2
  have hE1 := hN2.ext
  have hX := hX.ext hE1
  have hB2 := hN2.blk
  have hl2 := hB2.lt
  refine o_alloc zr28 ?_
  intro w2 g3 hN3
  have hE2 := hN3.ext
  have hX := hX.ext hE2
  have hB2 := hB2.ext hE2
  have hB3 := hN3.blk
  refine r_nil ?_
  refine t_n ?_
  refine c_seq ?_
  refine r_plain ?_
  have hl3 := hB3.lt
  refine o_alloc zr26 ?_
  intro w3 g4 hN4
  have hE3 := hN4.ext
  have hX := hX.ext hE3
  have hB2 := hB2.ext hE3
  have hB3 := hB3.ext hE3
  have hB4 := hN4.blk
  refine r_nil ?_
  refine t_n ?_
  refine c_seq ?_
  refine c_seq ?_
  have e2 := hN2.g_eq
  have e3 := hN3.g_eq
  have e4 := hN4.g_eq
  have s2 := hN2.ext.size
  have s3 := hN3.ext.size
  have hg2 : w.heap.size ≤ g2 := by omega
  have hg3 : w.heap.size ≤ g3 := by omega
  have hg4 : w.heap.size ≤ g4 := by omega
  have h23 : g2 < g3 := by omega
  have h34 : g3 < g4 := by omega
  have hl4 := hB4.lt
  have hB2 : Blk _ g2 #[.slice none 0 0] 26 := hB2
  have hB3 : Blk _ g3 #[.int .i64 0] 28 := hB3
  have hB4 : Blk _ g4 #[.slice none 0 0] 26 := hB4
  have hlen := hl.len
  refine r_plain ?_
  refine p1 (x_move (by conv => lhs; whnf)) ?_
  refine o_call Tryd.func26 fn26 fb26 (segment_chunks _ _ _ _) rfl ?_
  rintro v4 w4 ⟨⟨gb, rfl, hgb, hBb⟩, hE4⟩
  have hX := hX.ext hE4
  have hB2 := hB2.ext hE4
  have hB3 := hB3.ext hE4
  have hB4 := hB4.ext hE4
  refine r_nil ?_
  refine t_n ?_
  refine c_block ?_
  obtain ⟨B1, hB1⟩ : ∃ B1, B1 = w4.heap.size := ⟨_, rfl⟩
  have hgB : gb < B1 := by have := hBb.lt; omega
  have hXr := hX.size
  have hgb4 : g4 < gb := by omega
  have hq3 := hq.lt
  refine c_rf (ps := [9, 10]) ([]) (fun pre W => Ext w W ∧ Blk W g2 #[.slice none 0 0] 26 ∧ Blk W g3 #[.int .i64 0] 28 ∧ (∃ q m d, Blk W g4 #[.slice q m d] 26 ∧ Own (kOb w.heap.size) 27 0 B1 W q m d (pre.map (·.body))) ∧ (∀ x ∈ pre, x.e = 0)) (fun c pre W => c = .ret ∧ Ext w W ∧ Blk W g2 #[.slice none 0 0] 26 ∧ Blk W g3 #[.int .i64 4] 28 ∧ chunksF xs = none) rfl rfl Tryd.func40 fn40 fb40 (fun _ _ h => h.size) (fun _ _ h => .ofLp h hXr) (fun _ _ _ h k => h.trans k) (chunks_seq xs w.heap.size w.heap.size B gb _ _ _ _ hBb (hl.ext hX) (hq.ext hX) ⟨hXr⟩ hq3 hBw (by omega)) (fun s x A B h m => ⟨h.1.lp m (Nat.zero_le _), h.2⟩) (fun _ _ h => .ofExt h) (But.rl) (fun _ => rfl) (by rintro s A B ⟨h1, h2, h3, ⟨q, m, d, h4, h5⟩, h6⟩ x; exact ⟨But.extTo h1 x (by omega), h2.but x (.inr (by decide)), h3.but x (.inr (by decide)), ⟨q, m, d, h4.but x (.inr (by decide)), h5.but x (.inl hgB) (Nat.zero_le _) (by simp [kOb])⟩, h6⟩) (by rintro s A B ⟨h1, h2, h3, ⟨q, m, d, h4, h5⟩, h6⟩ x; exact ⟨h1.lp x hXr, h2.lp x, h3.lp x, ⟨q, m, d, h4.lp x, h5.lp x (Nat.zero_le _)⟩, h6⟩) (by rintro c s A B ⟨h0, h1, h2, h3, h4⟩ x; exact ⟨h0, But.extTo h1 x (by omega), h2.but x (.inr (by decide)), h3.but x (.inr (by decide)), h4⟩) (by rintro c s A B ⟨h0, h1, h2, h3, h4⟩ x; exact ⟨h0, h1.lp x hXr, h2.lp x, h3.lp x, h4⟩) (⟨hX, hB2, hB3, ⟨none, 0, 0, hB4, Own.nil _ _ _ _ _⟩, by simp⟩) ?_ ?_ ?_
  · intro x
    apply Exists.intro
    refine ⟨fun l W => ?ha, fun l pre W hsz hI hXx => ?hb⟩
    case ha =>
      refine f_seq ?_
      refine f_plain rfl ?_
      refine p1 (x_assign (by conv => lhs; whnf)) ?_
      refine r_nil ?_
      refine t_n ?_
      refine t_n ?_
      refine f_plain rfl ?_
      refine p1 (x_assign (by conv => lhs; whnf)) ?_
      refine r_nil ?_
      refine t_n ?_
      refine t_n ?_
      exact ⟨rfl, rfl⟩
    case hb =>
      obtain ⟨hX, hB2, hB3, ⟨q, m, d, hB4, hO⟩, hez⟩ := hI
      obtain ⟨hF, hxe, hpl⟩ := hXx
      have hZ := Nn.refl W
      have hR := RndG.refl w.heap.size gb [26, 27, 28] W
      have hol := hO.len
      rw [List.length_map] at hol
      refine f_block ?_
      refine f_seq ?_
      refine f_seq ?_
      refine f_plain rfl ?_
      refine p1 (x_move (by conv => lhs; whnf)) ?_
      refine p1 (x_neq rfl rfl) ?_
      refine r_nil ?_
      refine t_n ?_
      refine t_n ?_
      first | refine f_dec rfl (fun hc12 => ?_) (fun hc12 => ?_) | refine f_if rfl (fun hc12 => ?_) (fun hc12 => ?_)
      · try simp only [decide_eq_true_eq, decide_eq_false_iff_not, Bool.not_eq_true, Bool.not_eq_false, Bool.not_eq_eq_eq_not, Bool.not_true, Bool.not_false, Int.not_lt, Int.not_le] at hc12
        have hxe4 : x.e = 4 ∧ chunksF xs = none := hxe.resolve_left hc12
        refine f_seq ?_
        refine f_plain rfl ?_
        refine p1 (x_move (by conv => lhs; whnf)) ?_
        refine o_store1 rfl (by conv => lhs; whnf) rfl rfl sz26 hB2 Nat.zero_lt_one ?_
        intro w6 hP6
        have hX := hX.put hP6 (hg2)
        have hB2 := hP6.blk
        simp only [List.setIfInBounds_toArray, List.set_cons_zero, List.set_cons_succ] at hB2
        have hB3 := hP6.keep hB3 (by omega)
        have hB4 := hP6.keep hB4 (by omega)
        have hO := hO.mod (hP6.mod 0 (Nat.zero_le _)) (Nat.zero_le _) (by simp [kOb])
        have hZ := hZ.put hP6
        have hR := hR.put hP6 ⟨by decide, by omega, by omega⟩
        refine o_store1 rfl (by conv => lhs; whnf) rfl rfl sz28 hB3 Nat.zero_lt_one ?_
        intro w7 hP7
        have hX := hX.put hP7 (hg3)
        have hB2 := hP7.keep hB2 (by omega)
        have hB3 := hP7.blk
        simp only [List.setIfInBounds_toArray, List.set_cons_zero, List.set_cons_succ] at hB3
        have hB4 := hP7.keep hB4 (by omega)
        have hO := hO.mod (hP7.mod 0 (Nat.zero_le _)) (Nat.zero_le _) (by simp [kOb])
        have hZ := hZ.put hP7
        have hR := hR.put hP7 ⟨by decide, by omega, by omega⟩
        refine r_nil ?_
        refine t_n ?_
        refine t_n ?_
        refine f_ret ?_
        refine t_r ?_
        refine b_r ?_
        exact ⟨fun k hn hk => hZ.old k hk hn, rfl, hX, hB2, by rw [hxe4.1] at hB3; exact hB3, hxe4.2⟩
      · try simp only [decide_eq_true_eq, decide_eq_false_iff_not, Bool.not_eq_true, Bool.not_eq_false, Bool.not_eq_eq_eq_not, Bool.not_true, Bool.not_false, Int.not_lt, Int.not_le] at hc12
        have hx0 : x.e = 0 := Classical.byContradiction hc12
        refine f_skip ?_
        refine t_n ?_
        refine f_plain rfl ?_
        refine p1 (x_load1 un26 rfl (hB4.cell (rfl))) ?_
        refine p1 (x_move (by conv => lhs; whnf)) ?_
        refine o_buildSlice u26 inf27 rfl (by decide) (fun base hb => fill_one (by rfl) base hb) ?_
        intro w8 g16 hN16
        have hE8 := hN16.ext
        have hX := hX.ext hE8
        have hB2 := hB2.ext hE8
        have hB3 := hB3.ext hE8
        have hB4 := hB4.ext hE8
        have hO := hO.ext hE8
        have hF := hF.ext hE8
        have hZ := hZ.ext hE8
        have hR := hR.ext hE8
        have hJ := ob_made hN16 hF
        obtain ⟨cssJ, hAJ, hsrJ⟩ := src_kind u26 hJ kOb_pos
        have hB9 := hR.size
        refine o_append (d := (kOb _)) ([x.body]) u26 inf27 rfl kOb_pos rfl rfl hO (hsrJ) rfl (hAJ) (rfl) (by omega) (by omega) (by omega) (by omega) (by simp [kOb]) ?_
        intro p17 c17 w9 hO hM9
        have hX := hX.mod hM9 (by omega)
        have hB2 := hB2.mod hM9 (by decide)
        have hB3 := hB3.mod hM9 (by decide)
        have hB4 := hB4.mod hM9 (by decide)
        have hZ := hZ.mod hM9 
        have hR := hR.mod hM9 ⟨by decide, by omega, by omega⟩
        refine o_store1 rfl (by conv => lhs; whnf) rfl rfl sz26 hB4 Nat.zero_lt_one ?_
        intro w10 hP10
        have hX := hX.put hP10 (hg4)
        have hB2 := hP10.keep hB2 (by omega)
        have hB3 := hP10.keep hB3 (by omega)
        have hB4 := hP10.blk
        simp only [List.setIfInBounds_toArray, List.set_cons_zero, List.set_cons_succ] at hB4
        have hZ := hZ.put hP10
        have hR := hR.put hP10 ⟨by decide, by omega, by omega⟩
        have hO := hO.mod (hP10.mod 0 (Nat.zero_le _)) (Nat.zero_le _) (by simp [kOb])
        refine r_nil ?_
        refine t_n ?_
        refine b_n ?_
        exact ⟨hR, fun k hn hk => hZ.old k hk hn, hX, hB2, hB3, ⟨_, _, _, hB4, by rw [List.map_append]; exact hO⟩, fun y hy => (List.mem_append.1 hy).elim (hez y) (fun hy => by simp only [List.mem_singleton] at hy; rw [hy]; exact hx0)⟩
  · rintro D zs_ w5 hsz hS ⟨hX, hB2, hB3, ⟨q, m, d, hB4, hO⟩, hez⟩ hDf
    have hDs : Dfs w.heap.size w5 [D] := (Dfs.nil _ _).cons hDf (Nat.le_trans hXr hsz) (by simp)
    have hfin := hS hez
    have hp : getF xs = (zs_.map (·.body), 0) := by unfold getF; rw [hfin]
    refine b_n ?_
    refine t_n ?_
    refine c_seq ?_
    refine r_plain ?_
    refine p1 (x_load1 un26 rfl (hB4.cell (rfl))) ?_
    refine o_store1 rfl (by conv => lhs; whnf) rfl rfl sz26 hB2 Nat.zero_lt_one ?_
    intro w11 hP11
    have hX := hX.put hP11 (hg2)
    have hB2 := hP11.blk
    simp only [List.setIfInBounds_toArray, List.set_cons_zero, List.set_cons_succ] at hB2
    have hB3 := hP11.keep hB3 (by omega)
    have hB4 := hP11.keep hB4 (by omega)
    have hO := hO.mod (hP11.mod 0 (Nat.zero_le _)) (Nat.zero_le _) (by simp [kOb])
    have hDs := hDs.mod (hP11.mod 0 (Nat.zero_le _)) (Nat.zero_le _) trivial
    refine o_store1 rfl (by conv => lhs; whnf) rfl rfl sz28 hB3 Nat.zero_lt_one ?_
    intro w12 hP12
    have hX := hX.put hP12 (hg3)
    have hB2 := hP12.keep hB2 (by omega)
    have hB3 := hP12.blk
    simp only [List.setIfInBounds_toArray, List.set_cons_zero, List.set_cons_succ] at hB3
    have hB4 := hP12.keep hB4 (by omega)
    have hO := hO.mod (hP12.mod 0 (Nat.zero_le _)) (Nat.zero_le _) (by simp [kOb])
    have hDs := hDs.mod (hP12.mod 0 (Nat.zero_le _)) (Nat.zero_le _) trivial
    refine r_nil ?_
    refine t_n ?_
    refine c_ret ?_
    first
      | (exact end2ccM [D] rfl un26 un28 rfl rfl hB2 hB3 rfl hDs fun wz hLz => ⟨⟨_, _, _, by rw [hp], by rw [hp]; exact Own.nil _ _ _ _ _⟩, hX.lp hLz (Nat.le_refl _)⟩)
      | (exact end2ccM [D] rfl un26 un28 rfl rfl hB2 hB3 rfl hDs fun wz hLz => ⟨⟨_, _, _, by rw [hp], by rw [hp]; exact (hO.lower (by omega)).lp hLz (Nat.zero_le _)⟩, hX.lp hLz (Nat.le_refl _)⟩)
  · rintro D c pre w5 hsz hSp ⟨rfl, hX, hB2, hB3, hnone⟩ hDf
    have hDs : Dfs w.heap.size w5 [D] := (Dfs.nil _ _).cons hDf (Nat.le_trans hXr hsz) (by simp)
    have hp : getF xs = ([], 4) := by unfold getF; rw [hnone]
    refine c_ret ?_
    refine b_r ?_
    refine t_r ?_
    first
      | (exact end2ccM [D] rfl un26 un28 rfl rfl hB2 hB3 rfl hDs fun wz hLz => ⟨⟨_, _, _, by rw [hp], by rw [hp]; exact Own.nil _ _ _ _ _⟩, hX.lp hLz (Nat.le_refl _)⟩)
      | (exact end2ccM [D] rfl un26 un28 rfl rfl hB2 hB3 rfl hDs fun wz hLz => ⟨⟨_, _, _, by rw [hp], by rw [hp]; exact (hO.lower (by omega)).lp hLz (Nat.zero_le _)⟩, hX.lp hLz (Nat.le_refl _)⟩)
end Go.Proofs.Eng
end
section
set_option linter.unusedVariables false
set_option linter.unusedSimpArgs false
set_option maxRecDepth 100000
set_option maxHeartbeats 4000000
namespace Go.Proofs.Eng
open Go.RowKit
open Extern.Stop (cell)
theorem fb21 : Tryd.f21.body.isNone = false := by kernel_rfl
theorem fb22 : Tryd.f22.body.isNone = false := by kernel_rfl
theorem fb23 : Tryd.f23.body.isNone = false := by kernel_rfl
theorem fb8 : Tryd.f8.body.isNone = false := by kernel_rfl
theorem fn21 : (Tryd.f21.name == "runtime.NumGoroutine") = false := by kernel_rfl
theorem fn22 : (Tryd.f22.name == "runtime.NumGoroutine") = false := by kernel_rfl
theorem fn23 : (Tryd.f23.name == "runtime.NumGoroutine") = false := by kernel_rfl
theorem fn8 : (Tryd.f8.name == "runtime.NumGoroutine") = false := by kernel_rfl
end Go.Proofs.Eng
end
