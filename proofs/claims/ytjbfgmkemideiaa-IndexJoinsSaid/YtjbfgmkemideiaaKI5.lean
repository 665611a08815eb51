import Derived.Test.YtjbfgmkemideiaaKI4
import Derived.Deep.Upon
/- Merged: D8 T10 D9 T11 DA F6 DB T12 DC -/
section
set_option linter.unusedVariables false
set_option linter.unusedSimpArgs false
set_option maxRecDepth 100000
set_option maxHeartbeats 4000000
namespace Go.Proofs.Eng
open Go.RowKit
open Extern.Stop (cell)
/-- So many blocks there are at least. -/
structure Lw (B : Nat) (w : World) : Prop where
  le : B ≤ w.heap.size
theorem Lw.ext {B : Nat} {w w' : World} (h : Lw B w) (x : Ext w w') : Lw B w' := ⟨Nat.le_trans h.le x.size⟩
theorem Lw.mod {B B' : Nat} {t : TypeId} {w w' : World} (h : Lw B w) (x : Mod B' t w w') (_ : True) : Lw B w' := ⟨Nat.le_trans h.le x.size⟩
theorem Lw.mod2 {B B' : Nat} {E : List TypeId} {w w' : World} (h : Lw B w) (x : Mod2 B' E w w') (_ : True) : Lw B w' := ⟨Nat.le_trans h.le x.size⟩
theorem Lw.put {B g : Nat} {t : TypeId} {cs : Array Value} {w w' : World} (h : Lw B w) (x : Put w w' g cs t) : Lw B w' := ⟨by rw [x.size]; exact h.le⟩
theorem Own.inS {α : Type} {d : Kind α} {e : TypeId} {B B0 : Nat} {w : World} {p : Option Addr} {n c : Nat} {xs : List α} (h : Own d e B B0 w p n c xs) (hn : 0 < n) : B0 ≤ ab p ∧ ab p < w.heap.size := by
  obtain ⟨g, cur, css, rfl, h2, h3, _⟩ := h.block hn
  exact ⟨h2, h3.lt⟩
theorem Sl.now' {α : Type} {sz : Nat} {enc : α → List Value} {hl : ∀ x, (enc x).length = sz} {h1 : ∀ x, ∀ v ∈ enc x, v.oneCell' = true} {e : TypeId} {B : Nat} {w : World} {p : Option Addr} {n c : Nat} {xs : List α} (h : Sl (Kind.pure sz enc hl h1) e B w p n c xs) : Sl (Kind.pure sz enc hl h1) e w.heap.size w p n c xs := by
  exact ⟨h.len, h.cap, h.fit, xs.map enc, pure_all _ w xs, ⟨h.pureRow.row, fun hne => .inl (h.pureRow.row.lt hne)⟩⟩
theorem getI_no1 {xs : List UInt8} (h : xs.length = 0 ∨ ((xs.getD 0 0).toNat : Int) ≠ 1) : getI xs = ([], 4) := by
  have : pI xs = none := by
    unfold pI
    rw [if_neg]
    cases xs with
    | nil => simp
    | cons x xs =>
      rcases h with h | h
      · simp at h
      · intro e
        simp at e
        subst e
        exact h rfl
  unfold getI; rw [this]
theorem pI_go {xs : List UInt8} (h0 : xs.length ≠ 0) (h1 : ((xs.getD 0 0).toNat : Int) = 1) : pI xs = (pNum 64 (xs.drop 1)).bind fun n => cN n.1 [] n.2 := by
  rw [List.drop_one]
  refine pI_eq xs ?_
  cases xs with
  | nil => exact absurd rfl h0
  | cons x xs =>
    have h3 : (x.toNat : Int) = 1 := by simpa using h1
    have h2 : x.toNat = 1 := by omega
    have : x = 1 := UInt8.toNat_inj.1 h2
    rw [this]; rfl
theorem getI_bad {xs : List UInt8} (h : pI xs = none) : getI xs = ([], 4) := by unfold getI; rw [h]
theorem getI_ne {xs : List UInt8} {L : List Rec} (h : pI xs = some L) (hp : putI L ≠ (xs, 0)) : getI xs = ([], 4) := by unfold getI; rw [h]; dsimp only; rw [if_neg hp]
theorem getI_eq {xs : List UInt8} {L : List Rec} (h : pI xs = some L) (hp : putI L = (xs, 0)) : getI xs = (L, 0) := by unfold getI; rw [h]; dsimp only; rw [if_pos hp]
theorem pNum_le {mo : Nat} {R : List UInt8} {x : Nat × List UInt8} (h : pNum mo R = some x) : x.1 ≤ mo := by
  unfold pNum at h
  split at h
  · rename_i h1; injection h with h; rw [← h]; exact h1.2
  · cases h
section
variable {xs R R1 R2 R3 R4 R5 R6 : List UInt8} {L : List Rec} {s s2 : ByteArray} {brs : List Br} {hs : List Hash} {j k N : Nat} {b0 b1 b2 b3 b4 b5 b6 : Prop}
theorem step_0 (hb : ¬ b0) (hC : pI xs = (pNum 64 R).bind fun n => cN n.1 [] n.2) (h : Took (pNum 64 R) b0 b1 N R R1) : (b1 → pI xs = none) ∧ (¬ b1 → pI xs = cN N [] R1 ∧ N ≤ 64) := by
  rcases h.2.2 hb with ⟨h1, h2⟩ | ⟨h1, h2⟩
  · rw [hC, h2]; exact ⟨fun h => absurd h h1, fun _ => ⟨rfl, pNum_le h2⟩⟩
  · rw [hC, h2]; exact ⟨fun _ => rfl, fun h => absurd h1 h⟩
theorem step_rec (hb : ¬ b0) (hC : pI xs = cN (j + 1) L R) (h : Took (pTxt R) b0 b1 s R R1) (h' : Took (pNum 64 R1) b1 b2 N R1 R2) : (b2 → pI xs = none) ∧ (¬ b2 → pI xs = cB j L s N [] R2 ∧ N ≤ 64) := by
  rw [cN_succ] at hC
  rcases h.2.2 hb with ⟨h1, h2⟩ | ⟨h1, h2⟩
  · rw [hC, h2]
    rcases h'.2.2 h1 with ⟨h3, h4⟩ | ⟨h3, h4⟩
    · simp only [Option.bind_some, h4]; exact ⟨fun h => absurd h h3, fun _ => ⟨by trivial, pNum_le h4⟩⟩
    · simp only [Option.bind_some, h4]; exact ⟨fun _ => by trivial, fun h => absurd h3 h⟩
  · rw [hC, h2]; exact ⟨fun _ => rfl, fun h => absurd (h'.2.1 h1) h⟩
theorem step_br (hb : ¬ b3) (hC : pI xs = cB j L s (k + 1) brs R3) (h : Took (pTxt R3) b3 b4 s2 R3 R4) (h' : Took (pHs 16 R4) b4 b5 hs R4 R5) : (b5 → pI xs = none) ∧ (¬ b5 → pI xs = cB j L s k (brs ++ [(s2, hs)]) R5) := by
  rw [cB_succ] at hC
  rcases h.2.2 hb with ⟨h1, h2⟩ | ⟨h1, h2⟩
  · rw [hC, h2]
    rcases h'.2.2 h1 with ⟨h3, h4⟩ | ⟨h3, h4⟩
    · simp only [Option.bind_some, h4]; exact ⟨fun h => absurd h h3, fun _ => by trivial⟩
    · simp only [Option.bind_some, h4]; exact ⟨fun _ => by trivial, fun h => absurd h3 h⟩
  · rw [hC, h2]; exact ⟨fun _ => rfl, fun h => absurd (h'.2.1 h1) h⟩
theorem step_end (hC : (b3 → pI xs = none) ∧ (¬ b3 → pI xs = cB j L s 0 brs R3)) (h : Took (pHs 4096 R3) b3 b6 hs R3 R6) : (b6 → pI xs = none) ∧ (¬ b6 → pI xs = cN j (L ++ [(s, brs, hs)]) R6) := by
  by_cases hb : b3
  · exact ⟨fun _ => hC.1 hb, fun h6 => absurd (h.2.1 hb) h6⟩
  · have e := hC.2 hb
    rw [cB_0] at e
    unfold cC at e
    rcases h.2.2 hb with ⟨h3, h4⟩ | ⟨h3, h4⟩
    · rw [e, h4]; exact ⟨fun h => absurd h h3, fun _ => rfl⟩
    · rw [e, h4]; exact ⟨fun _ => rfl, fun h => absurd h3 h⟩
end
theorem index_Get (xs : List UInt8) (B : Nat) (p : Option Addr) (n c : Nat) (w : World) (hl0 : Sl kByte 5 B w p n c xs) (hs : n ≤ 140737490000000) :
    Ret Try.prog 21 [.slice p n c] w (fun v w' => (∃ q m c', v = .tuple #[.slice q m c', .int .i64 (getI xs).2] ∧ Own (kRec (from' w.heap.size w')) 33 0 w.heap.size w' q m c' (getI xs).1) ∧ Ext w w') := by
  have hX := Ext.refl w
  refine enter 89 _ Try.func21 rfl rfl (Nat.le_of_ble_eq_true rfl) ?_
  refine c_seq ?_
  refine r_plain ?_
  refine p1 (x_assign (by conv => lhs; whnf)) ?_
  refine p1 (x_assign (by conv => lhs; whnf)) ?_
  refine r_nil ?_
  refine t_n ?_
  refine c_seq ?_
  refine c_seq ?_
  have hl := hl0.now'
  have hlen := hl.len
  have hcap := hl.cap
  have hfit := hl.fit
  refine r_plain ?_
  refine p1 (x_move (by conv => lhs; whnf)) ?_
  refine p1 (x_len_slice u22 rfl) ?_
  refine p1 (x_eql rfl rfl) ?_
  refine p1b (x_move (by conv => lhs; whnf)) (fun hb1_3 => ?_) (fun hb1_3 => ?_)
  · try simp only [decide_eq_true_eq, decide_eq_false_iff_not, Bool.not_eq_true, Bool.not_eq_false, Bool.not_eq_eq_eq_not, Bool.not_true, Bool.not_false, Int.not_lt, Int.not_le] at hb1_3
    refine g0 19 rfl (by first | exact .inl rfl | exact .inr rfl) ?_
    refine g0 19 rfl (by first | exact .inl rfl | exact .inr rfl) ?_
    refine g0 19 rfl (by first | exact .inl rfl | exact .inr rfl) ?_
    refine g0 19 rfl (by first | exact .inl rfl | exact .inr rfl) ?_
    refine p1 (x_pick_t rfl (by conv => lhs; whnf)) ?_
    refine r_nil ?_
    refine t_n ?_
    refine c_t rfl ?_
    have hp : getI xs = ([], 4) := getI_no1 (by first | (left; omega) | (right; exact hc24))
    refine c_seq ?_
    refine r_plain ?_
    refine p1 (x_assign (by conv => lhs; whnf)) ?_
    refine p1 (x_assign (by conv => lhs; whnf)) ?_
    refine r_nil ?_
    refine t_n ?_
    refine c_ret ?_
    refine t_r ?_
    refine end2 rfl (by conv => lhs; whnf) (by conv => lhs; whnf) ?_
    first | exact ⟨⟨none, 0, 0, by rw [hp], by rw [hp]; exact Own.nil _ _ _ _ _⟩, hX⟩ | exact ⟨⟨_, _, _, by rw [hp], by rw [hp]; exact hO.recMono (fun j hj h => ⟨h.1, hj⟩)⟩, hX⟩
  · try simp only [decide_eq_true_eq, decide_eq_false_iff_not, Bool.not_eq_true, Bool.not_eq_false, Bool.not_eq_eq_eq_not, Bool.not_true, Bool.not_false, Int.not_lt, Int.not_le] at hb1_3
    refine g1 19 rfl rfl (x_move (by conv => lhs; whnf)) ?_
    refine g1 19 rfl rfl (x_ixs u22 sz5 rfl rfl ((hl.ext hX).adr kByte_pos (by omega)) (by omega) (by omega)) ?_
    refine g1 19 rfl rfl (x_load1 un5 rfl ((hl.ext hX).byteAtI _ (by omega) (by omega))) ?_
    refine g1 19 rfl rfl (x_neq rfl rfl) ?_
    refine p1 (x_pick_f rfl (by conv => lhs; whnf)) ?_
    refine r_nil ?_
    refine t_n ?_
    first | refine c_dec rfl (fun hc24 => ?_) (fun hc24 => ?_) | refine c_if rfl (fun hc24 => ?_) (fun hc24 => ?_)
    · try simp only [decide_eq_true_eq, decide_eq_false_iff_not, Bool.not_eq_true, Bool.not_eq_false, Bool.not_eq_eq_eq_not, Bool.not_true, Bool.not_false, Int.not_lt, Int.not_le] at hc24
      have hp : getI xs = ([], 4) := getI_no1 (by first | (left; omega) | (right; exact hc24))
      refine c_seq ?_
      refine r_plain ?_
      refine p1 (x_assign (by conv => lhs; whnf)) ?_
      refine p1 (x_assign (by conv => lhs; whnf)) ?_
      refine r_nil ?_
      refine t_n ?_
      refine c_ret ?_
      refine t_r ?_
      refine end2 rfl (by conv => lhs; whnf) (by conv => lhs; whnf) ?_
      first | exact ⟨⟨none, 0, 0, by rw [hp], by rw [hp]; exact Own.nil _ _ _ _ _⟩, hX⟩ | exact ⟨⟨_, _, _, by rw [hp], by rw [hp]; exact hO.recMono (fun j hj h => ⟨h.1, hj⟩)⟩, hX⟩
    · try simp only [decide_eq_true_eq, decide_eq_false_iff_not, Bool.not_eq_true, Bool.not_eq_false, Bool.not_eq_eq_eq_not, Bool.not_true, Bool.not_false, Int.not_lt, Int.not_le] at hc24
      have hpi := pI_go (xs := xs) (by omega) (Classical.byContradiction hc24)
      refine c_skip ?_
      refine t_n ?_
      refine c_seq ?_
      refine r_plain ?_
      refine p1 (x_move (by conv => lhs; whnf)) ?_
      refine p1 (x_slice_lN u22 sz5 rfl (m := 1) rfl (by omega)) ?_
      have hXs4 := hX.size
      refine o_alloc zr22 ?_
      intro w1 g4 hN4
      have hE1 := hN4.ext
      have hX := hX.ext hE1
      have hB4 := hN4.blk
      have hXs5 := hX.size
      refine o_alloc zr4 ?_
      intro w2 g5 hN5
      have hE2 := hN5.ext
      have hX := hX.ext hE2
      have hB4 := hB4.ext hE2
      have hB5 := hN5.blk
      refine o_store1 rfl (by conv => lhs; whnf) rfl rfl sz22 hB4 (Nat.zero_lt_one) ?_
      intro w3 hP3
      have hX := hX.put hP3 (by rw [hN4.g_eq]; exact hXs4)
      have hB4 := hP3.blk
      try simp only [List.setIfInBounds_toArray, List.set_cons_zero, List.set_cons_succ] at hB4
      have hB5 := hB5.mod (hP3.mod 0 (Nat.zero_le _)) (by decide)
      have hB4 : Blk w3 g4 #[_] 22 := hB4
      refine o_store1 rfl (by conv => lhs; whnf) rfl rfl sz4 hB5 (Nat.zero_lt_one) ?_
      intro w4 hP4
      have hX := hX.put hP4 (by rw [hN5.g_eq]; exact hXs5)
      have hB5 := hP4.blk
      try simp only [List.setIfInBounds_toArray, List.set_cons_zero, List.set_cons_succ] at hB5
      have hB5 : Blk w4 g5 #[_] 4 := hB5
      have hB4 := hB4.mod (hP4.mod 0 (Nat.zero_le _)) (by decide)
      have hg4 : w.heap.size ≤ g4 := by rw [hN4.g_eq]; exact hXs4
      have hg5 : w.heap.size ≤ g5 := by rw [hN5.g_eq]; exact hXs5
      have hG : GS w.heap.size w4 g4 g5 (xs.drop 1) false := ⟨⟨_, _, _, hB4, (hl.ext hX).dropI 1 (by omega)⟩, hB5⟩
      have hRl : (xs.drop 1).length ≤ 140737490000000 := by rw [List.length_drop]; omega
      refine r_nil ?_
      refine t_n ?_
      refine c_seq ?_
      refine r_plain ?_
      refine p1 (x_makeFunc (fs := []) (cs := [.pointer (some ⟨g5, 0, none⟩), .pointer (some ⟨g4, 0, none⟩)]) rfl rfl) ?_
      have hXs6 := hX.size
      refine o_alloc zr94 ?_
      intro w5 g6 hN6
      have hE5 := hN6.ext
      have hX := hX.ext hE5
      have hG := hG.ext hE5
      have hB6 := hN6.blk
      refine o_store1 rfl (by conv => lhs; whnf) rfl rfl sz94 hB6 (Nat.zero_lt_one) ?_
      intro w6 hP6
      have hX := hX.put hP6 (by rw [hN6.g_eq]; exact hXs6)
      have hG := hG.mod (hP6.mod w.heap.size (by rw [hN6.g_eq]; exact hXs6)) (Nat.le_refl _) (by decide)
      have hB6 := hP6.blk
      try simp only [List.setIfInBounds_toArray, List.set_cons_zero, List.set_cons_succ] at hB6
      have hB6 : Blk w6 g6 #[_] 94 := hB6
      refine r_nil ?_
      refine t_n ?_
      refine c_seq ?_
      refine r_plain ?_
      refine p1 (x_makeFunc (fs := []) (cs := [.pointer (some ⟨g4, 0, none⟩), .pointer (some ⟨g6, 0, none⟩), .pointer (some ⟨g5, 0, none⟩)]) rfl rfl) ?_
      refine p1 (x_assign (by conv => lhs; whnf)) ?_
      refine r_nil ?_
      refine t_n ?_
      refine c_seq ?_
      refine r_plain ?_
      refine p1 (x_makeFunc (fs := []) (cs := [.pointer (some ⟨g4, 0, none⟩), .pointer (some ⟨g6, 0, none⟩)]) rfl rfl) ?_
      refine p1 (x_assign (by conv => lhs; whnf)) ?_
      refine r_nil ?_
      refine t_n ?_
      refine c_seq ?_
      refine r_plain ?_
      refine p1 (x_makeFunc (fs := []) (cs := [.pointer (some ⟨g4, 0, none⟩), .pointer (some ⟨g6, 0, none⟩)]) rfl rfl) ?_
      refine p1 (x_assign (by conv => lhs; whnf)) ?_
      refine r_nil ?_
      refine t_n ?_
      refine c_seq ?_
      refine r_plain ?_
      refine p1 (x_assign (by conv => lhs; whnf)) ?_
      refine r_nil ?_
      refine t_n ?_
      refine c_seq ?_
      refine c_seq ?_
      refine r_plain ?_
      refine p1 (x_move (by conv => lhs; whnf)) ?_
      refine o_callv (fs := []) (cs := [.pointer (some ⟨g4, 0, none⟩), .pointer (some ⟨g6, 0, none⟩), .pointer (some ⟨g5, 0, none⟩)]) rfl Try.func73 fn73 fb73 rfl rfl (index_number w.heap.size g4 g5 g6 (xs.drop 1) false _ hG hg4 hg5 hRl hB6 64 (by omega)) ?_
      rintro v7 w7 ⟨⟨N, R1, b1, rfl, hG, hNlt, hT0⟩, hM7⟩
      have hX := hX.mod2 hM7 (Nat.le_refl _)
      have hB6 := hB6.mod2 hM7 (by decide)
      refine p1 (x_assign (by conv => lhs; whnf)) ?_
      refine r_nil ?_
      refine t_n ?_
      refine c_block ?_
      have hS0 := step_0 (by simp) hpi hT0
      have hR1 := hT0.1
      refine c_loop (ι := Nat × Option Addr × Nat × Nat × List Rec × List UInt8 × Bool) [10, 11, 12, 13, 33, 34, 35, 36, 37, 38, 39, 40, 41, 42, 43, 44, 45, 46, 47, 48, 49, 50, 51, 52, 53, 54, 55, 56, 57, 58, 59, 60, 61, 62, 63, 64, 65, 66, 67, 68, 69, 70] (fun (j, q, m, c1, L, R, bd) => [(10, .slice q m c1), (11, .int .u64 (j : Int))]) (fun (j, q, m, c1, L, R, bd) w' => Ext w w' ∧ (Own (kRec (from' w.heap.size w')) 33 0 w.heap.size w' q m c1 L ∧ GS w.heap.size w' g4 g5 R bd ∧ Blk w' g6 #[.func (.func 72) #[] #[.pointer (some ⟨g5, 0, none⟩), .pointer (some ⟨g4, 0, none⟩)]] 94 ∧ R.length ≤ 140737490000000 ∧ j < 18446744073709551616 ∧ m ≤ 64 ∧ (bd = true → pI xs = none) ∧ (¬ bd = true → pI xs = cN j L R ∧ m + j ≤ 64) ∧ (∀ x ∈ L, x.1.size ≤ 9223372036854775807 ∧ ∀ y ∈ x.2.1, y.1.size ≤ 9223372036854775807))) (fun (j, q, m, c1, L, R, bd) => j) ((N, none, 0, 0, [], R1, b1)) ⟨rfl, rfl, trivial⟩ ⟨hX, ⟨Own.nil _ _ _ _ _, hG, hB6, by omega, by omega, by omega, hS0.1, fun h => ⟨(hS0.2 h).1, by have := (hS0.2 h).2; omega⟩, by simp⟩⟩ ?_
      rintro ⟨j, q, m, c1, L, R, bd⟩ GL0 w8 ⟨hE8, hO, hG, hB6, hRl, hj, hm, hI1, hI2, hnm⟩
      have hX := hE8
      refine c_seq ?_
      refine c_seq ?_
      obtain ⟨⟨qr, mr, cr, hB4, hlr⟩, hB5⟩ := id hG
      refine r_plain ?_
      refine p1 (x_move (by conv => lhs; whnf)) ?_
      refine p1 (x_gtr rfl rfl) ?_
      refine p1b (x_move (by conv => lhs; whnf)) (fun hb10_2 => ?_) (fun hb10_2 => ?_)
      · try simp only [decide_eq_true_eq, decide_eq_false_iff_not, Bool.not_eq_true, Bool.not_eq_false, Bool.not_eq_eq_eq_not, Bool.not_true, Bool.not_false, Int.not_lt, Int.not_le] at hb10_2
        refine g1 35 rfl rfl (x_load1 un4 rfl (hB5.cell rfl)) ?_
        first | refine g1 35 rfl rfl (x_notd rfl) ?_ | refine g1 35 rfl rfl (x_not rfl) ?_
        refine p1 (x_pick_t rfl (by conv => lhs; whnf)) ?_
        refine r_nil ?_
        refine t_n ?_
        first | refine c_dec rfl (fun hc38 => ?_) (fun hc38 => ?_) | refine c_if rfl (fun hc38 => ?_) (fun hc38 => ?_)
        · try simp only [decide_eq_true_eq, decide_eq_false_iff_not, Bool.not_eq_true, Bool.not_eq_false, Bool.not_eq_eq_eq_not, Bool.not_true, Bool.not_false, Int.not_lt, Int.not_le] at hc38
          obtain ⟨j, rfl⟩ : ∃ i, j = i + 1 := ⟨j - 1, by omega⟩
          have hbd : ¬ bd = true := by rw [hc38]; simp
          obtain ⟨hI3, hI4⟩ := hI2 hbd
          refine c_skip ?_
          refine t_n ?_
          refine c_seq ?_
          refine c_block ?_
          refine c_seq ?_
          refine r_plain ?_
          obtain ⟨Bi, hBi⟩ : ∃ x, x = w8.heap.size := ⟨_, rfl⟩
          have hwBi : w.heap.size ≤ Bi := by rw [hBi]; exact hX.size
          have hO := hO.recMono (S' := (fun j => w.heap.size ≤ j ∧ j < Bi)) (fun j _ h => ⟨h.1, by rw [hBi]; exact h.2⟩)
          have hOb : q = none ∨ ab q < Bi := by rw [hBi]; exact hO.below
          refine p1 (x_move (by conv => lhs; whnf)) ?_
          refine o_callv (fs := []) (cs := [.pointer (some ⟨g4, 0, none⟩), .pointer (some ⟨g6, 0, none⟩)]) rfl Try.func75 fn75 fb75 rfl rfl (index_name w.heap.size g4 g5 g6 R bd _ hG hg4 hg5 hRl hB6) ?_
          rintro v9 w9 ⟨⟨s1, R1, b1, rfl, hG, hsz1, hT1⟩, hM9⟩
          have hX := hX.mod2 hM9 (Nat.le_refl _)
          have hO := hO.mod2 hM9 (Nat.zero_le _) (by simp [kRec])
          have hB6 := hB6.mod2 hM9 (by decide)
          have hWs : Lw Bi w9 := ⟨by rw [hBi]; exact hM9.size⟩
          have hR1 := hT1.1
          refine p1 (x_build1of3 pl33 (by conv => lhs; whnf) rfl) ?_
          have hWa := hWs.le
          refine o_alloc zr33 ?_
          intro w10 g12 hN12
          have hE10 := hN12.ext
          have hX := hX.ext hE10
          have hO := hO.ext hE10
          have hB6 := hB6.ext hE10
          have hG := hG.ext hE10
          have hWs := hWs.ext hE10
          have hB12 := hN12.blk
          have hg12 : Bi ≤ g12 := by rw [hN12.g_eq]; exact hWa
          refine o_storeAll rfl (by conv => lhs; whnf) (by simp [Value.oneCell']) (by exact sz33) hB12 (by rfl) ?_
          intro w11 hP11
          have hX := hX.put hP11 (Nat.le_trans hwBi hg12)
          have hO := hO.modB (hP11.mod Bi hg12) (Nat.zero_le _) (by simp [kRec]) hOb
          have hB6 := hB6.mod (hP11.mod 0 (Nat.zero_le _)) (by decide)
          have hG := hG.mod (hP11.mod w.heap.size (Nat.le_trans hwBi hg12)) (Nat.le_refl _) (by decide)
          have hWs := hWs.put hP11
          have hB12 := hP11.blk
          refine r_nil ?_
          refine t_n ?_
          refine c_seq ?_
          refine c_seq ?_
          refine r_plain ?_
          refine p1 (x_move (by conv => lhs; whnf)) ?_
          refine o_callv (fs := []) (cs := [.pointer (some ⟨g4, 0, none⟩), .pointer (some ⟨g6, 0, none⟩), .pointer (some ⟨g5, 0, none⟩)]) rfl Try.func73 fn73 fb73 rfl rfl (index_number w.heap.size g4 g5 g6 R1 b1 _ hG hg4 hg5 (by omega) hB6 64 (by omega)) ?_
          rintro v12 w12 ⟨⟨N2, R2, b2, rfl, hG, hN2lt, hT2⟩, hM12⟩
          have hX := hX.mod2 hM12 (Nat.le_refl _)
          have hO := hO.mod2 hM12 (Nat.zero_le _) (by simp [kRec])
          have hB6 := hB6.mod2 hM12 (by decide)
          have hWs := hWs.mod2 hM12 (by first | exact Nat.le_refl _ | exact trivial | omega)
          have hB12 := hB12.mod2 hM12 (by decide)
          refine p1 (x_assign (by conv => lhs; whnf)) ?_
          refine r_nil ?_
          refine t_n ?_
          refine c_block ?_
          have hS1 := step_rec hbd hI3 hT1 hT2
          have hR2 := hT2.1
          refine c_loop (ι := Nat × Option Addr × Nat × Nat × List Br × List UInt8 × Bool) [13, 46, 47, 48, 49, 50, 51, 52, 53, 54, 55, 56, 57, 58, 59, 60, 61, 62, 63] (fun (k, qb, mb, cb, brs, R3, b3) => [(13, .int .u64 (k : Int))]) (fun (k, qb, mb, cb, brs, R3, b3) w' => Ext w w' ∧ (Own (kRec (fun j => w.heap.size ≤ j ∧ j < Bi)) 33 0 w.heap.size w' q m c1 L ∧ GS w.heap.size w' g4 g5 R3 b3 ∧ Blk w' g6 #[.func (.func 72) #[] #[.pointer (some ⟨g5, 0, none⟩), .pointer (some ⟨g4, 0, none⟩)]] 94 ∧ Blk w' g12 #[.string s1, .slice qb mb cb, .slice none 0 0] 33 ∧ Own (kBr (fun j => w.heap.size ≤ j)) 81 0 Bi w' qb mb cb brs ∧ Lw Bi w' ∧ R3.length ≤ 140737490000000 ∧ k < 18446744073709551616 ∧ mb ≤ 64 ∧ (b3 = true → pI xs = none) ∧ (¬ b3 = true → pI xs = cB j L s1 k brs R3 ∧ mb + k ≤ 64) ∧ (∀ y ∈ brs, y.1.size ≤ 9223372036854775807))) (fun (k, qb, mb, cb, brs, R3, b3) => k) ((N2, none, 0, 0, [], R2, b2)) ⟨rfl, trivial⟩ ⟨hX, ⟨hO, hG, hB6, hB12, Own.nil _ _ _ _ _, hWs, by omega, by omega, by omega, hS1.1, fun h => ⟨(hS1.2 h).1, by have := (hS1.2 h).2; omega⟩, by simp⟩⟩ ?_
          rintro ⟨k, qb, mb, cb, brs, R3, b3⟩ GL2 w13 ⟨hE13, hO, hG, hB6, hB12, hQ, hWs, hRl3, hk, hmb, hJ1, hJ2, hnb⟩
          have hX := hE13
          refine c_seq ?_
          refine c_seq ?_
          obtain ⟨⟨qr, mr, cr, hB4, hlr⟩, hB5⟩ := id hG
          refine r_plain ?_
          refine p1 (x_move (by conv => lhs; whnf)) ?_
          refine p1 (x_gtr rfl rfl) ?_
          refine p1b (x_move (by conv => lhs; whnf)) (fun hb14_2 => ?_) (fun hb14_2 => ?_)
          · try simp only [decide_eq_true_eq, decide_eq_false_iff_not, Bool.not_eq_true, Bool.not_eq_false, Bool.not_eq_eq_eq_not, Bool.not_true, Bool.not_false, Int.not_lt, Int.not_le] at hb14_2
            refine g1 48 rfl rfl (x_load1 un4 rfl (hB5.cell rfl)) ?_
            first | refine g1 48 rfl rfl (x_notd rfl) ?_ | refine g1 48 rfl rfl (x_not rfl) ?_
            refine p1 (x_pick_t rfl (by conv => lhs; whnf)) ?_
            refine r_nil ?_
            refine t_n ?_
            first | refine c_dec rfl (fun hc51 => ?_) (fun hc51 => ?_) | refine c_if rfl (fun hc51 => ?_) (fun hc51 => ?_)
            · try simp only [decide_eq_true_eq, decide_eq_false_iff_not, Bool.not_eq_true, Bool.not_eq_false, Bool.not_eq_eq_eq_not, Bool.not_true, Bool.not_false, Int.not_lt, Int.not_le] at hc51
              obtain ⟨k, rfl⟩ : ∃ i, k = i + 1 := ⟨k - 1, by omega⟩
              have hb3 : ¬ b3 = true := by rw [hc51]; simp
              obtain ⟨hJ3, hJ4⟩ := hJ2 hb3
              refine c_skip ?_
              refine t_n ?_
              refine c_seq ?_
              refine c_block ?_
              refine r_held (fun _ w2 => Ext w w2) mixed ?_
              intro w14 hE14
              have hX := hX.ext hE14
              have hO := hO.ext hE14
              have hG := hG.ext hE14
              have hB6 := hB6.ext hE14
              have hB12 := hB12.ext hE14
              have hQ := hQ.ext hE14
              have hWs := hWs.ext hE14
              have hSr16 : (fun _ w2 => Ext w w2) w14 w14 := hX
              refine h_take 0 rfl (by kernel_rfl) (by kernel_rfl) (by kernel_rfl) hSr16 (fun wS hSS => by ( exact (x_fieldAddr fo33_1 sz30 rfl))) ?_
              refine h_take 2 rfl (by kernel_rfl) (by kernel_rfl) (by kernel_rfl) hSr16 (fun wS hSS => by ( exact (x_move (by conv => lhs; whnf)))) ?_
              refine h_take 4 rfl (by kernel_rfl) (by kernel_rfl) (by kernel_rfl) hSr16 (fun wS hSS => by ( exact (x_move (by conv => lhs; whnf)))) ?_
              refine h_two 1 3 _ _ rfl rfl (by kernel_rfl) (hop_of_list (fun Q1 hQ1 => ?_)) (hop_of_list (fun Q3 hQ3 => ?_))
              · skip
                refine p1 (x_load1 un30 rfl (hB12.cell rfl)) ?_
                refine hop_end hQ1 ⟨hSr16, ?_⟩
                refine h_one 3 _ rfl (by kernel_rfl) (hop_of_list (fun Q3 hQ3 => ?_))
                refine o_callv (fs := []) (cs := [.pointer (some ⟨g4, 0, none⟩), .pointer (some ⟨g6, 0, none⟩)]) rfl Try.func75 fn75 fb75 rfl rfl (index_name w.heap.size g4 g5 g6 R3 b3 _ hG hg4 hg5 hRl3 hB6) ?_
                rintro v15 w15 ⟨⟨s2, R4, b4, rfl, hG, hsz2, hT4⟩, hM15⟩
                have hX := hX.mod2 hM15 (Nat.le_refl _)
                have hO := hO.mod2 hM15 (Nat.zero_le _) (by simp [kRec])
                have hB6 := hB6.mod2 hM15 (by decide)
                have hB12 := hB12.mod2 hM15 (by decide)
                have hQ := hQ.mod2 hM15 (Nat.zero_le _) (by simp [kBr])
                have hWs := hWs.mod2 hM15 (by first | exact Nat.le_refl _ | exact trivial | omega)
                have hSr16 := hSr16.mod2 hM15 (by first | exact Nat.le_refl _ | exact trivial | omega)
                have hR4 := hT4.1
                refine hop_end hQ3 ⟨hSr16, ?_⟩
                refine h_one 5 _ rfl (by kernel_rfl) (hop_of_list (fun Q5 hQ5 => ?_))
                have hXs16 := hX.size
                refine o_callv (fs := []) (cs := [.pointer (some ⟨g4, 0, none⟩), .pointer (some ⟨g6, 0, none⟩)]) rfl Try.func77 fn77 fb77 rfl rfl (index_list w.heap.size g4 g5 g6 R4 b4 _ hG hg4 hg5 (by omega) hB6 16 (by omega)) ?_
                rintro v16 w16 ⟨⟨qh, mh, ch, hs1, R5, b5, rfl, hH0, hG, hT5⟩, hM16⟩
                have hX := hX.mod2 hM16 (Nat.le_refl _)
                have hO := hO.mod2 hM16 (Nat.zero_le _) (by simp [kRec])
                have hB6 := hB6.mod2 hM16 (by decide)
                have hB12 := hB12.mod2 hM16 (by decide)
                have hQ := hQ.mod2 hM16 (Nat.zero_le _) (by simp [kBr])
                have hWs := hWs.mod2 hM16 (by first | exact Nat.le_refl _ | exact trivial | omega)
                have hSr16 := hSr16.mod2 hM16 (by first | exact Nat.le_refl _ | exact trivial | omega)
                have hH := (SlS.ofHash hH0).mono (S' := (fun j => w.heap.size ≤ j)) (fun j _ h => Nat.le_trans hXs16 h)
                have hR5 := hT5.1
                refine hop_end hQ5 ⟨hSr16, ?_⟩
                refine h_take 6 rfl (by kernel_rfl) (by kernel_rfl) (by kernel_rfl) hSr16 (fun wS hSS => by ( exact (x_build2 pl81 (by conv => lhs; whnf) (by conv => lhs; whnf) rfl rfl))) ?_
                refine h_one 7 _ rfl (by kernel_rfl) (hop_of_list (fun Q7 hQ7 => ?_))
                refine o_buildSlice u30 inf81 rfl (by decide) (fun base hb => fill_one (by rfl) base hb) ?_
                intro w17 g61 hN61
                have hE17 := hN61.ext
                have hX := hX.ext hE17
                have hO := hO.ext hE17
                have hB6 := hB6.ext hE17
                have hB12 := hB12.ext hE17
                have hQ := hQ.ext hE17
                have hWs := hWs.ext hE17
                have hSr16 := hSr16.ext hE17
                have hG := hG.ext hE17
                have hH := hH.ext hE17
                have hJ : Own (kBr (fun j => w.heap.size ≤ j)) 81 0 0 w17 (some ⟨g61, 0, none⟩) 1 1 [(s2, hs1)] := Own.made _ 81 0 0 hN61 [(s2, hs1)] [[.string s2, .slice qh mh ch]] 1 1 rfl ⟨⟨_, _, _, rfl, hH⟩, trivial⟩ (Nat.zero_le _) (by omega) (by omega) (by rfl) (by rfl)
                refine hop_end hQ7 ⟨hSr16, ?_⟩
                refine h_one 8 _ rfl (by kernel_rfl) (hop_of_list (fun Q8 hQ8 => ?_))
                have hJ := hJ.ext (Ext.refl w17)
                obtain ⟨cssJ, hAJ, hsrJ⟩ := src_kind u30 hJ.sl kBr_pos
                have hAJ : (kBr (fun j => w.heap.size ≤ j)).All 0 _ _ cssJ := hAJ
                have hWl := hWs.le
                refine o_append (d := (kBr (fun j => w.heap.size ≤ j))) ([(s2, hs1)]) u30 inf81 rfl kBr_pos rfl rfl hQ (hsrJ) rfl (hAJ) (rfl) (by omega) (by omega) (by omega) (by omega) (by simp [kBr]) ?_
                intro p62 c62 w18 hQ hM18
                have hX := hX.mod hM18 (hwBi)
                have hO := hO.recModB hM18 (fun j h => h.2) (.inl (by decide))
                have hB6 := hB6.mod hM18 (by decide)
                have hB12 := hB12.mod hM18 (by decide)
                have hWs := hWs.mod hM18 (by first | exact Nat.le_refl _ | exact trivial | omega)
                have hSr16 := hSr16.mod hM18 (by first | exact Nat.le_refl _ | exact trivial | omega)
                have hG := hG.mod hM18 hwBi (by decide)
                refine hop_end hQ8 ⟨hSr16, ?_⟩
                refine h_take 9 rfl (by kernel_rfl) (by kernel_rfl) (by kernel_rfl) hSr16 (fun wS hSS => by ( exact (x_fieldAddr fo33_1 sz30 rfl))) ?_
                refine h_one 10 _ rfl (by kernel_rfl) (hop_of_list (fun Q10 hQ10 => ?_))
                refine o_store1 rfl (by conv => lhs; whnf) rfl rfl sz30 hB12 (by simp) ?_
                intro w19 hP19
                have hX := hX.put hP19 (Nat.le_trans hwBi hg12)
                have hO := hO.modB (hP19.mod Bi hg12) (Nat.zero_le _) (by simp [kRec]) hOb
                have hB6 := hB6.mod (hP19.mod 0 (Nat.zero_le _)) (by decide)
                have hB12 := hP19.blk
                simp only [List.setIfInBounds_toArray, List.set_cons_zero, List.set_cons_succ] at hB12
                have hWs := hWs.put hP19
                have hSr16 := hX
                have hG := hG.mod (hP19.mod w.heap.size (Nat.le_trans hwBi hg12)) (Nat.le_refl _) (by decide)
                have hQ := hQ.mod (hP19.mod 0 (Nat.zero_le _)) (Nat.zero_le _) (by simp [kBr])
                refine hop_end hQ10 ⟨hSr16, ?_⟩
                refine h_done (by kernel_rfl) ?_
                refine b_n ?_
                refine t_n ?_
                refine r_plain ?_
                refine p1 (x_move (by conv => lhs; whnf)) ?_
                refine p1 ((x_sub rfl rfl (fits_u64 (by omega) (by omega))).cast (congrArg (Value.int .u64) (by omega : ((k + 1 : Nat) : Int) - 1 = (k : Int)))) ?_
                refine p1 (x_assign (by conv => lhs; whnf)) ?_
                refine r_nil ?_
                refine t_n (At.mk ((k, p62, mb + 1, c62, brs ++ [(s2, hs1)], R5, b5)) (by repeat (first | exact Agr.refl _ _ | exact Agr.hav _ _ _ | refine Agr.upd rfl ?_ | refine Agr.updL ?_ _ rfl | refine Agr.hav' rfl ?_)) ⟨rfl, trivial⟩ ?_)
                exact ⟨⟨hX, (have hS2 := step_br hb3 hJ3 hT4 hT5; ⟨hO, hG, hB6, hB12, hQ, hWs, by omega, by omega, by omega, hS2.1, fun h => ⟨hS2.2 h, by omega⟩, fun y hy => (List.mem_append.1 hy).elim (hnb y) (fun hy => by simp only [List.mem_singleton] at hy; rw [hy]; exact Nat.le_trans hsz2 (by omega))⟩)⟩, by first | (dsimp only; omega) | ((show _ < _); omega)⟩
              · skip
                refine o_callv (fs := []) (cs := [.pointer (some ⟨g4, 0, none⟩), .pointer (some ⟨g6, 0, none⟩)]) rfl Try.func75 fn75 fb75 rfl rfl (index_name w.heap.size g4 g5 g6 R3 b3 _ hG hg4 hg5 hRl3 hB6) ?_
                rintro v20 w20 ⟨⟨s2, R4, b4, rfl, hG, hsz2, hT4⟩, hM20⟩
                have hX := hX.mod2 hM20 (Nat.le_refl _)
                have hO := hO.mod2 hM20 (Nat.zero_le _) (by simp [kRec])
                have hB6 := hB6.mod2 hM20 (by decide)
                have hB12 := hB12.mod2 hM20 (by decide)
                have hQ := hQ.mod2 hM20 (Nat.zero_le _) (by simp [kBr])
                have hWs := hWs.mod2 hM20 (by first | exact Nat.le_refl _ | exact trivial | omega)
                have hSr16 := hSr16.mod2 hM20 (by first | exact Nat.le_refl _ | exact trivial | omega)
                have hR4 := hT4.1
                refine hop_end hQ3 ⟨hSr16, ?_⟩
                refine h_two 1 5 _ _ rfl rfl (by kernel_rfl) (hop_of_list (fun Q1 hQ1 => ?_)) (hop_of_list (fun Q5 hQ5 => ?_))
                · skip
                  refine p1 (x_load1 un30 rfl (hB12.cell rfl)) ?_
                  refine hop_end hQ1 ⟨hSr16, ?_⟩
                  refine h_one 5 _ rfl (by kernel_rfl) (hop_of_list (fun Q5 hQ5 => ?_))
                  have hXs16 := hX.size
                  refine o_callv (fs := []) (cs := [.pointer (some ⟨g4, 0, none⟩), .pointer (some ⟨g6, 0, none⟩)]) rfl Try.func77 fn77 fb77 rfl rfl (index_list w.heap.size g4 g5 g6 R4 b4 _ hG hg4 hg5 (by omega) hB6 16 (by omega)) ?_
                  rintro v21 w21 ⟨⟨qh, mh, ch, hs1, R5, b5, rfl, hH0, hG, hT5⟩, hM21⟩
                  have hX := hX.mod2 hM21 (Nat.le_refl _)
                  have hO := hO.mod2 hM21 (Nat.zero_le _) (by simp [kRec])
                  have hB6 := hB6.mod2 hM21 (by decide)
                  have hB12 := hB12.mod2 hM21 (by decide)
                  have hQ := hQ.mod2 hM21 (Nat.zero_le _) (by simp [kBr])
                  have hWs := hWs.mod2 hM21 (by first | exact Nat.le_refl _ | exact trivial | omega)
                  have hSr16 := hSr16.mod2 hM21 (by first | exact Nat.le_refl _ | exact trivial | omega)
                  have hH := (SlS.ofHash hH0).mono (S' := (fun j => w.heap.size ≤ j)) (fun j _ h => Nat.le_trans hXs16 h)
                  have hR5 := hT5.1
                  refine hop_end hQ5 ⟨hSr16, ?_⟩
                  refine h_take 6 rfl (by kernel_rfl) (by kernel_rfl) (by kernel_rfl) hSr16 (fun wS hSS => by ( exact (x_build2 pl81 (by conv => lhs; whnf) (by conv => lhs; whnf) rfl rfl))) ?_
                  refine h_one 7 _ rfl (by kernel_rfl) (hop_of_list (fun Q7 hQ7 => ?_))
                  refine o_buildSlice u30 inf81 rfl (by decide) (fun base hb => fill_one (by rfl) base hb) ?_
                  intro w22 g61 hN61
                  have hE22 := hN61.ext
                  have hX := hX.ext hE22
                  have hO := hO.ext hE22
                  have hB6 := hB6.ext hE22
                  have hB12 := hB12.ext hE22
                  have hQ := hQ.ext hE22
                  have hWs := hWs.ext hE22
                  have hSr16 := hSr16.ext hE22
                  have hG := hG.ext hE22
                  have hH := hH.ext hE22
                  have hJ : Own (kBr (fun j => w.heap.size ≤ j)) 81 0 0 w22 (some ⟨g61, 0, none⟩) 1 1 [(s2, hs1)] := Own.made _ 81 0 0 hN61 [(s2, hs1)] [[.string s2, .slice qh mh ch]] 1 1 rfl ⟨⟨_, _, _, rfl, hH⟩, trivial⟩ (Nat.zero_le _) (by omega) (by omega) (by rfl) (by rfl)
                  refine hop_end hQ7 ⟨hSr16, ?_⟩
                  refine h_one 8 _ rfl (by kernel_rfl) (hop_of_list (fun Q8 hQ8 => ?_))
                  have hJ := hJ.ext (Ext.refl w22)
                  obtain ⟨cssJ, hAJ, hsrJ⟩ := src_kind u30 hJ.sl kBr_pos
                  have hAJ : (kBr (fun j => w.heap.size ≤ j)).All 0 _ _ cssJ := hAJ
                  have hWl := hWs.le
                  refine o_append (d := (kBr (fun j => w.heap.size ≤ j))) ([(s2, hs1)]) u30 inf81 rfl kBr_pos rfl rfl hQ (hsrJ) rfl (hAJ) (rfl) (by omega) (by omega) (by omega) (by omega) (by simp [kBr]) ?_
                  intro p62 c62 w23 hQ hM23
                  have hX := hX.mod hM23 (hwBi)
                  have hO := hO.recModB hM23 (fun j h => h.2) (.inl (by decide))
                  have hB6 := hB6.mod hM23 (by decide)
                  have hB12 := hB12.mod hM23 (by decide)
                  have hWs := hWs.mod hM23 (by first | exact Nat.le_refl _ | exact trivial | omega)
                  have hSr16 := hSr16.mod hM23 (by first | exact Nat.le_refl _ | exact trivial | omega)
                  have hG := hG.mod hM23 hwBi (by decide)
                  refine hop_end hQ8 ⟨hSr16, ?_⟩
                  refine h_take 9 rfl (by kernel_rfl) (by kernel_rfl) (by kernel_rfl) hSr16 (fun wS hSS => by ( exact (x_fieldAddr fo33_1 sz30 rfl))) ?_
                  refine h_one 10 _ rfl (by kernel_rfl) (hop_of_list (fun Q10 hQ10 => ?_))
                  refine o_store1 rfl (by conv => lhs; whnf) rfl rfl sz30 hB12 (by simp) ?_
                  intro w24 hP24
                  have hX := hX.put hP24 (Nat.le_trans hwBi hg12)
                  have hO := hO.modB (hP24.mod Bi hg12) (Nat.zero_le _) (by simp [kRec]) hOb
                  have hB6 := hB6.mod (hP24.mod 0 (Nat.zero_le _)) (by decide)
                  have hB12 := hP24.blk
                  simp only [List.setIfInBounds_toArray, List.set_cons_zero, List.set_cons_succ] at hB12
                  have hWs := hWs.put hP24
                  have hSr16 := hX
                  have hG := hG.mod (hP24.mod w.heap.size (Nat.le_trans hwBi hg12)) (Nat.le_refl _) (by decide)
                  have hQ := hQ.mod (hP24.mod 0 (Nat.zero_le _)) (Nat.zero_le _) (by simp [kBr])
                  refine hop_end hQ10 ⟨hSr16, ?_⟩
                  refine h_done (by kernel_rfl) ?_
                  refine b_n ?_
                  refine t_n ?_
                  refine r_plain ?_
                  refine p1 (x_move (by conv => lhs; whnf)) ?_
                  refine p1 ((x_sub rfl rfl (fits_u64 (by omega) (by omega))).cast (congrArg (Value.int .u64) (by omega : ((k + 1 : Nat) : Int) - 1 = (k : Int)))) ?_
                  refine p1 (x_assign (by conv => lhs; whnf)) ?_
                  refine r_nil ?_
                  refine t_n (At.mk ((k, p62, mb + 1, c62, brs ++ [(s2, hs1)], R5, b5)) (by repeat (first | exact Agr.refl _ _ | exact Agr.hav _ _ _ | refine Agr.upd rfl ?_ | refine Agr.updL ?_ _ rfl | refine Agr.hav' rfl ?_)) ⟨rfl, trivial⟩ ?_)
                  exact ⟨⟨hX, (have hS2 := step_br hb3 hJ3 hT4 hT5; ⟨hO, hG, hB6, hB12, hQ, hWs, by omega, by omega, by omega, hS2.1, fun h => ⟨hS2.2 h, by omega⟩, fun y hy => (List.mem_append.1 hy).elim (hnb y) (fun hy => by simp only [List.mem_singleton] at hy; rw [hy]; exact Nat.le_trans hsz2 (by omega))⟩)⟩, by first | (dsimp only; omega) | ((show _ < _); omega)⟩
                · skip
                  have hXs16 := hX.size
                  refine o_callv (fs := []) (cs := [.pointer (some ⟨g4, 0, none⟩), .pointer (some ⟨g6, 0, none⟩)]) rfl Try.func77 fn77 fb77 rfl rfl (index_list w.heap.size g4 g5 g6 R4 b4 _ hG hg4 hg5 (by omega) hB6 16 (by omega)) ?_
                  rintro v25 w25 ⟨⟨qh, mh, ch, hs1, R5, b5, rfl, hH0, hG, hT5⟩, hM25⟩
                  have hX := hX.mod2 hM25 (Nat.le_refl _)
                  have hO := hO.mod2 hM25 (Nat.zero_le _) (by simp [kRec])
                  have hB6 := hB6.mod2 hM25 (by decide)
                  have hB12 := hB12.mod2 hM25 (by decide)
                  have hQ := hQ.mod2 hM25 (Nat.zero_le _) (by simp [kBr])
                  have hWs := hWs.mod2 hM25 (by first | exact Nat.le_refl _ | exact trivial | omega)
                  have hSr16 := hSr16.mod2 hM25 (by first | exact Nat.le_refl _ | exact trivial | omega)
                  have hH := (SlS.ofHash hH0).mono (S' := (fun j => w.heap.size ≤ j)) (fun j _ h => Nat.le_trans hXs16 h)
                  have hR5 := hT5.1
                  refine hop_end hQ5 ⟨hSr16, ?_⟩
                  refine h_take 6 rfl (by kernel_rfl) (by kernel_rfl) (by kernel_rfl) hSr16 (fun wS hSS => by ( exact (x_build2 pl81 (by conv => lhs; whnf) (by conv => lhs; whnf) rfl rfl))) ?_
                  refine h_two 1 7 _ _ rfl rfl (by kernel_rfl) (hop_of_list (fun Q1 hQ1 => ?_)) (hop_of_list (fun Q7 hQ7 => ?_))
                  · skip
                    refine p1 (x_load1 un30 rfl (hB12.cell rfl)) ?_
                    refine hop_end hQ1 ⟨hSr16, ?_⟩
                    refine h_one 7 _ rfl (by kernel_rfl) (hop_of_list (fun Q7 hQ7 => ?_))
                    refine o_buildSlice u30 inf81 rfl (by decide) (fun base hb => fill_one (by rfl) base hb) ?_
                    intro w26 g61 hN61
                    have hE26 := hN61.ext
                    have hX := hX.ext hE26
                    have hO := hO.ext hE26
                    have hB6 := hB6.ext hE26
                    have hB12 := hB12.ext hE26
                    have hQ := hQ.ext hE26
                    have hWs := hWs.ext hE26
                    have hSr16 := hSr16.ext hE26
                    have hG := hG.ext hE26
                    have hH := hH.ext hE26
                    have hJ : Own (kBr (fun j => w.heap.size ≤ j)) 81 0 0 w26 (some ⟨g61, 0, none⟩) 1 1 [(s2, hs1)] := Own.made _ 81 0 0 hN61 [(s2, hs1)] [[.string s2, .slice qh mh ch]] 1 1 rfl ⟨⟨_, _, _, rfl, hH⟩, trivial⟩ (Nat.zero_le _) (by omega) (by omega) (by rfl) (by rfl)
                    refine hop_end hQ7 ⟨hSr16, ?_⟩
                    refine h_one 8 _ rfl (by kernel_rfl) (hop_of_list (fun Q8 hQ8 => ?_))
                    have hJ := hJ.ext (Ext.refl w26)
                    obtain ⟨cssJ, hAJ, hsrJ⟩ := src_kind u30 hJ.sl kBr_pos
                    have hAJ : (kBr (fun j => w.heap.size ≤ j)).All 0 _ _ cssJ := hAJ
                    have hWl := hWs.le
                    refine o_append (d := (kBr (fun j => w.heap.size ≤ j))) ([(s2, hs1)]) u30 inf81 rfl kBr_pos rfl rfl hQ (hsrJ) rfl (hAJ) (rfl) (by omega) (by omega) (by omega) (by omega) (by simp [kBr]) ?_
                    intro p62 c62 w27 hQ hM27
                    have hX := hX.mod hM27 (hwBi)
                    have hO := hO.recModB hM27 (fun j h => h.2) (.inl (by decide))
                    have hB6 := hB6.mod hM27 (by decide)
                    have hB12 := hB12.mod hM27 (by decide)
                    have hWs := hWs.mod hM27 (by first | exact Nat.le_refl _ | exact trivial | omega)
                    have hSr16 := hSr16.mod hM27 (by first | exact Nat.le_refl _ | exact trivial | omega)
                    have hG := hG.mod hM27 hwBi (by decide)
                    refine hop_end hQ8 ⟨hSr16, ?_⟩
                    refine h_take 9 rfl (by kernel_rfl) (by kernel_rfl) (by kernel_rfl) hSr16 (fun wS hSS => by ( exact (x_fieldAddr fo33_1 sz30 rfl))) ?_
                    refine h_one 10 _ rfl (by kernel_rfl) (hop_of_list (fun Q10 hQ10 => ?_))
                    refine o_store1 rfl (by conv => lhs; whnf) rfl rfl sz30 hB12 (by simp) ?_
                    intro w28 hP28
                    have hX := hX.put hP28 (Nat.le_trans hwBi hg12)
                    have hO := hO.modB (hP28.mod Bi hg12) (Nat.zero_le _) (by simp [kRec]) hOb
                    have hB6 := hB6.mod (hP28.mod 0 (Nat.zero_le _)) (by decide)
                    have hB12 := hP28.blk
                    simp only [List.setIfInBounds_toArray, List.set_cons_zero, List.set_cons_succ] at hB12
                    have hWs := hWs.put hP28
                    have hSr16 := hX
                    have hG := hG.mod (hP28.mod w.heap.size (Nat.le_trans hwBi hg12)) (Nat.le_refl _) (by decide)
                    have hQ := hQ.mod (hP28.mod 0 (Nat.zero_le _)) (Nat.zero_le _) (by simp [kBr])
                    refine hop_end hQ10 ⟨hSr16, ?_⟩
                    refine h_done (by kernel_rfl) ?_
                    refine b_n ?_
                    refine t_n ?_
                    refine r_plain ?_
                    refine p1 (x_move (by conv => lhs; whnf)) ?_
                    refine p1 ((x_sub rfl rfl (fits_u64 (by omega) (by omega))).cast (congrArg (Value.int .u64) (by omega : ((k + 1 : Nat) : Int) - 1 = (k : Int)))) ?_
                    refine p1 (x_assign (by conv => lhs; whnf)) ?_
                    refine r_nil ?_
                    refine t_n (At.mk ((k, p62, mb + 1, c62, brs ++ [(s2, hs1)], R5, b5)) (by repeat (first | exact Agr.refl _ _ | exact Agr.hav _ _ _ | refine Agr.upd rfl ?_ | refine Agr.updL ?_ _ rfl | refine Agr.hav' rfl ?_)) ⟨rfl, trivial⟩ ?_)
                    exact ⟨⟨hX, (have hS2 := step_br hb3 hJ3 hT4 hT5; ⟨hO, hG, hB6, hB12, hQ, hWs, by omega, by omega, by omega, hS2.1, fun h => ⟨hS2.2 h, by omega⟩, fun y hy => (List.mem_append.1 hy).elim (hnb y) (fun hy => by simp only [List.mem_singleton] at hy; rw [hy]; exact Nat.le_trans hsz2 (by omega))⟩)⟩, by first | (dsimp only; omega) | ((show _ < _); omega)⟩
                  · skip
                    refine o_buildSlice u30 inf81 rfl (by decide) (fun base hb => fill_one (by rfl) base hb) ?_
                    intro w29 g61 hN61
                    have hE29 := hN61.ext
                    have hX := hX.ext hE29
                    have hO := hO.ext hE29
                    have hB6 := hB6.ext hE29
                    have hB12 := hB12.ext hE29
                    have hQ := hQ.ext hE29
                    have hWs := hWs.ext hE29
                    have hSr16 := hSr16.ext hE29
                    have hG := hG.ext hE29
                    have hH := hH.ext hE29
                    have hJ : Own (kBr (fun j => w.heap.size ≤ j)) 81 0 0 w29 (some ⟨g61, 0, none⟩) 1 1 [(s2, hs1)] := Own.made _ 81 0 0 hN61 [(s2, hs1)] [[.string s2, .slice qh mh ch]] 1 1 rfl ⟨⟨_, _, _, rfl, hH⟩, trivial⟩ (Nat.zero_le _) (by omega) (by omega) (by rfl) (by rfl)
                    refine hop_end hQ7 ⟨hSr16, ?_⟩
                    refine h_one 1 _ rfl (by kernel_rfl) (hop_of_list (fun Q1 hQ1 => ?_))
                    refine p1 (x_load1 un30 rfl (hB12.cell rfl)) ?_
                    refine hop_end hQ1 ⟨hSr16, ?_⟩
                    refine h_one 8 _ rfl (by kernel_rfl) (hop_of_list (fun Q8 hQ8 => ?_))
                    have hJ := hJ.ext (Ext.refl w29)
                    obtain ⟨cssJ, hAJ, hsrJ⟩ := src_kind u30 hJ.sl kBr_pos
                    have hAJ : (kBr (fun j => w.heap.size ≤ j)).All 0 _ _ cssJ := hAJ
                    have hWl := hWs.le
                    refine o_append (d := (kBr (fun j => w.heap.size ≤ j))) ([(s2, hs1)]) u30 inf81 rfl kBr_pos rfl rfl hQ (hsrJ) rfl (hAJ) (rfl) (by omega) (by omega) (by omega) (by omega) (by simp [kBr]) ?_
                    intro p62 c62 w30 hQ hM30
                    have hX := hX.mod hM30 (hwBi)
                    have hO := hO.recModB hM30 (fun j h => h.2) (.inl (by decide))
                    have hB6 := hB6.mod hM30 (by decide)
                    have hB12 := hB12.mod hM30 (by decide)
                    have hWs := hWs.mod hM30 (by first | exact Nat.le_refl _ | exact trivial | omega)
                    have hSr16 := hSr16.mod hM30 (by first | exact Nat.le_refl _ | exact trivial | omega)
                    have hG := hG.mod hM30 hwBi (by decide)
                    refine hop_end hQ8 ⟨hSr16, ?_⟩
                    refine h_take 9 rfl (by kernel_rfl) (by kernel_rfl) (by kernel_rfl) hSr16 (fun wS hSS => by ( exact (x_fieldAddr fo33_1 sz30 rfl))) ?_
                    refine h_one 10 _ rfl (by kernel_rfl) (hop_of_list (fun Q10 hQ10 => ?_))
                    refine o_store1 rfl (by conv => lhs; whnf) rfl rfl sz30 hB12 (by simp) ?_
                    intro w31 hP31
                    have hX := hX.put hP31 (Nat.le_trans hwBi hg12)
                    have hO := hO.modB (hP31.mod Bi hg12) (Nat.zero_le _) (by simp [kRec]) hOb
                    have hB6 := hB6.mod (hP31.mod 0 (Nat.zero_le _)) (by decide)
                    have hB12 := hP31.blk
                    simp only [List.setIfInBounds_toArray, List.set_cons_zero, List.set_cons_succ] at hB12
                    have hWs := hWs.put hP31
                    have hSr16 := hX
                    have hG := hG.mod (hP31.mod w.heap.size (Nat.le_trans hwBi hg12)) (Nat.le_refl _) (by decide)
                    have hQ := hQ.mod (hP31.mod 0 (Nat.zero_le _)) (Nat.zero_le _) (by simp [kBr])
                    refine hop_end hQ10 ⟨hSr16, ?_⟩
                    refine h_done (by kernel_rfl) ?_
                    refine b_n ?_
                    refine t_n ?_
                    refine r_plain ?_
                    refine p1 (x_move (by conv => lhs; whnf)) ?_
                    refine p1 ((x_sub rfl rfl (fits_u64 (by omega) (by omega))).cast (congrArg (Value.int .u64) (by omega : ((k + 1 : Nat) : Int) - 1 = (k : Int)))) ?_
                    refine p1 (x_assign (by conv => lhs; whnf)) ?_
                    refine r_nil ?_
                    refine t_n (At.mk ((k, p62, mb + 1, c62, brs ++ [(s2, hs1)], R5, b5)) (by repeat (first | exact Agr.refl _ _ | exact Agr.hav _ _ _ | refine Agr.upd rfl ?_ | refine Agr.updL ?_ _ rfl | refine Agr.hav' rfl ?_)) ⟨rfl, trivial⟩ ?_)
                    exact ⟨⟨hX, (have hS2 := step_br hb3 hJ3 hT4 hT5; ⟨hO, hG, hB6, hB12, hQ, hWs, by omega, by omega, by omega, hS2.1, fun h => ⟨hS2.2 h, by omega⟩, fun y hy => (List.mem_append.1 hy).elim (hnb y) (fun hy => by simp only [List.mem_singleton] at hy; rw [hy]; exact Nat.le_trans hsz2 (by omega))⟩)⟩, by first | (dsimp only; omega) | ((show _ < _); omega)⟩
            · try simp only [decide_eq_true_eq, decide_eq_false_iff_not, Bool.not_eq_true, Bool.not_eq_false, Bool.not_eq_eq_eq_not, Bool.not_true, Bool.not_false, Int.not_lt, Int.not_le] at hc51
              have hJ5 : ¬ b3 = true → k = 0 := fun h => by first | omega | exact absurd hc51 h | (rw [hc51] at h; exact absurd rfl h)
              have hJ6 : (b3 = true → pI xs = none) ∧ (¬ b3 = true → pI xs = cB j L s1 0 brs R3) := ⟨hJ1, fun h => by have := (hJ2 h).1; rw [hJ5 h] at this; exact this⟩
              refine c_exit ?_
              refine t_e ?_
              refine t_e ?_
              refine b_hit ?_
              refine t_n ?_
              refine c_seq ?_
              refine r_plain ?_
              refine p1 (x_move (by conv => lhs; whnf)) ?_
              have hXs17 := hX.size
              refine o_callv (fs := []) (cs := [.pointer (some ⟨g4, 0, none⟩), .pointer (some ⟨g6, 0, none⟩)]) rfl Try.func77 fn77 fb77 rfl rfl (index_list w.heap.size g4 g5 g6 R3 b3 _ hG hg4 hg5 hRl3 hB6 4096 (by omega)) ?_
              rintro v32 w32 ⟨⟨qc, mc, cc, hs2, R6, b6, rfl, hH0, hG, hT6⟩, hM32⟩
              have hX := hX.mod2 hM32 (Nat.le_refl _)
              have hO := hO.mod2 hM32 (Nat.zero_le _) (by simp [kRec])
              have hB6 := hB6.mod2 hM32 (by decide)
              have hB12 := hB12.mod2 hM32 (by decide)
              have hQ := hQ.mod2 hM32 (Nat.zero_le _) (by simp [kBr])
              have hWs := hWs.mod2 hM32 (by first | exact Nat.le_refl _ | exact trivial | omega)
              have hH := (SlS.ofHash hH0).mono (S' := from' w.heap.size w32) (fun j hj h => ⟨Nat.le_trans hXs17 h, hj⟩)
              have hR6 := hT6.1
              refine p1 (x_fieldAddr fo33_2 sz31 rfl) ?_
              refine o_store1 rfl (by conv => lhs; whnf) rfl rfl sz31 hB12 (by simp) ?_
              intro w33 hP33
              have hX := hX.put hP33 (Nat.le_trans hwBi hg12)
              have hO := hO.modB (hP33.mod Bi hg12) (Nat.zero_le _) (by simp [kRec]) hOb
              have hB6 := hB6.mod (hP33.mod 0 (Nat.zero_le _)) (by decide)
              have hB12 := hP33.blk
              simp only [List.setIfInBounds_toArray, List.set_cons_zero, List.set_cons_succ] at hB12
              have hQ := hQ.mod (hP33.mod 0 (Nat.zero_le _)) (Nat.zero_le _) (by simp [kBr])
              have hWs := hWs.put hP33
              have hG := hG.mod (hP33.mod w.heap.size (Nat.le_trans hwBi hg12)) (Nat.le_refl _) (by decide)
              have hH := hH.mod (hP33.mod 0 (Nat.zero_le _)) (Nat.zero_le _) (by decide)
              refine r_nil ?_
              refine t_n ?_
              refine r_plain ?_
              refine p1 (x_move (by conv => lhs; whnf)) ?_
              refine p1 (x_loadB ua33 rfl hB12 sz33) ?_
              obtain ⟨Bz, hBz⟩ : ∃ x, x = w33.heap.size := ⟨_, rfl⟩
              refine o_buildSlice u23 inf33 rfl (by decide) (fun base hb => fill_one (by rfl) base hb) ?_
              intro w34 g69 hN69
              have hE34 := hN69.ext
              have hX := hX.ext hE34
              have hO := hO.ext hE34
              have hB6 := hB6.ext hE34
              have hB12 := hB12.ext hE34
              have hQ := hQ.ext hE34
              have hWs := hWs.ext hE34
              have hG := hG.ext hE34
              have hH := hH.ext hE34
              have hJ : Own (kRec (from' w.heap.size w34)) 33 0 0 w34 (some ⟨g69, 0, none⟩) 1 1 [(s1, brs, hs2)] := Own.made _ 33 0 0 hN69 [(s1, brs, hs2)] [[.string s1, .slice qb mb cb, .slice qc mc cc]] 1 1 rfl ⟨⟨_, _, _, _, _, _, rfl, (hQ.sl.brMono (S' := from' w.heap.size w34) (fun j hj h => ⟨h, hj⟩)), fun hn => ⟨Nat.le_trans hwBi (hQ.inS hn).1, (hQ.inS hn).2⟩, hH.mono (S' := from' w.heap.size w34) (fun j hj h => ⟨h.1, hj⟩)⟩, trivial⟩ (Nat.zero_le _) (by omega) (by omega) (by rfl) (by rfl)
              obtain ⟨cssJ, hAJ, hsrJ⟩ := src_kind u23 hJ.sl kRec_pos
              have hO := hO.recMono (S' := from' w.heap.size w34) (fun j hj h => ⟨h.1, hj⟩)
              have hXs18 := hX.size
              refine o_append (d := (kRec _)) ([(s1, brs, hs2)]) u23 inf33 rfl kRec_pos rfl rfl hO (hsrJ) rfl (hAJ) (rfl) (by omega) (by omega) (by omega) (by omega) (by simp [kRec]) ?_
              intro p70 c70 w35 hO hM35
              have hX := hX.mod hM35 (Nat.le_refl _)
              have hB6 := hB6.mod hM35 (by decide)
              have hWs := hWs.mod hM35 (by first | exact Nat.le_refl _ | exact trivial | omega)
              have hG := hG.mod hM35 (Nat.le_refl _) (by decide)
              refine p1 (x_assign (by conv => lhs; whnf)) ?_
              refine r_nil ?_
              refine b_n ?_
              refine t_n ?_
              refine r_plain ?_
              refine p1 (x_move (by conv => lhs; whnf)) ?_
              refine p1 ((x_sub rfl rfl (fits_u64 (by omega) (by omega))).cast (congrArg (Value.int .u64) (by omega : ((j + 1 : Nat) : Int) - 1 = (j : Int)))) ?_
              refine p1 (x_assign (by conv => lhs; whnf)) ?_
              refine r_nil ?_
              refine t_n (At.mk ((j, p70, m + 1, c70, L ++ [(s1, brs, hs2)], R6, b6)) (by repeat (first | exact Agr.refl _ _ | exact Agr.hav _ _ _ | refine Agr.upd rfl ?_ | refine Agr.updL ?_ _ rfl | refine Agr.hav' rfl ?_)) ⟨rfl, rfl, trivial⟩ ?_)
              exact ⟨⟨hX, (have hS3 := step_end hJ6 hT6; ⟨hO.recMono (fun j hj h => ⟨h.1, hj⟩), hG, hB6, by omega, by omega, by omega, hS3.1, fun h => ⟨hS3.2 h, by omega⟩, fun x hx => (List.mem_append.1 hx).elim (hnm x) (fun hx => by simp only [List.mem_singleton] at hx; rw [hx]; exact ⟨Nat.le_trans hsz1 (by omega), hnb⟩)⟩)⟩, by first | (dsimp only; omega) | ((show _ < _); omega)⟩
          · try simp only [decide_eq_true_eq, decide_eq_false_iff_not, Bool.not_eq_true, Bool.not_eq_false, Bool.not_eq_eq_eq_not, Bool.not_true, Bool.not_false, Int.not_lt, Int.not_le] at hb14_2
            refine g0 48 rfl (by first | exact .inl rfl | exact .inr rfl) ?_
            refine g0 48 rfl (by first | exact .inl rfl | exact .inr rfl) ?_
            refine p1 (x_pick_f rfl (by conv => lhs; whnf)) ?_
            refine r_nil ?_
            refine t_n ?_
            refine c_f rfl ?_
            have hJ5 : ¬ b3 = true → k = 0 := fun h => by first | omega | exact absurd hc51 h | (rw [hc51] at h; exact absurd rfl h)
            have hJ6 : (b3 = true → pI xs = none) ∧ (¬ b3 = true → pI xs = cB j L s1 0 brs R3) := ⟨hJ1, fun h => by have := (hJ2 h).1; rw [hJ5 h] at this; exact this⟩
            refine c_exit ?_
            refine t_e ?_
            refine t_e ?_
            refine b_hit ?_
            refine t_n ?_
            refine c_seq ?_
            refine r_plain ?_
            refine p1 (x_move (by conv => lhs; whnf)) ?_
            have hXs17 := hX.size
            refine o_callv (fs := []) (cs := [.pointer (some ⟨g4, 0, none⟩), .pointer (some ⟨g6, 0, none⟩)]) rfl Try.func77 fn77 fb77 rfl rfl (index_list w.heap.size g4 g5 g6 R3 b3 _ hG hg4 hg5 hRl3 hB6 4096 (by omega)) ?_
            rintro v36 w36 ⟨⟨qc, mc, cc, hs2, R6, b6, rfl, hH0, hG, hT6⟩, hM36⟩
            have hX := hX.mod2 hM36 (Nat.le_refl _)
            have hO := hO.mod2 hM36 (Nat.zero_le _) (by simp [kRec])
            have hB6 := hB6.mod2 hM36 (by decide)
            have hB12 := hB12.mod2 hM36 (by decide)
            have hQ := hQ.mod2 hM36 (Nat.zero_le _) (by simp [kBr])
            have hWs := hWs.mod2 hM36 (by first | exact Nat.le_refl _ | exact trivial | omega)
            have hH := (SlS.ofHash hH0).mono (S' := from' w.heap.size w36) (fun j hj h => ⟨Nat.le_trans hXs17 h, hj⟩)
            have hR6 := hT6.1
            refine p1 (x_fieldAddr fo33_2 sz31 rfl) ?_
            refine o_store1 rfl (by conv => lhs; whnf) rfl rfl sz31 hB12 (by simp) ?_
            intro w37 hP37
            have hX := hX.put hP37 (Nat.le_trans hwBi hg12)
            have hO := hO.modB (hP37.mod Bi hg12) (Nat.zero_le _) (by simp [kRec]) hOb
            have hB6 := hB6.mod (hP37.mod 0 (Nat.zero_le _)) (by decide)
            have hB12 := hP37.blk
            simp only [List.setIfInBounds_toArray, List.set_cons_zero, List.set_cons_succ] at hB12
            have hQ := hQ.mod (hP37.mod 0 (Nat.zero_le _)) (Nat.zero_le _) (by simp [kBr])
            have hWs := hWs.put hP37
            have hG := hG.mod (hP37.mod w.heap.size (Nat.le_trans hwBi hg12)) (Nat.le_refl _) (by decide)
            have hH := hH.mod (hP37.mod 0 (Nat.zero_le _)) (Nat.zero_le _) (by decide)
            refine r_nil ?_
            refine t_n ?_
            refine r_plain ?_
            refine p1 (x_move (by conv => lhs; whnf)) ?_
            refine p1 (x_loadB ua33 rfl hB12 sz33) ?_
            obtain ⟨Bz, hBz⟩ : ∃ x, x = w37.heap.size := ⟨_, rfl⟩
            refine o_buildSlice u23 inf33 rfl (by decide) (fun base hb => fill_one (by rfl) base hb) ?_
            intro w38 g69 hN69
            have hE38 := hN69.ext
            have hX := hX.ext hE38
            have hO := hO.ext hE38
            have hB6 := hB6.ext hE38
            have hB12 := hB12.ext hE38
            have hQ := hQ.ext hE38
            have hWs := hWs.ext hE38
            have hG := hG.ext hE38
            have hH := hH.ext hE38
            have hJ : Own (kRec (from' w.heap.size w38)) 33 0 0 w38 (some ⟨g69, 0, none⟩) 1 1 [(s1, brs, hs2)] := Own.made _ 33 0 0 hN69 [(s1, brs, hs2)] [[.string s1, .slice qb mb cb, .slice qc mc cc]] 1 1 rfl ⟨⟨_, _, _, _, _, _, rfl, (hQ.sl.brMono (S' := from' w.heap.size w38) (fun j hj h => ⟨h, hj⟩)), fun hn => ⟨Nat.le_trans hwBi (hQ.inS hn).1, (hQ.inS hn).2⟩, hH.mono (S' := from' w.heap.size w38) (fun j hj h => ⟨h.1, hj⟩)⟩, trivial⟩ (Nat.zero_le _) (by omega) (by omega) (by rfl) (by rfl)
            obtain ⟨cssJ, hAJ, hsrJ⟩ := src_kind u23 hJ.sl kRec_pos
            have hO := hO.recMono (S' := from' w.heap.size w38) (fun j hj h => ⟨h.1, hj⟩)
            have hXs18 := hX.size
            refine o_append (d := (kRec _)) ([(s1, brs, hs2)]) u23 inf33 rfl kRec_pos rfl rfl hO (hsrJ) rfl (hAJ) (rfl) (by omega) (by omega) (by omega) (by omega) (by simp [kRec]) ?_
            intro p70 c70 w39 hO hM39
            have hX := hX.mod hM39 (Nat.le_refl _)
            have hB6 := hB6.mod hM39 (by decide)
            have hWs := hWs.mod hM39 (by first | exact Nat.le_refl _ | exact trivial | omega)
            have hG := hG.mod hM39 (Nat.le_refl _) (by decide)
            refine p1 (x_assign (by conv => lhs; whnf)) ?_
            refine r_nil ?_
            refine b_n ?_
            refine t_n ?_
            refine r_plain ?_
            refine p1 (x_move (by conv => lhs; whnf)) ?_
            refine p1 ((x_sub rfl rfl (fits_u64 (by omega) (by omega))).cast (congrArg (Value.int .u64) (by omega : ((j + 1 : Nat) : Int) - 1 = (j : Int)))) ?_
            refine p1 (x_assign (by conv => lhs; whnf)) ?_
            refine r_nil ?_
            refine t_n (At.mk ((j, p70, m + 1, c70, L ++ [(s1, brs, hs2)], R6, b6)) (by repeat (first | exact Agr.refl _ _ | exact Agr.hav _ _ _ | refine Agr.upd rfl ?_ | refine Agr.updL ?_ _ rfl | refine Agr.hav' rfl ?_)) ⟨rfl, rfl, trivial⟩ ?_)
            exact ⟨⟨hX, (have hS3 := step_end hJ6 hT6; ⟨hO.recMono (fun j hj h => ⟨h.1, hj⟩), hG, hB6, by omega, by omega, by omega, hS3.1, fun h => ⟨hS3.2 h, by omega⟩, fun x hx => (List.mem_append.1 hx).elim (hnm x) (fun hx => by simp only [List.mem_singleton] at hx; rw [hx]; exact ⟨Nat.le_trans hsz1 (by omega), hnb⟩)⟩)⟩, by first | (dsimp only; omega) | ((show _ < _); omega)⟩
        · try simp only [decide_eq_true_eq, decide_eq_false_iff_not, Bool.not_eq_true, Bool.not_eq_false, Bool.not_eq_eq_eq_not, Bool.not_true, Bool.not_false, Int.not_lt, Int.not_le] at hc38
          have hj0 : ¬ bd = true → j = 0 := fun h => by first | omega | exact absurd hc38 h | (rw [hc38] at h; exact absurd rfl h)
          have hfin : (bd = true → pI xs = none) ∧ (¬ bd = true → pI xs = some L) := ⟨hI1, fun h => by have := (hI2 h).1; rw [hj0 h, cN_0] at this; exact this⟩
          refine c_exit ?_
          refine t_e ?_
          refine t_e ?_
          refine b_hit ?_
          refine t_n ?_
          refine c_seq ?_
          refine c_seq ?_
          refine r_plain ?_
          refine p1 (x_move (by conv => lhs; whnf)) ?_
          refine o_call Try.func27 fn27 fb27 (index_Put L _ _ _ _ _ hO.sl.recA hnm) rfl ?_
          rintro v40 w40 ⟨⟨q1, m1, c2, rfl, hU⟩, hE40⟩
          have hX := hX.ext hE40
          have hO := hO.ext hE40
          have hG := hG.ext hE40
          have hB6 := hB6.ext hE40
          refine p1 (x_move (by conv => lhs; whnf)) ?_
          refine p1 (x_extract rfl rfl) ?_
          refine p1 (x_extract rfl rfl) ?_
          refine p1 (x_assign (by conv => lhs; whnf)) ?_
          refine p1 (x_assign (by conv => lhs; whnf)) ?_
          refine r_nil ?_
          refine t_n ?_
          refine c_seq ?_
          obtain ⟨⟨qr, mr, cr, hB4, hlr⟩, hB5⟩ := id hG
          refine r_plain ?_
          refine p1 (x_load1 un4 rfl (hB5.cell rfl)) ?_
          refine p1b (x_move (by conv => lhs; whnf)) (fun hb20_1 => ?_) (fun hb20_1 => ?_)
          · try simp only [decide_eq_true_eq, decide_eq_false_iff_not, Bool.not_eq_true, Bool.not_eq_false, Bool.not_eq_eq_eq_not, Bool.not_true, Bool.not_false, Int.not_lt, Int.not_le] at hb20_1
            refine g0 77 rfl (by first | exact .inl rfl | exact .inr rfl) ?_
            refine g0 77 rfl (by first | exact .inl rfl | exact .inr rfl) ?_
            refine p1 (x_pick_t rfl (by conv => lhs; whnf)) ?_
            refine p1 (x_move (by conv => lhs; whnf)) ?_
            refine g0 81 rfl (by first | exact .inl rfl | exact .inr rfl) ?_
            refine g0 81 rfl (by first | exact .inl rfl | exact .inr rfl) ?_
            refine g0 81 rfl (by first | exact .inl rfl | exact .inr rfl) ?_
            refine g0 81 rfl (by first | exact .inl rfl | exact .inr rfl) ?_
            refine g0 81 rfl (by first | exact .inl rfl | exact .inr rfl) ?_
            refine p1 (x_pick_t rfl (by conv => lhs; whnf)) ?_
            refine r_nil ?_
            refine t_n ?_
            refine c_t rfl ?_
            have hp : getI xs = ([], 4) := by
              first
              | exact getI_bad (hfin.1 hb20_1)
              | (have hbf : ¬ bd = true := by (rw [hb20_1]; simp)
                 exact getI_ne (hfin.2 hbf) (fun e => by (rw [e] at hb20_5; exact hb20_5 rfl)))
              | (have hbf : ¬ bd = true := by (rw [hb20_1]; simp)
                 exact getI_ne (hfin.2 hbf) (fun e => by (rw [e] at hc87; exact hc87 rfl)))
            refine c_seq ?_
            refine r_plain ?_
            refine p1 (x_assign (by conv => lhs; whnf)) ?_
            refine p1 (x_assign (by conv => lhs; whnf)) ?_
            refine r_nil ?_
            refine t_n ?_
            refine c_ret ?_
            refine t_r ?_
            refine end2 rfl (by conv => lhs; whnf) (by conv => lhs; whnf) ?_
            first | exact ⟨⟨none, 0, 0, by rw [hp], by rw [hp]; exact Own.nil _ _ _ _ _⟩, hX⟩ | exact ⟨⟨_, _, _, by rw [hp], by rw [hp]; exact hO.recMono (fun j hj h => ⟨h.1, hj⟩)⟩, hX⟩
          · try simp only [decide_eq_true_eq, decide_eq_false_iff_not, Bool.not_eq_true, Bool.not_eq_false, Bool.not_eq_eq_eq_not, Bool.not_true, Bool.not_false, Int.not_lt, Int.not_le] at hb20_1
            refine g1 77 rfl rfl (x_move (by conv => lhs; whnf)) ?_
            refine g1 77 rfl rfl (x_neq rfl rfl) ?_
            refine p1 (x_pick_f rfl (by conv => lhs; whnf)) ?_
            refine p1b (x_move (by conv => lhs; whnf)) (fun hb20_5 => ?_) (fun hb20_5 => ?_)
            · try simp only [decide_eq_true_eq, decide_eq_false_iff_not, Bool.not_eq_true, Bool.not_eq_false, Bool.not_eq_eq_eq_not, Bool.not_true, Bool.not_false, Int.not_lt, Int.not_le] at hb20_5
              refine g0 81 rfl (by first | exact .inl rfl | exact .inr rfl) ?_
              refine g0 81 rfl (by first | exact .inl rfl | exact .inr rfl) ?_
              refine g0 81 rfl (by first | exact .inl rfl | exact .inr rfl) ?_
              refine g0 81 rfl (by first | exact .inl rfl | exact .inr rfl) ?_
              refine g0 81 rfl (by first | exact .inl rfl | exact .inr rfl) ?_
              refine p1 (x_pick_t rfl (by conv => lhs; whnf)) ?_
              refine r_nil ?_
              refine t_n ?_
              refine c_t rfl ?_
              have hp : getI xs = ([], 4) := by
                first
                | exact getI_bad (hfin.1 hb20_1)
                | (have hbf : ¬ bd = true := by (rw [hb20_1]; simp)
                   exact getI_ne (hfin.2 hbf) (fun e => by (rw [e] at hb20_5; exact hb20_5 rfl)))
                | (have hbf : ¬ bd = true := by (rw [hb20_1]; simp)
                   exact getI_ne (hfin.2 hbf) (fun e => by (rw [e] at hc87; exact hc87 rfl)))
              refine c_seq ?_
              refine r_plain ?_
              refine p1 (x_assign (by conv => lhs; whnf)) ?_
              refine p1 (x_assign (by conv => lhs; whnf)) ?_
              refine r_nil ?_
              refine t_n ?_
              refine c_ret ?_
              refine t_r ?_
              refine end2 rfl (by conv => lhs; whnf) (by conv => lhs; whnf) ?_
              first | exact ⟨⟨none, 0, 0, by rw [hp], by rw [hp]; exact Own.nil _ _ _ _ _⟩, hX⟩ | exact ⟨⟨_, _, _, by rw [hp], by rw [hp]; exact hO.recMono (fun j hj h => ⟨h.1, hj⟩)⟩, hX⟩
            · try simp only [decide_eq_true_eq, decide_eq_false_iff_not, Bool.not_eq_true, Bool.not_eq_false, Bool.not_eq_eq_eq_not, Bool.not_true, Bool.not_false, Int.not_lt, Int.not_le] at hb20_5
              refine g1 81 rfl rfl (x_move (by conv => lhs; whnf)) ?_
              refine g1 81 rfl rfl (x_bytes_str u22 u5 u9 rfl hU.sl) ?_
              refine g1 81 rfl rfl (x_move (by conv => lhs; whnf)) ?_
              refine g1 81 rfl rfl (x_bytes_str u22 u5 u9 rfl (hl.ext hX)) ?_
              refine g1 81 rfl rfl (x_neq_str rfl rfl) ?_
              refine p1 (x_pick_f rfl (by conv => lhs; whnf)) ?_
              refine r_nil ?_
              refine t_n ?_
              first | refine c_dec rfl (fun hc87 => ?_) (fun hc87 => ?_) | refine c_if rfl (fun hc87 => ?_) (fun hc87 => ?_)
              · try simp only [decide_eq_true_eq, decide_eq_false_iff_not, Bool.not_eq_true, Bool.not_eq_false, Bool.not_eq_eq_eq_not, Bool.not_true, Bool.not_false, Int.not_lt, Int.not_le] at hc87
                have hp : getI xs = ([], 4) := by
                  first
                  | exact getI_bad (hfin.1 hb20_1)
                  | (have hbf : ¬ bd = true := by (rw [hb20_1]; simp)
                     exact getI_ne (hfin.2 hbf) (fun e => by (rw [e] at hb20_5; exact hb20_5 rfl)))
                  | (have hbf : ¬ bd = true := by (rw [hb20_1]; simp)
                     exact getI_ne (hfin.2 hbf) (fun e => by (rw [e] at hc87; exact hc87 rfl)))
                refine c_seq ?_
                refine r_plain ?_
                refine p1 (x_assign (by conv => lhs; whnf)) ?_
                refine p1 (x_assign (by conv => lhs; whnf)) ?_
                refine r_nil ?_
                refine t_n ?_
                refine c_ret ?_
                refine t_r ?_
                refine end2 rfl (by conv => lhs; whnf) (by conv => lhs; whnf) ?_
                first | exact ⟨⟨none, 0, 0, by rw [hp], by rw [hp]; exact Own.nil _ _ _ _ _⟩, hX⟩ | exact ⟨⟨_, _, _, by rw [hp], by rw [hp]; exact hO.recMono (fun j hj h => ⟨h.1, hj⟩)⟩, hX⟩
              · try simp only [decide_eq_true_eq, decide_eq_false_iff_not, Bool.not_eq_true, Bool.not_eq_false, Bool.not_eq_eq_eq_not, Bool.not_true, Bool.not_false, Int.not_lt, Int.not_le] at hc87
                have hbf : ¬ bd = true := by rw [hb20_1]; simp
                have hp : getI xs = (L, 0) := getI_eq (hfin.2 hbf) (Prod.ext (toStr_inj (Classical.byContradiction hc87)) (Classical.byContradiction hb20_5))
                refine c_skip ?_
                refine t_n ?_
                refine c_seq ?_
                refine r_plain ?_
                refine p1 (x_move (by conv => lhs; whnf)) ?_
                refine p1 (x_assign (by conv => lhs; whnf)) ?_
                refine p1 (x_assign (by conv => lhs; whnf)) ?_
                refine r_nil ?_
                refine t_n ?_
                refine c_ret ?_
                refine end2 rfl (by conv => lhs; whnf) (by conv => lhs; whnf) ?_
                first | exact ⟨⟨none, 0, 0, by rw [hp], by rw [hp]; exact Own.nil _ _ _ _ _⟩, hX⟩ | exact ⟨⟨_, _, _, by rw [hp], by rw [hp]; exact hO.recMono (fun j hj h => ⟨h.1, hj⟩)⟩, hX⟩
      · try simp only [decide_eq_true_eq, decide_eq_false_iff_not, Bool.not_eq_true, Bool.not_eq_false, Bool.not_eq_eq_eq_not, Bool.not_true, Bool.not_false, Int.not_lt, Int.not_le] at hb10_2
        refine g0 35 rfl (by first | exact .inl rfl | exact .inr rfl) ?_
        refine g0 35 rfl (by first | exact .inl rfl | exact .inr rfl) ?_
        refine p1 (x_pick_f rfl (by conv => lhs; whnf)) ?_
        refine r_nil ?_
        refine t_n ?_
        refine c_f rfl ?_
        have hj0 : ¬ bd = true → j = 0 := fun h => by first | omega | exact absurd hc38 h | (rw [hc38] at h; exact absurd rfl h)
        have hfin : (bd = true → pI xs = none) ∧ (¬ bd = true → pI xs = some L) := ⟨hI1, fun h => by have := (hI2 h).1; rw [hj0 h, cN_0] at this; exact this⟩
        refine c_exit ?_
        refine t_e ?_
        refine t_e ?_
        refine b_hit ?_
        refine t_n ?_
        refine c_seq ?_
        refine c_seq ?_
        refine r_plain ?_
        refine p1 (x_move (by conv => lhs; whnf)) ?_
        refine o_call Try.func27 fn27 fb27 (index_Put L _ _ _ _ _ hO.sl.recA hnm) rfl ?_
        rintro v41 w41 ⟨⟨q1, m1, c2, rfl, hU⟩, hE41⟩
        have hX := hX.ext hE41
        have hO := hO.ext hE41
        have hG := hG.ext hE41
        have hB6 := hB6.ext hE41
        refine p1 (x_move (by conv => lhs; whnf)) ?_
        refine p1 (x_extract rfl rfl) ?_
        refine p1 (x_extract rfl rfl) ?_
        refine p1 (x_assign (by conv => lhs; whnf)) ?_
        refine p1 (x_assign (by conv => lhs; whnf)) ?_
        refine r_nil ?_
        refine t_n ?_
        refine c_seq ?_
        obtain ⟨⟨qr, mr, cr, hB4, hlr⟩, hB5⟩ := id hG
        refine r_plain ?_
        refine p1 (x_load1 un4 rfl (hB5.cell rfl)) ?_
        refine p1b (x_move (by conv => lhs; whnf)) (fun hb20_1 => ?_) (fun hb20_1 => ?_)
        · try simp only [decide_eq_true_eq, decide_eq_false_iff_not, Bool.not_eq_true, Bool.not_eq_false, Bool.not_eq_eq_eq_not, Bool.not_true, Bool.not_false, Int.not_lt, Int.not_le] at hb20_1
          refine g0 77 rfl (by first | exact .inl rfl | exact .inr rfl) ?_
          refine g0 77 rfl (by first | exact .inl rfl | exact .inr rfl) ?_
          refine p1 (x_pick_t rfl (by conv => lhs; whnf)) ?_
          refine p1 (x_move (by conv => lhs; whnf)) ?_
          refine g0 81 rfl (by first | exact .inl rfl | exact .inr rfl) ?_
          refine g0 81 rfl (by first | exact .inl rfl | exact .inr rfl) ?_
          refine g0 81 rfl (by first | exact .inl rfl | exact .inr rfl) ?_
          refine g0 81 rfl (by first | exact .inl rfl | exact .inr rfl) ?_
          refine g0 81 rfl (by first | exact .inl rfl | exact .inr rfl) ?_
          refine p1 (x_pick_t rfl (by conv => lhs; whnf)) ?_
          refine r_nil ?_
          refine t_n ?_
          refine c_t rfl ?_
          have hp : getI xs = ([], 4) := by
            first
            | exact getI_bad (hfin.1 hb20_1)
            | (have hbf : ¬ bd = true := by (rw [hb20_1]; simp)
               exact getI_ne (hfin.2 hbf) (fun e => by (rw [e] at hb20_5; exact hb20_5 rfl)))
            | (have hbf : ¬ bd = true := by (rw [hb20_1]; simp)
               exact getI_ne (hfin.2 hbf) (fun e => by (rw [e] at hc87; exact hc87 rfl)))
          refine c_seq ?_
          refine r_plain ?_
          refine p1 (x_assign (by conv => lhs; whnf)) ?_
          refine p1 (x_assign (by conv => lhs; whnf)) ?_
          refine r_nil ?_
          refine t_n ?_
          refine c_ret ?_
          refine t_r ?_
          refine end2 rfl (by conv => lhs; whnf) (by conv => lhs; whnf) ?_
          first | exact ⟨⟨none, 0, 0, by rw [hp], by rw [hp]; exact Own.nil _ _ _ _ _⟩, hX⟩ | exact ⟨⟨_, _, _, by rw [hp], by rw [hp]; exact hO.recMono (fun j hj h => ⟨h.1, hj⟩)⟩, hX⟩
        · try simp only [decide_eq_true_eq, decide_eq_false_iff_not, Bool.not_eq_true, Bool.not_eq_false, Bool.not_eq_eq_eq_not, Bool.not_true, Bool.not_false, Int.not_lt, Int.not_le] at hb20_1
          refine g1 77 rfl rfl (x_move (by conv => lhs; whnf)) ?_
          refine g1 77 rfl rfl (x_neq rfl rfl) ?_
          refine p1 (x_pick_f rfl (by conv => lhs; whnf)) ?_
          refine p1b (x_move (by conv => lhs; whnf)) (fun hb20_5 => ?_) (fun hb20_5 => ?_)
          · try simp only [decide_eq_true_eq, decide_eq_false_iff_not, Bool.not_eq_true, Bool.not_eq_false, Bool.not_eq_eq_eq_not, Bool.not_true, Bool.not_false, Int.not_lt, Int.not_le] at hb20_5
            refine g0 81 rfl (by first | exact .inl rfl | exact .inr rfl) ?_
            refine g0 81 rfl (by first | exact .inl rfl | exact .inr rfl) ?_
            refine g0 81 rfl (by first | exact .inl rfl | exact .inr rfl) ?_
            refine g0 81 rfl (by first | exact .inl rfl | exact .inr rfl) ?_
            refine g0 81 rfl (by first | exact .inl rfl | exact .inr rfl) ?_
            refine p1 (x_pick_t rfl (by conv => lhs; whnf)) ?_
            refine r_nil ?_
            refine t_n ?_
            refine c_t rfl ?_
            have hp : getI xs = ([], 4) := by
              first
              | exact getI_bad (hfin.1 hb20_1)
              | (have hbf : ¬ bd = true := by (rw [hb20_1]; simp)
                 exact getI_ne (hfin.2 hbf) (fun e => by (rw [e] at hb20_5; exact hb20_5 rfl)))
              | (have hbf : ¬ bd = true := by (rw [hb20_1]; simp)
                 exact getI_ne (hfin.2 hbf) (fun e => by (rw [e] at hc87; exact hc87 rfl)))
            refine c_seq ?_
            refine r_plain ?_
            refine p1 (x_assign (by conv => lhs; whnf)) ?_
            refine p1 (x_assign (by conv => lhs; whnf)) ?_
            refine r_nil ?_
            refine t_n ?_
            refine c_ret ?_
            refine t_r ?_
            refine end2 rfl (by conv => lhs; whnf) (by conv => lhs; whnf) ?_
            first | exact ⟨⟨none, 0, 0, by rw [hp], by rw [hp]; exact Own.nil _ _ _ _ _⟩, hX⟩ | exact ⟨⟨_, _, _, by rw [hp], by rw [hp]; exact hO.recMono (fun j hj h => ⟨h.1, hj⟩)⟩, hX⟩
          · try simp only [decide_eq_true_eq, decide_eq_false_iff_not, Bool.not_eq_true, Bool.not_eq_false, Bool.not_eq_eq_eq_not, Bool.not_true, Bool.not_false, Int.not_lt, Int.not_le] at hb20_5
            refine g1 81 rfl rfl (x_move (by conv => lhs; whnf)) ?_
            refine g1 81 rfl rfl (x_bytes_str u22 u5 u9 rfl hU.sl) ?_
            refine g1 81 rfl rfl (x_move (by conv => lhs; whnf)) ?_
            refine g1 81 rfl rfl (x_bytes_str u22 u5 u9 rfl (hl.ext hX)) ?_
            refine g1 81 rfl rfl (x_neq_str rfl rfl) ?_
            refine p1 (x_pick_f rfl (by conv => lhs; whnf)) ?_
            refine r_nil ?_
            refine t_n ?_
            first | refine c_dec rfl (fun hc87 => ?_) (fun hc87 => ?_) | refine c_if rfl (fun hc87 => ?_) (fun hc87 => ?_)
            · try simp only [decide_eq_true_eq, decide_eq_false_iff_not, Bool.not_eq_true, Bool.not_eq_false, Bool.not_eq_eq_eq_not, Bool.not_true, Bool.not_false, Int.not_lt, Int.not_le] at hc87
              have hp : getI xs = ([], 4) := by
                first
                | exact getI_bad (hfin.1 hb20_1)
                | (have hbf : ¬ bd = true := by (rw [hb20_1]; simp)
                   exact getI_ne (hfin.2 hbf) (fun e => by (rw [e] at hb20_5; exact hb20_5 rfl)))
                | (have hbf : ¬ bd = true := by (rw [hb20_1]; simp)
                   exact getI_ne (hfin.2 hbf) (fun e => by (rw [e] at hc87; exact hc87 rfl)))
              refine c_seq ?_
              refine r_plain ?_
              refine p1 (x_assign (by conv => lhs; whnf)) ?_
              refine p1 (x_assign (by conv => lhs; whnf)) ?_
              refine r_nil ?_
              refine t_n ?_
              refine c_ret ?_
              refine t_r ?_
              refine end2 rfl (by conv => lhs; whnf) (by conv => lhs; whnf) ?_
              first | exact ⟨⟨none, 0, 0, by rw [hp], by rw [hp]; exact Own.nil _ _ _ _ _⟩, hX⟩ | exact ⟨⟨_, _, _, by rw [hp], by rw [hp]; exact hO.recMono (fun j hj h => ⟨h.1, hj⟩)⟩, hX⟩
            · try simp only [decide_eq_true_eq, decide_eq_false_iff_not, Bool.not_eq_true, Bool.not_eq_false, Bool.not_eq_eq_eq_not, Bool.not_true, Bool.not_false, Int.not_lt, Int.not_le] at hc87
              have hbf : ¬ bd = true := by rw [hb20_1]; simp
              have hp : getI xs = (L, 0) := getI_eq (hfin.2 hbf) (Prod.ext (toStr_inj (Classical.byContradiction hc87)) (Classical.byContradiction hb20_5))
              refine c_skip ?_
              refine t_n ?_
              refine c_seq ?_
              refine r_plain ?_
              refine p1 (x_move (by conv => lhs; whnf)) ?_
              refine p1 (x_assign (by conv => lhs; whnf)) ?_
              refine p1 (x_assign (by conv => lhs; whnf)) ?_
              refine r_nil ?_
              refine t_n ?_
              refine c_ret ?_
              refine end2 rfl (by conv => lhs; whnf) (by conv => lhs; whnf) ?_
              first | exact ⟨⟨none, 0, 0, by rw [hp], by rw [hp]; exact Own.nil _ _ _ _ _⟩, hX⟩ | exact ⟨⟨_, _, _, by rw [hp], by rw [hp]; exact hO.recMono (fun j hj h => ⟨h.1, hj⟩)⟩, hX⟩
end Go.Proofs.Eng
end
section
set_option linter.unusedVariables false
set_option linter.unusedSimpArgs false
set_option maxRecDepth 100000
set_option maxHeartbeats 4000000
namespace Go.Proofs.Eng
open Go.RowKit
open Extern.Stop (cell)
theorem fb116 : Try.f116.body.isNone = false := by kernel_rfl
theorem fb117 : Try.f117.body.isNone = false := by kernel_rfl
theorem fn116 : (Try.f116.name == "runtime.NumGoroutine") = false := by kernel_rfl
theorem fn117 : (Try.f117.name == "runtime.NumGoroutine") = false := by kernel_rfl
theorem fo104_0 : fieldOf Try.prog 104 0 = some (22, 0) := by kernel_rfl
theorem fo104_1 : fieldOf Try.prog 104 1 = some (3, 1) := by kernel_rfl
theorem pl104 : placed Try.prog 104 = some (.agg #[.slice none 0 0, .int .i64 0], [(0, 1), (1, 1)]) := by kernel_rfl
theorem sz104 : (Try.prog.info? 104).map (·.size) = some 2 := by kernel_rfl
theorem sz3 : (Try.prog.info? 3).map (·.size) = some 1 := by kernel_rfl
theorem ua104 : (Try.prog.underlying 104).map TypeDesc.isRow = some true := by kernel_rfl
theorem un3 : (Try.prog.underlying 3).map TypeDesc.isRow = some false := by kernel_rfl
theorem zr104 : (Try.prog.info? 104).map (·.zero) = some (some (.agg #[.slice none 0 0, .int .i64 0])) := by kernel_rfl
end Go.Proofs.Eng
end
section
set_option linter.unusedVariables false
set_option linter.unusedSimpArgs false
set_option maxRecDepth 100000
set_option maxHeartbeats 4000000
namespace Go.Proofs.Eng
open Go.RowKit
open Extern.Stop (cell)
theorem failed_ne {err e : Int} (h : err ≠ 0 ∨ e ≠ 0) : (if err = 0 then e else err) ≠ 0 := by
  by_cases h0 : err = 0
  · rw [if_pos h0]; exact h.resolve_left (fun hn => hn h0)
  · rw [if_neg h0]; exact h0
theorem reader_failed (q : Option Addr) (m c : Nat) (err e : Int) (w : World) :
    Ret Try.prog 116 [.agg #[.slice q m c, .int .i64 err], .int .i64 e] w (fun v w' => v = .agg #[.slice q m c, .int .i64 (if err = 0 then e else err)] ∧ Ext w w') := by
  have hX := Ext.refl w
  refine enter 11 _ Try.func116 rfl rfl (Nat.le_of_ble_eq_true rfl) ?_
  refine c_seq ?_
  refine r_plain ?_
  have hXs2 := hX.size
  refine o_boxA (by conv => lhs; whnf) ?_
  intro w1 g2 hN2
  have hE1 := hN2.ext
  have hX := hX.ext hE1
  have hB2 := hN2.blk
  have hXs4 := hX.size
  refine o_alloc zr104 ?_
  intro w2 g4 hN4
  have hE2 := hN4.ext
  have hX := hX.ext hE2
  have hB2 := hB2.ext hE2
  have hB4 := hN4.blk
  refine r_nil ?_
  refine t_n ?_
  refine c_seq ?_
  refine c_seq ?_
  refine r_plain ?_
  refine p1 (x_fieldAddr fo104_1 sz3 rfl) ?_
  refine p1 (x_load1 un3 rfl (hB2.cell (rfl))) ?_
  refine p1 (x_eql rfl rfl) ?_
  refine r_nil ?_
  refine t_n ?_
  first | refine c_dec rfl (fun hc7 => ?_) (fun hc7 => ?_) | refine c_if rfl (fun hc7 => ?_) (fun hc7 => ?_)
  · try simp only [decide_eq_true_eq, decide_eq_false_iff_not, Bool.not_eq_true, Bool.not_eq_false, Bool.not_eq_eq_eq_not, Bool.not_true, Bool.not_false, Int.not_lt, Int.not_le] at hc7
    refine r_plain ?_
    refine p1 (x_move (by conv => lhs; whnf)) ?_
    refine p1 (x_fieldAddr fo104_1 sz3 rfl) ?_
    refine o_store1 rfl (by conv => lhs; whnf) rfl rfl sz3 hB2 (by simp) ?_
    intro w3 hP3
    have hX := hX.put hP3 (by rw [hN2.g_eq]; exact hXs2)
    have hB2 := hP3.blk
    simp only [List.setIfInBounds_toArray, List.set_cons_zero, List.set_cons_succ] at hB2
    have hB4 := hP3.keep hB4 (by have h1 := hN4.g_eq; have h2 := hN2.g_eq; have h3 := hN2.blk.lt; omega)
    refine r_nil ?_
    refine t_n ?_
    refine c_seq ?_
    refine r_plain ?_
    refine p1 (x_loadB ua104 rfl hB2 sz104) ?_
    refine o_storeAll rfl (by conv => lhs; whnf) (by simp [Value.oneCell']) (by exact sz104) hB4 (by rfl) ?_
    intro w4 hP4
    have hX := hX.put hP4 (by rw [hN4.g_eq]; exact hXs4)
    have hB2 := hP4.keep hB2 (by have h1 := hN4.g_eq; have h2 := hN2.g_eq; have h3 := hN2.blk.lt; omega)
    have hB4 := hP4.blk
    refine r_nil ?_
    refine t_n ?_
    refine c_ret ?_
    refine end1c rfl ua104 rfl hB4 sz104 ?_
    first | (rw [if_pos hc7]; exact ⟨rfl, hX⟩) | (rw [if_neg hc7]; exact ⟨rfl, hX⟩)
  · try simp only [decide_eq_true_eq, decide_eq_false_iff_not, Bool.not_eq_true, Bool.not_eq_false, Bool.not_eq_eq_eq_not, Bool.not_true, Bool.not_false, Int.not_lt, Int.not_le] at hc7
    refine c_skip ?_
    refine t_n ?_
    refine c_seq ?_
    refine r_plain ?_
    refine p1 (x_loadB ua104 rfl hB2 sz104) ?_
    refine o_storeAll rfl (by conv => lhs; whnf) (by simp [Value.oneCell']) (by exact sz104) hB4 (by rfl) ?_
    intro w5 hP5
    have hX := hX.put hP5 (by rw [hN4.g_eq]; exact hXs4)
    have hB2 := hP5.keep hB2 (by have h1 := hN4.g_eq; have h2 := hN2.g_eq; have h3 := hN2.blk.lt; omega)
    have hB4 := hP5.blk
    refine r_nil ?_
    refine t_n ?_
    refine c_ret ?_
    refine end1c rfl ua104 rfl hB4 sz104 ?_
    first | (rw [if_pos hc7]; exact ⟨rfl, hX⟩) | (rw [if_neg hc7]; exact ⟨rfl, hX⟩)
theorem reader_Uint (R : List UInt8) (B : Nat) (q : Option Addr) (m c : Nat) (err : Int) (w : World) (hl : Sl kByte 5 B w q m c R) (mo : Nat) (hmo : mo < 18446744073709551616) :
    Ret Try.prog 78 [.agg #[.slice q m c, .int .i64 err], .int .u64 (mo : Int)] w (fun v w' => (∃ (q' : Option Addr) (m' c' : Nat) (err' : Int) (R' : List UInt8) (N : Nat), v = .tuple #[.agg #[.slice q' m' c', .int .i64 err'], .int .u64 (N : Int)] ∧ N < 18446744073709551616 ∧ Sl kByte 5 B w' q' m' c' R' ∧ Took (pNum mo R) (err ≠ 0) (err' ≠ 0) N R R') ∧ Ext w w') := by
  have hU18 : (getU R).1 < 18446744073709551616 := by
    by_cases h : (getU R).2.2 = 0
    · exact (getU_bounds h).2.2.2
    · rw [(getU_zero h).1]; omega
  have hX := Ext.refl w
  refine enter 39 _ Try.func78 rfl rfl (Nat.le_of_ble_eq_true rfl) ?_
  refine c_seq ?_
  have hlen := hl.len
  have hfit := hl.fit
  have hcap := hl.cap
  refine r_plain ?_
  refine o_boxA (by conv => lhs; whnf) ?_
  intro w1 g2 hN2
  have hE1 := hN2.ext
  have hX := hX.ext hE1
  have hB2 := hN2.blk
  have hXs4 := hX.size
  refine o_alloc zr104 ?_
  intro w2 g4 hN4
  have hE2 := hN4.ext
  have hX := hX.ext hE2
  have hB2 := hB2.ext hE2
  have hB4 := hN4.blk
  refine p1 (x_assign (by conv => lhs; whnf)) ?_
  refine r_nil ?_
  refine t_n ?_
  refine c_seq ?_
  refine r_plain ?_
  refine p1 (x_fieldAddr fo104_0 sz22 rfl) ?_
  refine p1 (x_load1 un22 rfl (hB2.cell (rfl))) ?_
  refine o_call Try.func97 fn97 fb97 (ref02_GetUint R _ _ _ _ _ (hl.ext hX)) rfl ?_
  rintro v3 w3 ⟨rfl, hE3⟩
  have hX := hX.ext hE3
  have hB2 := hB2.ext hE3
  have hB4 := hB4.ext hE3
  refine p1 (x_move (by conv => lhs; whnf)) ?_
  refine p1 (x_extract rfl rfl) ?_
  refine p1 (x_extract rfl rfl) ?_
  refine p1 (x_extract rfl rfl) ?_
  refine p1 (x_assign (by conv => lhs; whnf)) ?_
  refine p1 (x_assign (by conv => lhs; whnf)) ?_
  refine p1 (x_assign (by conv => lhs; whnf)) ?_
  refine r_nil ?_
  refine t_n ?_
  refine c_seq ?_
  refine c_seq ?_
  refine r_plain ?_
  refine p1 (x_move (by conv => lhs; whnf)) ?_
  refine l_cut 6 [17, 18, 19, 20, 21, 22] [(22, .bool (decide ((getU R).2.2 = 0 ∧ (mo : Int) < ((getU R).1 : Int))))] ?_ ?_
  · skip
    refine p1 (x_eql rfl rfl) ?_
    refine p1b (x_move (by conv => lhs; whnf)) (fun hb2_2 => ?_) (fun hb2_2 => ?_)
    · try simp only [decide_eq_true_eq, decide_eq_false_iff_not, Bool.not_eq_true, Bool.not_eq_false, Bool.not_eq_eq_eq_not, Bool.not_true, Bool.not_false, Int.not_lt, Int.not_le] at hb2_2
      refine g1 18 rfl rfl (x_move (by conv => lhs; whnf)) ?_
      refine g1 18 rfl rfl (x_move (by conv => lhs; whnf)) ?_
      refine g1 18 rfl rfl (x_gtr rfl rfl) ?_
      refine p1 (x_pick_t rfl (by conv => lhs; whnf)) ?_
      exact l_cutend rfl (by repeat (first | exact Agr.refl _ _ | exact Agr.hav _ _ _ | refine Agr.upd rfl ?_ | refine Agr.updL ?_ _ rfl | refine Agr.hav' rfl ?_)) ⟨congrArg Value.bool (by first | rfl | exact (decide_eq_true (by omega)).symm | exact (decide_eq_false (by omega)).symm | exact decide_eq_decide.2 (by omega) | (simp_all; done) | grind), trivial⟩
    · try simp only [decide_eq_true_eq, decide_eq_false_iff_not, Bool.not_eq_true, Bool.not_eq_false, Bool.not_eq_eq_eq_not, Bool.not_true, Bool.not_false, Int.not_lt, Int.not_le] at hb2_2
      refine g0 18 rfl (by first | exact .inl rfl | exact .inr rfl) ?_
      refine g0 18 rfl (by first | exact .inl rfl | exact .inr rfl) ?_
      refine g0 18 rfl (by first | exact .inl rfl | exact .inr rfl) ?_
      refine p1 (x_pick_f rfl (by conv => lhs; whnf)) ?_
      exact l_cutend rfl (by repeat (first | exact Agr.refl _ _ | exact Agr.hav _ _ _ | refine Agr.upd rfl ?_ | refine Agr.updL ?_ _ rfl | refine Agr.hav' rfl ?_)) ⟨congrArg Value.bool (by first | rfl | exact (decide_eq_true (by omega)).symm | exact (decide_eq_false (by omega)).symm | exact decide_eq_decide.2 (by omega) | (simp_all; done) | grind), trivial⟩
  · intro Gr2_1
    refine r_nil ?_
    refine t_n ?_
    first | refine c_dec rfl (fun hc22 => ?_) (fun hc22 => ?_) | refine c_if rfl (fun hc22 => ?_) (fun hc22 => ?_)
    · try simp only [decide_eq_true_eq, decide_eq_false_iff_not, Bool.not_eq_true, Bool.not_eq_false, Bool.not_eq_eq_eq_not, Bool.not_true, Bool.not_false, Int.not_lt, Int.not_le] at hc22
      obtain ⟨e5, he5⟩ : ∃ x : Int, x = 5 := ⟨_, rfl⟩
      refine r_plain ?_
      refine p1 (x_assign (by conv => lhs; whnf)) ?_
      refine r_nil ?_
      refine t_n ?_
      refine c_seq ?_
      refine c_seq ?_
      refine r_plain ?_
      refine p1 (x_fieldAddr fo104_1 sz3 rfl) ?_
      refine p1 (x_load1 un3 rfl (hB2.cell (rfl))) ?_
      refine l_cut 5 [25, 26, 27, 28, 29] [(29, .bool (decide (err ≠ 0 ∨ e5 ≠ 0)))] ?_ ?_
      · skip
        refine p1 (x_neq rfl rfl) ?_
        refine p1b (x_move (by conv => lhs; whnf)) (fun hb4_3 => ?_) (fun hb4_3 => ?_)
        · try simp only [decide_eq_true_eq, decide_eq_false_iff_not, Bool.not_eq_true, Bool.not_eq_false, Bool.not_eq_eq_eq_not, Bool.not_true, Bool.not_false, Int.not_lt, Int.not_le] at hb4_3
          refine g0 26 rfl (by first | exact .inl rfl | exact .inr rfl) ?_
          refine g0 26 rfl (by first | exact .inl rfl | exact .inr rfl) ?_
          refine p1 (x_pick_t rfl (by conv => lhs; whnf)) ?_
          exact l_cutend rfl (by repeat (first | exact Agr.refl _ _ | exact Agr.hav _ _ _ | refine Agr.upd rfl ?_ | refine Agr.updL ?_ _ rfl | refine Agr.hav' rfl ?_)) ⟨congrArg Value.bool (by subst he5; first | rfl | exact (decide_eq_true (by omega)).symm | exact (decide_eq_false (by omega)).symm | exact decide_eq_decide.2 (by omega) | (simp_all; done) | grind), trivial⟩
        · try simp only [decide_eq_true_eq, decide_eq_false_iff_not, Bool.not_eq_true, Bool.not_eq_false, Bool.not_eq_eq_eq_not, Bool.not_true, Bool.not_false, Int.not_lt, Int.not_le] at hb4_3
          refine g1 26 rfl rfl (x_move (by conv => lhs; whnf)) ?_
          refine g1 26 rfl rfl (x_neq rfl rfl) ?_
          refine p1 (x_pick_f rfl (by conv => lhs; whnf)) ?_
          exact l_cutend rfl (by repeat (first | exact Agr.refl _ _ | exact Agr.hav _ _ _ | refine Agr.upd rfl ?_ | refine Agr.updL ?_ _ rfl | refine Agr.hav' rfl ?_)) ⟨congrArg Value.bool (by subst he5; first | rfl | exact (decide_eq_true (by omega)).symm | exact (decide_eq_false (by omega)).symm | exact decide_eq_decide.2 (by omega) | (simp_all; done) | grind), trivial⟩
      · intro Gr4_2
        refine r_nil ?_
        refine t_n ?_
        first | refine c_dec rfl (fun hc29 => ?_) (fun hc29 => ?_) | refine c_if rfl (fun hc29 => ?_) (fun hc29 => ?_)
        · try simp only [decide_eq_true_eq, decide_eq_false_iff_not, Bool.not_eq_true, Bool.not_eq_false, Bool.not_eq_eq_eq_not, Bool.not_true, Bool.not_false, Int.not_lt, Int.not_le] at hc29
          refine c_seq ?_
          refine r_plain ?_
          refine p1 (x_loadB ua104 rfl hB2 sz104) ?_
          refine p1 (x_move (by conv => lhs; whnf)) ?_
          refine o_call Try.func116 fn116 fb116 (reader_failed _ _ _ _ _ _) rfl ?_
          rintro v4 w4 ⟨rfl, hE4⟩
          have hX := hX.ext hE4
          have hB2 := hB2.ext hE4
          have hB4 := hB4.ext hE4
          refine o_storeAll rfl (by conv => lhs; whnf) (by simp [Value.oneCell']) (by exact sz104) hB4 (by rfl) ?_
          intro w5 hP5
          have hX := hX.put hP5 (by rw [hN4.g_eq]; exact hXs4)
          have hB2 := hP5.keep hB2 (by have h1 := hN4.g_eq; have h2 := hN2.g_eq; have h3 := hN2.blk.lt; omega)
          have hB4 := hP5.blk
          refine p1 (x_assign (by conv => lhs; whnf)) ?_
          refine r_nil ?_
          refine t_n ?_
          refine c_ret ?_
          refine t_r ?_
          refine end2c rfl ua104 rfl (by conv => lhs; whnf) hB4 sz104 ?_
          subst he5
          first
            | (refine ⟨⟨_, _, _, _, R, 0, rfl, by omega, hl.ext hX, took_bad (failed_ne hc29) fun hn => ?_⟩, hX⟩
               unfold pNum; exact if_neg (by omega))
            | (refine ⟨⟨_, _, _, _, R.drop (getU R).2.1, (getU R).1, rfl, hU18, (hl.ext hX).dropI _ (by have := getU_used R; omega), took_ok (by simp) (by omega) ?_⟩, hX⟩
               unfold pNum; exact if_pos (by omega))
        · try simp only [decide_eq_true_eq, decide_eq_false_iff_not, Bool.not_eq_true, Bool.not_eq_false, Bool.not_eq_eq_eq_not, Bool.not_true, Bool.not_false, Int.not_lt, Int.not_le] at hc29
          refine c_skip ?_
          refine t_n ?_
          refine c_seq ?_
          refine r_plain ?_
          refine p1 (x_fieldAddr fo104_0 sz22 rfl) ?_
          refine p1 (x_load1 un22 rfl (hB2.cell (rfl))) ?_
          refine p1 (x_move (by conv => lhs; whnf)) ?_
          refine p1 (x_slice_lN u22 sz5 rfl rfl (by have := getU_used R; omega)) ?_
          refine p1 (x_build2 pl104 (by conv => lhs; whnf) (by conv => lhs; whnf) rfl rfl) ?_
          refine p1 (x_move (by conv => lhs; whnf)) ?_
          refine o_storeAll rfl (by conv => lhs; whnf) (by simp [Value.oneCell']) (by exact sz104) hB4 (by rfl) ?_
          intro w6 hP6
          have hX := hX.put hP6 (by rw [hN4.g_eq]; exact hXs4)
          have hB2 := hP6.keep hB2 (by have h1 := hN4.g_eq; have h2 := hN2.g_eq; have h3 := hN2.blk.lt; omega)
          have hB4 := hP6.blk
          refine p1 (x_assign (by conv => lhs; whnf)) ?_
          refine r_nil ?_
          refine t_n ?_
          refine c_ret ?_
          refine end2c rfl ua104 rfl (by conv => lhs; whnf) hB4 sz104 ?_
          subst he5
          first
            | (refine ⟨⟨_, _, _, _, R, 0, rfl, by omega, hl.ext hX, took_bad (failed_ne hc29) fun hn => ?_⟩, hX⟩
               unfold pNum; exact if_neg (by omega))
            | (refine ⟨⟨_, _, _, _, R.drop (getU R).2.1, (getU R).1, rfl, hU18, (hl.ext hX).dropI _ (by have := getU_used R; omega), took_ok (by simp) (by omega) ?_⟩, hX⟩
               unfold pNum; exact if_pos (by omega))
    · try simp only [decide_eq_true_eq, decide_eq_false_iff_not, Bool.not_eq_true, Bool.not_eq_false, Bool.not_eq_eq_eq_not, Bool.not_true, Bool.not_false, Int.not_lt, Int.not_le] at hc22
      obtain ⟨e5, he5⟩ : ∃ x : Int, x = (getU R).2.2 := ⟨_, rfl⟩
      refine c_skip ?_
      refine t_n ?_
      refine c_seq ?_
      refine c_seq ?_
      refine r_plain ?_
      refine p1 (x_fieldAddr fo104_1 sz3 rfl) ?_
      refine p1 (x_load1 un3 rfl (hB2.cell (rfl))) ?_
      refine l_cut 5 [25, 26, 27, 28, 29] [(29, .bool (decide (err ≠ 0 ∨ e5 ≠ 0)))] ?_ ?_
      · skip
        refine p1 (x_neq rfl rfl) ?_
        refine p1b (x_move (by conv => lhs; whnf)) (fun hb4_3 => ?_) (fun hb4_3 => ?_)
        · try simp only [decide_eq_true_eq, decide_eq_false_iff_not, Bool.not_eq_true, Bool.not_eq_false, Bool.not_eq_eq_eq_not, Bool.not_true, Bool.not_false, Int.not_lt, Int.not_le] at hb4_3
          refine g0 26 rfl (by first | exact .inl rfl | exact .inr rfl) ?_
          refine g0 26 rfl (by first | exact .inl rfl | exact .inr rfl) ?_
          refine p1 (x_pick_t rfl (by conv => lhs; whnf)) ?_
          exact l_cutend rfl (by repeat (first | exact Agr.refl _ _ | exact Agr.hav _ _ _ | refine Agr.upd rfl ?_ | refine Agr.updL ?_ _ rfl | refine Agr.hav' rfl ?_)) ⟨congrArg Value.bool (by subst he5; first | rfl | exact (decide_eq_true (by omega)).symm | exact (decide_eq_false (by omega)).symm | exact decide_eq_decide.2 (by omega) | (simp_all; done) | grind), trivial⟩
        · try simp only [decide_eq_true_eq, decide_eq_false_iff_not, Bool.not_eq_true, Bool.not_eq_false, Bool.not_eq_eq_eq_not, Bool.not_true, Bool.not_false, Int.not_lt, Int.not_le] at hb4_3
          refine g1 26 rfl rfl (x_move (by conv => lhs; whnf)) ?_
          refine g1 26 rfl rfl (x_neq rfl rfl) ?_
          refine p1 (x_pick_f rfl (by conv => lhs; whnf)) ?_
          exact l_cutend rfl (by repeat (first | exact Agr.refl _ _ | exact Agr.hav _ _ _ | refine Agr.upd rfl ?_ | refine Agr.updL ?_ _ rfl | refine Agr.hav' rfl ?_)) ⟨congrArg Value.bool (by subst he5; first | rfl | exact (decide_eq_true (by omega)).symm | exact (decide_eq_false (by omega)).symm | exact decide_eq_decide.2 (by omega) | (simp_all; done) | grind), trivial⟩
      · intro Gr4_2
        refine r_nil ?_
        refine t_n ?_
        first | refine c_dec rfl (fun hc29 => ?_) (fun hc29 => ?_) | refine c_if rfl (fun hc29 => ?_) (fun hc29 => ?_)
        · try simp only [decide_eq_true_eq, decide_eq_false_iff_not, Bool.not_eq_true, Bool.not_eq_false, Bool.not_eq_eq_eq_not, Bool.not_true, Bool.not_false, Int.not_lt, Int.not_le] at hc29
          refine c_seq ?_
          refine r_plain ?_
          refine p1 (x_loadB ua104 rfl hB2 sz104) ?_
          refine p1 (x_move (by conv => lhs; whnf)) ?_
          refine o_call Try.func116 fn116 fb116 (reader_failed _ _ _ _ _ _) rfl ?_
          rintro v7 w7 ⟨rfl, hE7⟩
          have hX := hX.ext hE7
          have hB2 := hB2.ext hE7
          have hB4 := hB4.ext hE7
          refine o_storeAll rfl (by conv => lhs; whnf) (by simp [Value.oneCell']) (by exact sz104) hB4 (by rfl) ?_
          intro w8 hP8
          have hX := hX.put hP8 (by rw [hN4.g_eq]; exact hXs4)
          have hB2 := hP8.keep hB2 (by have h1 := hN4.g_eq; have h2 := hN2.g_eq; have h3 := hN2.blk.lt; omega)
          have hB4 := hP8.blk
          refine p1 (x_assign (by conv => lhs; whnf)) ?_
          refine r_nil ?_
          refine t_n ?_
          refine c_ret ?_
          refine t_r ?_
          refine end2c rfl ua104 rfl (by conv => lhs; whnf) hB4 sz104 ?_
          subst he5
          first
            | (refine ⟨⟨_, _, _, _, R, 0, rfl, by omega, hl.ext hX, took_bad (failed_ne hc29) fun hn => ?_⟩, hX⟩
               unfold pNum; exact if_neg (by omega))
            | (refine ⟨⟨_, _, _, _, R.drop (getU R).2.1, (getU R).1, rfl, hU18, (hl.ext hX).dropI _ (by have := getU_used R; omega), took_ok (by simp) (by omega) ?_⟩, hX⟩
               unfold pNum; exact if_pos (by omega))
        · try simp only [decide_eq_true_eq, decide_eq_false_iff_not, Bool.not_eq_true, Bool.not_eq_false, Bool.not_eq_eq_eq_not, Bool.not_true, Bool.not_false, Int.not_lt, Int.not_le] at hc29
          refine c_skip ?_
          refine t_n ?_
          refine c_seq ?_
          refine r_plain ?_
          refine p1 (x_fieldAddr fo104_0 sz22 rfl) ?_
          refine p1 (x_load1 un22 rfl (hB2.cell (rfl))) ?_
          refine p1 (x_move (by conv => lhs; whnf)) ?_
          refine p1 (x_slice_lN u22 sz5 rfl rfl (by have := getU_used R; omega)) ?_
          refine p1 (x_build2 pl104 (by conv => lhs; whnf) (by conv => lhs; whnf) rfl rfl) ?_
          refine p1 (x_move (by conv => lhs; whnf)) ?_
          refine o_storeAll rfl (by conv => lhs; whnf) (by simp [Value.oneCell']) (by exact sz104) hB4 (by rfl) ?_
          intro w9 hP9
          have hX := hX.put hP9 (by rw [hN4.g_eq]; exact hXs4)
          have hB2 := hP9.keep hB2 (by have h1 := hN4.g_eq; have h2 := hN2.g_eq; have h3 := hN2.blk.lt; omega)
          have hB4 := hP9.blk
          refine p1 (x_assign (by conv => lhs; whnf)) ?_
          refine r_nil ?_
          refine t_n ?_
          refine c_ret ?_
          refine end2c rfl ua104 rfl (by conv => lhs; whnf) hB4 sz104 ?_
          subst he5
          first
            | (refine ⟨⟨_, _, _, _, R, 0, rfl, by omega, hl.ext hX, took_bad (failed_ne hc29) fun hn => ?_⟩, hX⟩
               unfold pNum; exact if_neg (by omega))
            | (refine ⟨⟨_, _, _, _, R.drop (getU R).2.1, (getU R).1, rfl, hU18, (hl.ext hX).dropI _ (by have := getU_used R; omega), took_ok (by simp) (by omega) ?_⟩, hX⟩
               unfold pNum; exact if_pos (by omega))
theorem reader_Text (R : List UInt8) (B : Nat) (q : Option Addr) (m c : Nat) (err : Int) (w : World) (hl : Sl kByte 5 B w q m c R) (hs : m ≤ 140737490000000) :
    Ret Try.prog 79 [.agg #[.slice q m c, .int .i64 err], .int .i64 32] w (fun v w' => (∃ (q' : Option Addr) (m' c' : Nat) (err' : Int) (R' : List UInt8) (s : ByteArray), v = .tuple #[.agg #[.slice q' m' c', .int .i64 err'], .string s] ∧ s.size ≤ R.length ∧ Sl kByte 5 B w' q' m' c' R' ∧ Took (pTxt R) (err ≠ 0) (err' ≠ 0) s R R') ∧ Ext w w') := by
  have hX := Ext.refl w
  refine enter 33 _ Try.func79 rfl rfl (Nat.le_of_ble_eq_true rfl) ?_
  refine c_seq ?_
  have hlen := hl.len
  have hfit := hl.fit
  have hcap := hl.cap
  refine r_plain ?_
  refine o_boxA (by conv => lhs; whnf) ?_
  intro w1 g2 hN2
  have hE1 := hN2.ext
  have hX := hX.ext hE1
  have hB2 := hN2.blk
  have hXs4 := hX.size
  refine o_alloc zr104 ?_
  intro w2 g4 hN4
  have hE2 := hN4.ext
  have hX := hX.ext hE2
  have hB2 := hB2.ext hE2
  have hB4 := hN4.blk
  refine p1 (x_assign (by conv => lhs; whnf)) ?_
  refine r_nil ?_
  refine t_n ?_
  refine c_seq ?_
  refine r_plain ?_
  refine p1 (x_fieldAddr fo104_0 sz22 rfl) ?_
  refine p1 (x_load1 un22 rfl (hB2.cell (rfl))) ?_
  refine p1 (x_move (by conv => lhs; whnf)) ?_
  refine o_call Try.func117 fn117 fb117 (ref02_GetText R 32 _ _ _ _ _ (hl.ext hX) (by omega) (by omega)) rfl ?_
  rintro v3 w3 ⟨rfl, hE3⟩
  have hX := hX.ext hE3
  have hB2 := hB2.ext hE3
  have hB4 := hB4.ext hE3
  refine p1 (x_move (by conv => lhs; whnf)) ?_
  refine p1 (x_extract rfl rfl) ?_
  refine p1 (x_extract rfl rfl) ?_
  refine p1 (x_extract rfl rfl) ?_
  refine p1 (x_assign (by conv => lhs; whnf)) ?_
  refine p1 (x_assign (by conv => lhs; whnf)) ?_
  refine p1 (x_assign (by conv => lhs; whnf)) ?_
  refine r_nil ?_
  refine t_n ?_
  refine c_seq ?_
  refine c_seq ?_
  refine r_plain ?_
  refine p1 (x_fieldAddr fo104_1 sz3 rfl) ?_
  refine p1 (x_load1 un3 rfl (hB2.cell (rfl))) ?_
  refine l_cut 5 [19, 20, 21, 22, 23] [(23, .bool (decide (err ≠ 0 ∨ (getT R 32).2.2 ≠ 0)))] ?_ ?_
  · skip
    refine p1 (x_neq rfl rfl) ?_
    refine p1b (x_move (by conv => lhs; whnf)) (fun hb2_3 => ?_) (fun hb2_3 => ?_)
    · try simp only [decide_eq_true_eq, decide_eq_false_iff_not, Bool.not_eq_true, Bool.not_eq_false, Bool.not_eq_eq_eq_not, Bool.not_true, Bool.not_false, Int.not_lt, Int.not_le] at hb2_3
      refine g0 20 rfl (by first | exact .inl rfl | exact .inr rfl) ?_
      refine g0 20 rfl (by first | exact .inl rfl | exact .inr rfl) ?_
      refine p1 (x_pick_t rfl (by conv => lhs; whnf)) ?_
      exact l_cutend rfl (by repeat (first | exact Agr.refl _ _ | exact Agr.hav _ _ _ | refine Agr.upd rfl ?_ | refine Agr.updL ?_ _ rfl | refine Agr.hav' rfl ?_)) ⟨congrArg Value.bool (by first | rfl | exact (decide_eq_true (by omega)).symm | exact (decide_eq_false (by omega)).symm | exact decide_eq_decide.2 (by omega) | (simp_all; done) | grind), trivial⟩
    · try simp only [decide_eq_true_eq, decide_eq_false_iff_not, Bool.not_eq_true, Bool.not_eq_false, Bool.not_eq_eq_eq_not, Bool.not_true, Bool.not_false, Int.not_lt, Int.not_le] at hb2_3
      refine g1 20 rfl rfl (x_move (by conv => lhs; whnf)) ?_
      refine g1 20 rfl rfl (x_neq rfl rfl) ?_
      refine p1 (x_pick_f rfl (by conv => lhs; whnf)) ?_
      exact l_cutend rfl (by repeat (first | exact Agr.refl _ _ | exact Agr.hav _ _ _ | refine Agr.upd rfl ?_ | refine Agr.updL ?_ _ rfl | refine Agr.hav' rfl ?_)) ⟨congrArg Value.bool (by first | rfl | exact (decide_eq_true (by omega)).symm | exact (decide_eq_false (by omega)).symm | exact decide_eq_decide.2 (by omega) | (simp_all; done) | grind), trivial⟩
  · intro Gr2_2
    refine r_nil ?_
    refine t_n ?_
    first | refine c_dec rfl (fun hc23 => ?_) (fun hc23 => ?_) | refine c_if rfl (fun hc23 => ?_) (fun hc23 => ?_)
    · try simp only [decide_eq_true_eq, decide_eq_false_iff_not, Bool.not_eq_true, Bool.not_eq_false, Bool.not_eq_eq_eq_not, Bool.not_true, Bool.not_false, Int.not_lt, Int.not_le] at hc23
      refine c_seq ?_
      refine r_plain ?_
      refine p1 (x_loadB ua104 rfl hB2 sz104) ?_
      refine p1 (x_move (by conv => lhs; whnf)) ?_
      refine o_call Try.func116 fn116 fb116 (reader_failed _ _ _ _ _ _) rfl ?_
      rintro v4 w4 ⟨rfl, hE4⟩
      have hX := hX.ext hE4
      have hB2 := hB2.ext hE4
      have hB4 := hB4.ext hE4
      refine o_storeAll rfl (by conv => lhs; whnf) (by simp [Value.oneCell']) (by exact sz104) hB4 (by rfl) ?_
      intro w5 hP5
      have hX := hX.put hP5 (by rw [hN4.g_eq]; exact hXs4)
      have hB2 := hP5.keep hB2 (by have h1 := hN4.g_eq; have h2 := hN2.g_eq; have h3 := hN2.blk.lt; omega)
      have hB4 := hP5.blk
      refine p1 (x_assign (by conv => lhs; whnf)) ?_
      refine r_nil ?_
      refine t_n ?_
      refine c_ret ?_
      refine t_r ?_
      refine end2c rfl ua104 rfl (by conv => lhs; whnf) hB4 sz104 ?_
      first
        | (refine ⟨⟨_, _, _, _, R, ByteArray.empty, rfl, Nat.zero_le _, hl.ext hX, took_bad (failed_ne hc23) fun hn => ?_⟩, hX⟩
           rw [pTxt_if, if_neg (by omega)])
        | (refine ⟨⟨_, _, _, _, R.drop (getT R 32).2.1, (getT R 32).1, rfl, (getT_used R 32).2, (hl.ext hX).dropI _ (by have := (getT_used R 32).1; omega), took_ok (by simp) (by omega) ?_⟩, hX⟩
           rw [pTxt_if, if_pos (by omega)])
    · try simp only [decide_eq_true_eq, decide_eq_false_iff_not, Bool.not_eq_true, Bool.not_eq_false, Bool.not_eq_eq_eq_not, Bool.not_true, Bool.not_false, Int.not_lt, Int.not_le] at hc23
      refine c_skip ?_
      refine t_n ?_
      refine c_seq ?_
      refine r_plain ?_
      refine p1 (x_fieldAddr fo104_0 sz22 rfl) ?_
      refine p1 (x_load1 un22 rfl (hB2.cell (rfl))) ?_
      refine p1 (x_move (by conv => lhs; whnf)) ?_
      refine p1 (x_slice_lN u22 sz5 rfl rfl (by have := (getT_used R 32).1; omega)) ?_
      refine p1 (x_build2 pl104 (by conv => lhs; whnf) (by conv => lhs; whnf) rfl rfl) ?_
      refine p1 (x_move (by conv => lhs; whnf)) ?_
      refine o_storeAll rfl (by conv => lhs; whnf) (by simp [Value.oneCell']) (by exact sz104) hB4 (by rfl) ?_
      intro w6 hP6
      have hX := hX.put hP6 (by rw [hN4.g_eq]; exact hXs4)
      have hB2 := hP6.keep hB2 (by have h1 := hN4.g_eq; have h2 := hN2.g_eq; have h3 := hN2.blk.lt; omega)
      have hB4 := hP6.blk
      refine p1 (x_assign (by conv => lhs; whnf)) ?_
      refine r_nil ?_
      refine t_n ?_
      refine c_ret ?_
      refine end2c rfl ua104 rfl (by conv => lhs; whnf) hB4 sz104 ?_
      first
        | (refine ⟨⟨_, _, _, _, R, ByteArray.empty, rfl, Nat.zero_le _, hl.ext hX, took_bad (failed_ne hc23) fun hn => ?_⟩, hX⟩
           rw [pTxt_if, if_neg (by omega)])
        | (refine ⟨⟨_, _, _, _, R.drop (getT R 32).2.1, (getT R 32).1, rfl, (getT_used R 32).2, (hl.ext hX).dropI _ (by have := (getT_used R 32).1; omega), took_ok (by simp) (by omega) ?_⟩, hX⟩
           rw [pTxt_if, if_pos (by omega)])
end Go.Proofs.Eng
end
section
set_option linter.unusedVariables false
set_option linter.unusedSimpArgs false
set_option maxRecDepth 100000
set_option maxHeartbeats 4000000
namespace Go.Proofs.Eng
open Go.RowKit
open Extern.Stop (cell)
theorem fb78 : Try.f78.body.isNone = false := by kernel_rfl
theorem fb79 : Try.f79.body.isNone = false := by kernel_rfl
theorem fn78 : (Try.f78.name == "runtime.NumGoroutine") = false := by kernel_rfl
theorem fn79 : (Try.f79.name == "runtime.NumGoroutine") = false := by kernel_rfl
end Go.Proofs.Eng
end
section
set_option linter.unusedVariables false
set_option linter.unusedSimpArgs false
set_option maxRecDepth 100000
set_option maxHeartbeats 4000000
namespace Go.Proofs.Eng
open Go.RowKit
open Extern.Stop (cell)
theorem took_hs {b : Prop} (mo : Nat) (R : List UInt8) : Took (pHs mo R) b (b ∨ (gets R mo).2.2 ≠ 0) (gets R mo).1 R (R.drop (gets R mo).2.1) := by
  refine ⟨by rw [List.length_drop]; omega, .inl, fun hb => ?_⟩
  rw [pHs_if]
  by_cases h : (gets R mo).2.2 = 0
  · rw [if_pos h]; exact .inl ⟨fun h2 => h2.elim hb (fun h3 => h3 h), rfl⟩
  · rw [if_neg h]; exact .inr ⟨.inr h, rfl⟩
theorem ref17_Get (xs : List UInt8) (B : Nat) (p : Option Addr) (n c : Nat) (w : World) (hl0 : Sl kByte 5 B w p n c xs) (hs : n ≤ 140737490000000) :
    Ret Try.prog 22 [.slice p n c] w (fun v w' => (∃ q m c', v = .tuple #[.slice q m c', .int .i64 (getI xs).2] ∧ Own (kRec (from' w.heap.size w')) 33 0 w.heap.size w' q m c' (getI xs).1) ∧ Ext w w') := by
  have hX := Ext.refl w
  refine enter 146 _ Try.func22 rfl rfl (Nat.le_of_ble_eq_true rfl) ?_
  refine c_seq ?_
  refine r_plain ?_
  refine p1 (x_assign (by conv => lhs; whnf)) ?_
  refine p1 (x_assign (by conv => lhs; whnf)) ?_
  refine r_nil ?_
  refine t_n ?_
  refine c_seq ?_
  refine c_seq ?_
  have hl := hl0.now'
  have hlen := hl.len
  have hcap := hl.cap
  have hfit := hl.fit
  refine r_plain ?_
  refine p1 (x_move (by conv => lhs; whnf)) ?_
  refine p1 (x_len_slice u22 rfl) ?_
  refine p1 (x_eql rfl rfl) ?_
  refine p1b (x_move (by conv => lhs; whnf)) (fun hb1_3 => ?_) (fun hb1_3 => ?_)
  · try simp only [decide_eq_true_eq, decide_eq_false_iff_not, Bool.not_eq_true, Bool.not_eq_false, Bool.not_eq_eq_eq_not, Bool.not_true, Bool.not_false, Int.not_lt, Int.not_le] at hb1_3
    refine g0 23 rfl (by first | exact .inl rfl | exact .inr rfl) ?_
    refine g0 23 rfl (by first | exact .inl rfl | exact .inr rfl) ?_
    refine g0 23 rfl (by first | exact .inl rfl | exact .inr rfl) ?_
    refine g0 23 rfl (by first | exact .inl rfl | exact .inr rfl) ?_
    refine p1 (x_pick_t rfl (by conv => lhs; whnf)) ?_
    refine r_nil ?_
    refine t_n ?_
    refine c_t rfl ?_
    have hp : getI xs = ([], 4) := getI_no1 (by first | (left; omega) | (right; exact hc28))
    refine c_seq ?_
    refine r_plain ?_
    refine p1 (x_assign (by conv => lhs; whnf)) ?_
    refine p1 (x_assign (by conv => lhs; whnf)) ?_
    refine r_nil ?_
    refine t_n ?_
    refine c_ret ?_
    refine t_r ?_
    refine end2 rfl (by conv => lhs; whnf) (by conv => lhs; whnf) ?_
    first | exact ⟨⟨none, 0, 0, by rw [hp], by rw [hp]; exact Own.nil _ _ _ _ _⟩, hX⟩ | exact ⟨⟨_, _, _, by rw [hp], by rw [hp]; exact hO.recMono (fun j hj h => ⟨h.1, hj⟩)⟩, hX⟩
  · try simp only [decide_eq_true_eq, decide_eq_false_iff_not, Bool.not_eq_true, Bool.not_eq_false, Bool.not_eq_eq_eq_not, Bool.not_true, Bool.not_false, Int.not_lt, Int.not_le] at hb1_3
    refine g1 23 rfl rfl (x_move (by conv => lhs; whnf)) ?_
    refine g1 23 rfl rfl (x_ixs u22 sz5 rfl rfl ((hl.ext hX).adr kByte_pos (by omega)) (by omega) (by omega)) ?_
    refine g1 23 rfl rfl (x_load1 un5 rfl ((hl.ext hX).byteAtI _ (by omega) (by omega))) ?_
    refine g1 23 rfl rfl (x_neq rfl rfl) ?_
    refine p1 (x_pick_f rfl (by conv => lhs; whnf)) ?_
    refine r_nil ?_
    refine t_n ?_
    first | refine c_dec rfl (fun hc28 => ?_) (fun hc28 => ?_) | refine c_if rfl (fun hc28 => ?_) (fun hc28 => ?_)
    · try simp only [decide_eq_true_eq, decide_eq_false_iff_not, Bool.not_eq_true, Bool.not_eq_false, Bool.not_eq_eq_eq_not, Bool.not_true, Bool.not_false, Int.not_lt, Int.not_le] at hc28
      have hp : getI xs = ([], 4) := getI_no1 (by first | (left; omega) | (right; exact hc28))
      refine c_seq ?_
      refine r_plain ?_
      refine p1 (x_assign (by conv => lhs; whnf)) ?_
      refine p1 (x_assign (by conv => lhs; whnf)) ?_
      refine r_nil ?_
      refine t_n ?_
      refine c_ret ?_
      refine t_r ?_
      refine end2 rfl (by conv => lhs; whnf) (by conv => lhs; whnf) ?_
      first | exact ⟨⟨none, 0, 0, by rw [hp], by rw [hp]; exact Own.nil _ _ _ _ _⟩, hX⟩ | exact ⟨⟨_, _, _, by rw [hp], by rw [hp]; exact hO.recMono (fun j hj h => ⟨h.1, hj⟩)⟩, hX⟩
    · try simp only [decide_eq_true_eq, decide_eq_false_iff_not, Bool.not_eq_true, Bool.not_eq_false, Bool.not_eq_eq_eq_not, Bool.not_true, Bool.not_false, Int.not_lt, Int.not_le] at hc28
      have hpi := pI_go (xs := xs) (by omega) (Classical.byContradiction hc28)
      refine c_skip ?_
      refine t_n ?_
      refine c_seq ?_
      refine r_plain ?_
      refine p1 (x_move (by conv => lhs; whnf)) ?_
      refine p1 (x_slice_lN u22 sz5 rfl (m := 1) rfl (by omega)) ?_
      refine p1 (x_build1of2 pl104 (by conv => lhs; whnf) rfl) ?_
      have hXs4 := hX.size
      refine o_alloc zr104 ?_
      intro w1 g4 hN4
      have hE1 := hN4.ext
      have hX := hX.ext hE1
      have hB4 := hN4.blk
      refine o_storeAll rfl (by conv => lhs; whnf) (by simp [Value.oneCell']) (by exact sz104) hB4 (by rfl) ?_
      intro w2 hP2
      have hX := hX.put hP2 (by rw [hN4.g_eq]; exact hXs4)
      have hB4 := hP2.blk
      have hg4 : w.heap.size ≤ g4 := by rw [hN4.g_eq]; exact hXs4
      have hR := (hl.ext hX).dropI 1 (by omega)
      have hRl : (xs.drop 1).length ≤ 140737490000000 := by rw [List.length_drop]; omega
      refine r_nil ?_
      refine t_n ?_
      refine c_seq ?_
      refine r_plain ?_
      refine p1 (x_loadB ua104 rfl hB4 sz104) ?_
      refine o_call Try.func78 fn78 fb78 (reader_Uint (xs.drop 1) _ _ _ _ _ _ hR 64 (by omega)) rfl ?_
      rintro v3 w3 ⟨⟨q1, m1, c1, e1, R1, N, rfl, hN18, hR2, hT0⟩, hE3⟩
      have hX := hX.ext hE3
      have hB4 := hB4.ext hE3
      have hR := hR.ext hE3
      have hR := hR2
      refine p1 (x_move (by conv => lhs; whnf)) ?_
      refine p1 (x_extract rfl rfl) ?_
      refine p1 (x_extract rfl rfl) ?_
      refine o_storeAll rfl (by conv => lhs; whnf) (by simp [Value.oneCell']) (by exact sz104) hB4 (by rfl) ?_
      intro w4 hP4
      have hX := hX.put hP4 (hg4)
      have hB4 := hP4.blk
      have hR := hR.mod (hP4.mod w.heap.size hg4) (Nat.le_refl _) (by decide)
      refine p1 (x_assign (by conv => lhs; whnf)) ?_
      refine r_nil ?_
      refine t_n ?_
      refine c_seq ?_
      refine r_plain ?_
      refine p1 (x_assign (by conv => lhs; whnf)) ?_
      refine r_nil ?_
      refine t_n ?_
      refine c_seq ?_
      refine c_seq ?_
      refine r_plain ?_
      refine p1 (x_assign (by conv => lhs; whnf)) ?_
      refine r_nil ?_
      refine t_n ?_
      refine c_block ?_
      have hS0 := step_0 (by simp) hpi hT0
      have hR1 := hT0.1
      refine c_loop (ι := Nat × Option Addr × Nat × Nat × List Rec × Option Addr × Nat × Nat × Int × List UInt8) [2, 3, 6, 7, 8, 9, 10, 11, 12, 13, 14, 15, 16, 17, 37, 38, 39, 40, 41, 42, 43, 44, 45, 46, 47, 48, 49, 50, 51, 52, 53, 54, 55, 56, 57, 58, 59, 60, 61, 62, 63, 64, 65, 66, 67, 68, 69, 70, 71, 72, 73, 74, 75, 76, 77, 78, 79, 80, 81, 82, 83, 84, 85, 86, 87, 88, 89, 90, 91, 92, 93, 94, 95, 96, 97, 98, 99, 100, 101, 102, 103, 104, 105, 106, 107, 108, 109, 110, 111, 112, 113, 114, 115, 116, 117, 118, 119, 120, 121, 122, 123, 124, 125] (fun (i, q, m, c1, L, qr, mr, cr, er, R) => [(6, .slice q m c1), (7, .int .u64 (i : Int))]) (fun (i, q, m, c1, L, qr, mr, cr, er, R) w' => Ext w w' ∧ (Own (kRec (from' w.heap.size w')) 33 0 w.heap.size w' q m c1 L ∧ Blk w' g4 #[.slice qr mr cr, .int .i64 er] 104 ∧ Sl kByte 5 w.heap.size w' qr mr cr R ∧ R.length ≤ 140737490000000 ∧ i ≤ N ∧ m ≤ 64 ∧ (er ≠ 0 → pI xs = none) ∧ (¬ er ≠ 0 → pI xs = cN (N - i) L R ∧ m + (N - i) ≤ 64) ∧ (∀ x ∈ L, x.1.size ≤ 9223372036854775807 ∧ ∀ y ∈ x.2.1, y.1.size ≤ 9223372036854775807))) (fun (i, q, m, c1, L, qr, mr, cr, er, R) => N - i) ((0, none, 0, 0, [], q1, m1, c1, e1, R1)) ⟨rfl, rfl, trivial⟩ ⟨hX, ⟨Own.nil _ _ _ _ _, hB4, hR, by omega, by omega, by omega, hS0.1, fun h => ⟨(hS0.2 h).1, by have := (hS0.2 h).2; omega⟩, by simp⟩⟩ ?_
      rintro ⟨i, q, m, c1, L, qr, mr, cr, er, R⟩ GL0 w5 ⟨hE5, hO, hB4, hR, hRl, hi, hm, hI1, hI2, hnm⟩
      have hX := hE5
      refine c_seq ?_
      refine c_seq ?_
      refine r_plain ?_
      refine p1 (x_move (by conv => lhs; whnf)) ?_
      refine p1 (x_move (by conv => lhs; whnf)) ?_
      refine p1 (x_lss rfl rfl) ?_
      refine p1b (x_move (by conv => lhs; whnf)) (fun hb7_3 => ?_) (fun hb7_3 => ?_)
      · try simp only [decide_eq_true_eq, decide_eq_false_iff_not, Bool.not_eq_true, Bool.not_eq_false, Bool.not_eq_eq_eq_not, Bool.not_true, Bool.not_false, Int.not_lt, Int.not_le] at hb7_3
        refine g1 40 rfl rfl (x_fieldAddr fo104_1 sz3 rfl) ?_
        refine g1 40 rfl rfl (x_load1 un3 rfl (hB4.cell rfl)) ?_
        refine g1 40 rfl rfl (x_eql rfl rfl) ?_
        refine p1 (x_pick_t rfl (by conv => lhs; whnf)) ?_
        refine r_nil ?_
        refine t_n ?_
        first | refine c_dec rfl (fun hc44 => ?_) (fun hc44 => ?_) | refine c_if rfl (fun hc44 => ?_) (fun hc44 => ?_)
        · try simp only [decide_eq_true_eq, decide_eq_false_iff_not, Bool.not_eq_true, Bool.not_eq_false, Bool.not_eq_eq_eq_not, Bool.not_true, Bool.not_false, Int.not_lt, Int.not_le] at hc44
          obtain ⟨j, hj⟩ : ∃ j, N - i = j + 1 := ⟨N - i - 1, by omega⟩
          have hbd : ¬ er ≠ 0 := fun h => h hc44
          obtain ⟨hI3, hI4⟩ := hI2 hbd
          rw [hj] at hI3
          refine c_skip ?_
          refine t_n ?_
          refine c_seq ?_
          refine c_block ?_
          refine c_seq ?_
          refine r_plain ?_
          obtain ⟨Bi, hBi⟩ : ∃ x, x = w5.heap.size := ⟨_, rfl⟩
          have hwBi : w.heap.size ≤ Bi := by rw [hBi]; exact hX.size
          have hO := hO.recMono (S' := (fun j => w.heap.size ≤ j ∧ j < Bi)) (fun j _ h => ⟨h.1, by rw [hBi]; exact h.2⟩)
          have hOb : q = none ∨ ab q < Bi := by rw [hBi]; exact hO.below
          have hWs : Lw Bi w5 := ⟨Nat.le_of_eq hBi⟩
          refine o_alloc zr33 ?_
          intro w6 g8 hN8
          have hE6 := hN8.ext
          have hX := hX.ext hE6
          have hO := hO.ext hE6
          have hB4 := hB4.ext hE6
          have hR := hR.ext hE6
          have hB8 := hN8.blk
          refine r_nil ?_
          refine t_n ?_
          refine c_seq ?_
          refine r_plain ?_
          have hg8 : Bi ≤ g8 := by rw [hN8.g_eq]; exact Nat.le_of_eq hBi
          have hB8 : Blk w6 g8 #[.string ByteArray.empty, .slice none 0 0, .slice none 0 0] 33 := hB8
          have hWs := hWs.ext hN8.ext
          refine p1 (x_loadB ua104 rfl hB4 sz104) ?_
          refine o_call Try.func79 fn79 fb79 (reader_Text R _ _ _ _ _ _ hR (by have := hR.len; omega)) rfl ?_
          rintro v7 w7 ⟨⟨q2, m2, c2, e2, R1, s1, rfl, hsz1, hR2, hT1⟩, hE7⟩
          have hX := hX.ext hE7
          have hO := hO.ext hE7
          have hB4 := hB4.ext hE7
          have hR := hR.ext hE7
          have hB8 := hB8.ext hE7
          have hR := hR2
          have hRl5 := hT1.1
          have hWs := hWs.ext hE7
          refine p1 (x_move (by conv => lhs; whnf)) ?_
          refine p1 (x_extract rfl rfl) ?_
          refine p1 (x_extract rfl rfl) ?_
          refine o_storeAll rfl (by conv => lhs; whnf) (by simp [Value.oneCell']) (by exact sz104) hB4 (by rfl) ?_
          intro w8 hP8
          have hX := hX.put hP8 (hg4)
          have hO := hO.mod (hP8.mod 0 (Nat.zero_le _)) (Nat.zero_le _) (by simp [kRec])
          have hB4 := hP8.blk
          have hB8 := hB8.mod (hP8.mod 0 (Nat.zero_le _)) (by decide)
          have hR := hR.mod (hP8.mod w.heap.size hg4) (Nat.le_refl _) (by decide)
          have hWs := hWs.put hP8
          refine p1 (x_fieldAddr fo33_0 sz9 rfl) ?_
          refine o_store1 rfl (by conv => lhs; whnf) rfl rfl sz9 hB8 (by simp) ?_
          intro w9 hP9
          have hX := hX.put hP9 (Nat.le_trans hwBi hg8)
          have hO := hO.modB (hP9.mod Bi hg8) (Nat.zero_le _) (by simp [kRec]) hOb
          have hB4 := hB4.mod (hP9.mod 0 (Nat.zero_le _)) (by decide)
          have hB8 := hP9.blk
          simp only [List.setIfInBounds_toArray, List.set_cons_zero, List.set_cons_succ] at hB8
          have hR := hR.mod (hP9.mod w.heap.size (Nat.le_trans hwBi hg8)) (Nat.le_refl _) (by decide)
          have hWs := hWs.put hP9
          refine r_nil ?_
          refine t_n ?_
          refine c_seq ?_
          refine r_plain ?_
          refine p1 (x_assign (by conv => lhs; whnf)) ?_
          refine r_nil ?_
          refine t_n ?_
          refine c_seq ?_
          refine r_plain ?_
          refine p1 (x_loadB ua104 rfl hB4 sz104) ?_
          refine o_call Try.func78 fn78 fb78 (reader_Uint R1 _ _ _ _ _ _ hR 64 (by omega)) rfl ?_
          rintro v10 w10 ⟨⟨q3, m3, c3, e3, R2, N2, rfl, hN18, hR2, hT2⟩, hE10⟩
          have hX := hX.ext hE10
          have hO := hO.ext hE10
          have hB4 := hB4.ext hE10
          have hB8 := hB8.ext hE10
          have hR := hR.ext hE10
          have hWs := hWs.ext hE10
          have hR := hR2
          refine p1 (x_move (by conv => lhs; whnf)) ?_
          refine p1 (x_extract rfl rfl) ?_
          refine p1 (x_extract rfl rfl) ?_
          refine o_storeAll rfl (by conv => lhs; whnf) (by simp [Value.oneCell']) (by exact sz104) hB4 (by rfl) ?_
          intro w11 hP11
          have hX := hX.put hP11 (hg4)
          have hO := hO.mod (hP11.mod 0 (Nat.zero_le _)) (Nat.zero_le _) (by simp [kRec])
          have hB4 := hP11.blk
          have hB8 := hB8.mod (hP11.mod 0 (Nat.zero_le _)) (by decide)
          have hWs := hWs.put hP11
          have hR := hR.mod (hP11.mod w.heap.size hg4) (Nat.le_refl _) (by decide)
          refine p1 (x_assign (by conv => lhs; whnf)) ?_
          refine r_nil ?_
          refine t_n ?_
          refine c_seq ?_
          refine c_seq ?_
          refine r_plain ?_
          refine p1 (x_assign (by conv => lhs; whnf)) ?_
          refine r_nil ?_
          refine t_n ?_
          refine c_block ?_
          have hS1 := step_rec hbd hI3 hT1 hT2
          have hR2l := hT2.1
          refine c_loop (ι := Nat × Option Addr × Nat × Nat × List Br × Option Addr × Nat × Nat × Int × List UInt8) [2, 3, 10, 11, 12, 13, 14, 58, 59, 60, 61, 62, 63, 64, 65, 66, 67, 68, 69, 70, 71, 72, 73, 74, 75, 76, 77, 78, 79, 80, 81, 82, 83, 84, 85, 86, 87, 88, 89, 90, 91, 92, 93, 94, 95, 96, 97, 98, 99, 100] (fun (k, qb, mb, cb, brs, qr, mr, cr, er, R3) => [(10, .int .u64 (k : Int))]) (fun (k, qb, mb, cb, brs, qr, mr, cr, er, R3) w' => Ext w w' ∧ (Own (kRec (fun j => w.heap.size ≤ j ∧ j < Bi)) 33 0 w.heap.size w' q m c1 L ∧ Blk w' g4 #[.slice qr mr cr, .int .i64 er] 104 ∧ Sl kByte 5 w.heap.size w' qr mr cr R3 ∧ Blk w' g8 #[.string s1, .slice qb mb cb, .slice none 0 0] 33 ∧ Own (kBr (fun j => w.heap.size ≤ j)) 81 0 Bi w' qb mb cb brs ∧ Lw Bi w' ∧ R3.length ≤ 140737490000000 ∧ k ≤ N2 ∧ mb ≤ 64 ∧ (er ≠ 0 → pI xs = none) ∧ (¬ er ≠ 0 → pI xs = cB j L s1 (N2 - k) brs R3 ∧ mb + (N2 - k) ≤ 64) ∧ (∀ y ∈ brs, y.1.size ≤ 9223372036854775807))) (fun (k, qb, mb, cb, brs, qr, mr, cr, er, R3) => N2 - k) ((0, none, 0, 0, [], q3, m3, c3, e3, R2)) ⟨rfl, trivial⟩ ⟨hX, ⟨hO, hB4, hR, hB8, Own.nil _ _ _ _ _, hWs, by omega, by omega, by omega, hS1.1, fun h => ⟨(hS1.2 h).1, by have := (hS1.2 h).2; omega⟩, by simp⟩⟩ ?_
          rintro ⟨k, qb, mb, cb, brs, qr, mr, cr, er, R3⟩ GL2 w12 ⟨hE12, hO, hB4, hR, hB8, hQ, hWs, hRl3, hk, hmb, hJ1, hJ2, hnb⟩
          have hX := hE12
          refine c_seq ?_
          refine c_seq ?_
          refine r_plain ?_
          refine p1 (x_move (by conv => lhs; whnf)) ?_
          refine p1 (x_move (by conv => lhs; whnf)) ?_
          refine p1 (x_lss rfl rfl) ?_
          refine p1b (x_move (by conv => lhs; whnf)) (fun hb14_3 => ?_) (fun hb14_3 => ?_)
          · try simp only [decide_eq_true_eq, decide_eq_false_iff_not, Bool.not_eq_true, Bool.not_eq_false, Bool.not_eq_eq_eq_not, Bool.not_true, Bool.not_false, Int.not_lt, Int.not_le] at hb14_3
            refine g1 61 rfl rfl (x_fieldAddr fo104_1 sz3 rfl) ?_
            refine g1 61 rfl rfl (x_load1 un3 rfl (hB4.cell rfl)) ?_
            refine g1 61 rfl rfl (x_eql rfl rfl) ?_
            refine p1 (x_pick_t rfl (by conv => lhs; whnf)) ?_
            refine r_nil ?_
            refine t_n ?_
            first | refine c_dec rfl (fun hc65 => ?_) (fun hc65 => ?_) | refine c_if rfl (fun hc65 => ?_) (fun hc65 => ?_)
            · try simp only [decide_eq_true_eq, decide_eq_false_iff_not, Bool.not_eq_true, Bool.not_eq_false, Bool.not_eq_eq_eq_not, Bool.not_true, Bool.not_false, Int.not_lt, Int.not_le] at hc65
              obtain ⟨k2, hk2⟩ : ∃ i, N2 - k = i + 1 := ⟨N2 - k - 1, by omega⟩
              have hb3 : ¬ er ≠ 0 := fun h => h hc65
              obtain ⟨hJ3, hJ4⟩ := hJ2 hb3
              rw [hk2] at hJ3
              refine c_skip ?_
              refine t_n ?_
              refine c_seq ?_
              refine c_block ?_
              refine c_seq ?_
              refine r_plain ?_
              obtain ⟨Bk, hBk⟩ : ∃ x, x = w12.heap.size := ⟨_, rfl⟩
              have hQb : qb = none ∨ ab qb < Bk := by rw [hBk]; exact hQ.below
              have hWk : Bi ≤ Bk := by rw [hBk]; exact hWs.le
              refine o_alloc zr81 ?_
              intro w13 g11 hN11
              have hE13 := hN11.ext
              have hX := hX.ext hE13
              have hO := hO.ext hE13
              have hB4 := hB4.ext hE13
              have hR := hR.ext hE13
              have hB8 := hB8.ext hE13
              have hQ := hQ.ext hE13
              have hWs := hWs.ext hE13
              have hB11 := hN11.blk
              refine r_nil ?_
              refine t_n ?_
              refine c_seq ?_
              refine r_plain ?_
              have hg11 : Bk ≤ g11 := by rw [hN11.g_eq]; exact Nat.le_of_eq hBk
              have hB11 : Blk w13 g11 #[.string ByteArray.empty, .slice none 0 0] 81 := hB11
              refine p1 (x_loadB ua104 rfl hB4 sz104) ?_
              refine o_call Try.func79 fn79 fb79 (reader_Text R3 _ _ _ _ _ _ hR (by have := hR.len; omega)) rfl ?_
              rintro v14 w14 ⟨⟨q4, m4, c4, e4, R4, s2, rfl, hsz2, hR2, hT4⟩, hE14⟩
              have hX := hX.ext hE14
              have hO := hO.ext hE14
              have hB4 := hB4.ext hE14
              have hR := hR.ext hE14
              have hB8 := hB8.ext hE14
              have hQ := hQ.ext hE14
              have hWs := hWs.ext hE14
              have hB11 := hB11.ext hE14
              have hR := hR2
              have hRl5 := hT4.1
              refine p1 (x_move (by conv => lhs; whnf)) ?_
              refine p1 (x_extract rfl rfl) ?_
              refine p1 (x_extract rfl rfl) ?_
              refine o_storeAll rfl (by conv => lhs; whnf) (by simp [Value.oneCell']) (by exact sz104) hB4 (by rfl) ?_
              intro w15 hP15
              have hX := hX.put hP15 (hg4)
              have hO := hO.mod (hP15.mod 0 (Nat.zero_le _)) (Nat.zero_le _) (by simp [kRec])
              have hB4 := hP15.blk
              have hB8 := hB8.mod (hP15.mod 0 (Nat.zero_le _)) (by decide)
              have hQ := hQ.mod (hP15.mod 0 (Nat.zero_le _)) (Nat.zero_le _) (by simp [kBr])
              have hWs := hWs.put hP15
              have hB11 := hB11.mod (hP15.mod 0 (Nat.zero_le _)) (by decide)
              have hR := hR.mod (hP15.mod w.heap.size hg4) (Nat.le_refl _) (by decide)
              refine p1 (x_fieldAddr fo81_0 sz9 rfl) ?_
              refine o_store1 rfl (by conv => lhs; whnf) rfl rfl sz9 hB11 (by simp) ?_
              intro w16 hP16
              have hX := hX.put hP16 (Nat.le_trans hwBi (Nat.le_trans hWk hg11))
              have hO := hO.recModB (hP16.mod Bi (Nat.le_trans hWk hg11)) (fun j h => h.2) (.inl (by decide))
              have hB4 := hB4.mod (hP16.mod 0 (Nat.zero_le _)) (by decide)
              have hB8 := hB8.mod (hP16.mod 0 (Nat.zero_le _)) (by decide)
              have hQ := hQ.modB (hP16.mod Bk hg11) (Nat.zero_le _) (by simp [kBr]) hQb
              have hWs := hWs.put hP16
              have hB11 := hP16.blk
              simp only [List.setIfInBounds_toArray, List.set_cons_zero, List.set_cons_succ] at hB11
              have hR := hR.mod (hP16.mod w.heap.size (Nat.le_trans hwBi (Nat.le_trans hWk hg11))) (Nat.le_refl _) (by decide)
              refine r_nil ?_
              refine t_n ?_
              refine c_seq ?_
              refine r_plain ?_
              refine p1 (x_fieldAddr fo104_0 sz22 rfl) ?_
              refine p1 (x_load1 un22 rfl (hB4.cell rfl)) ?_
              have hXs16 := hX.size
              have hT5 : Took (pHs 16 R4) (e4 ≠ 0) (e4 ≠ 0 ∨ (gets R4 16).2.2 ≠ 0) (gets R4 16).1 R4 (R4.drop (gets R4 16).2.1) := took_hs 16 R4
              have hS2 := step_br (brs := brs) hb3 hJ3 hT4 hT5
              have hRl6 := hT5.1
              refine o_call Try.func44 fn44 fb44 (ref06_Get R4 16 _ _ _ _ _ hR (by omega) (by have := hR.len; omega)) rfl ?_
              rintro v17 w17 ⟨⟨qh, mh, ch, rfl, hH0⟩, hE17⟩
              have hX := hX.ext hE17
              have hO := hO.ext hE17
              have hB4 := hB4.ext hE17
              have hB8 := hB8.ext hE17
              have hQ := hQ.ext hE17
              have hWs := hWs.ext hE17
              have hB11 := hB11.ext hE17
              have hR := hR.ext hE17
              have hH := (SlS.ofHash hH0).mono (S' := (fun j => w.heap.size ≤ j)) (fun j _ h => Nat.le_trans hXs16 h)
              refine p1 (x_move (by conv => lhs; whnf)) ?_
              refine p1 (x_extract rfl rfl) ?_
              refine p1 (x_extract rfl rfl) ?_
              refine p1 (x_extract rfl rfl) ?_
              refine p1 (x_assign (by conv => lhs; whnf)) ?_
              refine p1 (x_assign (by conv => lhs; whnf)) ?_
              refine p1 (x_assign (by conv => lhs; whnf)) ?_
              refine r_nil ?_
              refine t_n ?_
              refine c_seq ?_
              refine c_seq ?_
              refine r_plain ?_
              refine p1 (x_fieldAddr fo104_1 sz3 rfl) ?_
              refine p1 (x_load1 un3 rfl (hB4.cell rfl)) ?_
              refine l_cut 5 [83, 84, 85, 86, 87] [(87, .bool (decide (e4 ≠ 0 ∨ (gets R4 16).2.2 ≠ 0)))] ?_ ?_
              · skip
                refine p1 (x_neq rfl rfl) ?_
                refine p1b (x_move (by conv => lhs; whnf)) (fun hb19_3 => ?_) (fun hb19_3 => ?_)
                · try simp only [decide_eq_true_eq, decide_eq_false_iff_not, Bool.not_eq_true, Bool.not_eq_false, Bool.not_eq_eq_eq_not, Bool.not_true, Bool.not_false, Int.not_lt, Int.not_le] at hb19_3
                  refine g0 84 rfl (by first | exact .inl rfl | exact .inr rfl) ?_
                  refine g0 84 rfl (by first | exact .inl rfl | exact .inr rfl) ?_
                  refine p1 (x_pick_t rfl (by conv => lhs; whnf)) ?_
                  exact l_cutend rfl (by repeat (first | exact Agr.refl _ _ | exact Agr.hav _ _ _ | refine Agr.upd rfl ?_ | refine Agr.updL ?_ _ rfl | refine Agr.hav' rfl ?_)) ⟨congrArg Value.bool (by first | rfl | exact (decide_eq_true (by omega)).symm | exact (decide_eq_false (by omega)).symm | exact decide_eq_decide.2 (by omega) | (simp_all; done) | grind), trivial⟩
                · try simp only [decide_eq_true_eq, decide_eq_false_iff_not, Bool.not_eq_true, Bool.not_eq_false, Bool.not_eq_eq_eq_not, Bool.not_true, Bool.not_false, Int.not_lt, Int.not_le] at hb19_3
                  refine g1 84 rfl rfl (x_move (by conv => lhs; whnf)) ?_
                  refine g1 84 rfl rfl (x_neq rfl rfl) ?_
                  refine p1 (x_pick_f rfl (by conv => lhs; whnf)) ?_
                  exact l_cutend rfl (by repeat (first | exact Agr.refl _ _ | exact Agr.hav _ _ _ | refine Agr.upd rfl ?_ | refine Agr.updL ?_ _ rfl | refine Agr.hav' rfl ?_)) ⟨congrArg Value.bool (by first | rfl | exact (decide_eq_true (by omega)).symm | exact (decide_eq_false (by omega)).symm | exact decide_eq_decide.2 (by omega) | (simp_all; done) | grind), trivial⟩
              · intro Gr19_2
                refine r_nil ?_
                refine t_n ?_
                first | refine c_dec rfl (fun hc87 => ?_) (fun hc87 => ?_) | refine c_if rfl (fun hc87 => ?_) (fun hc87 => ?_)
                · try simp only [decide_eq_true_eq, decide_eq_false_iff_not, Bool.not_eq_true, Bool.not_eq_false, Bool.not_eq_eq_eq_not, Bool.not_true, Bool.not_false, Int.not_lt, Int.not_le] at hc87
                  have hp : getI xs = ([], 4) := getI_bad (hS2.1 hc87)
                  refine c_seq ?_
                  refine r_plain ?_
                  refine p1 (x_assign (by conv => lhs; whnf)) ?_
                  refine p1 (x_assign (by conv => lhs; whnf)) ?_
                  refine r_nil ?_
                  refine t_n ?_
                  refine c_ret ?_
                  refine t_r ?_
                  refine b_r ?_
                  refine t_r ?_
                  refine t_r ?_
                  refine b_r ?_
                  refine t_r ?_
                  refine b_r ?_
                  refine t_r ?_
                  refine t_r ?_
                  refine b_r ?_
                  refine t_r ?_
                  refine end2 rfl (by conv => lhs; whnf) (by conv => lhs; whnf) ?_
                  first | exact ⟨⟨none, 0, 0, by rw [hp], by rw [hp]; exact Own.nil _ _ _ _ _⟩, hX⟩ | exact ⟨⟨_, _, _, by rw [hp], by rw [hp]; exact hO.recMono (fun j hj h => ⟨h.1, hj⟩)⟩, hX⟩
                · try simp only [decide_eq_true_eq, decide_eq_false_iff_not, Bool.not_eq_true, Bool.not_eq_false, Bool.not_eq_eq_eq_not, Bool.not_true, Bool.not_false, Int.not_lt, Int.not_le] at hc87
                  have he4 : e4 = 0 := Decidable.byContradiction fun h => hc87 (.inl h)
                  refine c_skip ?_
                  refine t_n ?_
                  refine c_seq ?_
                  refine r_plain ?_
                  refine p1 (x_move (by conv => lhs; whnf)) ?_
                  refine p1 (x_fieldAddr fo81_1 sz31 rfl) ?_
                  refine o_store1 rfl (by conv => lhs; whnf) rfl rfl sz31 hB11 (by simp) ?_
                  intro w18 hP18
                  have hX := hX.put hP18 (Nat.le_trans hwBi (Nat.le_trans hWk hg11))
                  have hO := hO.recModB (hP18.mod Bi (Nat.le_trans hWk hg11)) (fun j h => h.2) (.inl (by decide))
                  have hB4 := hB4.mod (hP18.mod 0 (Nat.zero_le _)) (by decide)
                  have hB8 := hB8.mod (hP18.mod 0 (Nat.zero_le _)) (by decide)
                  have hQ := hQ.modB (hP18.mod Bk hg11) (Nat.zero_le _) (by simp [kBr]) hQb
                  have hWs := hWs.put hP18
                  have hB11 := hP18.blk
                  simp only [List.setIfInBounds_toArray, List.set_cons_zero, List.set_cons_succ] at hB11
                  have hR := hR.mod (hP18.mod w.heap.size (Nat.le_trans hwBi (Nat.le_trans hWk hg11))) (Nat.le_refl _) (by decide)
                  have hH := hH.mod (hP18.mod 0 (Nat.zero_le _)) (Nat.zero_le _) (by decide)
                  refine r_nil ?_
                  refine t_n ?_
                  refine c_seq ?_
                  refine r_plain ?_
                  refine p1 (x_fieldAddr fo104_0 sz22 rfl) ?_
                  refine p1 (x_load1 un22 rfl (hB4.cell rfl)) ?_
                  refine p1 (x_move (by conv => lhs; whnf)) ?_
                  refine p1 (x_slice_lN u22 sz5 rfl rfl (by have := gets_used R4 16; have := hR.len; omega)) ?_
                  refine p1 (x_fieldAddr fo104_0 sz22 rfl) ?_
                  refine o_store1 rfl (by conv => lhs; whnf) rfl rfl sz22 hB4 (by simp) ?_
                  intro w19 hP19
                  have hX := hX.put hP19 (hg4)
                  have hO := hO.mod (hP19.mod 0 (Nat.zero_le _)) (Nat.zero_le _) (by simp [kRec])
                  have hB4 := hP19.blk
                  simp only [List.setIfInBounds_toArray, List.set_cons_zero, List.set_cons_succ] at hB4
                  have hB8 := hB8.mod (hP19.mod 0 (Nat.zero_le _)) (by decide)
                  have hQ := hQ.mod (hP19.mod 0 (Nat.zero_le _)) (Nat.zero_le _) (by simp [kBr])
                  have hWs := hWs.put hP19
                  have hB11 := hB11.mod (hP19.mod 0 (Nat.zero_le _)) (by decide)
                  have hR := hR.mod (hP19.mod w.heap.size hg4) (Nat.le_refl _) (by decide)
                  have hH := hH.mod (hP19.mod 0 (Nat.zero_le _)) (Nat.zero_le _) (by decide)
                  have hR := hR.dropI (gets R4 16).2.1 (by have := gets_used R4 16; have := hR.len; omega)
                  refine r_nil ?_
                  refine t_n ?_
                  refine r_plain ?_
                  refine p1 (x_fieldAddr fo33_1 sz30 rfl) ?_
                  refine p1 (x_load1 un30 rfl (hB8.cell rfl)) ?_
                  refine p1 (x_loadB ua81 rfl hB11 (by exact sz81)) ?_
                  refine o_buildSlice u30 inf81 rfl (by decide) (fun base hb => fill_one (by rfl) base hb) ?_
                  intro w20 g98 hN98
                  have hE20 := hN98.ext
                  have hX := hX.ext hE20
                  have hO := hO.ext hE20
                  have hB4 := hB4.ext hE20
                  have hB8 := hB8.ext hE20
                  have hQ := hQ.ext hE20
                  have hWs := hWs.ext hE20
                  have hB11 := hB11.ext hE20
                  have hR := hR.ext hE20
                  have hH := hH.ext hE20
                  have hJ : Own (kBr (fun j => w.heap.size ≤ j)) 81 0 0 w20 (some ⟨g98, 0, none⟩) 1 1 [(s2, (gets R4 16).1)] := Own.made _ 81 0 0 hN98 [(s2, (gets R4 16).1)] [[.string s2, .slice qh mh ch]] 1 1 rfl ⟨⟨_, _, _, rfl, hH⟩, trivial⟩ (Nat.zero_le _) (by omega) (by omega) (by rfl) (by rfl)
                  obtain ⟨cssJ, hAJ, hsrJ⟩ := src_kind u30 hJ.sl kBr_pos
                  have hAJ : (kBr (fun j => w.heap.size ≤ j)).All 0 _ _ cssJ := hAJ
                  have hWl := hWs.le
                  refine o_append (d := (kBr (fun j => w.heap.size ≤ j))) ([(s2, (gets R4 16).1)]) u30 inf81 rfl kBr_pos rfl rfl hQ (hsrJ) rfl (hAJ) (rfl) (by omega) (by omega) (by omega) (by omega) (by simp [kBr]) ?_
                  intro p99 c99 w21 hQ hM21
                  have hX := hX.mod hM21 (hwBi)
                  have hO := hO.recModB hM21 (fun j h => h.2) (.inl (by decide))
                  have hB4 := hB4.mod hM21 (by decide)
                  have hB8 := hB8.mod hM21 (by decide)
                  have hWs := hWs.mod hM21 (by first | exact Nat.le_refl _ | exact trivial | omega)
                  have hR := hR.mod hM21 hwBi (by decide)
                  refine p1 (x_fieldAddr fo33_1 sz30 rfl) ?_
                  refine o_store1 rfl (by conv => lhs; whnf) rfl rfl sz30 hB8 (by simp) ?_
                  intro w22 hP22
                  have hX := hX.put hP22 (Nat.le_trans hwBi hg8)
                  have hO := hO.modB (hP22.mod Bi hg8) (Nat.zero_le _) (by simp [kRec]) hOb
                  have hB4 := hB4.mod (hP22.mod 0 (Nat.zero_le _)) (by decide)
                  have hB8 := hP22.blk
                  simp only [List.setIfInBounds_toArray, List.set_cons_zero, List.set_cons_succ] at hB8
                  have hWs := hWs.put hP22
                  have hR := hR.mod (hP22.mod w.heap.size (Nat.le_trans hwBi hg8)) (Nat.le_refl _) (by decide)
                  have hQ := hQ.mod (hP22.mod 0 (Nat.zero_le _)) (Nat.zero_le _) (by simp [kBr])
                  refine r_nil ?_
                  refine b_n ?_
                  refine t_n ?_
                  refine r_plain ?_
                  refine p1 (x_move (by conv => lhs; whnf)) ?_
                  refine p1 (x_add rfl rfl (fits_u64 (by omega) (by omega))) ?_
                  refine p1 (x_assign (by conv => lhs; whnf)) ?_
                  refine r_nil ?_
                  refine t_n (At.mk ((k + 1, p99, mb + 1, c99, brs ++ [(s2, (gets R4 16).1)], adw q4 c4 (gets R4 16).2.1 1, m4 - (gets R4 16).2.1, c4 - (gets R4 16).2.1, e4, R4.drop (gets R4 16).2.1)) (by repeat (first | exact Agr.refl _ _ | exact Agr.hav _ _ _ | refine Agr.upd rfl ?_ | refine Agr.updL ?_ _ rfl | refine Agr.hav' rfl ?_)) ⟨rfl, trivial⟩ ?_)
                  exact ⟨⟨hX, ⟨hO, hB4, hR, hB8, hQ, hWs, by omega, by omega, by omega, fun h => absurd he4 h, fun _ => ⟨by rw [show N2 - (k + 1) = k2 from by omega]; exact hS2.2 hc87, by omega⟩, fun y hy => (List.mem_append.1 hy).elim (hnb y) (fun hy => by simp only [List.mem_singleton] at hy; rw [hy]; exact Nat.le_trans hsz2 (by omega))⟩⟩, by first | (dsimp only; omega) | ((show _ < _); omega)⟩
            · try simp only [decide_eq_true_eq, decide_eq_false_iff_not, Bool.not_eq_true, Bool.not_eq_false, Bool.not_eq_eq_eq_not, Bool.not_true, Bool.not_false, Int.not_lt, Int.not_le] at hc65
              have hJ5 : ¬ er ≠ 0 → N2 - k = 0 := fun h => by first | omega | exact absurd hc65 (fun h2 => h h2)
              have hJ6 : (er ≠ 0 → pI xs = none) ∧ (¬ er ≠ 0 → pI xs = cB j L s1 0 brs R3) := ⟨hJ1, fun h => by have := (hJ2 h).1; rw [hJ5 h] at this; exact this⟩
              refine c_exit ?_
              refine t_e ?_
              refine t_e ?_
              refine b_hit ?_
              refine t_n ?_
              refine c_seq ?_
              refine r_plain ?_
              refine p1 (x_fieldAddr fo104_0 sz22 rfl) ?_
              refine p1 (x_load1 un22 rfl (hB4.cell rfl)) ?_
              have hXs17 := hX.size
              have hT6 : Took (pHs 4096 R3) (er ≠ 0) (er ≠ 0 ∨ (gets R3 4096).2.2 ≠ 0) (gets R3 4096).1 R3 (R3.drop (gets R3 4096).2.1) := took_hs 4096 R3
              have hS3 := step_end hJ6 hT6
              have hRl7 := hT6.1
              refine o_call Try.func44 fn44 fb44 (ref06_Get R3 4096 _ _ _ _ _ hR (by omega) (by have := hR.len; omega)) rfl ?_
              rintro v23 w23 ⟨⟨qc, mc, cc, rfl, hH0⟩, hE23⟩
              have hX := hX.ext hE23
              have hO := hO.ext hE23
              have hB4 := hB4.ext hE23
              have hR := hR.ext hE23
              have hB8 := hB8.ext hE23
              have hQ := hQ.ext hE23
              have hWs := hWs.ext hE23
              have hH := (SlS.ofHash hH0).mono (S' := from' w.heap.size w23) (fun j hj h => ⟨Nat.le_trans hXs17 h, hj⟩)
              refine p1 (x_move (by conv => lhs; whnf)) ?_
              refine p1 (x_extract rfl rfl) ?_
              refine p1 (x_extract rfl rfl) ?_
              refine p1 (x_extract rfl rfl) ?_
              refine p1 (x_assign (by conv => lhs; whnf)) ?_
              refine p1 (x_assign (by conv => lhs; whnf)) ?_
              refine p1 (x_assign (by conv => lhs; whnf)) ?_
              refine r_nil ?_
              refine t_n ?_
              refine c_seq ?_
              refine c_seq ?_
              refine r_plain ?_
              refine p1 (x_fieldAddr fo104_1 sz3 rfl) ?_
              refine p1 (x_load1 un3 rfl (hB4.cell rfl)) ?_
              refine l_cut 5 [110, 111, 112, 113, 114] [(114, .bool (decide (er ≠ 0 ∨ (gets R3 4096).2.2 ≠ 0)))] ?_ ?_
              · skip
                refine p1 (x_neq rfl rfl) ?_
                refine p1b (x_move (by conv => lhs; whnf)) (fun hb25_3 => ?_) (fun hb25_3 => ?_)
                · try simp only [decide_eq_true_eq, decide_eq_false_iff_not, Bool.not_eq_true, Bool.not_eq_false, Bool.not_eq_eq_eq_not, Bool.not_true, Bool.not_false, Int.not_lt, Int.not_le] at hb25_3
                  refine g0 111 rfl (by first | exact .inl rfl | exact .inr rfl) ?_
                  refine g0 111 rfl (by first | exact .inl rfl | exact .inr rfl) ?_
                  refine p1 (x_pick_t rfl (by conv => lhs; whnf)) ?_
                  exact l_cutend rfl (by repeat (first | exact Agr.refl _ _ | exact Agr.hav _ _ _ | refine Agr.upd rfl ?_ | refine Agr.updL ?_ _ rfl | refine Agr.hav' rfl ?_)) ⟨congrArg Value.bool (by first | rfl | exact (decide_eq_true (by omega)).symm | exact (decide_eq_false (by omega)).symm | exact decide_eq_decide.2 (by omega) | (simp_all; done) | grind), trivial⟩
                · try simp only [decide_eq_true_eq, decide_eq_false_iff_not, Bool.not_eq_true, Bool.not_eq_false, Bool.not_eq_eq_eq_not, Bool.not_true, Bool.not_false, Int.not_lt, Int.not_le] at hb25_3
                  refine g1 111 rfl rfl (x_move (by conv => lhs; whnf)) ?_
                  refine g1 111 rfl rfl (x_neq rfl rfl) ?_
                  refine p1 (x_pick_f rfl (by conv => lhs; whnf)) ?_
                  exact l_cutend rfl (by repeat (first | exact Agr.refl _ _ | exact Agr.hav _ _ _ | refine Agr.upd rfl ?_ | refine Agr.updL ?_ _ rfl | refine Agr.hav' rfl ?_)) ⟨congrArg Value.bool (by first | rfl | exact (decide_eq_true (by omega)).symm | exact (decide_eq_false (by omega)).symm | exact decide_eq_decide.2 (by omega) | (simp_all; done) | grind), trivial⟩
              · intro Gr25_2
                refine r_nil ?_
                refine t_n ?_
                first | refine c_dec rfl (fun hc114 => ?_) (fun hc114 => ?_) | refine c_if rfl (fun hc114 => ?_) (fun hc114 => ?_)
                · try simp only [decide_eq_true_eq, decide_eq_false_iff_not, Bool.not_eq_true, Bool.not_eq_false, Bool.not_eq_eq_eq_not, Bool.not_true, Bool.not_false, Int.not_lt, Int.not_le] at hc114
                  have hp : getI xs = ([], 4) := getI_bad (hS3.1 hc114)
                  refine c_seq ?_
                  refine r_plain ?_
                  refine p1 (x_assign (by conv => lhs; whnf)) ?_
                  refine p1 (x_assign (by conv => lhs; whnf)) ?_
                  refine r_nil ?_
                  refine t_n ?_
                  refine c_ret ?_
                  refine t_r ?_
                  refine b_r ?_
                  refine t_r ?_
                  refine t_r ?_
                  refine b_r ?_
                  refine t_r ?_
                  refine end2 rfl (by conv => lhs; whnf) (by conv => lhs; whnf) ?_
                  first | exact ⟨⟨none, 0, 0, by rw [hp], by rw [hp]; exact Own.nil _ _ _ _ _⟩, hX⟩ | exact ⟨⟨_, _, _, by rw [hp], by rw [hp]; exact hO.recMono (fun j hj h => ⟨h.1, hj⟩)⟩, hX⟩
                · try simp only [decide_eq_true_eq, decide_eq_false_iff_not, Bool.not_eq_true, Bool.not_eq_false, Bool.not_eq_eq_eq_not, Bool.not_true, Bool.not_false, Int.not_lt, Int.not_le] at hc114
                  have he6 : er = 0 := Decidable.byContradiction fun h => hc114 (.inl h)
                  refine c_skip ?_
                  refine t_n ?_
                  refine c_seq ?_
                  refine r_plain ?_
                  refine p1 (x_move (by conv => lhs; whnf)) ?_
                  refine p1 (x_fieldAddr fo33_2 sz31 rfl) ?_
                  refine o_store1 rfl (by conv => lhs; whnf) rfl rfl sz31 hB8 (by simp) ?_
                  intro w24 hP24
                  have hX := hX.put hP24 (Nat.le_trans hwBi hg8)
                  have hO := hO.modB (hP24.mod Bi hg8) (Nat.zero_le _) (by simp [kRec]) hOb
                  have hB4 := hB4.mod (hP24.mod 0 (Nat.zero_le _)) (by decide)
                  have hR := hR.mod (hP24.mod w.heap.size (Nat.le_trans hwBi hg8)) (Nat.le_refl _) (by decide)
                  have hB8 := hP24.blk
                  simp only [List.setIfInBounds_toArray, List.set_cons_zero, List.set_cons_succ] at hB8
                  have hQ := hQ.mod (hP24.mod 0 (Nat.zero_le _)) (Nat.zero_le _) (by simp [kBr])
                  have hWs := hWs.put hP24
                  have hH := hH.mod (hP24.mod 0 (Nat.zero_le _)) (Nat.zero_le _) (by decide)
                  refine r_nil ?_
                  refine t_n ?_
                  refine c_seq ?_
                  refine r_plain ?_
                  refine p1 (x_fieldAddr fo104_0 sz22 rfl) ?_
                  refine p1 (x_load1 un22 rfl (hB4.cell rfl)) ?_
                  refine p1 (x_move (by conv => lhs; whnf)) ?_
                  refine p1 (x_slice_lN u22 sz5 rfl rfl (by have := gets_used R3 4096; have := hR.len; omega)) ?_
                  refine p1 (x_fieldAddr fo104_0 sz22 rfl) ?_
                  refine o_store1 rfl (by conv => lhs; whnf) rfl rfl sz22 hB4 (by simp) ?_
                  intro w25 hP25
                  have hX := hX.put hP25 (hg4)
                  have hO := hO.mod (hP25.mod 0 (Nat.zero_le _)) (Nat.zero_le _) (by simp [kRec])
                  have hB4 := hP25.blk
                  simp only [List.setIfInBounds_toArray, List.set_cons_zero, List.set_cons_succ] at hB4
                  have hR := hR.mod (hP25.mod w.heap.size hg4) (Nat.le_refl _) (by decide)
                  have hB8 := hB8.mod (hP25.mod 0 (Nat.zero_le _)) (by decide)
                  have hQ := hQ.mod (hP25.mod 0 (Nat.zero_le _)) (Nat.zero_le _) (by simp [kBr])
                  have hWs := hWs.put hP25
                  have hH := hH.mod (hP25.mod 0 (Nat.zero_le _)) (Nat.zero_le _) (by decide)
                  have hR := hR.dropI (gets R3 4096).2.1 (by have := gets_used R3 4096; have := hR.len; omega)
                  refine r_nil ?_
                  refine t_n ?_
                  refine r_plain ?_
                  refine p1 (x_move (by conv => lhs; whnf)) ?_
                  refine p1 (x_loadB ua33 rfl hB8 (by exact sz33)) ?_
                  refine o_buildSlice u23 inf33 rfl (by decide) (fun base hb => fill_one (by rfl) base hb) ?_
                  intro w26 g124 hN124
                  have hE26 := hN124.ext
                  have hX := hX.ext hE26
                  have hO := hO.ext hE26
                  have hB4 := hB4.ext hE26
                  have hR := hR.ext hE26
                  have hB8 := hB8.ext hE26
                  have hQ := hQ.ext hE26
                  have hWs := hWs.ext hE26
                  have hH := hH.ext hE26
                  have hJ : Own (kRec (from' w.heap.size w26)) 33 0 0 w26 (some ⟨g124, 0, none⟩) 1 1 [(s1, brs, (gets R3 4096).1)] := Own.made _ 33 0 0 hN124 [(s1, brs, (gets R3 4096).1)] [[.string s1, .slice qb mb cb, .slice qc mc cc]] 1 1 rfl ⟨⟨_, _, _, _, _, _, rfl, (hQ.sl.brMono (S' := from' w.heap.size w26) (fun j hj h => ⟨h, hj⟩)), fun hn => ⟨Nat.le_trans hwBi (hQ.inS hn).1, (hQ.inS hn).2⟩, hH.mono (S' := from' w.heap.size w26) (fun j hj h => ⟨h.1, hj⟩)⟩, trivial⟩ (Nat.zero_le _) (by omega) (by omega) (by rfl) (by rfl)
                  obtain ⟨cssJ, hAJ, hsrJ⟩ := src_kind u23 hJ.sl kRec_pos
                  have hO := hO.recMono (S' := from' w.heap.size w26) (fun j hj h => ⟨h.1, hj⟩)
                  have hXs18 := hX.size
                  refine o_append (d := (kRec _)) ([(s1, brs, (gets R3 4096).1)]) u23 inf33 rfl kRec_pos rfl rfl hO (hsrJ) rfl (hAJ) (rfl) (by omega) (by omega) (by omega) (by omega) (by simp [kRec]) ?_
                  intro p125 c125 w27 hO hM27
                  have hX := hX.mod hM27 (Nat.le_refl _)
                  have hB4 := hB4.mod hM27 (by decide)
                  have hR := hR.mod hM27 (Nat.le_refl _) (by decide)
                  have hWs := hWs.mod hM27 (by first | exact Nat.le_refl _ | exact trivial | omega)
                  refine p1 (x_assign (by conv => lhs; whnf)) ?_
                  refine r_nil ?_
                  refine b_n ?_
                  refine t_n ?_
                  refine r_plain ?_
                  refine p1 (x_move (by conv => lhs; whnf)) ?_
                  refine p1 (x_add rfl rfl (fits_u64 (by omega) (by omega))) ?_
                  refine p1 (x_assign (by conv => lhs; whnf)) ?_
                  refine r_nil ?_
                  refine t_n (At.mk ((i + 1, p125, m + 1, c125, L ++ [(s1, brs, (gets R3 4096).1)], adw qr cr (gets R3 4096).2.1 1, mr - (gets R3 4096).2.1, cr - (gets R3 4096).2.1, er, R3.drop (gets R3 4096).2.1)) (by repeat (first | exact Agr.refl _ _ | exact Agr.hav _ _ _ | refine Agr.upd rfl ?_ | refine Agr.updL ?_ _ rfl | refine Agr.hav' rfl ?_)) ⟨rfl, rfl, trivial⟩ ?_)
                  exact ⟨⟨hX, ⟨hO.recMono (fun j hj h => ⟨h.1, hj⟩), hB4, hR, by omega, by omega, by omega, fun h => absurd he6 h, fun _ => ⟨by rw [show N - (i + 1) = j from by omega]; exact hS3.2 hc114, by omega⟩, fun x hx => (List.mem_append.1 hx).elim (hnm x) (fun hx => by simp only [List.mem_singleton] at hx; rw [hx]; exact ⟨Nat.le_trans hsz1 (by omega), hnb⟩)⟩⟩, by first | (dsimp only; omega) | ((show _ < _); omega)⟩
          · try simp only [decide_eq_true_eq, decide_eq_false_iff_not, Bool.not_eq_true, Bool.not_eq_false, Bool.not_eq_eq_eq_not, Bool.not_true, Bool.not_false, Int.not_lt, Int.not_le] at hb14_3
            refine g0 61 rfl (by first | exact .inl rfl | exact .inr rfl) ?_
            refine g0 61 rfl (by first | exact .inl rfl | exact .inr rfl) ?_
            refine g0 61 rfl (by first | exact .inl rfl | exact .inr rfl) ?_
            refine p1 (x_pick_f rfl (by conv => lhs; whnf)) ?_
            refine r_nil ?_
            refine t_n ?_
            refine c_f rfl ?_
            have hJ5 : ¬ er ≠ 0 → N2 - k = 0 := fun h => by first | omega | exact absurd hc65 (fun h2 => h h2)
            have hJ6 : (er ≠ 0 → pI xs = none) ∧ (¬ er ≠ 0 → pI xs = cB j L s1 0 brs R3) := ⟨hJ1, fun h => by have := (hJ2 h).1; rw [hJ5 h] at this; exact this⟩
            refine c_exit ?_
            refine t_e ?_
            refine t_e ?_
            refine b_hit ?_
            refine t_n ?_
            refine c_seq ?_
            refine r_plain ?_
            refine p1 (x_fieldAddr fo104_0 sz22 rfl) ?_
            refine p1 (x_load1 un22 rfl (hB4.cell rfl)) ?_
            have hXs17 := hX.size
            have hT6 : Took (pHs 4096 R3) (er ≠ 0) (er ≠ 0 ∨ (gets R3 4096).2.2 ≠ 0) (gets R3 4096).1 R3 (R3.drop (gets R3 4096).2.1) := took_hs 4096 R3
            have hS3 := step_end hJ6 hT6
            have hRl7 := hT6.1
            refine o_call Try.func44 fn44 fb44 (ref06_Get R3 4096 _ _ _ _ _ hR (by omega) (by have := hR.len; omega)) rfl ?_
            rintro v28 w28 ⟨⟨qc, mc, cc, rfl, hH0⟩, hE28⟩
            have hX := hX.ext hE28
            have hO := hO.ext hE28
            have hB4 := hB4.ext hE28
            have hR := hR.ext hE28
            have hB8 := hB8.ext hE28
            have hQ := hQ.ext hE28
            have hWs := hWs.ext hE28
            have hH := (SlS.ofHash hH0).mono (S' := from' w.heap.size w28) (fun j hj h => ⟨Nat.le_trans hXs17 h, hj⟩)
            refine p1 (x_move (by conv => lhs; whnf)) ?_
            refine p1 (x_extract rfl rfl) ?_
            refine p1 (x_extract rfl rfl) ?_
            refine p1 (x_extract rfl rfl) ?_
            refine p1 (x_assign (by conv => lhs; whnf)) ?_
            refine p1 (x_assign (by conv => lhs; whnf)) ?_
            refine p1 (x_assign (by conv => lhs; whnf)) ?_
            refine r_nil ?_
            refine t_n ?_
            refine c_seq ?_
            refine c_seq ?_
            refine r_plain ?_
            refine p1 (x_fieldAddr fo104_1 sz3 rfl) ?_
            refine p1 (x_load1 un3 rfl (hB4.cell rfl)) ?_
            refine l_cut 5 [110, 111, 112, 113, 114] [(114, .bool (decide (er ≠ 0 ∨ (gets R3 4096).2.2 ≠ 0)))] ?_ ?_
            · skip
              refine p1 (x_neq rfl rfl) ?_
              refine p1b (x_move (by conv => lhs; whnf)) (fun hb25_3 => ?_) (fun hb25_3 => ?_)
              · try simp only [decide_eq_true_eq, decide_eq_false_iff_not, Bool.not_eq_true, Bool.not_eq_false, Bool.not_eq_eq_eq_not, Bool.not_true, Bool.not_false, Int.not_lt, Int.not_le] at hb25_3
                refine g0 111 rfl (by first | exact .inl rfl | exact .inr rfl) ?_
                refine g0 111 rfl (by first | exact .inl rfl | exact .inr rfl) ?_
                refine p1 (x_pick_t rfl (by conv => lhs; whnf)) ?_
                exact l_cutend rfl (by repeat (first | exact Agr.refl _ _ | exact Agr.hav _ _ _ | refine Agr.upd rfl ?_ | refine Agr.updL ?_ _ rfl | refine Agr.hav' rfl ?_)) ⟨congrArg Value.bool (by first | rfl | exact (decide_eq_true (by omega)).symm | exact (decide_eq_false (by omega)).symm | exact decide_eq_decide.2 (by omega) | (simp_all; done) | grind), trivial⟩
              · try simp only [decide_eq_true_eq, decide_eq_false_iff_not, Bool.not_eq_true, Bool.not_eq_false, Bool.not_eq_eq_eq_not, Bool.not_true, Bool.not_false, Int.not_lt, Int.not_le] at hb25_3
                refine g1 111 rfl rfl (x_move (by conv => lhs; whnf)) ?_
                refine g1 111 rfl rfl (x_neq rfl rfl) ?_
                refine p1 (x_pick_f rfl (by conv => lhs; whnf)) ?_
                exact l_cutend rfl (by repeat (first | exact Agr.refl _ _ | exact Agr.hav _ _ _ | refine Agr.upd rfl ?_ | refine Agr.updL ?_ _ rfl | refine Agr.hav' rfl ?_)) ⟨congrArg Value.bool (by first | rfl | exact (decide_eq_true (by omega)).symm | exact (decide_eq_false (by omega)).symm | exact decide_eq_decide.2 (by omega) | (simp_all; done) | grind), trivial⟩
            · intro Gr25_2
              refine r_nil ?_
              refine t_n ?_
              first | refine c_dec rfl (fun hc114 => ?_) (fun hc114 => ?_) | refine c_if rfl (fun hc114 => ?_) (fun hc114 => ?_)
              · try simp only [decide_eq_true_eq, decide_eq_false_iff_not, Bool.not_eq_true, Bool.not_eq_false, Bool.not_eq_eq_eq_not, Bool.not_true, Bool.not_false, Int.not_lt, Int.not_le] at hc114
                have hp : getI xs = ([], 4) := getI_bad (hS3.1 hc114)
                refine c_seq ?_
                refine r_plain ?_
                refine p1 (x_assign (by conv => lhs; whnf)) ?_
                refine p1 (x_assign (by conv => lhs; whnf)) ?_
                refine r_nil ?_
                refine t_n ?_
                refine c_ret ?_
                refine t_r ?_
                refine b_r ?_
                refine t_r ?_
                refine t_r ?_
                refine b_r ?_
                refine t_r ?_
                refine end2 rfl (by conv => lhs; whnf) (by conv => lhs; whnf) ?_
                first | exact ⟨⟨none, 0, 0, by rw [hp], by rw [hp]; exact Own.nil _ _ _ _ _⟩, hX⟩ | exact ⟨⟨_, _, _, by rw [hp], by rw [hp]; exact hO.recMono (fun j hj h => ⟨h.1, hj⟩)⟩, hX⟩
              · try simp only [decide_eq_true_eq, decide_eq_false_iff_not, Bool.not_eq_true, Bool.not_eq_false, Bool.not_eq_eq_eq_not, Bool.not_true, Bool.not_false, Int.not_lt, Int.not_le] at hc114
                have he6 : er = 0 := Decidable.byContradiction fun h => hc114 (.inl h)
                refine c_skip ?_
                refine t_n ?_
                refine c_seq ?_
                refine r_plain ?_
                refine p1 (x_move (by conv => lhs; whnf)) ?_
                refine p1 (x_fieldAddr fo33_2 sz31 rfl) ?_
                refine o_store1 rfl (by conv => lhs; whnf) rfl rfl sz31 hB8 (by simp) ?_
                intro w29 hP29
                have hX := hX.put hP29 (Nat.le_trans hwBi hg8)
                have hO := hO.modB (hP29.mod Bi hg8) (Nat.zero_le _) (by simp [kRec]) hOb
                have hB4 := hB4.mod (hP29.mod 0 (Nat.zero_le _)) (by decide)
                have hR := hR.mod (hP29.mod w.heap.size (Nat.le_trans hwBi hg8)) (Nat.le_refl _) (by decide)
                have hB8 := hP29.blk
                simp only [List.setIfInBounds_toArray, List.set_cons_zero, List.set_cons_succ] at hB8
                have hQ := hQ.mod (hP29.mod 0 (Nat.zero_le _)) (Nat.zero_le _) (by simp [kBr])
                have hWs := hWs.put hP29
                have hH := hH.mod (hP29.mod 0 (Nat.zero_le _)) (Nat.zero_le _) (by decide)
                refine r_nil ?_
                refine t_n ?_
                refine c_seq ?_
                refine r_plain ?_
                refine p1 (x_fieldAddr fo104_0 sz22 rfl) ?_
                refine p1 (x_load1 un22 rfl (hB4.cell rfl)) ?_
                refine p1 (x_move (by conv => lhs; whnf)) ?_
                refine p1 (x_slice_lN u22 sz5 rfl rfl (by have := gets_used R3 4096; have := hR.len; omega)) ?_
                refine p1 (x_fieldAddr fo104_0 sz22 rfl) ?_
                refine o_store1 rfl (by conv => lhs; whnf) rfl rfl sz22 hB4 (by simp) ?_
                intro w30 hP30
                have hX := hX.put hP30 (hg4)
                have hO := hO.mod (hP30.mod 0 (Nat.zero_le _)) (Nat.zero_le _) (by simp [kRec])
                have hB4 := hP30.blk
                simp only [List.setIfInBounds_toArray, List.set_cons_zero, List.set_cons_succ] at hB4
                have hR := hR.mod (hP30.mod w.heap.size hg4) (Nat.le_refl _) (by decide)
                have hB8 := hB8.mod (hP30.mod 0 (Nat.zero_le _)) (by decide)
                have hQ := hQ.mod (hP30.mod 0 (Nat.zero_le _)) (Nat.zero_le _) (by simp [kBr])
                have hWs := hWs.put hP30
                have hH := hH.mod (hP30.mod 0 (Nat.zero_le _)) (Nat.zero_le _) (by decide)
                have hR := hR.dropI (gets R3 4096).2.1 (by have := gets_used R3 4096; have := hR.len; omega)
                refine r_nil ?_
                refine t_n ?_
                refine r_plain ?_
                refine p1 (x_move (by conv => lhs; whnf)) ?_
                refine p1 (x_loadB ua33 rfl hB8 (by exact sz33)) ?_
                refine o_buildSlice u23 inf33 rfl (by decide) (fun base hb => fill_one (by rfl) base hb) ?_
                intro w31 g124 hN124
                have hE31 := hN124.ext
                have hX := hX.ext hE31
                have hO := hO.ext hE31
                have hB4 := hB4.ext hE31
                have hR := hR.ext hE31
                have hB8 := hB8.ext hE31
                have hQ := hQ.ext hE31
                have hWs := hWs.ext hE31
                have hH := hH.ext hE31
                have hJ : Own (kRec (from' w.heap.size w31)) 33 0 0 w31 (some ⟨g124, 0, none⟩) 1 1 [(s1, brs, (gets R3 4096).1)] := Own.made _ 33 0 0 hN124 [(s1, brs, (gets R3 4096).1)] [[.string s1, .slice qb mb cb, .slice qc mc cc]] 1 1 rfl ⟨⟨_, _, _, _, _, _, rfl, (hQ.sl.brMono (S' := from' w.heap.size w31) (fun j hj h => ⟨h, hj⟩)), fun hn => ⟨Nat.le_trans hwBi (hQ.inS hn).1, (hQ.inS hn).2⟩, hH.mono (S' := from' w.heap.size w31) (fun j hj h => ⟨h.1, hj⟩)⟩, trivial⟩ (Nat.zero_le _) (by omega) (by omega) (by rfl) (by rfl)
                obtain ⟨cssJ, hAJ, hsrJ⟩ := src_kind u23 hJ.sl kRec_pos
                have hO := hO.recMono (S' := from' w.heap.size w31) (fun j hj h => ⟨h.1, hj⟩)
                have hXs18 := hX.size
                refine o_append (d := (kRec _)) ([(s1, brs, (gets R3 4096).1)]) u23 inf33 rfl kRec_pos rfl rfl hO (hsrJ) rfl (hAJ) (rfl) (by omega) (by omega) (by omega) (by omega) (by simp [kRec]) ?_
                intro p125 c125 w32 hO hM32
                have hX := hX.mod hM32 (Nat.le_refl _)
                have hB4 := hB4.mod hM32 (by decide)
                have hR := hR.mod hM32 (Nat.le_refl _) (by decide)
                have hWs := hWs.mod hM32 (by first | exact Nat.le_refl _ | exact trivial | omega)
                refine p1 (x_assign (by conv => lhs; whnf)) ?_
                refine r_nil ?_
                refine b_n ?_
                refine t_n ?_
                refine r_plain ?_
                refine p1 (x_move (by conv => lhs; whnf)) ?_
                refine p1 (x_add rfl rfl (fits_u64 (by omega) (by omega))) ?_
                refine p1 (x_assign (by conv => lhs; whnf)) ?_
                refine r_nil ?_
                refine t_n (At.mk ((i + 1, p125, m + 1, c125, L ++ [(s1, brs, (gets R3 4096).1)], adw qr cr (gets R3 4096).2.1 1, mr - (gets R3 4096).2.1, cr - (gets R3 4096).2.1, er, R3.drop (gets R3 4096).2.1)) (by repeat (first | exact Agr.refl _ _ | exact Agr.hav _ _ _ | refine Agr.upd rfl ?_ | refine Agr.updL ?_ _ rfl | refine Agr.hav' rfl ?_)) ⟨rfl, rfl, trivial⟩ ?_)
                exact ⟨⟨hX, ⟨hO.recMono (fun j hj h => ⟨h.1, hj⟩), hB4, hR, by omega, by omega, by omega, fun h => absurd he6 h, fun _ => ⟨by rw [show N - (i + 1) = j from by omega]; exact hS3.2 hc114, by omega⟩, fun x hx => (List.mem_append.1 hx).elim (hnm x) (fun hx => by simp only [List.mem_singleton] at hx; rw [hx]; exact ⟨Nat.le_trans hsz1 (by omega), hnb⟩)⟩⟩, by first | (dsimp only; omega) | ((show _ < _); omega)⟩
        · try simp only [decide_eq_true_eq, decide_eq_false_iff_not, Bool.not_eq_true, Bool.not_eq_false, Bool.not_eq_eq_eq_not, Bool.not_true, Bool.not_false, Int.not_lt, Int.not_le] at hc44
          have hj0 : ¬ er ≠ 0 → N - i = 0 := fun h => by first | omega | exact absurd hc44 (fun h2 => h h2)
          have hfin : (er ≠ 0 → pI xs = none) ∧ (¬ er ≠ 0 → pI xs = some L) := ⟨hI1, fun h => by have := (hI2 h).1; rw [hj0 h, cN_0] at this; exact this⟩
          refine c_exit ?_
          refine t_e ?_
          refine t_e ?_
          refine b_hit ?_
          refine t_n ?_
          refine c_seq ?_
          refine r_plain ?_
          refine p1 (x_move (by conv => lhs; whnf)) ?_
          refine o_call Try.func80 fn80 fb80 (ref17_laid L _ _ _ _ _ hO.sl.recA hnm) rfl ?_
          rintro v33 w33 ⟨⟨q1, m1, c2, rfl, hU⟩, hE33⟩
          have hX := hX.ext hE33
          have hO := hO.ext hE33
          have hB4 := hB4.ext hE33
          have hR := hR.ext hE33
          refine p1 (x_move (by conv => lhs; whnf)) ?_
          refine p1 (x_extract rfl rfl) ?_
          refine p1 (x_extract rfl rfl) ?_
          refine p1 (x_assign (by conv => lhs; whnf)) ?_
          refine p1 (x_assign (by conv => lhs; whnf)) ?_
          refine r_nil ?_
          refine t_n ?_
          refine c_seq ?_
          refine c_seq ?_
          refine r_plain ?_
          refine p1 (x_fieldAddr fo104_1 sz3 rfl) ?_
          refine p1 (x_load1 un3 rfl (hB4.cell rfl)) ?_
          refine p1 (x_neq rfl rfl) ?_
          refine p1b (x_move (by conv => lhs; whnf)) (fun hb31_3 => ?_) (fun hb31_3 => ?_)
          · try simp only [decide_eq_true_eq, decide_eq_false_iff_not, Bool.not_eq_true, Bool.not_eq_false, Bool.not_eq_eq_eq_not, Bool.not_true, Bool.not_false, Int.not_lt, Int.not_le] at hb31_3
            refine g0 134 rfl (by first | exact .inl rfl | exact .inr rfl) ?_
            refine g0 134 rfl (by first | exact .inl rfl | exact .inr rfl) ?_
            refine p1 (x_pick_t rfl (by conv => lhs; whnf)) ?_
            refine p1 (x_move (by conv => lhs; whnf)) ?_
            refine g0 138 rfl (by first | exact .inl rfl | exact .inr rfl) ?_
            refine g0 138 rfl (by first | exact .inl rfl | exact .inr rfl) ?_
            refine g0 138 rfl (by first | exact .inl rfl | exact .inr rfl) ?_
            refine g0 138 rfl (by first | exact .inl rfl | exact .inr rfl) ?_
            refine g0 138 rfl (by first | exact .inl rfl | exact .inr rfl) ?_
            refine p1 (x_pick_t rfl (by conv => lhs; whnf)) ?_
            refine r_nil ?_
            refine t_n ?_
            refine c_t rfl ?_
            have hp : getI xs = ([], 4) := by
              first
              | exact getI_bad (hfin.1 hb31_3)
              | exact getI_ne (hfin.2 hb31_3) (fun e => by (rw [e] at hb31_7; exact hb31_7 rfl))
              | exact getI_ne (hfin.2 hb31_3) (fun e => by (rw [e] at hc144; exact hc144 rfl))
            refine c_seq ?_
            refine r_plain ?_
            refine p1 (x_assign (by conv => lhs; whnf)) ?_
            refine p1 (x_assign (by conv => lhs; whnf)) ?_
            refine r_nil ?_
            refine t_n ?_
            refine c_ret ?_
            refine t_r ?_
            refine end2 rfl (by conv => lhs; whnf) (by conv => lhs; whnf) ?_
            first | exact ⟨⟨none, 0, 0, by rw [hp], by rw [hp]; exact Own.nil _ _ _ _ _⟩, hX⟩ | exact ⟨⟨_, _, _, by rw [hp], by rw [hp]; exact hO.recMono (fun j hj h => ⟨h.1, hj⟩)⟩, hX⟩
          · try simp only [decide_eq_true_eq, decide_eq_false_iff_not, Bool.not_eq_true, Bool.not_eq_false, Bool.not_eq_eq_eq_not, Bool.not_true, Bool.not_false, Int.not_lt, Int.not_le] at hb31_3
            refine g1 134 rfl rfl (x_move (by conv => lhs; whnf)) ?_
            refine g1 134 rfl rfl (x_neq rfl rfl) ?_
            refine p1 (x_pick_f rfl (by conv => lhs; whnf)) ?_
            refine p1b (x_move (by conv => lhs; whnf)) (fun hb31_7 => ?_) (fun hb31_7 => ?_)
            · try simp only [decide_eq_true_eq, decide_eq_false_iff_not, Bool.not_eq_true, Bool.not_eq_false, Bool.not_eq_eq_eq_not, Bool.not_true, Bool.not_false, Int.not_lt, Int.not_le] at hb31_7
              refine g0 138 rfl (by first | exact .inl rfl | exact .inr rfl) ?_
              refine g0 138 rfl (by first | exact .inl rfl | exact .inr rfl) ?_
              refine g0 138 rfl (by first | exact .inl rfl | exact .inr rfl) ?_
              refine g0 138 rfl (by first | exact .inl rfl | exact .inr rfl) ?_
              refine g0 138 rfl (by first | exact .inl rfl | exact .inr rfl) ?_
              refine p1 (x_pick_t rfl (by conv => lhs; whnf)) ?_
              refine r_nil ?_
              refine t_n ?_
              refine c_t rfl ?_
              have hp : getI xs = ([], 4) := by
                first
                | exact getI_bad (hfin.1 hb31_3)
                | exact getI_ne (hfin.2 hb31_3) (fun e => by (rw [e] at hb31_7; exact hb31_7 rfl))
                | exact getI_ne (hfin.2 hb31_3) (fun e => by (rw [e] at hc144; exact hc144 rfl))
              refine c_seq ?_
              refine r_plain ?_
              refine p1 (x_assign (by conv => lhs; whnf)) ?_
              refine p1 (x_assign (by conv => lhs; whnf)) ?_
              refine r_nil ?_
              refine t_n ?_
              refine c_ret ?_
              refine t_r ?_
              refine end2 rfl (by conv => lhs; whnf) (by conv => lhs; whnf) ?_
              first | exact ⟨⟨none, 0, 0, by rw [hp], by rw [hp]; exact Own.nil _ _ _ _ _⟩, hX⟩ | exact ⟨⟨_, _, _, by rw [hp], by rw [hp]; exact hO.recMono (fun j hj h => ⟨h.1, hj⟩)⟩, hX⟩
            · try simp only [decide_eq_true_eq, decide_eq_false_iff_not, Bool.not_eq_true, Bool.not_eq_false, Bool.not_eq_eq_eq_not, Bool.not_true, Bool.not_false, Int.not_lt, Int.not_le] at hb31_7
              refine g1 138 rfl rfl (x_move (by conv => lhs; whnf)) ?_
              refine g1 138 rfl rfl (x_bytes_str u22 u5 u9 rfl hU.sl) ?_
              refine g1 138 rfl rfl (x_move (by conv => lhs; whnf)) ?_
              refine g1 138 rfl rfl (x_bytes_str u22 u5 u9 rfl (hl.ext hX)) ?_
              refine g1 138 rfl rfl (x_neq_str rfl rfl) ?_
              refine p1 (x_pick_f rfl (by conv => lhs; whnf)) ?_
              refine r_nil ?_
              refine t_n ?_
              first | refine c_dec rfl (fun hc144 => ?_) (fun hc144 => ?_) | refine c_if rfl (fun hc144 => ?_) (fun hc144 => ?_)
              · try simp only [decide_eq_true_eq, decide_eq_false_iff_not, Bool.not_eq_true, Bool.not_eq_false, Bool.not_eq_eq_eq_not, Bool.not_true, Bool.not_false, Int.not_lt, Int.not_le] at hc144
                have hp : getI xs = ([], 4) := by
                  first
                  | exact getI_bad (hfin.1 hb31_3)
                  | exact getI_ne (hfin.2 hb31_3) (fun e => by (rw [e] at hb31_7; exact hb31_7 rfl))
                  | exact getI_ne (hfin.2 hb31_3) (fun e => by (rw [e] at hc144; exact hc144 rfl))
                refine c_seq ?_
                refine r_plain ?_
                refine p1 (x_assign (by conv => lhs; whnf)) ?_
                refine p1 (x_assign (by conv => lhs; whnf)) ?_
                refine r_nil ?_
                refine t_n ?_
                refine c_ret ?_
                refine t_r ?_
                refine end2 rfl (by conv => lhs; whnf) (by conv => lhs; whnf) ?_
                first | exact ⟨⟨none, 0, 0, by rw [hp], by rw [hp]; exact Own.nil _ _ _ _ _⟩, hX⟩ | exact ⟨⟨_, _, _, by rw [hp], by rw [hp]; exact hO.recMono (fun j hj h => ⟨h.1, hj⟩)⟩, hX⟩
              · try simp only [decide_eq_true_eq, decide_eq_false_iff_not, Bool.not_eq_true, Bool.not_eq_false, Bool.not_eq_eq_eq_not, Bool.not_true, Bool.not_false, Int.not_lt, Int.not_le] at hc144
                have hp : getI xs = (L, 0) := getI_eq (hfin.2 hb31_3) (Prod.ext (toStr_inj (Classical.byContradiction hc144)) (Classical.byContradiction hb31_7))
                refine c_skip ?_
                refine t_n ?_
                refine c_seq ?_
                refine r_plain ?_
                refine p1 (x_move (by conv => lhs; whnf)) ?_
                refine p1 (x_assign (by conv => lhs; whnf)) ?_
                refine p1 (x_assign (by conv => lhs; whnf)) ?_
                refine r_nil ?_
                refine t_n ?_
                refine c_ret ?_
                refine end2 rfl (by conv => lhs; whnf) (by conv => lhs; whnf) ?_
                first | exact ⟨⟨none, 0, 0, by rw [hp], by rw [hp]; exact Own.nil _ _ _ _ _⟩, hX⟩ | exact ⟨⟨_, _, _, by rw [hp], by rw [hp]; exact hO.recMono (fun j hj h => ⟨h.1, hj⟩)⟩, hX⟩
      · try simp only [decide_eq_true_eq, decide_eq_false_iff_not, Bool.not_eq_true, Bool.not_eq_false, Bool.not_eq_eq_eq_not, Bool.not_true, Bool.not_false, Int.not_lt, Int.not_le] at hb7_3
        refine g0 40 rfl (by first | exact .inl rfl | exact .inr rfl) ?_
        refine g0 40 rfl (by first | exact .inl rfl | exact .inr rfl) ?_
        refine g0 40 rfl (by first | exact .inl rfl | exact .inr rfl) ?_
        refine p1 (x_pick_f rfl (by conv => lhs; whnf)) ?_
        refine r_nil ?_
        refine t_n ?_
        refine c_f rfl ?_
        have hj0 : ¬ er ≠ 0 → N - i = 0 := fun h => by first | omega | exact absurd hc44 (fun h2 => h h2)
        have hfin : (er ≠ 0 → pI xs = none) ∧ (¬ er ≠ 0 → pI xs = some L) := ⟨hI1, fun h => by have := (hI2 h).1; rw [hj0 h, cN_0] at this; exact this⟩
        refine c_exit ?_
        refine t_e ?_
        refine t_e ?_
        refine b_hit ?_
        refine t_n ?_
        refine c_seq ?_
        refine r_plain ?_
        refine p1 (x_move (by conv => lhs; whnf)) ?_
        refine o_call Try.func80 fn80 fb80 (ref17_laid L _ _ _ _ _ hO.sl.recA hnm) rfl ?_
        rintro v34 w34 ⟨⟨q1, m1, c2, rfl, hU⟩, hE34⟩
        have hX := hX.ext hE34
        have hO := hO.ext hE34
        have hB4 := hB4.ext hE34
        have hR := hR.ext hE34
        refine p1 (x_move (by conv => lhs; whnf)) ?_
        refine p1 (x_extract rfl rfl) ?_
        refine p1 (x_extract rfl rfl) ?_
        refine p1 (x_assign (by conv => lhs; whnf)) ?_
        refine p1 (x_assign (by conv => lhs; whnf)) ?_
        refine r_nil ?_
        refine t_n ?_
        refine c_seq ?_
        refine c_seq ?_
        refine r_plain ?_
        refine p1 (x_fieldAddr fo104_1 sz3 rfl) ?_
        refine p1 (x_load1 un3 rfl (hB4.cell rfl)) ?_
        refine p1 (x_neq rfl rfl) ?_
        refine p1b (x_move (by conv => lhs; whnf)) (fun hb31_3 => ?_) (fun hb31_3 => ?_)
        · try simp only [decide_eq_true_eq, decide_eq_false_iff_not, Bool.not_eq_true, Bool.not_eq_false, Bool.not_eq_eq_eq_not, Bool.not_true, Bool.not_false, Int.not_lt, Int.not_le] at hb31_3
          refine g0 134 rfl (by first | exact .inl rfl | exact .inr rfl) ?_
          refine g0 134 rfl (by first | exact .inl rfl | exact .inr rfl) ?_
          refine p1 (x_pick_t rfl (by conv => lhs; whnf)) ?_
          refine p1 (x_move (by conv => lhs; whnf)) ?_
          refine g0 138 rfl (by first | exact .inl rfl | exact .inr rfl) ?_
          refine g0 138 rfl (by first | exact .inl rfl | exact .inr rfl) ?_
          refine g0 138 rfl (by first | exact .inl rfl | exact .inr rfl) ?_
          refine g0 138 rfl (by first | exact .inl rfl | exact .inr rfl) ?_
          refine g0 138 rfl (by first | exact .inl rfl | exact .inr rfl) ?_
          refine p1 (x_pick_t rfl (by conv => lhs; whnf)) ?_
          refine r_nil ?_
          refine t_n ?_
          refine c_t rfl ?_
          have hp : getI xs = ([], 4) := by
            first
            | exact getI_bad (hfin.1 hb31_3)
            | exact getI_ne (hfin.2 hb31_3) (fun e => by (rw [e] at hb31_7; exact hb31_7 rfl))
            | exact getI_ne (hfin.2 hb31_3) (fun e => by (rw [e] at hc144; exact hc144 rfl))
          refine c_seq ?_
          refine r_plain ?_
          refine p1 (x_assign (by conv => lhs; whnf)) ?_
          refine p1 (x_assign (by conv => lhs; whnf)) ?_
          refine r_nil ?_
          refine t_n ?_
          refine c_ret ?_
          refine t_r ?_
          refine end2 rfl (by conv => lhs; whnf) (by conv => lhs; whnf) ?_
          first | exact ⟨⟨none, 0, 0, by rw [hp], by rw [hp]; exact Own.nil _ _ _ _ _⟩, hX⟩ | exact ⟨⟨_, _, _, by rw [hp], by rw [hp]; exact hO.recMono (fun j hj h => ⟨h.1, hj⟩)⟩, hX⟩
        · try simp only [decide_eq_true_eq, decide_eq_false_iff_not, Bool.not_eq_true, Bool.not_eq_false, Bool.not_eq_eq_eq_not, Bool.not_true, Bool.not_false, Int.not_lt, Int.not_le] at hb31_3
          refine g1 134 rfl rfl (x_move (by conv => lhs; whnf)) ?_
          refine g1 134 rfl rfl (x_neq rfl rfl) ?_
          refine p1 (x_pick_f rfl (by conv => lhs; whnf)) ?_
          refine p1b (x_move (by conv => lhs; whnf)) (fun hb31_7 => ?_) (fun hb31_7 => ?_)
          · try simp only [decide_eq_true_eq, decide_eq_false_iff_not, Bool.not_eq_true, Bool.not_eq_false, Bool.not_eq_eq_eq_not, Bool.not_true, Bool.not_false, Int.not_lt, Int.not_le] at hb31_7
            refine g0 138 rfl (by first | exact .inl rfl | exact .inr rfl) ?_
            refine g0 138 rfl (by first | exact .inl rfl | exact .inr rfl) ?_
            refine g0 138 rfl (by first | exact .inl rfl | exact .inr rfl) ?_
            refine g0 138 rfl (by first | exact .inl rfl | exact .inr rfl) ?_
            refine g0 138 rfl (by first | exact .inl rfl | exact .inr rfl) ?_
            refine p1 (x_pick_t rfl (by conv => lhs; whnf)) ?_
            refine r_nil ?_
            refine t_n ?_
            refine c_t rfl ?_
            have hp : getI xs = ([], 4) := by
              first
              | exact getI_bad (hfin.1 hb31_3)
              | exact getI_ne (hfin.2 hb31_3) (fun e => by (rw [e] at hb31_7; exact hb31_7 rfl))
              | exact getI_ne (hfin.2 hb31_3) (fun e => by (rw [e] at hc144; exact hc144 rfl))
            refine c_seq ?_
            refine r_plain ?_
            refine p1 (x_assign (by conv => lhs; whnf)) ?_
            refine p1 (x_assign (by conv => lhs; whnf)) ?_
            refine r_nil ?_
            refine t_n ?_
            refine c_ret ?_
            refine t_r ?_
            refine end2 rfl (by conv => lhs; whnf) (by conv => lhs; whnf) ?_
            first | exact ⟨⟨none, 0, 0, by rw [hp], by rw [hp]; exact Own.nil _ _ _ _ _⟩, hX⟩ | exact ⟨⟨_, _, _, by rw [hp], by rw [hp]; exact hO.recMono (fun j hj h => ⟨h.1, hj⟩)⟩, hX⟩
          · try simp only [decide_eq_true_eq, decide_eq_false_iff_not, Bool.not_eq_true, Bool.not_eq_false, Bool.not_eq_eq_eq_not, Bool.not_true, Bool.not_false, Int.not_lt, Int.not_le] at hb31_7
            refine g1 138 rfl rfl (x_move (by conv => lhs; whnf)) ?_
            refine g1 138 rfl rfl (x_bytes_str u22 u5 u9 rfl hU.sl) ?_
            refine g1 138 rfl rfl (x_move (by conv => lhs; whnf)) ?_
            refine g1 138 rfl rfl (x_bytes_str u22 u5 u9 rfl (hl.ext hX)) ?_
            refine g1 138 rfl rfl (x_neq_str rfl rfl) ?_
            refine p1 (x_pick_f rfl (by conv => lhs; whnf)) ?_
            refine r_nil ?_
            refine t_n ?_
            first | refine c_dec rfl (fun hc144 => ?_) (fun hc144 => ?_) | refine c_if rfl (fun hc144 => ?_) (fun hc144 => ?_)
            · try simp only [decide_eq_true_eq, decide_eq_false_iff_not, Bool.not_eq_true, Bool.not_eq_false, Bool.not_eq_eq_eq_not, Bool.not_true, Bool.not_false, Int.not_lt, Int.not_le] at hc144
              have hp : getI xs = ([], 4) := by
                first
                | exact getI_bad (hfin.1 hb31_3)
                | exact getI_ne (hfin.2 hb31_3) (fun e => by (rw [e] at hb31_7; exact hb31_7 rfl))
                | exact getI_ne (hfin.2 hb31_3) (fun e => by (rw [e] at hc144; exact hc144 rfl))
              refine c_seq ?_
              refine r_plain ?_
              refine p1 (x_assign (by conv => lhs; whnf)) ?_
              refine p1 (x_assign (by conv => lhs; whnf)) ?_
              refine r_nil ?_
              refine t_n ?_
              refine c_ret ?_
              refine t_r ?_
              refine end2 rfl (by conv => lhs; whnf) (by conv => lhs; whnf) ?_
              first | exact ⟨⟨none, 0, 0, by rw [hp], by rw [hp]; exact Own.nil _ _ _ _ _⟩, hX⟩ | exact ⟨⟨_, _, _, by rw [hp], by rw [hp]; exact hO.recMono (fun j hj h => ⟨h.1, hj⟩)⟩, hX⟩
            · try simp only [decide_eq_true_eq, decide_eq_false_iff_not, Bool.not_eq_true, Bool.not_eq_false, Bool.not_eq_eq_eq_not, Bool.not_true, Bool.not_false, Int.not_lt, Int.not_le] at hc144
              have hp : getI xs = (L, 0) := getI_eq (hfin.2 hb31_3) (Prod.ext (toStr_inj (Classical.byContradiction hc144)) (Classical.byContradiction hb31_7))
              refine c_skip ?_
              refine t_n ?_
              refine c_seq ?_
              refine r_plain ?_
              refine p1 (x_move (by conv => lhs; whnf)) ?_
              refine p1 (x_assign (by conv => lhs; whnf)) ?_
              refine p1 (x_assign (by conv => lhs; whnf)) ?_
              refine r_nil ?_
              refine t_n ?_
              refine c_ret ?_
              refine end2 rfl (by conv => lhs; whnf) (by conv => lhs; whnf) ?_
              first | exact ⟨⟨none, 0, 0, by rw [hp], by rw [hp]; exact Own.nil _ _ _ _ _⟩, hX⟩ | exact ⟨⟨_, _, _, by rw [hp], by rw [hp]; exact hO.recMono (fun j hj h => ⟨h.1, hj⟩)⟩, hX⟩
end Go.Proofs.Eng
end
section
set_option linter.unusedVariables false
set_option linter.unusedSimpArgs false
namespace Go.Proofs.Eng
open Go.RowKit
open Extern.Stop (cell)
section
variable {P : Program} {ops : Array Oper} {Q : Exit → Act → World → Prop} {rest : List Oper} {N : Nat} {f : Nat → Value} {w : World} {α : Type}
variable {t0 : TypeId} {pos : String} {aft : Array Edge} {dst : Nat} {x y : Operand} {T tx : TypeId}
theorem x_min {n : Nat} {d : Option Nat} {gd : Option (Nat × Bool)} {k k' : IntKind} {a b : Int} {ats : Array TypeId} (hx : ev n f x = .int k a) (hy : ev n f y = .int k' b) : Ex P w n f ⟨d, .call ⟨.builtin .min, #[x, y], ats⟩, t0, pos, aft, gd⟩ (.int k (if b < a then b else a)) := by
  unfold Ex execOp
  simp [resolve, invoke, builtin, hx, hy, Sem.run_bind, Builtin.min_, Builtin.min2]

/-- Something is appended to what has no room: a new row, or nothing. -/
theorem o_appendNew {sz : Nat} {enc : α → List Value} {hl : ∀ x, (enc x).length = sz} {h1 : ∀ x, ∀ v ∈ enc x, v.oneCell' = true} {e : TypeId} {p : Option Addr} {m : Nat} {v z : Value} {news : List Value} {bytes : Nat} (ys : List α)
    (hT : P.underlying T = some (.slice e)) (hi : (P.info? e).map (fun i => (i.zero, i.size, i.bytes)) = some (some z, sz, bytes)) (hz : z.cells.size = sz)
    (hx : ev N f x = .slice p 0 0) (hy : ev N f y = v) (hs : Src P sz tx v m news w) (hlen : ys.length = m) (hn : (ys.map enc).flatten = news)
    (hb : (m + m / 4 + 192) * bytes ≤ 281474976710656) (hm : m ≤ 4611686018427387904)
    (k : ∀ p' c' w', SlS enc e (fun j => w.heap.size ≤ j) w' p' m c' ys → Ext w w' → Lst P ops Q rest (fr N (upd f dst (.slice p' m c'))) w') :
    Lst P ops Q (⟨some dst, .call ⟨.builtin .append, #[x, y], #[T, tx]⟩, t0, pos, aft, none⟩ :: rest) (fr N f) w := by
  obtain ⟨i, hi0, hi1⟩ := Option.map_eq_some_iff.1 hi
  simp only [Prod.mk.injEq] at hi1
  obtain ⟨hiz, his, hib⟩ := hi1
  have key : ∃ p' c' w', (Builtin.append_ #[T, tx] t0 #[.slice p 0 0, v]).run P w = .ok (.slice p' m c') w' ∧ SlS enc e (fun j => w.heap.size ≤ j) w' p' m c' ys ∧ Ext w w' := by
    rcases Nat.eq_zero_or_pos m with hm0 | hm0
    · have hnews : news = [] := List.eq_nil_of_length_eq_zero (by rw [hs.newsLen, hm0, Nat.zero_mul])
      have hy0 : ys = [] := List.eq_nil_of_length_eq_zero (by rw [hlen, hm0])
      subst hnews hm0
      rw [hy0]
      exact ⟨p, 0, w, run_append_nothing w T tx t0 e i hT hi0 p 0 0 (Nat.le_refl _) v (by rw [his]; exact hs), SlS.nil _ _ _ _ _ _ (by omega), .refl w⟩
    · have hold : (Builtin.firstCells i.size 0 (.slice p 0 0)).run P w.drew = .ok ([] : List Value).toArray w.drew := by
        cases p with
        | none => exact run_firstCells_none w.drew i.size 0 0 0
        | some a => exact run_firstCells_some w.drew i.size 0 a 0 0 [] (by simp) (fun j u hu => by simp at hu)
      have hr := run_append_grow_src (P := P) w T tx t0 e i z hT hi0 hiz p 0 0 [] hold v m news (by rw [his]; exact hs) (by omega) (by omega) (growslice_fits_wide (by omega) (by rw [hib, Nat.zero_add]; exact hb))
      have hN : New w.drew (w.drew.alloc (.cells (([] ++ news).toArray ++ Builtin.zeroCells z.cells (grownCap w (0 + m) 0 e - (0 + m))) e)) w.drew.heap.size _ e := New.alloc _ _ _
      have hge := grownCap_ge w (0 + m) 0 e
      have hcm : grownCap w (0 + m) 0 e ≤ maxLen := grownCap_le_maxLen w (0 + m) 0 e (by unfold maxLen; omega)
      have hO : Own (Kind.pure sz enc hl h1) e 0 w.heap.size _ (some ⟨w.drew.heap.size, 0, none⟩) (0 + m) (grownCap w (0 + m) 0 e) ys :=
        Own.made _ e 0 w.heap.size hN ys (ys.map enc) (0 + m) _ (by omega) (pure_all 0 _ ys) (Nat.le_refl _) hge (by unfold maxLen at hcm; omega) (by
          simp only [Array.size_append, List.size_toArray, size_zeroCells, hz, List.nil_append, hs.newsLen]
          show _ = _ * sz
          rw [← Nat.add_mul]
          congr 1; omega) (by
          rw [Array.toList_append, Nat.zero_add]
          show List.take (m * sz) _ = _
          rw [List.take_left' (by simp [hs.newsLen]), hn]; rfl)
      have e0 : 0 + m = m := Nat.zero_add m
      rw [e0] at hO hr
      exact ⟨_, _, _, hr, SlS.ofOwn hO, (Ext.drew w).trans (Ext.alloc _ _)⟩
  obtain ⟨p', c', w', hr, h1', h2⟩ := key
  refine l1 (w' := w') (v := .slice p' m c') ?_ (k p' c' w' h1' h2)
  simp only [execOp, resolve, invoke, builtin, Sem.run_bind, Sem.run_pure, Result.andThen_ok, List.map_toArray, List.map_cons, List.map_nil, hx, hy, hr]
end
end Go.Proofs.Eng
end
section
set_option linter.unusedVariables false
set_option linter.unusedSimpArgs false
set_option maxRecDepth 100000
set_option maxHeartbeats 4000000
namespace Go.Proofs.Eng
open Go.RowKit
open Extern.Stop (cell)
theorem few_succ {l : List Rec} {i : Nat} (hi : i < l.length) {nb nc : Nat} (hb : (l.getD i default).2.1.length = nb) (hc : (l.getD i default).2.2.length = nc) (h : ∀ x ∈ l.take i, x.2.1.length ≤ 600 ∧ x.2.2.length ≤ 600) (h2 : nb ≤ 600 ∧ nc ≤ 600) : ∀ x ∈ l.take (i + 1), x.2.1.length ≤ 600 ∧ x.2.2.length ≤ 600 := by
  rw [rec_take_succ hi]
  intro x hx
  rcases List.mem_append.1 hx with hx | hx
  · exact h x hx
  · simp only [List.mem_singleton] at hx; rw [hx]; omega
theorem law17_few (l : List Rec) (B : Nat) (p : Option Addr) (n c : Nat) (w : World) (hl : Sl kRecA 33 B w p n c l) :
    Ret Try.prog 25 [.slice p n c] w (fun v w' => (∃ b : Bool, v = .bool b ∧ (b = true → l.length ≤ 600 ∧ ∀ x ∈ l, x.2.1.length ≤ 600 ∧ x.2.2.length ≤ 600)) ∧ Ext w w') := by
  have hX := Ext.refl w
  refine enter 31 _ Try.func25 rfl rfl (Nat.le_of_ble_eq_true rfl) ?_
  refine c_seq ?_
  refine r_plain ?_
  refine p1 (x_assign (by conv => lhs; whnf)) ?_
  refine r_nil ?_
  refine t_n ?_
  refine c_seq ?_
  refine r_plain ?_
  refine p1 (x_assign (by conv => lhs; whnf)) ?_
  refine r_nil ?_
  refine t_n ?_
  refine c_seq ?_
  refine c_seq ?_
  refine r_plain ?_
  refine p1 (x_assign (by conv => lhs; whnf)) ?_
  refine r_nil ?_
  refine t_n ?_
  refine c_block ?_
  have hlen := hl.len
  have hcap := hl.cap
  have hfit := hl.fit
  refine c_loop (ι := Nat × Int) [2, 3, 4, 5, 6, 7, 8, 9, 10, 11, 12, 13, 14, 15, 16, 17, 18, 19, 20, 21, 22, 23, 24, 25, 26, 27, 28, 29, 30] (fun (i, s) => [(3, .int .i64 s), (4, .int .i64 (i : Int))]) (fun (i, s) w' => Ext w w' ∧ (i ≤ n ∧ (i : Int) ≤ s ∧ s ≤ 600 ∧ (∀ x ∈ l.take i, x.2.1.length ≤ 600 ∧ x.2.2.length ≤ 600))) (fun (i, s) => n - i) ((0, 0)) ⟨rfl, rfl, trivial⟩ ⟨hX, ⟨by omega, by omega, by omega, by simp⟩⟩ ?_
  rintro ⟨i, s⟩ GL0 w1 ⟨hE1, hi, hs1, hs2, hL⟩
  have hX := hE1
  refine c_seq ?_
  refine c_seq ?_
  refine r_plain ?_
  refine p1 (x_move (by conv => lhs; whnf)) ?_
  refine p1 (x_move (by conv => lhs; whnf)) ?_
  refine p1 (x_len_slice u23 rfl) ?_
  refine p1 (x_lss rfl rfl) ?_
  refine r_nil ?_
  refine t_n ?_
  first | refine c_dec rfl (fun hc8 => ?_) (fun hc8 => ?_) | refine c_if rfl (fun hc8 => ?_) (fun hc8 => ?_)
  · try simp only [decide_eq_true_eq, decide_eq_false_iff_not, Bool.not_eq_true, Bool.not_eq_false, Bool.not_eq_eq_eq_not, Bool.not_true, Bool.not_false, Int.not_lt, Int.not_le] at hc8
    refine c_skip ?_
    refine t_n ?_
    refine c_seq ?_
    refine c_block ?_
    refine c_seq ?_
    obtain ⟨pb1, nb1, cb1, pc1, nc1, cc1, hrow1, hS1b, hS1c⟩ := hl.recAt i (by omega)
    have hl1 := hS1b.len
    have hl2 := hS1c.len
    have hf1 := hS1b.cap
    have hf2 := hS1b.fit
    have hf3 := hS1c.cap
    have hf4 := hS1c.fit
    refine r_still mixed (by kernel_rfl) ?_
    intro w2 hE2
    have hX := hX.ext hE2
    refine s1 (x_move (by conv => lhs; whnf)) ?_
    refine s1 (x_move (by conv => lhs; whnf)) ?_
    refine s1 (x_move (by conv => lhs; whnf)) ?_
    refine s1 (x_ixs u23 sz33 rfl rfl ((hl.ext hX).adr kRecA_pos (by omega)) (by omega) (by omega)) ?_
    refine s1 (x_fieldAddr fo33_2 sz31 rfl) ?_
    refine s1 (x_load1 un31 rfl (hX.cell (hrow1 2 _ rfl))) ?_
    refine s1 (x_len_slice u31 rfl) ?_
    refine s1 (x_min rfl rfl) ?_
    refine s1 (x_add rfl rfl (fits_i64 (by split <;> omega) (by split <;> omega))) ?_
    refine s1 (x_move (by conv => lhs; whnf)) ?_
    refine s1 (x_move (by conv => lhs; whnf)) ?_
    refine s1 (x_ixs u23 sz33 rfl rfl ((hl.ext hX).adr kRecA_pos (by omega)) (by omega) (by omega)) ?_
    refine s1 (x_fieldAddr fo33_1 sz30 rfl) ?_
    refine s1 (x_load1 un30 rfl (hX.cell (hrow1 1 _ rfl))) ?_
    refine s1 (x_len_slice u30 rfl) ?_
    refine s1 (x_min rfl rfl) ?_
    refine s1 (x_add rfl rfl (fits_i64 (by split <;> split <;> omega) (by split <;> split <;> omega))) ?_
    refine s1 (x_add rfl rfl (fits_i64 (by split <;> split <;> omega) (by split <;> split <;> omega))) ?_
    refine s1 (x_assign (by conv => lhs; whnf)) ?_
    refine s_nil ?_
    refine t_n ?_
    refine c_seq ?_
    refine r_plain ?_
    refine p1 (x_move (by conv => lhs; whnf)) ?_
    refine p1 (x_gtr rfl rfl) ?_
    refine r_nil ?_
    refine t_n ?_
    first | refine c_dec rfl (fun hc30 => ?_) (fun hc30 => ?_) | refine c_if rfl (fun hc30 => ?_) (fun hc30 => ?_)
    · try simp only [decide_eq_true_eq, decide_eq_false_iff_not, Bool.not_eq_true, Bool.not_eq_false, Bool.not_eq_eq_eq_not, Bool.not_true, Bool.not_false, Int.not_lt, Int.not_le] at hc30
      refine c_seq ?_
      refine r_plain ?_
      refine p1 (x_assign (by conv => lhs; whnf)) ?_
      refine r_nil ?_
      refine t_n ?_
      refine c_ret ?_
      refine b_r ?_
      refine t_r ?_
      refine t_r ?_
      refine b_r ?_
      refine t_r ?_
      refine end1 rfl (by conv => lhs; whnf) ?_
      first | exact ⟨⟨false, rfl, fun h => by cases h⟩, hX⟩ | exact ⟨⟨true, rfl, fun _ => ⟨by omega, hL⟩⟩, hX⟩
    · try simp only [decide_eq_true_eq, decide_eq_false_iff_not, Bool.not_eq_true, Bool.not_eq_false, Bool.not_eq_eq_eq_not, Bool.not_true, Bool.not_false, Int.not_lt, Int.not_le] at hc30
      have hsum : s + (1 + (if (600 : Int) < (nc1 : Int) then 600 else (nc1 : Int)) + (if (600 : Int) < (nb1 : Int) then 600 else (nb1 : Int))) ≤ 600 := by omega
      have hge : (i : Int) + 1 ≤ s + (1 + (if (600 : Int) < (nc1 : Int) then 600 else (nc1 : Int)) + (if (600 : Int) < (nb1 : Int) then 600 else (nb1 : Int))) := by split <;> split <;> omega
      have hbb : nb1 ≤ 600 ∧ nc1 ≤ 600 := by constructor <;> (revert hsum; split <;> split <;> omega)
      refine c_skip ?_
      refine b_n ?_
      refine t_n ?_
      refine r_plain ?_
      refine p1 (x_move (by conv => lhs; whnf)) ?_
      refine p1 (x_add rfl rfl (fits_i64 (by omega) (by omega))) ?_
      refine p1 (x_assign (by conv => lhs; whnf)) ?_
      refine r_nil ?_
      refine t_n (At.mk ((i + 1, s + (1 + (if (600 : Int) < (nc1 : Int) then 600 else (nc1 : Int)) + (if (600 : Int) < (nb1 : Int) then 600 else (nb1 : Int))))) (by repeat (first | exact Agr.refl _ _ | exact Agr.hav _ _ _ | refine Agr.upd rfl ?_ | refine Agr.updL ?_ _ rfl | refine Agr.hav' rfl ?_)) ⟨rfl, rfl, trivial⟩ ?_)
      exact ⟨⟨hX, ⟨by omega, by omega, hsum, few_succ (by omega) hl1 hl2 hL hbb⟩⟩, by first | (dsimp only; omega) | ((show _ < _); omega)⟩
  · try simp only [decide_eq_true_eq, decide_eq_false_iff_not, Bool.not_eq_true, Bool.not_eq_false, Bool.not_eq_eq_eq_not, Bool.not_true, Bool.not_false, Int.not_lt, Int.not_le] at hc8
    have hin : i = n := by omega
    rw [hin, List.take_of_length_le (by omega)] at hL
    refine c_exit ?_
    refine t_e ?_
    refine t_e ?_
    refine b_hit ?_
    refine t_n ?_
    refine c_seq ?_
    refine r_plain ?_
    refine p1 (x_assign (by conv => lhs; whnf)) ?_
    refine r_nil ?_
    refine t_n ?_
    refine c_ret ?_
    refine end1 rfl (by conv => lhs; whnf) ?_
    first | exact ⟨⟨false, rfl, fun h => by cases h⟩, hX⟩ | exact ⟨⟨true, rfl, fun _ => ⟨by omega, hL⟩⟩, hX⟩
theorem ref17_Copy (l : List Rec) (B : Nat) (p : Option Addr) (n c : Nat) (w : World) (hl : Sl kRecA 33 B w p n c l) (hkk : ∀ x ∈ l, x.1.size ≤ 9223372036854775807 ∧ ∀ y ∈ x.2.1, y.1.size ≤ 9223372036854775807) (hhd : ∀ x ∈ l, ∀ y ∈ x.2.1, y.2.length ≤ 4398046511104) (hfw : l.length ≤ 600) (hmm : ∀ x ∈ l, x.2.1.length ≤ 600 ∧ x.2.2.length ≤ 600) :
    Ret Try.prog 26 [.slice p n c] w (fun v w' => (∃ q m c', v = .slice q m c' ∧ Own (kRec (from' w.heap.size w')) 33 0 w.heap.size w' q m c' l) ∧ Ext w w') := by
  have hX := Ext.refl w
  refine enter 34 _ Try.func26 rfl rfl (Nat.le_of_ble_eq_true rfl) ?_
  refine c_seq ?_
  refine r_plain ?_
  refine p1 (x_assign (by conv => lhs; whnf)) ?_
  refine r_nil ?_
  refine t_n ?_
  refine c_seq ?_
  refine r_plain ?_
  refine p1 (x_assign (by conv => lhs; whnf)) ?_
  refine r_nil ?_
  refine t_n ?_
  refine c_seq ?_
  refine c_seq ?_
  refine r_plain ?_
  refine p1 (x_assign (by conv => lhs; whnf)) ?_
  refine r_nil ?_
  refine t_n ?_
  refine c_block ?_
  have hlen := hl.len
  have hcap := hl.cap
  have hfit := hl.fit
  refine c_loop (ι := Nat × Option Addr × Nat × Nat) [3, 4, 5, 6, 7, 8, 9, 10, 11, 12, 13, 14, 15, 16, 17, 18, 19, 20, 21, 22, 23, 24, 25, 26, 27, 28, 29, 30, 31, 32] (fun (i, q, m, c1) => [(3, .slice q m c1), (4, .int .i64 (i : Int))]) (fun (i, q, m, c1) w' => Ext w w' ∧ (Own (kRec (from' w.heap.size w')) 33 0 w.heap.size w' q m c1 (l.take i) ∧ i ≤ n ∧ m = i)) (fun (i, q, m, c1) => n - i) ((0, none, 0, 0)) ⟨rfl, rfl, trivial⟩ ⟨hX, ⟨Own.nil _ _ _ _ _, by omega, rfl⟩⟩ ?_
  rintro ⟨i, q, m, c1⟩ GL0 w1 ⟨hE1, hO, hi, hmi⟩
  have hX := hE1
  refine c_seq ?_
  refine c_seq ?_
  refine r_plain ?_
  refine p1 (x_move (by conv => lhs; whnf)) ?_
  refine p1 (x_move (by conv => lhs; whnf)) ?_
  refine p1 (x_len_slice u23 rfl) ?_
  refine p1 (x_lss rfl rfl) ?_
  refine r_nil ?_
  refine t_n ?_
  first | refine c_dec rfl (fun hc8 => ?_) (fun hc8 => ?_) | refine c_if rfl (fun hc8 => ?_) (fun hc8 => ?_)
  · try simp only [decide_eq_true_eq, decide_eq_false_iff_not, Bool.not_eq_true, Bool.not_eq_false, Bool.not_eq_eq_eq_not, Bool.not_true, Bool.not_false, Int.not_lt, Int.not_le] at hc8
    refine c_skip ?_
    refine t_n ?_
    refine c_seq ?_
    refine c_block ?_
    obtain ⟨pb1, nb1, cb1, pc1, nc1, cc1, hrow1, hS1b, hS1c⟩ := hl.recAt i (by omega)
    have hmem := rec_mem (l := l) (k := i) (by omega)
    have hkm := hkk _ hmem
    have hhm := hhd _ hmem
    have hmx := hmm _ hmem
    have hl1 := hS1b.len
    have hl2 := hS1c.len
    refine r_held (fun _ w2 => Ext w w2) mixed ?_
    intro w2 hE2
    have hX := hX.ext hE2
    have hO := hO.ext hE2
    have hSr5 : (fun _ w2 => Ext w w2) w2 w2 := hX
    refine h_take 0 rfl (by kernel_rfl) (by kernel_rfl) (by kernel_rfl) hSr5 (fun wS hSS => by ( exact (x_move (by conv => lhs; whnf)))) ?_
    refine h_take 1 rfl (by kernel_rfl) (by kernel_rfl) (by kernel_rfl) hSr5 (fun wS hSS => by ( exact (x_move (by conv => lhs; whnf)))) ?_
    refine h_take 2 rfl (by kernel_rfl) (by kernel_rfl) (by kernel_rfl) hSr5 (fun wS hSS => by ( exact (x_move (by conv => lhs; whnf)))) ?_
    refine h_take 3 rfl (by kernel_rfl) (by kernel_rfl) (by kernel_rfl) hSr5 (fun wS hSS => by ( exact (x_ixs u23 sz33 rfl rfl ((hl.ext hX).adr kRecA_pos (by omega)) (by omega) (by omega)))) ?_
    refine h_take 4 rfl (by kernel_rfl) (by kernel_rfl) (by kernel_rfl) hSr5 (fun wS hSS => by ( exact (x_fieldAddr fo33_0 sz9 rfl))) ?_
    refine h_take 5 rfl (by kernel_rfl) (by kernel_rfl) (by kernel_rfl) hSr5 (fun wS hSS => by (have hX := hSS; exact (x_load1 un9 rfl (hX.cell (hrow1 0 _ rfl))))) ?_
    refine h_take 6 rfl (by kernel_rfl) (by kernel_rfl) (by kernel_rfl) hSr5 (fun wS hSS => by ( exact (x_move (by conv => lhs; whnf)))) ?_
    refine h_take 7 rfl (by kernel_rfl) (by kernel_rfl) (by kernel_rfl) hSr5 (fun wS hSS => by ( exact (x_move (by conv => lhs; whnf)))) ?_
    refine h_take 8 rfl (by kernel_rfl) (by kernel_rfl) (by kernel_rfl) hSr5 (fun wS hSS => by ( exact (x_ixs u23 sz33 rfl rfl ((hl.ext hX).adr kRecA_pos (by omega)) (by omega) (by omega)))) ?_
    refine h_take 9 rfl (by kernel_rfl) (by kernel_rfl) (by kernel_rfl) hSr5 (fun wS hSS => by ( exact (x_fieldAddr fo33_1 sz30 rfl))) ?_
    refine h_take 10 rfl (by kernel_rfl) (by kernel_rfl) (by kernel_rfl) hSr5 (fun wS hSS => by (have hX := hSS; exact (x_load1 un30 rfl (hX.cell (hrow1 1 _ rfl))))) ?_
    refine h_take 13 rfl (by kernel_rfl) (by kernel_rfl) (by kernel_rfl) hSr5 (fun wS hSS => by ( exact (x_move (by conv => lhs; whnf)))) ?_
    refine h_take 14 rfl (by kernel_rfl) (by kernel_rfl) (by kernel_rfl) hSr5 (fun wS hSS => by ( exact (x_move (by conv => lhs; whnf)))) ?_
    refine h_take 15 rfl (by kernel_rfl) (by kernel_rfl) (by kernel_rfl) hSr5 (fun wS hSS => by ( exact (x_ixs u23 sz33 rfl rfl ((hl.ext hX).adr kRecA_pos (by omega)) (by omega) (by omega)))) ?_
    refine h_take 16 rfl (by kernel_rfl) (by kernel_rfl) (by kernel_rfl) hSr5 (fun wS hSS => by ( exact (x_fieldAddr fo33_2 sz31 rfl))) ?_
    refine h_take 17 rfl (by kernel_rfl) (by kernel_rfl) (by kernel_rfl) hSr5 (fun wS hSS => by (have hX := hSS; exact (x_load1 un31 rfl (hX.cell (hrow1 2 _ rfl))))) ?_
    refine h_two 11 12 _ _ rfl rfl (by kernel_rfl) (hop_of_list (fun Q11 hQ11 => ?_)) (hop_of_list (fun Q12 hQ12 => ?_))
    · skip
      have hXs := hX.size
      refine o_call Try.func67 fn67 fb67 (ref15_Copy (l.getD i default).2.1 _ _ _ _ _ (hS1b.ext hX) hhm (by omega)) rfl ?_
      rintro v3 w3 ⟨⟨q5, m5, c5, rfl, hI0⟩, hE3⟩
      have hX := hX.ext hE3
      have hO := hO.ext hE3
      have hSr5 := hSr5.ext hE3
      have hI := (hI0.brMono (S' := (fun j => w.heap.size ≤ j)) (fun j _ h => Nat.le_trans hXs h)).lower hXs
      refine hop_end hQ11 ⟨hSr5, ?_⟩
      refine h_one 12 _ rfl (by kernel_rfl) (hop_of_list (fun Q12 hQ12 => ?_))
      refine o_buildSlice u31 inf35 rfl (by decide) (fun base hb => by have h0 : base = #[] := Array.eq_empty_of_size_eq_zero (by simpa using hb); subst h0; rfl) ?_
      intro w4 g23 hN23
      have hE4 := hN23.ext
      have hX := hX.ext hE4
      have hO := hO.ext hE4
      have hSr5 := hSr5.ext hE4
      have hI := hI.ext hE4
      refine hop_end hQ12 ⟨hSr5, ?_⟩
      refine h_one 18 _ rfl (by kernel_rfl) (hop_of_list (fun Q18 hQ18 => ?_))
      have hXs18 := hX.size
      refine o_appendNew (enc := hcs) (hl := hcs_len) (h1 := hcs_one) ((l.getD i default).2.2) u31 inf35 rfl rfl rfl (src_pure u31 (hS1c.ext hX) (by decide)) hl2 rfl (by omega) (by omega) ?_
      intro p29 c29 w5 hH0 hE5
      have hH : SlS hcs 35 (fun j => w.heap.size ≤ j) _ _ _ _ _ := hH0.mono (fun j _ h => Nat.le_trans hXs18 h)
      have hX := hX.ext hE5
      have hO := hO.ext hE5
      have hSr5 := hSr5.ext hE5
      have hI := hI.ext hE5
      refine hop_end hQ18 ⟨hSr5, ?_⟩
      refine h_take 19 rfl (by kernel_rfl) (by kernel_rfl) (by kernel_rfl) hSr5 (fun wS hSS => by ( exact (x_build3 pl33 (by conv => lhs; whnf) (by conv => lhs; whnf) (by conv => lhs; whnf) rfl rfl rfl))) ?_
      refine h_one 20 _ rfl (by kernel_rfl) (hop_of_list (fun Q20 hQ20 => ?_))
      refine o_buildSlice u23 inf33 rfl (by decide) (fun base hb => fill_one (by rfl) base hb) ?_
      intro w6 g31 hN31
      have hE6 := hN31.ext
      have hX := hX.ext hE6
      have hO := hO.ext hE6
      have hSr5 := hSr5.ext hE6
      have hI := hI.ext hE6
      have hH := hH.ext hE6
      have hJ : Own (kRec (from' w.heap.size w6)) 33 0 0 w6 (some ⟨g31, 0, none⟩) 1 1 [(l.getD i default)] := Own.made _ 33 0 0 hN31 [(l.getD i default)] [[.string (l.getD i default).1, .slice q5 m5 c5, .slice p29 nc1 c29]] 1 1 rfl ⟨⟨_, _, _, _, _, _, rfl, (hI.sl.brMono (S' := from' w.heap.size w6) (fun j hj h => ⟨h, hj⟩)), fun hn => hI.inS hn, hH.mono (S' := from' w.heap.size w6) (fun j hj h => ⟨h, hj⟩)⟩, trivial⟩ (Nat.zero_le _) (by omega) (by omega) (by rfl) (by rfl)
      refine hop_end hQ20 ⟨hSr5, ?_⟩
      refine h_one 21 _ rfl (by kernel_rfl) (hop_of_list (fun Q21 hQ21 => ?_))
      obtain ⟨cssJ, hAJ, hsrJ⟩ := src_kind u23 hJ.sl kRec_pos
      have hO := hO.recMono (S' := from' w.heap.size w6) (fun j hj h => ⟨h.1, hj⟩)
      have hXs21 := hX.size
      refine o_append (d := (kRec _)) ([(l.getD i default)]) u23 inf33 rfl kRec_pos rfl rfl hO (hsrJ) rfl (hAJ) (rfl) (by omega) (by omega) (by omega) (by omega) (by simp [kRec]) ?_
      intro p32 c32 w7 hO hM7
      have hX := hX.mod hM7 (Nat.le_refl _)
      have hSr5 := hX
      refine hop_end hQ21 ⟨hSr5, ?_⟩
      refine h_take 22 rfl (by kernel_rfl) (by kernel_rfl) (by kernel_rfl) hSr5 (fun wS hSS => by ( exact (x_assign (by conv => lhs; whnf)))) ?_
      refine h_done (by kernel_rfl) ?_
      refine b_n ?_
      refine t_n ?_
      refine r_plain ?_
      refine p1 (x_move (by conv => lhs; whnf)) ?_
      refine p1 (x_add rfl rfl (fits_i64 (by omega) (by omega))) ?_
      refine p1 (x_assign (by conv => lhs; whnf)) ?_
      refine r_nil ?_
      refine t_n (At.mk ((i + 1, p32, m + 1, c32)) (by repeat (first | exact Agr.refl _ _ | exact Agr.hav _ _ _ | refine Agr.upd rfl ?_ | refine Agr.updL ?_ _ rfl | refine Agr.hav' rfl ?_)) ⟨rfl, rfl, trivial⟩ ?_)
      exact ⟨⟨hX, ⟨by rw [rec_take_succ (by omega)]; exact hO.recMono (fun j hj h => ⟨h.1, hj⟩), by omega, by omega⟩⟩, by first | (dsimp only; omega) | ((show _ < _); omega)⟩
    · skip
      refine o_buildSlice u31 inf35 rfl (by decide) (fun base hb => by have h0 : base = #[] := Array.eq_empty_of_size_eq_zero (by simpa using hb); subst h0; rfl) ?_
      intro w8 g23 hN23
      have hE8 := hN23.ext
      have hX := hX.ext hE8
      have hO := hO.ext hE8
      have hSr5 := hSr5.ext hE8
      refine hop_end hQ12 ⟨hSr5, ?_⟩
      refine h_one 11 _ rfl (by kernel_rfl) (hop_of_list (fun Q11 hQ11 => ?_))
      have hXs := hX.size
      refine o_call Try.func67 fn67 fb67 (ref15_Copy (l.getD i default).2.1 _ _ _ _ _ (hS1b.ext hX) hhm (by omega)) rfl ?_
      rintro v9 w9 ⟨⟨q5, m5, c5, rfl, hI0⟩, hE9⟩
      have hX := hX.ext hE9
      have hO := hO.ext hE9
      have hSr5 := hSr5.ext hE9
      have hI := (hI0.brMono (S' := (fun j => w.heap.size ≤ j)) (fun j _ h => Nat.le_trans hXs h)).lower hXs
      refine hop_end hQ11 ⟨hSr5, ?_⟩
      refine h_one 18 _ rfl (by kernel_rfl) (hop_of_list (fun Q18 hQ18 => ?_))
      have hXs18 := hX.size
      refine o_appendNew (enc := hcs) (hl := hcs_len) (h1 := hcs_one) ((l.getD i default).2.2) u31 inf35 rfl rfl rfl (src_pure u31 (hS1c.ext hX) (by decide)) hl2 rfl (by omega) (by omega) ?_
      intro p29 c29 w10 hH0 hE10
      have hH : SlS hcs 35 (fun j => w.heap.size ≤ j) _ _ _ _ _ := hH0.mono (fun j _ h => Nat.le_trans hXs18 h)
      have hX := hX.ext hE10
      have hO := hO.ext hE10
      have hSr5 := hSr5.ext hE10
      have hI := hI.ext hE10
      refine hop_end hQ18 ⟨hSr5, ?_⟩
      refine h_take 19 rfl (by kernel_rfl) (by kernel_rfl) (by kernel_rfl) hSr5 (fun wS hSS => by ( exact (x_build3 pl33 (by conv => lhs; whnf) (by conv => lhs; whnf) (by conv => lhs; whnf) rfl rfl rfl))) ?_
      refine h_one 20 _ rfl (by kernel_rfl) (hop_of_list (fun Q20 hQ20 => ?_))
      refine o_buildSlice u23 inf33 rfl (by decide) (fun base hb => fill_one (by rfl) base hb) ?_
      intro w11 g31 hN31
      have hE11 := hN31.ext
      have hX := hX.ext hE11
      have hO := hO.ext hE11
      have hSr5 := hSr5.ext hE11
      have hI := hI.ext hE11
      have hH := hH.ext hE11
      have hJ : Own (kRec (from' w.heap.size w11)) 33 0 0 w11 (some ⟨g31, 0, none⟩) 1 1 [(l.getD i default)] := Own.made _ 33 0 0 hN31 [(l.getD i default)] [[.string (l.getD i default).1, .slice q5 m5 c5, .slice p29 nc1 c29]] 1 1 rfl ⟨⟨_, _, _, _, _, _, rfl, (hI.sl.brMono (S' := from' w.heap.size w11) (fun j hj h => ⟨h, hj⟩)), fun hn => hI.inS hn, hH.mono (S' := from' w.heap.size w11) (fun j hj h => ⟨h, hj⟩)⟩, trivial⟩ (Nat.zero_le _) (by omega) (by omega) (by rfl) (by rfl)
      refine hop_end hQ20 ⟨hSr5, ?_⟩
      refine h_one 21 _ rfl (by kernel_rfl) (hop_of_list (fun Q21 hQ21 => ?_))
      obtain ⟨cssJ, hAJ, hsrJ⟩ := src_kind u23 hJ.sl kRec_pos
      have hO := hO.recMono (S' := from' w.heap.size w11) (fun j hj h => ⟨h.1, hj⟩)
      have hXs21 := hX.size
      refine o_append (d := (kRec _)) ([(l.getD i default)]) u23 inf33 rfl kRec_pos rfl rfl hO (hsrJ) rfl (hAJ) (rfl) (by omega) (by omega) (by omega) (by omega) (by simp [kRec]) ?_
      intro p32 c32 w12 hO hM12
      have hX := hX.mod hM12 (Nat.le_refl _)
      have hSr5 := hX
      refine hop_end hQ21 ⟨hSr5, ?_⟩
      refine h_take 22 rfl (by kernel_rfl) (by kernel_rfl) (by kernel_rfl) hSr5 (fun wS hSS => by ( exact (x_assign (by conv => lhs; whnf)))) ?_
      refine h_done (by kernel_rfl) ?_
      refine b_n ?_
      refine t_n ?_
      refine r_plain ?_
      refine p1 (x_move (by conv => lhs; whnf)) ?_
      refine p1 (x_add rfl rfl (fits_i64 (by omega) (by omega))) ?_
      refine p1 (x_assign (by conv => lhs; whnf)) ?_
      refine r_nil ?_
      refine t_n (At.mk ((i + 1, p32, m + 1, c32)) (by repeat (first | exact Agr.refl _ _ | exact Agr.hav _ _ _ | refine Agr.upd rfl ?_ | refine Agr.updL ?_ _ rfl | refine Agr.hav' rfl ?_)) ⟨rfl, rfl, trivial⟩ ?_)
      exact ⟨⟨hX, ⟨by rw [rec_take_succ (by omega)]; exact hO.recMono (fun j hj h => ⟨h.1, hj⟩), by omega, by omega⟩⟩, by first | (dsimp only; omega) | ((show _ < _); omega)⟩
  · try simp only [decide_eq_true_eq, decide_eq_false_iff_not, Bool.not_eq_true, Bool.not_eq_false, Bool.not_eq_eq_eq_not, Bool.not_true, Bool.not_false, Int.not_lt, Int.not_le] at hc8
    have hin : i = n := by omega
    rw [hin, List.take_of_length_le (by omega)] at hO
    refine c_exit ?_
    refine t_e ?_
    refine t_e ?_
    refine b_hit ?_
    refine t_n ?_
    refine c_seq ?_
    refine r_plain ?_
    refine p1 (x_move (by conv => lhs; whnf)) ?_
    refine p1 (x_assign (by conv => lhs; whnf)) ?_
    refine r_nil ?_
    refine t_n ?_
    refine c_ret ?_
    refine end1 rfl (by conv => lhs; whnf) ?_
    exact ⟨⟨_, _, _, rfl, hO.recMono (fun j hj h => ⟨h.1, hj⟩)⟩, hX⟩
instance recDec1 : DecidableEq (List Br × List Hash) := @instDecidableEqProd (List Br) (List Hash) inferInstance inferInstance
instance recDec : DecidableEq Rec := @instDecidableEqProd ByteArray (List Br × List Hash) inferInstance recDec1
theorem rec_ext {l l2 : List Rec} (hl : l.length = l2.length) (h : ∀ j, j < l.length → l.getD j default = l2.getD j default) : l = l2 := by
  apply List.ext_getElem hl
  intro j h1 h2
  have := h j h1
  rw [List.getD_eq_getElem?_getD, List.getD_eq_getElem?_getD, List.getElem?_eq_getElem h1, List.getElem?_eq_getElem h2] at this
  exact this
theorem ref17_Same (l l2 : List Rec) (B B2 : Nat) (p q : Option Addr) (n c m c2 : Nat) (w : World) (ha : Sl kRecA 33 B w p n c l) (hb : Sl kRecA 33 B2 w q m c2 l2) :
    Ret Try.prog 23 [.slice p n c, .slice q m c2] w (fun v w' => v = .bool (decide (l = l2)) ∧ Ext w w') := by
  have hX := Ext.refl w
  refine enter 56 _ Try.func23 rfl rfl (Nat.le_of_ble_eq_true rfl) ?_
  refine c_seq ?_
  refine r_plain ?_
  refine p1 (x_assign (by conv => lhs; whnf)) ?_
  refine r_nil ?_
  refine t_n ?_
  refine c_seq ?_
  refine c_seq ?_
  refine r_plain ?_
  refine p1 (x_move (by conv => lhs; whnf)) ?_
  refine p1 (x_len_slice u23 rfl) ?_
  refine p1 (x_move (by conv => lhs; whnf)) ?_
  refine p1 (x_len_slice u23 rfl) ?_
  refine p1 (x_neq rfl rfl) ?_
  refine r_nil ?_
  refine t_n ?_
  first | refine c_dec rfl (fun hc10 => ?_) (fun hc10 => ?_) | refine c_if rfl (fun hc10 => ?_) (fun hc10 => ?_)
  · try simp only [decide_eq_true_eq, decide_eq_false_iff_not, Bool.not_eq_true, Bool.not_eq_false, Bool.not_eq_eq_eq_not, Bool.not_true, Bool.not_false, Int.not_lt, Int.not_le] at hc10
    have hlen := ha.len
    have hlen2 := hb.len
    have hp : decide (l = l2) = false := decide_eq_false (fun e => by subst e; omega)
    refine c_seq ?_
    refine r_plain ?_
    refine p1 (x_assign (by conv => lhs; whnf)) ?_
    refine r_nil ?_
    refine t_n ?_
    refine c_ret ?_
    refine t_r ?_
    refine end1 rfl (by conv => lhs; whnf) ?_
    exact ⟨by rw [hp], hX⟩
  · try simp only [decide_eq_true_eq, decide_eq_false_iff_not, Bool.not_eq_true, Bool.not_eq_false, Bool.not_eq_eq_eq_not, Bool.not_true, Bool.not_false, Int.not_lt, Int.not_le] at hc10
    refine c_skip ?_
    refine t_n ?_
    refine c_seq ?_
    refine c_seq ?_
    refine r_plain ?_
    refine p1 (x_assign (by conv => lhs; whnf)) ?_
    refine r_nil ?_
    refine t_n ?_
    refine c_block ?_
    have hlen := ha.len
    have hfit := ha.fit
    have hcap := ha.cap
    have hlen2 := hb.len
    refine c_loop (ι := Nat) [4, 5, 11, 12, 13, 14, 15, 16, 17, 18, 19, 20, 21, 22, 23, 24, 25, 26, 27, 28, 29, 30, 31, 32, 33, 34, 35, 36, 37, 38, 39, 40, 41, 42, 43, 44, 45, 46, 47, 48, 49, 50, 51, 52, 53, 54, 55] (fun i => [(5, .int .i64 (i : Int))]) (fun i w' => Ext w w' ∧ (i ≤ n ∧ ∀ j, j < i → l.getD j default = l2.getD j default)) (fun i => n - i) (0) ⟨rfl, trivial⟩ ⟨hX, ⟨by omega, fun j hj => by omega⟩⟩ ?_
    rintro i GL0 w1 ⟨hE1, hi, hL0⟩
    have hX := hE1
    refine c_seq ?_
    refine c_seq ?_
    refine r_plain ?_
    refine p1 (x_move (by conv => lhs; whnf)) ?_
    refine p1 (x_move (by conv => lhs; whnf)) ?_
    refine p1 (x_len_slice u23 rfl) ?_
    refine p1 (x_lss rfl rfl) ?_
    refine r_nil ?_
    refine t_n ?_
    first | refine c_dec rfl (fun hc14 => ?_) (fun hc14 => ?_) | refine c_if rfl (fun hc14 => ?_) (fun hc14 => ?_)
    · try simp only [decide_eq_true_eq, decide_eq_false_iff_not, Bool.not_eq_true, Bool.not_eq_false, Bool.not_eq_eq_eq_not, Bool.not_true, Bool.not_false, Int.not_lt, Int.not_le] at hc14
      refine c_skip ?_
      refine t_n ?_
      refine c_seq ?_
      refine c_block ?_
      refine c_seq ?_
      obtain ⟨pb1, nb1, cb1, pc1, nc1, cc1, hrow1, hS1b, hS1c⟩ := ha.recAt i (by omega)
      obtain ⟨pb2, nb2, cb2, pc2, nc2, cc2, hrow2, hS2b, hS2c⟩ := hb.recAt i (by omega)
      refine r_held (fun _ w2 => Ext w w2) mixed ?_
      intro w2 hE2
      have hX := hX.ext hE2
      have hSr6 : (fun _ w2 => Ext w w2) w2 w2 := hX
      refine h_take 0 rfl (by kernel_rfl) (by kernel_rfl) (by kernel_rfl) hSr6 (fun wS hSS => by ( exact (x_move (by conv => lhs; whnf)))) ?_
      refine h_take 1 rfl (by kernel_rfl) (by kernel_rfl) (by kernel_rfl) hSr6 (fun wS hSS => by ( exact (x_move (by conv => lhs; whnf)))) ?_
      refine h_take 2 rfl (by kernel_rfl) (by kernel_rfl) (by kernel_rfl) hSr6 (fun wS hSS => by ( exact (x_ixs u23 sz33 rfl rfl ((ha.ext hX).adr kRecA_pos (by omega)) (by omega) (by omega)))) ?_
      refine h_take 3 rfl (by kernel_rfl) (by kernel_rfl) (by kernel_rfl) hSr6 (fun wS hSS => by ( exact (x_fieldAddr fo33_0 sz9 rfl))) ?_
      refine h_take 4 rfl (by kernel_rfl) (by kernel_rfl) (by kernel_rfl) hSr6 (fun wS hSS => by (have hX := hSS; exact (x_load1 un9 rfl (hX.cell (hrow1 0 _ rfl))))) ?_
      refine h_take 5 rfl (by kernel_rfl) (by kernel_rfl) (by kernel_rfl) hSr6 (fun wS hSS => by ( exact (x_move (by conv => lhs; whnf)))) ?_
      refine h_take 6 rfl (by kernel_rfl) (by kernel_rfl) (by kernel_rfl) hSr6 (fun wS hSS => by ( exact (x_move (by conv => lhs; whnf)))) ?_
      refine h_take 7 rfl (by kernel_rfl) (by kernel_rfl) (by kernel_rfl) hSr6 (fun wS hSS => by ( exact (x_ixs u23 sz33 rfl rfl ((hb.ext hX).adr kRecA_pos (by omega)) (by omega) (by omega)))) ?_
      refine h_take 8 rfl (by kernel_rfl) (by kernel_rfl) (by kernel_rfl) hSr6 (fun wS hSS => by ( exact (x_fieldAddr fo33_0 sz9 rfl))) ?_
      refine h_take 9 rfl (by kernel_rfl) (by kernel_rfl) (by kernel_rfl) hSr6 (fun wS hSS => by (have hX := hSS; exact (x_load1 un9 rfl (hX.cell (hrow2 0 _ rfl))))) ?_
      refine h_take 10 rfl (by kernel_rfl) (by kernel_rfl) (by kernel_rfl) hSr6 (fun wS hSS => by ( exact (x_neq_str rfl rfl))) ?_
      refine h_takeb 11 rfl (by kernel_rfl) (by kernel_rfl) (by kernel_rfl) hSr6 (fun wS hSS => by ( exact (x_move (by conv => lhs; whnf)))) (fun hb6_11 => ?_) (fun hb6_11 => ?_)
      · try simp only [decide_eq_true_eq, decide_eq_false_iff_not, Bool.not_eq_true, Bool.not_eq_false, Bool.not_eq_eq_eq_not, Bool.not_true, Bool.not_false, Int.not_lt, Int.not_le] at hb6_11
        refine h_skip 12 28 rfl (by first | exact .inl rfl | exact .inr rfl) rfl (by kernel_rfl) (by kernel_rfl) (by kernel_rfl) hSr6 ?_
        refine h_skip 13 28 rfl (by first | exact .inl rfl | exact .inr rfl) rfl (by kernel_rfl) (by kernel_rfl) (by kernel_rfl) hSr6 ?_
        refine h_skip 14 28 rfl (by first | exact .inl rfl | exact .inr rfl) rfl (by kernel_rfl) (by kernel_rfl) (by kernel_rfl) hSr6 ?_
        refine h_skip 15 28 rfl (by first | exact .inl rfl | exact .inr rfl) rfl (by kernel_rfl) (by kernel_rfl) (by kernel_rfl) hSr6 ?_
        refine h_skip 16 28 rfl (by first | exact .inl rfl | exact .inr rfl) rfl (by kernel_rfl) (by kernel_rfl) (by kernel_rfl) hSr6 ?_
        refine h_skip 17 28 rfl (by first | exact .inl rfl | exact .inr rfl) rfl (by kernel_rfl) (by kernel_rfl) (by kernel_rfl) hSr6 ?_
        refine h_skip 18 28 rfl (by first | exact .inl rfl | exact .inr rfl) rfl (by kernel_rfl) (by kernel_rfl) (by kernel_rfl) hSr6 ?_
        refine h_skip 19 28 rfl (by first | exact .inl rfl | exact .inr rfl) rfl (by kernel_rfl) (by kernel_rfl) (by kernel_rfl) hSr6 ?_
        refine h_skip 20 28 rfl (by first | exact .inl rfl | exact .inr rfl) rfl (by kernel_rfl) (by kernel_rfl) (by kernel_rfl) hSr6 ?_
        refine h_skip 21 28 rfl (by first | exact .inl rfl | exact .inr rfl) rfl (by kernel_rfl) (by kernel_rfl) (by kernel_rfl) hSr6 ?_
        refine h_skip 22 28 rfl (by first | exact .inl rfl | exact .inr rfl) rfl (by kernel_rfl) (by kernel_rfl) (by kernel_rfl) hSr6 ?_
        refine h_skip 23 28 rfl (by first | exact .inl rfl | exact .inr rfl) rfl (by kernel_rfl) (by kernel_rfl) (by kernel_rfl) hSr6 ?_
        refine h_take 24 rfl (by kernel_rfl) (by kernel_rfl) (by kernel_rfl) hSr6 (fun wS hSS => by ( exact (x_pick_t rfl (by conv => lhs; whnf)))) ?_
        refine h_take 25 rfl (by kernel_rfl) (by kernel_rfl) (by kernel_rfl) hSr6 (fun wS hSS => by ( exact (x_move (by conv => lhs; whnf)))) ?_
        refine h_skip 26 42 rfl (by first | exact .inl rfl | exact .inr rfl) rfl (by kernel_rfl) (by kernel_rfl) (by kernel_rfl) hSr6 ?_
        refine h_skip 27 42 rfl (by first | exact .inl rfl | exact .inr rfl) rfl (by kernel_rfl) (by kernel_rfl) (by kernel_rfl) hSr6 ?_
        refine h_skip 28 42 rfl (by first | exact .inl rfl | exact .inr rfl) rfl (by kernel_rfl) (by kernel_rfl) (by kernel_rfl) hSr6 ?_
        refine h_skip 29 42 rfl (by first | exact .inl rfl | exact .inr rfl) rfl (by kernel_rfl) (by kernel_rfl) (by kernel_rfl) hSr6 ?_
        refine h_skip 30 42 rfl (by first | exact .inl rfl | exact .inr rfl) rfl (by kernel_rfl) (by kernel_rfl) (by kernel_rfl) hSr6 ?_
        refine h_skip 31 42 rfl (by first | exact .inl rfl | exact .inr rfl) rfl (by kernel_rfl) (by kernel_rfl) (by kernel_rfl) hSr6 ?_
        refine h_skip 32 42 rfl (by first | exact .inl rfl | exact .inr rfl) rfl (by kernel_rfl) (by kernel_rfl) (by kernel_rfl) hSr6 ?_
        refine h_skip 33 42 rfl (by first | exact .inl rfl | exact .inr rfl) rfl (by kernel_rfl) (by kernel_rfl) (by kernel_rfl) hSr6 ?_
        refine h_skip 34 42 rfl (by first | exact .inl rfl | exact .inr rfl) rfl (by kernel_rfl) (by kernel_rfl) (by kernel_rfl) hSr6 ?_
        refine h_skip 35 42 rfl (by first | exact .inl rfl | exact .inr rfl) rfl (by kernel_rfl) (by kernel_rfl) (by kernel_rfl) hSr6 ?_
        refine h_skip 36 42 rfl (by first | exact .inl rfl | exact .inr rfl) rfl (by kernel_rfl) (by kernel_rfl) (by kernel_rfl) hSr6 ?_
        refine h_skip 37 42 rfl (by first | exact .inl rfl | exact .inr rfl) rfl (by kernel_rfl) (by kernel_rfl) (by kernel_rfl) hSr6 ?_
        refine h_take 38 rfl (by kernel_rfl) (by kernel_rfl) (by kernel_rfl) hSr6 (fun wS hSS => by ( exact (x_pick_t rfl (by conv => lhs; whnf)))) ?_
        refine h_done (by kernel_rfl) ?_
        refine t_n ?_
        refine c_t rfl ?_
        have hp : decide (l = l2) = false := decide_eq_false (fun e => by first | (apply hb6_11; rw [e]; done) | (apply hb6_25; rw [e]; done) | (apply hc55; rw [e]; done))
        refine c_seq ?_
        refine r_plain ?_
        refine p1 (x_assign (by conv => lhs; whnf)) ?_
        refine r_nil ?_
        refine t_n ?_
        refine c_ret ?_
        refine b_r ?_
        refine t_r ?_
        refine t_r ?_
        refine b_r ?_
        refine t_r ?_
        refine end1 rfl (by conv => lhs; whnf) ?_
        exact ⟨by rw [hp], hX⟩
      · try simp only [decide_eq_true_eq, decide_eq_false_iff_not, Bool.not_eq_true, Bool.not_eq_false, Bool.not_eq_eq_eq_not, Bool.not_true, Bool.not_false, Int.not_lt, Int.not_le] at hb6_11
        refine h_takeg 12 28 rfl rfl rfl (by kernel_rfl) (by kernel_rfl) (by kernel_rfl) hSr6 (fun wS hSS => by ( exact (x_move (by conv => lhs; whnf)))) ?_
        refine h_takeg 13 28 rfl rfl rfl (by kernel_rfl) (by kernel_rfl) (by kernel_rfl) hSr6 (fun wS hSS => by ( exact (x_move (by conv => lhs; whnf)))) ?_
        refine h_takeg 14 28 rfl rfl rfl (by kernel_rfl) (by kernel_rfl) (by kernel_rfl) hSr6 (fun wS hSS => by ( exact (x_ixs u23 sz33 rfl rfl ((ha.ext hX).adr kRecA_pos (by omega)) (by omega) (by omega)))) ?_
        refine h_takeg 15 28 rfl rfl rfl (by kernel_rfl) (by kernel_rfl) (by kernel_rfl) hSr6 (fun wS hSS => by ( exact (x_fieldAddr fo33_1 sz30 rfl))) ?_
        refine h_takeg 16 28 rfl rfl rfl (by kernel_rfl) (by kernel_rfl) (by kernel_rfl) hSr6 (fun wS hSS => by (have hX := hSS; exact (x_load1 un30 rfl (hX.cell (hrow1 1 _ rfl))))) ?_
        refine h_takeg 17 28 rfl rfl rfl (by kernel_rfl) (by kernel_rfl) (by kernel_rfl) hSr6 (fun wS hSS => by ( exact (x_move (by conv => lhs; whnf)))) ?_
        refine h_takeg 18 28 rfl rfl rfl (by kernel_rfl) (by kernel_rfl) (by kernel_rfl) hSr6 (fun wS hSS => by ( exact (x_move (by conv => lhs; whnf)))) ?_
        refine h_takeg 19 28 rfl rfl rfl (by kernel_rfl) (by kernel_rfl) (by kernel_rfl) hSr6 (fun wS hSS => by ( exact (x_ixs u23 sz33 rfl rfl ((hb.ext hX).adr kRecA_pos (by omega)) (by omega) (by omega)))) ?_
        refine h_takeg 20 28 rfl rfl rfl (by kernel_rfl) (by kernel_rfl) (by kernel_rfl) hSr6 (fun wS hSS => by ( exact (x_fieldAddr fo33_1 sz30 rfl))) ?_
        refine h_takeg 21 28 rfl rfl rfl (by kernel_rfl) (by kernel_rfl) (by kernel_rfl) hSr6 (fun wS hSS => by (have hX := hSS; exact (x_load1 un30 rfl (hX.cell (hrow2 1 _ rfl))))) ?_
        refine h_one 22 _ rfl (by kernel_rfl) (hop_of_list (fun Q22 hQ22 => ?_))
        refine g_drop 28 rfl rfl ?_
        refine o_call Try.func81 fn81 fb81 (ref15_Same _ _ _ _ _ _ _ _ _ _ _ (hS1b.ext hX) (hS2b.ext hX)) rfl ?_
        rintro v3 w3 ⟨rfl, hE3⟩
        have hX := hX.ext hE3
        have hSr6 := hSr6.ext hE3
        refine hop_end hQ22 ⟨hSr6, ?_⟩
        refine h_takeg 23 28 rfl rfl rfl (by kernel_rfl) (by kernel_rfl) (by kernel_rfl) hSr6 (fun wS hSS => by ( exact (x_not rfl))) ?_
        refine h_take 24 rfl (by kernel_rfl) (by kernel_rfl) (by kernel_rfl) hSr6 (fun wS hSS => by ( exact (x_pick_f rfl (by conv => lhs; whnf)))) ?_
        refine h_takeb 25 rfl (by kernel_rfl) (by kernel_rfl) (by kernel_rfl) hSr6 (fun wS hSS => by ( exact (x_move (by conv => lhs; whnf)))) (fun hb6_25 => ?_) (fun hb6_25 => ?_)
        · try simp only [decide_eq_true_eq, decide_eq_false_iff_not, Bool.not_eq_true, Bool.not_eq_false, Bool.not_eq_eq_eq_not, Bool.not_true, Bool.not_false, Int.not_lt, Int.not_le] at hb6_25
          refine h_skip 26 42 rfl (by first | exact .inl rfl | exact .inr rfl) rfl (by kernel_rfl) (by kernel_rfl) (by kernel_rfl) hSr6 ?_
          refine h_skip 27 42 rfl (by first | exact .inl rfl | exact .inr rfl) rfl (by kernel_rfl) (by kernel_rfl) (by kernel_rfl) hSr6 ?_
          refine h_skip 28 42 rfl (by first | exact .inl rfl | exact .inr rfl) rfl (by kernel_rfl) (by kernel_rfl) (by kernel_rfl) hSr6 ?_
          refine h_skip 29 42 rfl (by first | exact .inl rfl | exact .inr rfl) rfl (by kernel_rfl) (by kernel_rfl) (by kernel_rfl) hSr6 ?_
          refine h_skip 30 42 rfl (by first | exact .inl rfl | exact .inr rfl) rfl (by kernel_rfl) (by kernel_rfl) (by kernel_rfl) hSr6 ?_
          refine h_skip 31 42 rfl (by first | exact .inl rfl | exact .inr rfl) rfl (by kernel_rfl) (by kernel_rfl) (by kernel_rfl) hSr6 ?_
          refine h_skip 32 42 rfl (by first | exact .inl rfl | exact .inr rfl) rfl (by kernel_rfl) (by kernel_rfl) (by kernel_rfl) hSr6 ?_
          refine h_skip 33 42 rfl (by first | exact .inl rfl | exact .inr rfl) rfl (by kernel_rfl) (by kernel_rfl) (by kernel_rfl) hSr6 ?_
          refine h_skip 34 42 rfl (by first | exact .inl rfl | exact .inr rfl) rfl (by kernel_rfl) (by kernel_rfl) (by kernel_rfl) hSr6 ?_
          refine h_skip 35 42 rfl (by first | exact .inl rfl | exact .inr rfl) rfl (by kernel_rfl) (by kernel_rfl) (by kernel_rfl) hSr6 ?_
          refine h_skip 36 42 rfl (by first | exact .inl rfl | exact .inr rfl) rfl (by kernel_rfl) (by kernel_rfl) (by kernel_rfl) hSr6 ?_
          refine h_skip 37 42 rfl (by first | exact .inl rfl | exact .inr rfl) rfl (by kernel_rfl) (by kernel_rfl) (by kernel_rfl) hSr6 ?_
          refine h_take 38 rfl (by kernel_rfl) (by kernel_rfl) (by kernel_rfl) hSr6 (fun wS hSS => by ( exact (x_pick_t rfl (by conv => lhs; whnf)))) ?_
          refine h_done (by kernel_rfl) ?_
          refine t_n ?_
          refine c_t rfl ?_
          have hp : decide (l = l2) = false := decide_eq_false (fun e => by first | (apply hb6_11; rw [e]; done) | (apply hb6_25; rw [e]; done) | (apply hc55; rw [e]; done))
          refine c_seq ?_
          refine r_plain ?_
          refine p1 (x_assign (by conv => lhs; whnf)) ?_
          refine r_nil ?_
          refine t_n ?_
          refine c_ret ?_
          refine b_r ?_
          refine t_r ?_
          refine t_r ?_
          refine b_r ?_
          refine t_r ?_
          refine end1 rfl (by conv => lhs; whnf) ?_
          exact ⟨by rw [hp], hX⟩
        · try simp only [decide_eq_true_eq, decide_eq_false_iff_not, Bool.not_eq_true, Bool.not_eq_false, Bool.not_eq_eq_eq_not, Bool.not_true, Bool.not_false, Int.not_lt, Int.not_le] at hb6_25
          refine h_takeg 26 42 rfl rfl rfl (by kernel_rfl) (by kernel_rfl) (by kernel_rfl) hSr6 (fun wS hSS => by ( exact (x_move (by conv => lhs; whnf)))) ?_
          refine h_takeg 27 42 rfl rfl rfl (by kernel_rfl) (by kernel_rfl) (by kernel_rfl) hSr6 (fun wS hSS => by ( exact (x_move (by conv => lhs; whnf)))) ?_
          refine h_takeg 28 42 rfl rfl rfl (by kernel_rfl) (by kernel_rfl) (by kernel_rfl) hSr6 (fun wS hSS => by ( exact (x_ixs u23 sz33 rfl rfl ((ha.ext hX).adr kRecA_pos (by omega)) (by omega) (by omega)))) ?_
          refine h_takeg 29 42 rfl rfl rfl (by kernel_rfl) (by kernel_rfl) (by kernel_rfl) hSr6 (fun wS hSS => by ( exact (x_fieldAddr fo33_2 sz31 rfl))) ?_
          refine h_takeg 31 42 rfl rfl rfl (by kernel_rfl) (by kernel_rfl) (by kernel_rfl) hSr6 (fun wS hSS => by ( exact (x_move (by conv => lhs; whnf)))) ?_
          refine h_takeg 32 42 rfl rfl rfl (by kernel_rfl) (by kernel_rfl) (by kernel_rfl) hSr6 (fun wS hSS => by ( exact (x_move (by conv => lhs; whnf)))) ?_
          refine h_takeg 33 42 rfl rfl rfl (by kernel_rfl) (by kernel_rfl) (by kernel_rfl) hSr6 (fun wS hSS => by ( exact (x_ixs u23 sz33 rfl rfl ((hb.ext hX).adr kRecA_pos (by omega)) (by omega) (by omega)))) ?_
          refine h_takeg 34 42 rfl rfl rfl (by kernel_rfl) (by kernel_rfl) (by kernel_rfl) hSr6 (fun wS hSS => by ( exact (x_fieldAddr fo33_2 sz31 rfl))) ?_
          refine h_two 30 35 _ _ rfl rfl (by kernel_rfl) (hop_of_list (fun Q30 hQ30 => ?_)) (hop_of_list (fun Q35 hQ35 => ?_))
          · skip
            refine g1 42 rfl rfl (x_load1 un31 rfl (hX.cell (hrow1 2 _ rfl))) ?_
            refine hop_end hQ30 ⟨hSr6, ?_⟩
            refine h_one 35 _ rfl (by kernel_rfl) (hop_of_list (fun Q35 hQ35 => ?_))
            refine g1 42 rfl rfl (x_load1 un31 rfl (hX.cell (hrow2 2 _ rfl))) ?_
            refine hop_end hQ35 ⟨hSr6, ?_⟩
            refine h_one 36 _ rfl (by kernel_rfl) (hop_of_list (fun Q36 hQ36 => ?_))
            refine g_drop 42 rfl rfl ?_
            refine o_call Try.func36 fn36 fb36 (ref06_Same _ _ _ _ _ _ _ _ _ _ _ (hS1c.ext hX) (hS2c.ext hX)) rfl ?_
            rintro v4 w4 ⟨rfl, hE4⟩
            have hX := hX.ext hE4
            have hSr6 := hSr6.ext hE4
            refine hop_end hQ36 ⟨hSr6, ?_⟩
            refine h_takeg 37 42 rfl rfl rfl (by kernel_rfl) (by kernel_rfl) (by kernel_rfl) hSr6 (fun wS hSS => by ( exact (x_not rfl))) ?_
            refine h_take 38 rfl (by kernel_rfl) (by kernel_rfl) (by kernel_rfl) hSr6 (fun wS hSS => by ( exact (x_pick_f rfl (by conv => lhs; whnf)))) ?_
            refine h_done (by kernel_rfl) ?_
            refine t_n ?_
            first | refine c_dec rfl (fun hc55 => ?_) (fun hc55 => ?_) | refine c_if rfl (fun hc55 => ?_) (fun hc55 => ?_)
            · try simp only [decide_eq_true_eq, decide_eq_false_iff_not, Bool.not_eq_true, Bool.not_eq_false, Bool.not_eq_eq_eq_not, Bool.not_true, Bool.not_false, Int.not_lt, Int.not_le] at hc55
              have hp : decide (l = l2) = false := decide_eq_false (fun e => by first | (apply hb6_11; rw [e]; done) | (apply hb6_25; rw [e]; done) | (apply hc55; rw [e]; done))
              refine c_seq ?_
              refine r_plain ?_
              refine p1 (x_assign (by conv => lhs; whnf)) ?_
              refine r_nil ?_
              refine t_n ?_
              refine c_ret ?_
              refine b_r ?_
              refine t_r ?_
              refine t_r ?_
              refine b_r ?_
              refine t_r ?_
              refine end1 rfl (by conv => lhs; whnf) ?_
              exact ⟨by rw [hp], hX⟩
            · try simp only [decide_eq_true_eq, decide_eq_false_iff_not, Bool.not_eq_true, Bool.not_eq_false, Bool.not_eq_eq_eq_not, Bool.not_true, Bool.not_false, Int.not_lt, Int.not_le] at hc55
              have h1 : l.getD i default = l2.getD i default := Prod.ext (by simpa using hb6_11) (Prod.ext (by simpa using hb6_25) (by simpa using hc55))
              refine c_skip ?_
              refine b_n ?_
              refine t_n ?_
              refine r_plain ?_
              refine p1 (x_move (by conv => lhs; whnf)) ?_
              refine p1 (x_add rfl rfl (fits_i64 (by omega) (by omega))) ?_
              refine p1 (x_assign (by conv => lhs; whnf)) ?_
              refine r_nil ?_
              refine t_n (At.mk (i + 1) (by repeat (first | exact Agr.refl _ _ | exact Agr.hav _ _ _ | refine Agr.upd rfl ?_ | refine Agr.updL ?_ _ rfl | refine Agr.hav' rfl ?_)) ⟨rfl, trivial⟩ ?_)
              exact ⟨⟨hX, ⟨by omega, fun j hj => if h : j < i then hL0 j h else by rw [show j = i from by omega]; exact h1⟩⟩, by first | (dsimp only; omega) | ((show _ < _); omega)⟩
          · skip
            refine g1 42 rfl rfl (x_load1 un31 rfl (hX.cell (hrow2 2 _ rfl))) ?_
            refine hop_end hQ35 ⟨hSr6, ?_⟩
            refine h_one 30 _ rfl (by kernel_rfl) (hop_of_list (fun Q30 hQ30 => ?_))
            refine g1 42 rfl rfl (x_load1 un31 rfl (hX.cell (hrow1 2 _ rfl))) ?_
            refine hop_end hQ30 ⟨hSr6, ?_⟩
            refine h_one 36 _ rfl (by kernel_rfl) (hop_of_list (fun Q36 hQ36 => ?_))
            refine g_drop 42 rfl rfl ?_
            refine o_call Try.func36 fn36 fb36 (ref06_Same _ _ _ _ _ _ _ _ _ _ _ (hS1c.ext hX) (hS2c.ext hX)) rfl ?_
            rintro v5 w5 ⟨rfl, hE5⟩
            have hX := hX.ext hE5
            have hSr6 := hSr6.ext hE5
            refine hop_end hQ36 ⟨hSr6, ?_⟩
            refine h_takeg 37 42 rfl rfl rfl (by kernel_rfl) (by kernel_rfl) (by kernel_rfl) hSr6 (fun wS hSS => by ( exact (x_not rfl))) ?_
            refine h_take 38 rfl (by kernel_rfl) (by kernel_rfl) (by kernel_rfl) hSr6 (fun wS hSS => by ( exact (x_pick_f rfl (by conv => lhs; whnf)))) ?_
            refine h_done (by kernel_rfl) ?_
            refine t_n ?_
            first | refine c_dec rfl (fun hc55 => ?_) (fun hc55 => ?_) | refine c_if rfl (fun hc55 => ?_) (fun hc55 => ?_)
            · try simp only [decide_eq_true_eq, decide_eq_false_iff_not, Bool.not_eq_true, Bool.not_eq_false, Bool.not_eq_eq_eq_not, Bool.not_true, Bool.not_false, Int.not_lt, Int.not_le] at hc55
              have hp : decide (l = l2) = false := decide_eq_false (fun e => by first | (apply hb6_11; rw [e]; done) | (apply hb6_25; rw [e]; done) | (apply hc55; rw [e]; done))
              refine c_seq ?_
              refine r_plain ?_
              refine p1 (x_assign (by conv => lhs; whnf)) ?_
              refine r_nil ?_
              refine t_n ?_
              refine c_ret ?_
              refine b_r ?_
              refine t_r ?_
              refine t_r ?_
              refine b_r ?_
              refine t_r ?_
              refine end1 rfl (by conv => lhs; whnf) ?_
              exact ⟨by rw [hp], hX⟩
            · try simp only [decide_eq_true_eq, decide_eq_false_iff_not, Bool.not_eq_true, Bool.not_eq_false, Bool.not_eq_eq_eq_not, Bool.not_true, Bool.not_false, Int.not_lt, Int.not_le] at hc55
              have h1 : l.getD i default = l2.getD i default := Prod.ext (by simpa using hb6_11) (Prod.ext (by simpa using hb6_25) (by simpa using hc55))
              refine c_skip ?_
              refine b_n ?_
              refine t_n ?_
              refine r_plain ?_
              refine p1 (x_move (by conv => lhs; whnf)) ?_
              refine p1 (x_add rfl rfl (fits_i64 (by omega) (by omega))) ?_
              refine p1 (x_assign (by conv => lhs; whnf)) ?_
              refine r_nil ?_
              refine t_n (At.mk (i + 1) (by repeat (first | exact Agr.refl _ _ | exact Agr.hav _ _ _ | refine Agr.upd rfl ?_ | refine Agr.updL ?_ _ rfl | refine Agr.hav' rfl ?_)) ⟨rfl, trivial⟩ ?_)
              exact ⟨⟨hX, ⟨by omega, fun j hj => if h : j < i then hL0 j h else by rw [show j = i from by omega]; exact h1⟩⟩, by first | (dsimp only; omega) | ((show _ < _); omega)⟩
    · try simp only [decide_eq_true_eq, decide_eq_false_iff_not, Bool.not_eq_true, Bool.not_eq_false, Bool.not_eq_eq_eq_not, Bool.not_true, Bool.not_false, Int.not_lt, Int.not_le] at hc14
      have hp : decide (l = l2) = true := decide_eq_true (rec_ext (by omega) (fun j hj => hL0 j (by omega)))
      refine c_exit ?_
      refine t_e ?_
      refine t_e ?_
      refine b_hit ?_
      refine t_n ?_
      refine c_seq ?_
      refine r_plain ?_
      refine p1 (x_assign (by conv => lhs; whnf)) ?_
      refine r_nil ?_
      refine t_n ?_
      refine c_ret ?_
      refine end1 rfl (by conv => lhs; whnf) ?_
      exact ⟨by rw [hp], hX⟩
end Go.Proofs.Eng
end
section
set_option linter.unusedVariables false
set_option linter.unusedSimpArgs false
set_option maxRecDepth 100000
set_option maxHeartbeats 4000000
namespace Go.Proofs.Eng
open Go.RowKit
open Extern.Stop (cell)
theorem fb21 : Try.f21.body.isNone = false := by kernel_rfl
theorem fb23 : Try.f23.body.isNone = false := by kernel_rfl
theorem fb24 : Try.f24.body.isNone = false := by kernel_rfl
theorem fb25 : Try.f25.body.isNone = false := by kernel_rfl
theorem fb26 : Try.f26.body.isNone = false := by kernel_rfl
theorem fb28 : Try.f28.body.isNone = false := by kernel_rfl
theorem fb29 : Try.f29.body.isNone = false := by kernel_rfl
theorem fb30 : Try.f30.body.isNone = false := by kernel_rfl
theorem fb70 : Try.f70.body.isNone = false := by kernel_rfl
theorem fb71 : Try.f71.body.isNone = false := by kernel_rfl
theorem fb86 : Try.f86.body.isNone = false := by kernel_rfl
theorem fb87 : Try.f87.body.isNone = false := by kernel_rfl
theorem fn21 : (Try.f21.name == "runtime.NumGoroutine") = false := by kernel_rfl
theorem fn23 : (Try.f23.name == "runtime.NumGoroutine") = false := by kernel_rfl
theorem fn24 : (Try.f24.name == "runtime.NumGoroutine") = false := by kernel_rfl
theorem fn25 : (Try.f25.name == "runtime.NumGoroutine") = false := by kernel_rfl
theorem fn26 : (Try.f26.name == "runtime.NumGoroutine") = false := by kernel_rfl
theorem fn28 : (Try.f28.name == "runtime.NumGoroutine") = false := by kernel_rfl
theorem fn29 : (Try.f29.name == "runtime.NumGoroutine") = false := by kernel_rfl
theorem fn30 : (Try.f30.name == "runtime.NumGoroutine") = false := by kernel_rfl
theorem fn70 : (Try.f70.name == "runtime.NumGoroutine") = false := by kernel_rfl
theorem fn71 : (Try.f71.name == "runtime.NumGoroutine") = false := by kernel_rfl
theorem fn86 : (Try.f86.name == "runtime.NumGoroutine") = false := by kernel_rfl
theorem fn87 : (Try.f87.name == "runtime.NumGoroutine") = false := by kernel_rfl
end Go.Proofs.Eng
end
section
set_option linter.unusedVariables false
set_option linter.unusedSimpArgs false
set_option maxRecDepth 100000
set_option maxHeartbeats 4000000
namespace Go.Proofs.Eng
open Go.RowKit
open Extern.Stop (cell)
theorem index_Same1 (a b : ByteArray) (xb yb : List Br) (xc yc : List Hash) (B B2 B3 B4 : Nat) (p q r s : Option Addr) (n c m c2 o c3 u c4 : Nat) (w : World) (h1 : Sl kBrA 81 B w p n c xb) (h2 : Sl kHash 35 B2 w q m c2 xc) (h3 : Sl kBrA 81 B3 w r o c3 yb) (h4 : Sl kHash 35 B4 w s u c4 yc) :
    Ret Try.prog 87 [.agg #[.string a, .slice p n c, .slice q m c2], .agg #[.string b, .slice r o c3, .slice s u c4]] w (fun v w' => v = .bool (decide ((a, xb, xc) = (b, yb, yc))) ∧ Ext w w') := by
  have hX := Ext.refl w
  refine enter 24 _ Try.func87 rfl rfl (Nat.le_of_ble_eq_true rfl) ?_
  refine c_seq ?_
  refine r_plain ?_
  refine o_boxA (by conv => lhs; whnf) ?_
  intro w1 g2 hN2
  have hE1 := hN2.ext
  have hX := hX.ext hE1
  have hB2 := hN2.blk
  refine o_boxA (by conv => lhs; whnf) ?_
  intro w2 g3 hN3
  have hE2 := hN3.ext
  have hX := hX.ext hE2
  have hB2 := hB2.ext hE2
  have hB3 := hN3.blk
  refine p1 (x_assign (by conv => lhs; whnf)) ?_
  refine r_nil ?_
  refine t_n ?_
  refine c_seq ?_
  refine r_plain ?_
  refine p1 (x_fieldAddr fo33_0 sz9 rfl) ?_
  refine p1 (x_load1 un9 rfl (hB2.cell (rfl))) ?_
  refine p1 (x_fieldAddr fo33_0 sz9 rfl) ?_
  refine p1 (x_load1 un9 rfl (hB3.cell (rfl))) ?_
  refine p1 (x_eql_str rfl rfl) ?_
  refine p1b (x_move (by conv => lhs; whnf)) (fun hb1_5 => ?_) (fun hb1_5 => ?_)
  · try simp only [decide_eq_true_eq, decide_eq_false_iff_not, Bool.not_eq_true, Bool.not_eq_false, Bool.not_eq_eq_eq_not, Bool.not_true, Bool.not_false, Int.not_lt, Int.not_le] at hb1_5
    refine g1 10 rfl rfl (x_fieldAddr fo33_1 sz30 rfl) ?_
    refine g1 10 rfl rfl (x_load1 un30 rfl (hB2.cell (rfl))) ?_
    refine g1 10 rfl rfl (x_fieldAddr fo33_1 sz30 rfl) ?_
    refine g1 10 rfl rfl (x_load1 un30 rfl (hB3.cell (rfl))) ?_
    refine g_drop 10 rfl rfl ?_
    refine o_call Try.func66 fn66 fb66 (branch_Same xb yb _ _ _ _ _ _ _ _ _ (h1.ext hX) (h3.ext hX)) rfl ?_
    rintro v3 w3 ⟨rfl, hE3⟩
    have hX := hX.ext hE3
    have hB2 := hB2.ext hE3
    have hB3 := hB3.ext hE3
    refine p1 (x_pick_t rfl (by conv => lhs; whnf)) ?_
    refine p1b (x_move (by conv => lhs; whnf)) (fun hb1_12 => ?_) (fun hb1_12 => ?_)
    · try simp only [decide_eq_true_eq, decide_eq_false_iff_not, Bool.not_eq_true, Bool.not_eq_false, Bool.not_eq_eq_eq_not, Bool.not_true, Bool.not_false, Int.not_lt, Int.not_le] at hb1_12
      refine g1 17 rfl rfl (x_fieldAddr fo33_2 sz31 rfl) ?_
      refine g1 17 rfl rfl (x_load1 un31 rfl (hB2.cell (rfl))) ?_
      refine g1 17 rfl rfl (x_fieldAddr fo33_2 sz31 rfl) ?_
      refine g1 17 rfl rfl (x_load1 un31 rfl (hB3.cell (rfl))) ?_
      refine g_drop 17 rfl rfl ?_
      refine o_call Try.func88 fn88 fb88 (slices_Equal_hash xc yc _ _ _ _ _ _ _ _ _ (h2.ext hX) (h4.ext hX)) rfl ?_
      rintro v4 w4 ⟨rfl, hE4⟩
      have hX := hX.ext hE4
      have hB2 := hB2.ext hE4
      have hB3 := hB3.ext hE4
      refine p1 (x_pick_t rfl (by conv => lhs; whnf)) ?_
      refine p1 (x_assign (by conv => lhs; whnf)) ?_
      refine r_nil ?_
      refine t_n ?_
      refine c_ret ?_
      refine end1 rfl (by conv => lhs; whnf) ?_
      first | exact ⟨congrArg Value.bool (decide_eq_decide.2 (by simp_all)), hX⟩ | exact ⟨congrArg Value.bool (decide_eq_false (fun e => by injection e with e1 e2; injection e2 with e2 e3; first | exact hb1_5 e1 | exact hb1_12 e2)).symm, hX⟩
    · try simp only [decide_eq_true_eq, decide_eq_false_iff_not, Bool.not_eq_true, Bool.not_eq_false, Bool.not_eq_eq_eq_not, Bool.not_true, Bool.not_false, Int.not_lt, Int.not_le] at hb1_12
      refine g0 17 rfl (by first | exact .inl rfl | exact .inr rfl) ?_
      refine g0 17 rfl (by first | exact .inl rfl | exact .inr rfl) ?_
      refine g0 17 rfl (by first | exact .inl rfl | exact .inr rfl) ?_
      refine g0 17 rfl (by first | exact .inl rfl | exact .inr rfl) ?_
      refine g0 17 rfl (by first | exact .inl rfl | exact .inr rfl) ?_
      refine p1 (x_pick_f rfl (by conv => lhs; whnf)) ?_
      refine p1 (x_assign (by conv => lhs; whnf)) ?_
      refine r_nil ?_
      refine t_n ?_
      refine c_ret ?_
      refine end1 rfl (by conv => lhs; whnf) ?_
      first | exact ⟨congrArg Value.bool (decide_eq_decide.2 (by simp_all)), hX⟩ | exact ⟨congrArg Value.bool (decide_eq_false (fun e => by injection e with e1 e2; injection e2 with e2 e3; first | exact hb1_5 e1 | exact hb1_12 e2)).symm, hX⟩
  · try simp only [decide_eq_true_eq, decide_eq_false_iff_not, Bool.not_eq_true, Bool.not_eq_false, Bool.not_eq_eq_eq_not, Bool.not_true, Bool.not_false, Int.not_lt, Int.not_le] at hb1_5
    refine g0 10 rfl (by first | exact .inl rfl | exact .inr rfl) ?_
    refine g0 10 rfl (by first | exact .inl rfl | exact .inr rfl) ?_
    refine g0 10 rfl (by first | exact .inl rfl | exact .inr rfl) ?_
    refine g0 10 rfl (by first | exact .inl rfl | exact .inr rfl) ?_
    refine g0 10 rfl (by first | exact .inl rfl | exact .inr rfl) ?_
    refine p1 (x_pick_f rfl (by conv => lhs; whnf)) ?_
    refine p1 (x_move (by conv => lhs; whnf)) ?_
    refine g0 17 rfl (by first | exact .inl rfl | exact .inr rfl) ?_
    refine g0 17 rfl (by first | exact .inl rfl | exact .inr rfl) ?_
    refine g0 17 rfl (by first | exact .inl rfl | exact .inr rfl) ?_
    refine g0 17 rfl (by first | exact .inl rfl | exact .inr rfl) ?_
    refine g0 17 rfl (by first | exact .inl rfl | exact .inr rfl) ?_
    refine p1 (x_pick_f rfl (by conv => lhs; whnf)) ?_
    refine p1 (x_assign (by conv => lhs; whnf)) ?_
    refine r_nil ?_
    refine t_n ?_
    refine c_ret ?_
    refine end1 rfl (by conv => lhs; whnf) ?_
    first | exact ⟨congrArg Value.bool (decide_eq_decide.2 (by simp_all)), hX⟩ | exact ⟨congrArg Value.bool (decide_eq_false (fun e => by injection e with e1 e2; injection e2 with e2 e3; first | exact hb1_5 e1 | exact hb1_12 e2)).symm, hX⟩
theorem slices_EqualFunc_rec (l l2 : List Rec) (B B2 : Nat) (p q : Option Addr) (n c m c2 : Nat) (w : World) (ha : Sl kRecA 33 B w p n c l) (hb : Sl kRecA 33 B2 w q m c2 l2) :
    Ret Try.prog 86 [.slice p n c, .slice q m c2, .func (.func 87) #[] #[]] w (fun v w' => v = .bool (decide (l = l2)) ∧ Ext w w') := by
  have hX := Ext.refl w
  refine enter 32 _ Try.func86 rfl rfl (Nat.le_of_ble_eq_true rfl) ?_
  refine c_seq ?_
  refine r_plain ?_
  refine p1 (x_assign (by conv => lhs; whnf)) ?_
  refine r_nil ?_
  refine t_n ?_
  refine c_seq ?_
  refine c_seq ?_
  refine r_plain ?_
  refine p1 (x_move (by conv => lhs; whnf)) ?_
  refine p1 (x_len_slice u23 rfl) ?_
  refine p1 (x_move (by conv => lhs; whnf)) ?_
  refine p1 (x_len_slice u23 rfl) ?_
  refine p1 (x_neq rfl rfl) ?_
  refine r_nil ?_
  refine t_n ?_
  first | refine c_dec rfl (fun hc14 => ?_) (fun hc14 => ?_) | refine c_if rfl (fun hc14 => ?_) (fun hc14 => ?_)
  · try simp only [decide_eq_true_eq, decide_eq_false_iff_not, Bool.not_eq_true, Bool.not_eq_false, Bool.not_eq_eq_eq_not, Bool.not_true, Bool.not_false, Int.not_lt, Int.not_le] at hc14
    have hlen := ha.len
    have hlen2 := hb.len
    have hp : decide (l = l2) = false := decide_eq_false (fun e => by subst e; omega)
    refine c_seq ?_
    refine r_plain ?_
    refine p1 (x_assign (by conv => lhs; whnf)) ?_
    refine r_nil ?_
    refine t_n ?_
    refine c_ret ?_
    refine t_r ?_
    refine end1 rfl (by conv => lhs; whnf) ?_
    exact ⟨by rw [hp], hX⟩
  · try simp only [decide_eq_true_eq, decide_eq_false_iff_not, Bool.not_eq_true, Bool.not_eq_false, Bool.not_eq_eq_eq_not, Bool.not_true, Bool.not_false, Int.not_lt, Int.not_le] at hc14
    refine c_skip ?_
    refine t_n ?_
    refine c_seq ?_
    refine c_seq ?_
    refine r_plain ?_
    refine p1 (x_move (by conv => lhs; whnf)) ?_
    refine p1 (x_len_slice u23 rfl) ?_
    refine p1 (x_move (by conv => lhs; whnf)) ?_
    refine r_nil ?_
    refine t_n ?_
    refine c_block ?_
    have hlen := ha.len
    have hfit := ha.fit
    have hcap := ha.cap
    have hlen2 := hb.len
    refine c_loop (ι := Nat) [6, 7, 8, 9, 17, 18, 19, 20, 21, 22, 23, 24, 25, 26, 27, 28, 29, 30, 31] (fun i => [(17, .int .i64 (i : Int))]) (fun i w' => Ext w w' ∧ (i ≤ n ∧ ∀ j, j < i → l.getD j default = l2.getD j default)) (fun i => n - i) (0) ⟨rfl, trivial⟩ ⟨hX, ⟨by omega, fun j hj => by omega⟩⟩ ?_
    rintro i GL0 w1 ⟨hE1, hi, hL0⟩
    have hX := hE1
    refine c_seq ?_
    refine r_plain ?_
    refine p1 (x_lss rfl rfl) ?_
    refine r_nil ?_
    refine t_n ?_
    refine c_seq ?_
    first | refine c_dec rfl (fun hc18 => ?_) (fun hc18 => ?_) | refine c_if rfl (fun hc18 => ?_) (fun hc18 => ?_)
    · try simp only [decide_eq_true_eq, decide_eq_false_iff_not, Bool.not_eq_true, Bool.not_eq_false, Bool.not_eq_eq_eq_not, Bool.not_true, Bool.not_false, Int.not_lt, Int.not_le] at hc18
      refine c_skip ?_
      refine t_n ?_
      refine c_seq ?_
      refine c_block ?_
      refine c_seq ?_
      obtain ⟨pb1, nb1, cb1, pc1, nc1, cc1, hrow1, hS1b, hS1c⟩ := ha.recAt i (by omega)
      refine r_plain ?_
      refine p1 (x_move (by conv => lhs; whnf)) ?_
      refine p1 (x_ixs u23 sz33 rfl rfl ((ha.ext hX).adr kRecA_pos (by omega)) (by omega) (by omega)) ?_
      refine p1 (x_loadN ua33 rfl (by exact sz33) (hX.range hrow1)) ?_
      have hXs8 := hX.size
      refine o_alloc zr33 ?_
      intro w2 g8 hN8
      have hE2 := hN8.ext
      have hX := hX.ext hE2
      have hB8 := hN8.blk
      refine p1 (x_assign (by conv => lhs; whnf)) ?_
      refine o_storeAll rfl (by conv => lhs; whnf) (by simp [Value.oneCell']) (by exact sz33) hB8 (by rfl) ?_
      intro w3 hP3
      have hX := hX.put hP3 (by rw [hN8.g_eq]; exact hXs8)
      have hB8 := hP3.blk
      refine r_nil ?_
      refine t_n ?_
      refine c_seq ?_
      obtain ⟨pb2, nb2, cb2, pc2, nc2, cc2, hrow2, hS2b, hS2c⟩ := hb.recAt i (by omega)
      refine r_plain ?_
      refine p1 (x_move (by conv => lhs; whnf)) ?_
      refine p1 (x_move (by conv => lhs; whnf)) ?_
      refine p1 (x_ixs u23 sz33 rfl rfl ((hb.ext hX).adr kRecA_pos (by omega)) (by omega) (by omega)) ?_
      refine p1 (x_loadN ua33 rfl (by exact sz33) (hX.range hrow2)) ?_
      have hXs9 := hX.size
      have hB8lt := hB8.lt
      refine o_alloc zr33 ?_
      intro w4 g9 hN9
      have hE4 := hN9.ext
      have hX := hX.ext hE4
      have hB8 := hB8.ext hE4
      have hB9 := hN9.blk
      have hg9 := hN9.g_eq
      refine o_storeAll rfl (by conv => lhs; whnf) (by simp [Value.oneCell']) (by exact sz33) hB9 (by rfl) ?_
      intro w5 hP5
      have hX := hX.put hP5 (by rw [hN9.g_eq]; exact hXs9)
      have hB8 := hP5.keep hB8 (by omega)
      have hB9 := hP5.blk
      refine r_nil ?_
      refine t_n ?_
      refine c_seq ?_
      refine r_plain ?_
      refine p1 (x_move (by conv => lhs; whnf)) ?_
      refine p1 (x_loadB ua33 rfl hB8 sz33) ?_
      refine p1 (x_loadB ua33 rfl hB9 sz33) ?_
      refine o_callv (fs := []) (cs := []) rfl Try.func87 fn87 fb87 rfl rfl (index_Same1 _ _ (l.getD i default).2.1 (l2.getD i default).2.1 (l.getD i default).2.2 (l2.getD i default).2.2 _ _ _ _ _ _ _ _ _ _ _ _ _ _ _ _ _ (hS1b.ext hX) (hS1c.ext hX) (hS2b.ext hX) (hS2c.ext hX)) ?_
      rintro v6 w6 ⟨rfl, hE6⟩
      have hX := hX.ext hE6
      have hB8 := hB8.ext hE6
      have hB9 := hB9.ext hE6
      first | refine p1 (x_notd rfl) ?_ | refine p1 (x_not rfl) ?_
      refine r_nil ?_
      refine t_n ?_
      first | refine c_dec rfl (fun hc30 => ?_) (fun hc30 => ?_) | refine c_if rfl (fun hc30 => ?_) (fun hc30 => ?_)
      · try simp only [decide_eq_true_eq, decide_eq_false_iff_not, Bool.not_eq_true, Bool.not_eq_false, Bool.not_eq_eq_eq_not, Bool.not_true, Bool.not_false, Int.not_lt, Int.not_le] at hc30
        have hp : decide (l = l2) = false := decide_eq_false (fun e => hc30 (by rw [e]))
        refine c_seq ?_
        refine r_plain ?_
        refine p1 (x_assign (by conv => lhs; whnf)) ?_
        refine r_nil ?_
        refine t_n ?_
        refine c_ret ?_
        refine b_r ?_
        refine t_r ?_
        refine t_r ?_
        refine b_r ?_
        refine t_r ?_
        refine end1 rfl (by conv => lhs; whnf) ?_
        exact ⟨by rw [hp], hX⟩
      · try simp only [decide_eq_true_eq, decide_eq_false_iff_not, Bool.not_eq_true, Bool.not_eq_false, Bool.not_eq_eq_eq_not, Bool.not_true, Bool.not_false, Int.not_lt, Int.not_le] at hc30
        have h1 : l.getD i default = l2.getD i default := Classical.byContradiction hc30
        refine c_skip ?_
        refine b_n ?_
        refine t_n ?_
        refine r_plain ?_
        refine p1 (x_add rfl rfl (fits_i64 (by omega) (by omega))) ?_
        refine p1 (x_move (by conv => lhs; whnf)) ?_
        refine r_nil ?_
        refine t_n (At.mk (i + 1) (by repeat (first | exact Agr.refl _ _ | exact Agr.hav _ _ _ | refine Agr.upd rfl ?_ | refine Agr.updL ?_ _ rfl | refine Agr.hav' rfl ?_)) ⟨rfl, trivial⟩ ?_)
        exact ⟨⟨hX, ⟨by omega, fun j hj => if h : j < i then hL0 j h else by rw [show j = i from by omega]; exact h1⟩⟩, by first | (dsimp only; omega) | ((show _ < _); omega)⟩
    · try simp only [decide_eq_true_eq, decide_eq_false_iff_not, Bool.not_eq_true, Bool.not_eq_false, Bool.not_eq_eq_eq_not, Bool.not_true, Bool.not_false, Int.not_lt, Int.not_le] at hc18
      have hp : decide (l = l2) = true := decide_eq_true (rec_ext (by omega) (fun j hj => hL0 j (by omega)))
      refine c_exit ?_
      refine t_e ?_
      refine t_e ?_
      refine b_hit ?_
      refine t_n ?_
      refine c_seq ?_
      refine r_plain ?_
      refine p1 (x_assign (by conv => lhs; whnf)) ?_
      refine r_nil ?_
      refine t_n ?_
      refine c_ret ?_
      refine end1 rfl (by conv => lhs; whnf) ?_
      exact ⟨by rw [hp], hX⟩
theorem index_Same (l l2 : List Rec) (B B2 : Nat) (p q : Option Addr) (n c m c2 : Nat) (w : World) (ha : Sl kRecA 33 B w p n c l) (hb : Sl kRecA 33 B2 w q m c2 l2) :
    Ret Try.prog 30 [.slice p n c, .slice q m c2] w (fun v w' => v = .bool (decide (l = l2)) ∧ Ext w w') := by
  have hX := Ext.refl w
  refine enter 8 _ Try.func30 rfl rfl (Nat.le_of_ble_eq_true rfl) ?_
  refine c_seq ?_
  refine r_plain ?_
  refine p1 (x_assign (by conv => lhs; whnf)) ?_
  refine r_nil ?_
  refine t_n ?_
  refine c_seq ?_
  refine r_plain ?_
  refine p1 (x_move (by conv => lhs; whnf)) ?_
  refine p1 (x_move (by conv => lhs; whnf)) ?_
  refine o_call Try.func86 fn86 fb86 (slices_EqualFunc_rec l l2 _ _ _ _ _ _ _ _ _ (ha.ext hX) (hb.ext hX)) rfl ?_
  rintro v1 w1 ⟨rfl, hE1⟩
  have hX := hX.ext hE1
  refine p1 (x_assign (by conv => lhs; whnf)) ?_
  refine r_nil ?_
  refine t_n ?_
  refine c_ret ?_
  refine end1 rfl (by conv => lhs; whnf) ?_
  exact ⟨rfl, hX⟩
def liveU (l : List Rec) : List Hash := l.flatMap (·.2.2)
theorem liveU_succ {l : List Rec} {k : Nat} (h : k < l.length) : liveU (l.take (k + 1)) = liveU (l.take k) ++ (l.getD k default).2.2 := by
  unfold liveU; rw [rec_take_succ h, List.flatMap_append]; simp
theorem index_Live (l : List Rec) (B : Nat) (p : Option Addr) (n c : Nat) (w : World) (hl : Sl kRecA 33 B w p n c l) (hn : n ≤ 2000) (hmm : ∀ x ∈ l, x.2.2.length ≤ 600) :
    Ret Try.prog 70 [.slice p n c] w (fun v w' => (∃ q m c', v = .slice q m c' ∧ m ≤ 600 * n ∧ Own kHash 35 0 w.heap.size w' q m c' (srt (liveU l))) ∧ Ext w w') := by
  have hX := Ext.refl w
  refine enter 19 _ Try.func70 rfl rfl (Nat.le_of_ble_eq_true rfl) ?_
  refine c_seq ?_
  refine r_plain ?_
  refine p1 (x_assign (by conv => lhs; whnf)) ?_
  refine r_nil ?_
  refine t_n ?_
  refine c_seq ?_
  refine r_plain ?_
  refine p1 (x_assign (by conv => lhs; whnf)) ?_
  refine r_nil ?_
  refine t_n ?_
  refine c_seq ?_
  refine c_seq ?_
  refine r_plain ?_
  refine p1 (x_move (by conv => lhs; whnf)) ?_
  refine p1 (x_len_slice u23 rfl) ?_
  refine p1 (x_move (by conv => lhs; whnf)) ?_
  refine r_nil ?_
  refine t_n ?_
  refine c_block ?_
  have hlen := hl.len
  have hcap := hl.cap
  have hfit := hl.fit
  refine c_loop (ι := Nat × Option Addr × Nat × Nat) [3, 5, 8, 9, 10, 11, 12, 13, 14, 15, 16] (fun (i, q, m, c1) => [(3, .slice q m c1), (8, .int .i64 (i : Int))]) (fun (i, q, m, c1) w' => Ext w w' ∧ (Own kHash 35 0 w.heap.size w' q m c1 (liveU (l.take i)) ∧ i ≤ n ∧ m ≤ 600 * i)) (fun (i, q, m, c1) => n - i) ((0, none, 0, 0)) ⟨rfl, rfl, trivial⟩ ⟨hX, ⟨Own.nil _ _ _ _ _, by omega, by omega⟩⟩ ?_
  rintro ⟨i, q, m, c1⟩ GL0 w1 ⟨hE1, hO, hi, hmi⟩
  have hX := hE1
  refine c_seq ?_
  refine r_plain ?_
  refine p1 (x_lss rfl rfl) ?_
  refine r_nil ?_
  refine t_n ?_
  refine c_seq ?_
  first | refine c_dec rfl (fun hc9 => ?_) (fun hc9 => ?_) | refine c_if rfl (fun hc9 => ?_) (fun hc9 => ?_)
  · try simp only [decide_eq_true_eq, decide_eq_false_iff_not, Bool.not_eq_true, Bool.not_eq_false, Bool.not_eq_eq_eq_not, Bool.not_true, Bool.not_false, Int.not_lt, Int.not_le] at hc9
    refine c_skip ?_
    refine t_n ?_
    refine c_seq ?_
    refine c_block ?_
    refine c_seq ?_
    obtain ⟨pb1, nb1, cb1, pc1, nc1, cc1, hrow1, hS1b, hS1c⟩ := hl.recAt i (by omega)
    have hmx := hmm _ (rec_mem (l := l) (k := i) (by omega))
    have hl2 := hS1c.len
    refine r_plain ?_
    refine p1 (x_ixs u23 sz33 rfl rfl ((hl.ext hX).adr kRecA_pos (by omega)) (by omega) (by omega)) ?_
    refine p1 (x_loadN ua33 rfl (by exact sz33) (hX.range hrow1)) ?_
    have hXs5 := hX.size
    refine o_alloc zr33 ?_
    intro w2 g5 hN5
    have hE2 := hN5.ext
    have hX := hX.ext hE2
    have hO := hO.ext hE2
    have hB5 := hN5.blk
    refine o_storeAll rfl (by conv => lhs; whnf) (by simp [Value.oneCell']) (by exact sz33) hB5 (by rfl) ?_
    intro w3 hP3
    have hX := hX.put hP3 (by rw [hN5.g_eq]; exact hXs5)
    have hO := hO.mod (hP3.mod 0 (Nat.zero_le _)) (Nat.zero_le _) (by decide)
    have hB5 := hP3.blk
    refine r_nil ?_
    refine t_n ?_
    refine r_plain ?_
    refine p1 (x_move (by conv => lhs; whnf)) ?_
    refine p1 (x_fieldAddr fo33_2 sz31 rfl) ?_
    refine p1 (x_load1 un31 rfl (hB5.cell (rfl))) ?_
    have hB1 := hX.size
    refine o_append (d := kHash) ((l.getD i default).2.2) u31 inf35 rfl kHash_pos rfl rfl hO (src_pure u31 (hS1c.ext hX) (by decide)) hl2 (hash_all _ _ _) (rfl) (by omega) (by omega) (by omega) (by omega) (by decide) ?_
    intro p15 c15 w4 hO hM4
    have hX := hX.mod hM4 (Nat.le_refl _)
    have hB5 := hB5.mod hM4 (by decide)
    refine p1 (x_assign (by conv => lhs; whnf)) ?_
    refine r_nil ?_
    refine b_n ?_
    refine t_n ?_
    refine r_plain ?_
    refine p1 (x_add rfl rfl (fits_i64 (by omega) (by omega))) ?_
    refine p1 (x_move (by conv => lhs; whnf)) ?_
    refine r_nil ?_
    refine t_n (At.mk ((i + 1, p15, m + nc1, c15)) (by repeat (first | exact Agr.refl _ _ | exact Agr.hav _ _ _ | refine Agr.upd rfl ?_ | refine Agr.updL ?_ _ rfl | refine Agr.hav' rfl ?_)) ⟨rfl, rfl, trivial⟩ ?_)
    exact ⟨⟨hX, ⟨by rw [liveU_succ (by omega)]; exact hO, by omega, by omega⟩⟩, by first | (dsimp only; omega) | ((show _ < _); omega)⟩
  · try simp only [decide_eq_true_eq, decide_eq_false_iff_not, Bool.not_eq_true, Bool.not_eq_false, Bool.not_eq_eq_eq_not, Bool.not_true, Bool.not_false, Int.not_lt, Int.not_le] at hc9
    have hin : i = n := by omega
    rw [hin, List.take_of_length_le (by omega)] at hO
    rw [hin] at hmi
    refine c_exit ?_
    refine t_e ?_
    refine t_e ?_
    refine b_hit ?_
    refine t_n ?_
    refine c_seq ?_
    refine r_plain ?_
    refine p1 (x_move (by conv => lhs; whnf)) ?_
    have hXs7 := hX.size
    refine o_call Try.func35 fn35 fb35 (hashes_Sort _ _ _ _ _ _ hO.sl (by omega)) rfl ?_
    rintro v5 w5 ⟨⟨q1, m1, c1, rfl, hm1, hU⟩, hE5⟩
    have hX := hX.ext hE5
    have hO := hO.ext hE5
    have hU := hU.lower hXs7
    refine p1 (x_assign (by conv => lhs; whnf)) ?_
    refine r_nil ?_
    refine t_n ?_
    refine c_ret ?_
    refine end1 rfl (by conv => lhs; whnf) ?_
    exact ⟨⟨_, _, _, rfl, by omega, hU⟩, hX⟩
theorem ref17_Live (l : List Rec) (B : Nat) (p : Option Addr) (n c : Nat) (w : World) (hl : Sl kRecA 33 B w p n c l) (hn : n ≤ 2000) (hmm : ∀ x ∈ l, x.2.2.length ≤ 600) :
    Ret Try.prog 71 [.slice p n c] w (fun v w' => (∃ q m c', v = .slice q m c' ∧ Sl kHash 35 0 w' q m c' (srt (liveU l))) ∧ Ext w w') := by
  have hX := Ext.refl w
  refine enter 20 _ Try.func71 rfl rfl (Nat.le_of_ble_eq_true rfl) ?_
  refine c_seq ?_
  refine r_plain ?_
  refine p1 (x_assign (by conv => lhs; whnf)) ?_
  refine r_nil ?_
  refine t_n ?_
  refine c_seq ?_
  refine r_plain ?_
  refine p1 (x_assign (by conv => lhs; whnf)) ?_
  refine r_nil ?_
  refine t_n ?_
  refine c_seq ?_
  refine c_seq ?_
  refine r_plain ?_
  refine p1 (x_assign (by conv => lhs; whnf)) ?_
  refine r_nil ?_
  refine t_n ?_
  refine c_block ?_
  have hlen := hl.len
  have hcap := hl.cap
  have hfit := hl.fit
  refine c_loop (ι := Nat × Option Addr × Nat × Nat) [3, 4, 5, 6, 7, 8, 9, 10, 11, 12, 13, 14, 15, 16, 17] (fun (i, q, m, c1) => [(3, .slice q m c1), (4, .int .i64 (i : Int))]) (fun (i, q, m, c1) w' => Ext w w' ∧ (Own kHash 35 0 w.heap.size w' q m c1 (liveU (l.take i)) ∧ i ≤ n ∧ m ≤ 600 * i)) (fun (i, q, m, c1) => n - i) ((0, none, 0, 0)) ⟨rfl, rfl, trivial⟩ ⟨hX, ⟨Own.nil _ _ _ _ _, by omega, by omega⟩⟩ ?_
  rintro ⟨i, q, m, c1⟩ GL0 w1 ⟨hE1, hO, hi, hmi⟩
  have hX := hE1
  refine c_seq ?_
  refine c_seq ?_
  refine r_plain ?_
  refine p1 (x_move (by conv => lhs; whnf)) ?_
  refine p1 (x_move (by conv => lhs; whnf)) ?_
  refine p1 (x_len_slice u23 rfl) ?_
  refine p1 (x_lss rfl rfl) ?_
  refine r_nil ?_
  refine t_n ?_
  first | refine c_dec rfl (fun hc8 => ?_) (fun hc8 => ?_) | refine c_if rfl (fun hc8 => ?_) (fun hc8 => ?_)
  · try simp only [decide_eq_true_eq, decide_eq_false_iff_not, Bool.not_eq_true, Bool.not_eq_false, Bool.not_eq_eq_eq_not, Bool.not_true, Bool.not_false, Int.not_lt, Int.not_le] at hc8
    refine c_skip ?_
    refine t_n ?_
    refine c_seq ?_
    refine c_block ?_
    obtain ⟨pb1, nb1, cb1, pc1, nc1, cc1, hrow1, hS1b, hS1c⟩ := hl.recAt i (by omega)
    have hmx := hmm _ (rec_mem (l := l) (k := i) (by omega))
    have hl2 := hS1c.len
    refine r_plain ?_
    refine p1 (x_move (by conv => lhs; whnf)) ?_
    refine p1 (x_move (by conv => lhs; whnf)) ?_
    refine p1 (x_move (by conv => lhs; whnf)) ?_
    refine p1 (x_ixs u23 sz33 rfl rfl ((hl.ext hX).adr kRecA_pos (by omega)) (by omega) (by omega)) ?_
    refine p1 (x_fieldAddr fo33_2 sz31 rfl) ?_
    refine p1 (x_load1 un31 rfl (hX.cell (hrow1 2 _ rfl))) ?_
    have hB1 := hX.size
    refine o_append (d := kHash) ((l.getD i default).2.2) u31 inf35 rfl kHash_pos rfl rfl hO (src_pure u31 (hS1c.ext hX) (by decide)) hl2 (hash_all _ _ _) (rfl) (by omega) (by omega) (by omega) (by omega) (by decide) ?_
    intro p17 c17 w2 hO hM2
    have hX := hX.mod hM2 (Nat.le_refl _)
    refine p1 (x_assign (by conv => lhs; whnf)) ?_
    refine r_nil ?_
    refine b_n ?_
    refine t_n ?_
    refine r_plain ?_
    refine p1 (x_move (by conv => lhs; whnf)) ?_
    refine p1 (x_add rfl rfl (fits_i64 (by omega) (by omega))) ?_
    refine p1 (x_assign (by conv => lhs; whnf)) ?_
    refine r_nil ?_
    refine t_n (At.mk ((i + 1, p17, m + nc1, c17)) (by repeat (first | exact Agr.refl _ _ | exact Agr.hav _ _ _ | refine Agr.upd rfl ?_ | refine Agr.updL ?_ _ rfl | refine Agr.hav' rfl ?_)) ⟨rfl, rfl, trivial⟩ ?_)
    exact ⟨⟨hX, ⟨by rw [liveU_succ (by omega)]; exact hO, by omega, by omega⟩⟩, by first | (dsimp only; omega) | ((show _ < _); omega)⟩
  · try simp only [decide_eq_true_eq, decide_eq_false_iff_not, Bool.not_eq_true, Bool.not_eq_false, Bool.not_eq_eq_eq_not, Bool.not_true, Bool.not_false, Int.not_lt, Int.not_le] at hc8
    have hin : i = n := by omega
    rw [hin, List.take_of_length_le (by omega)] at hO
    rw [hin] at hmi
    refine c_exit ?_
    refine t_e ?_
    refine t_e ?_
    refine b_hit ?_
    refine t_n ?_
    refine c_seq ?_
    refine r_plain ?_
    refine p1 (x_move (by conv => lhs; whnf)) ?_
    refine o_call Try.func37 fn37 fb37 (ref06_Sort _ _ _ _ _ _ hO.sl (by omega)) rfl ?_
    rintro v3 w3 ⟨⟨q1, m1, c1, rfl, hU, hm1⟩, hE3⟩
    have hX := hX.ext hE3
    have hO := hO.ext hE3
    refine p1 (x_assign (by conv => lhs; whnf)) ?_
    refine r_nil ?_
    refine t_n ?_
    refine c_ret ?_
    refine end1 rfl (by conv => lhs; whnf) ?_
    exact ⟨⟨_, _, _, rfl, hU⟩, hX⟩
end Go.Proofs.Eng
end
