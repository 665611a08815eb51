import Derived.Test.YtjbfgmkemideiaaM1
import Derived.Test.YtjbfgmkemideiaaT1
import Derived.Test.YtjbfgmkemideiaaA5
set_option linter.unusedVariables false
set_option linter.unusedSimpArgs false
set_option maxRecDepth 100000
set_option maxHeartbeats 4000000
namespace Go.Proofs.Eng
open Go.RowKit
open Extern.Stop (cell)
theorem ref06_Union (xs ys : List Hash) (B B2 : Nat) (p q : Option Addr) (n c m c2 : Nat) (w : World) (ha : Sl kHash 35 B w p n c xs) (hb : Sl kHash 35 B2 w q m c2 ys) (hs : n ≤ 2097152000) (hs2 : m ≤ 2097152000) :
    Ret Try.prog 57 [.slice p n c, .slice q m c2] w (fun v w' => (∃ q1 m1 c1, v = .slice q1 m1 c1 ∧ m1 ≤ n + m ∧ Sl kHash 35 B w' q1 m1 c1 (srt (xs ++ ys))) ∧ Ext w w') := by
  have hX := Ext.refl w
  refine enter 22 _ Try.func57 rfl rfl (Nat.le_of_ble_eq_true rfl) ?_
  refine c_seq ?_
  refine r_plain ?_
  refine p1 (x_assign (by conv => lhs; whnf)) ?_
  refine r_nil ?_
  refine t_n ?_
  refine c_seq ?_
  refine r_plain ?_
  refine p1 (x_move (by conv => lhs; whnf)) ?_
  refine o_call Try.func37 fn37 fb37 (ref06_Sort xs B _ _ _ _ (ha.ext hX) (by omega)) rfl ?_
  rintro v1 w1 ⟨⟨q3, m3, c3, rfl, hR, hm3⟩, hE1⟩
  have hX := hX.ext hE1
  refine p1 (x_assign (by conv => lhs; whnf)) ?_
  refine r_nil ?_
  refine t_n ?_
  refine c_seq ?_
  refine c_seq ?_
  refine r_plain ?_
  refine p1 (x_assign (by conv => lhs; whnf)) ?_
  refine r_nil ?_
  refine t_n ?_
  refine c_block ?_
  have hWL0 := Ext.refl w1
  have hlen := hb.len
  have hfit := hb.fit
  have hcap := hb.cap
  refine c_loop (ι := Nat × Option Addr × Nat × Nat) [5, 6, 9, 10, 11, 12, 13, 14, 15, 16, 17, 18, 19, 20] (fun (k, q4, m4, c4) => [(5, .slice q4 m4 c4), (6, .int .i64 (k : Int))]) (fun (k, q4, m4, c4) w' => Ext w1 w' ∧ (Sl kHash 35 B w' q4 m4 c4 (srtTo (srt xs) (ys.take k)) ∧ m4 ≤ n + k ∧ k ≤ m)) (fun (k, q4, m4, c4) => m - k) ((0, q3, m3, c3)) ⟨rfl, rfl, trivial⟩ ⟨Ext.refl _, ⟨hR, by omega, by omega⟩⟩ ?_
  rintro ⟨k, q4, m4, c4⟩ GL0 w2 ⟨hE2, hR, hm, hk⟩
  have hX := hX.ext hE2
  have hWL0 := hE2
  refine c_seq ?_
  refine c_seq ?_
  refine r_plain ?_
  refine p1 (x_move (by conv => lhs; whnf)) ?_
  refine p1 (x_move (by conv => lhs; whnf)) ?_
  refine p1 (x_len_slice u31 rfl) ?_
  refine p1 (x_lss rfl rfl) ?_
  refine r_nil ?_
  refine t_n ?_
  first | refine c_dec rfl (fun hc12 => ?_) (fun hc12 => ?_) | refine c_if rfl (fun hc12 => ?_) (fun hc12 => ?_)
  · try simp only [decide_eq_true_eq, decide_eq_false_iff_not, Bool.not_eq_true, Bool.not_eq_false, Bool.not_eq_eq_eq_not, Bool.not_true, Bool.not_false, Int.not_lt, Int.not_le] at hc12
    refine c_skip ?_
    refine t_n ?_
    refine c_seq ?_
    refine c_block ?_
    refine r_plain ?_
    refine p1 (x_move (by conv => lhs; whnf)) ?_
    refine p1 (x_move (by conv => lhs; whnf)) ?_
    refine p1 (x_move (by conv => lhs; whnf)) ?_
    refine p1 (x_ixs u31 sz35 rfl rfl ((hb.ext hX).adr kHash_pos (by omega)) (by omega) (by omega)) ?_
    refine p1 (x_loadN ua35 rfl (hcs_sz sz35 _) ((hb.ext hX).hashAt _ (by omega) (by omega))) ?_
    refine o_call Try.func93 fn93 fb93 (ref06_With (srtTo (srt xs) (ys.take k)) (ys.getD _ default) B _ _ _ _ hR (by omega)) rfl ?_
    rintro v3 w3 ⟨⟨q5, m5, c5, rfl, hR2, hm5⟩, hE3⟩
    have hX := hX.ext hE3
    have hWL0 := hWL0.ext hE3
    have hR := hR.ext hE3
    refine p1 (x_assign (by conv => lhs; whnf)) ?_
    refine r_nil ?_
    refine b_n ?_
    refine t_n ?_
    refine r_plain ?_
    refine p1 (x_move (by conv => lhs; whnf)) ?_
    refine p1 (x_add rfl rfl (fits_i64 (by omega) (by omega))) ?_
    refine p1 (x_assign (by conv => lhs; whnf)) ?_
    refine r_nil ?_
    refine t_n (At.mk ((k + 1, q5, m5, c5)) (by repeat (first | exact Agr.refl _ _ | exact Agr.hav _ _ _ | refine Agr.upd rfl ?_ | refine Agr.updL ?_ _ rfl | refine Agr.hav' rfl ?_)) ⟨rfl, rfl, trivial⟩ ?_)
    exact ⟨⟨hWL0, ⟨by rw [srtTo_take (by omega)]; exact hR2, by omega, by omega⟩⟩, by first | (dsimp only; omega) | ((show _ < _); omega)⟩
  · try simp only [decide_eq_true_eq, decide_eq_false_iff_not, Bool.not_eq_true, Bool.not_eq_false, Bool.not_eq_eq_eq_not, Bool.not_true, Bool.not_false, Int.not_lt, Int.not_le] at hc12
    have hkn : k = m := by omega
    rw [hkn, List.take_of_length_le (by omega), srtTo_srt] at hR
    refine c_exit ?_
    refine t_e ?_
    refine t_e ?_
    refine b_hit ?_
    refine t_n ?_
    refine c_seq ?_
    refine r_plain ?_
    refine p1 (x_move (by conv => lhs; whnf)) ?_
    refine p1 (x_assign (by conv => lhs; whnf)) ?_
    refine r_nil ?_
    refine t_n ?_
    refine c_ret ?_
    refine end1 rfl (by conv => lhs; whnf) ?_
    exact ⟨⟨_, _, _, rfl, by omega, hR⟩, hX⟩
theorem ref06_Minus (xs ys : List Hash) (B B2 : Nat) (p q : Option Addr) (n c m c2 : Nat) (w : World) (ha : Sl kHash 35 B w p n c xs) (hb : Sl kHash 35 B2 w q m c2 ys) (hs : n ≤ 2097152000) (hs2 : m ≤ 2097152000) :
    Ret Try.prog 59 [.slice p n c, .slice q m c2] w (fun v w' => (∃ q1 m1 c1, v = .slice q1 m1 c1 ∧ m1 ≤ n + m ∧ Sl kHash 35 B w' q1 m1 c1 (srt (sel ys false xs))) ∧ Ext w w') := by
  have hX := Ext.refl w
  refine enter 27 _ Try.func59 rfl rfl (Nat.le_of_ble_eq_true rfl) ?_
  refine c_seq ?_
  refine r_plain ?_
  refine p1 (x_assign (by conv => lhs; whnf)) ?_
  refine r_nil ?_
  refine t_n ?_
  refine c_seq ?_
  refine r_plain ?_
  refine p1 (x_assign (by conv => lhs; whnf)) ?_
  refine r_nil ?_
  refine t_n ?_
  refine c_seq ?_
  refine c_seq ?_
  refine r_plain ?_
  refine p1 (x_assign (by conv => lhs; whnf)) ?_
  refine r_nil ?_
  refine t_n ?_
  refine c_block ?_
  have hWL0 := Ext.refl w
  have hlen := ha.len
  have hfit := ha.fit
  have hcap := ha.cap
  refine c_loop (ι := Nat × Option Addr × Nat × Nat) [5, 6, 7, 8, 9, 10, 11, 12, 13, 14, 15, 16, 17, 18, 19, 20, 21, 22, 23, 24, 25] (fun (k, q4, m4, c4) => [(5, .slice q4 m4 c4), (6, .int .i64 (k : Int))]) (fun (k, q4, m4, c4) w' => Ext w w' ∧ (Sl kHash 35 B w' q4 m4 c4 (srt (sel ys false (xs.take k))) ∧ m4 ≤ k ∧ k ≤ n)) (fun (k, q4, m4, c4) => n - k) ((0, none, 0, 0)) ⟨rfl, rfl, trivial⟩ ⟨Ext.refl _, ⟨Sl.nil _ _ _ _ _ _ (by omega), by omega, by omega⟩⟩ ?_
  rintro ⟨k, q4, m4, c4⟩ GL0 w1 ⟨hE1, hR, hm, hk⟩
  have hX := hX.ext hE1
  have hWL0 := hE1
  refine c_seq ?_
  refine c_seq ?_
  refine r_plain ?_
  refine p1 (x_move (by conv => lhs; whnf)) ?_
  refine p1 (x_move (by conv => lhs; whnf)) ?_
  refine p1 (x_len_slice u31 rfl) ?_
  refine p1 (x_lss rfl rfl) ?_
  refine r_nil ?_
  refine t_n ?_
  first | refine c_dec rfl (fun hc10 => ?_) (fun hc10 => ?_) | refine c_if rfl (fun hc10 => ?_) (fun hc10 => ?_)
  · try simp only [decide_eq_true_eq, decide_eq_false_iff_not, Bool.not_eq_true, Bool.not_eq_false, Bool.not_eq_eq_eq_not, Bool.not_true, Bool.not_false, Int.not_lt, Int.not_le] at hc10
    refine c_skip ?_
    refine t_n ?_
    refine c_seq ?_
    refine c_block ?_
    refine c_seq ?_
    refine r_plain ?_
    refine p1 (x_move (by conv => lhs; whnf)) ?_
    refine p1 (x_move (by conv => lhs; whnf)) ?_
    refine p1 (x_move (by conv => lhs; whnf)) ?_
    refine p1 (x_ixs u31 sz35 rfl rfl ((ha.ext hX).adr kHash_pos (by omega)) (by omega) (by omega)) ?_
    refine p1 (x_loadN ua35 rfl (hcs_sz sz35 _) ((ha.ext hX).hashAt _ (by omega) (by omega))) ?_
    refine o_call Try.func42 fn42 fb42 (ref06_Has ys (xs.getD _ default) _ _ _ _ _ (hb.ext hX)) rfl ?_
    rintro v2 w2 ⟨rfl, hE2⟩
    have hX := hX.ext hE2
    have hWL0 := hWL0.ext hE2
    have hR := hR.ext hE2
    first | refine p1 (x_notd rfl) ?_ | refine p1 (x_not rfl) ?_
    refine r_nil ?_
    refine t_n ?_
    first | refine c_dec rfl (fun hc19 => ?_) (fun hc19 => ?_) | refine c_if rfl (fun hc19 => ?_) (fun hc19 => ?_)
    · try simp only [decide_eq_true_eq, decide_eq_false_iff_not, Bool.not_eq_true, Bool.not_eq_false, Bool.not_eq_eq_eq_not, Bool.not_true, Bool.not_false, Int.not_lt, Int.not_le] at hc19
      have hsn := sel_take (ys := ys) (inn := false) (xs := xs) (k := k) (by omega)
      rw [if_pos (by simpa using hc19)] at hsn
      refine r_plain ?_
      refine p1 (x_move (by conv => lhs; whnf)) ?_
      refine p1 (x_move (by conv => lhs; whnf)) ?_
      refine p1 (x_move (by conv => lhs; whnf)) ?_
      refine p1 (x_ixs u31 sz35 rfl rfl ((ha.ext hX).adr kHash_pos (by omega)) (by omega) (by omega)) ?_
      refine p1 (x_loadN ua35 rfl (hcs_sz sz35 _) ((ha.ext hX).hashAt _ (by omega) (by omega))) ?_
      refine o_call Try.func93 fn93 fb93 (ref06_With (srt (sel ys false (xs.take k))) (xs.getD _ default) B _ _ _ _ hR (by omega)) rfl ?_
      rintro v3 w3 ⟨⟨q5, m5, c5, rfl, hR2, hm5⟩, hE3⟩
      have hX := hX.ext hE3
      have hWL0 := hWL0.ext hE3
      have hR := hR.ext hE3
      refine p1 (x_assign (by conv => lhs; whnf)) ?_
      refine r_nil ?_
      refine b_n ?_
      refine t_n ?_
      refine r_plain ?_
      refine p1 (x_move (by conv => lhs; whnf)) ?_
      refine p1 (x_add rfl rfl (fits_i64 (by omega) (by omega))) ?_
      refine p1 (x_assign (by conv => lhs; whnf)) ?_
      refine r_nil ?_
      first
        | exact t_n (At.mk ((k + 1, q5, m5, c5)) (by repeat (first | exact Agr.refl _ _ | exact Agr.hav _ _ _ | refine Agr.upd rfl ?_ | refine Agr.updL ?_ _ rfl | refine Agr.hav' rfl ?_)) ⟨rfl, rfl, trivial⟩ ⟨⟨hWL0, ⟨by rw [hsn, ← srt_snoc]; exact hR2, by omega, by omega⟩⟩, by first | (dsimp only; omega) | ((show _ < _); omega)⟩)
        | exact t_n (At.mk ((k + 1, q4, m4, c4)) (by repeat (first | exact Agr.refl _ _ | exact Agr.hav _ _ _ | refine Agr.upd rfl ?_ | refine Agr.updL ?_ _ rfl | refine Agr.hav' rfl ?_)) ⟨rfl, rfl, trivial⟩ ⟨⟨hWL0, ⟨by rw [hsn]; exact hR, by omega, by omega⟩⟩, by first | (dsimp only; omega) | ((show _ < _); omega)⟩)
    · try simp only [decide_eq_true_eq, decide_eq_false_iff_not, Bool.not_eq_true, Bool.not_eq_false, Bool.not_eq_eq_eq_not, Bool.not_true, Bool.not_false, Int.not_lt, Int.not_le] at hc19
      have hsn := sel_take (ys := ys) (inn := false) (xs := xs) (k := k) (by omega)
      rw [if_neg (by simpa using hc19)] at hsn
      refine c_skip ?_
      refine b_n ?_
      refine t_n ?_
      refine r_plain ?_
      refine p1 (x_move (by conv => lhs; whnf)) ?_
      refine p1 (x_add rfl rfl (fits_i64 (by omega) (by omega))) ?_
      refine p1 (x_assign (by conv => lhs; whnf)) ?_
      refine r_nil ?_
      first
        | exact t_n (At.mk ((k + 1, q5, m5, c5)) (by repeat (first | exact Agr.refl _ _ | exact Agr.hav _ _ _ | refine Agr.upd rfl ?_ | refine Agr.updL ?_ _ rfl | refine Agr.hav' rfl ?_)) ⟨rfl, rfl, trivial⟩ ⟨⟨hWL0, ⟨by rw [hsn, ← srt_snoc]; exact hR2, by omega, by omega⟩⟩, by first | (dsimp only; omega) | ((show _ < _); omega)⟩)
        | exact t_n (At.mk ((k + 1, q4, m4, c4)) (by repeat (first | exact Agr.refl _ _ | exact Agr.hav _ _ _ | refine Agr.upd rfl ?_ | refine Agr.updL ?_ _ rfl | refine Agr.hav' rfl ?_)) ⟨rfl, rfl, trivial⟩ ⟨⟨hWL0, ⟨by rw [hsn]; exact hR, by omega, by omega⟩⟩, by first | (dsimp only; omega) | ((show _ < _); omega)⟩)
  · try simp only [decide_eq_true_eq, decide_eq_false_iff_not, Bool.not_eq_true, Bool.not_eq_false, Bool.not_eq_eq_eq_not, Bool.not_true, Bool.not_false, Int.not_lt, Int.not_le] at hc10
    have hkn : k = n := by omega
    rw [hkn, List.take_of_length_le (by omega)] at hR
    refine c_exit ?_
    refine t_e ?_
    refine t_e ?_
    refine b_hit ?_
    refine t_n ?_
    refine c_seq ?_
    refine r_plain ?_
    refine p1 (x_move (by conv => lhs; whnf)) ?_
    refine p1 (x_assign (by conv => lhs; whnf)) ?_
    refine r_nil ?_
    refine t_n ?_
    refine c_ret ?_
    refine end1 rfl (by conv => lhs; whnf) ?_
    exact ⟨⟨_, _, _, rfl, by omega, hR⟩, hX⟩
theorem ref06_Meet (xs ys : List Hash) (B B2 : Nat) (p q : Option Addr) (n c m c2 : Nat) (w : World) (ha : Sl kHash 35 B w p n c xs) (hb : Sl kHash 35 B2 w q m c2 ys) (hs : n ≤ 2097152000) (hs2 : m ≤ 2097152000) :
    Ret Try.prog 61 [.slice p n c, .slice q m c2] w (fun v w' => (∃ q1 m1 c1, v = .slice q1 m1 c1 ∧ m1 ≤ n + m ∧ Sl kHash 35 B w' q1 m1 c1 (srt (sel ys true xs))) ∧ Ext w w') := by
  have hX := Ext.refl w
  refine enter 26 _ Try.func61 rfl rfl (Nat.le_of_ble_eq_true rfl) ?_
  refine c_seq ?_
  refine r_plain ?_
  refine p1 (x_assign (by conv => lhs; whnf)) ?_
  refine r_nil ?_
  refine t_n ?_
  refine c_seq ?_
  refine r_plain ?_
  refine p1 (x_assign (by conv => lhs; whnf)) ?_
  refine r_nil ?_
  refine t_n ?_
  refine c_seq ?_
  refine c_seq ?_
  refine r_plain ?_
  refine p1 (x_assign (by conv => lhs; whnf)) ?_
  refine r_nil ?_
  refine t_n ?_
  refine c_block ?_
  have hWL0 := Ext.refl w
  have hlen := ha.len
  have hfit := ha.fit
  have hcap := ha.cap
  refine c_loop (ι := Nat × Option Addr × Nat × Nat) [5, 6, 7, 8, 9, 10, 11, 12, 13, 14, 15, 16, 17, 18, 19, 20, 21, 22, 23, 24] (fun (k, q4, m4, c4) => [(5, .slice q4 m4 c4), (6, .int .i64 (k : Int))]) (fun (k, q4, m4, c4) w' => Ext w w' ∧ (Sl kHash 35 B w' q4 m4 c4 (srt (sel ys true (xs.take k))) ∧ m4 ≤ k ∧ k ≤ n)) (fun (k, q4, m4, c4) => n - k) ((0, none, 0, 0)) ⟨rfl, rfl, trivial⟩ ⟨Ext.refl _, ⟨Sl.nil _ _ _ _ _ _ (by omega), by omega, by omega⟩⟩ ?_
  rintro ⟨k, q4, m4, c4⟩ GL0 w1 ⟨hE1, hR, hm, hk⟩
  have hX := hX.ext hE1
  have hWL0 := hE1
  refine c_seq ?_
  refine c_seq ?_
  refine r_plain ?_
  refine p1 (x_move (by conv => lhs; whnf)) ?_
  refine p1 (x_move (by conv => lhs; whnf)) ?_
  refine p1 (x_len_slice u31 rfl) ?_
  refine p1 (x_lss rfl rfl) ?_
  refine r_nil ?_
  refine t_n ?_
  first | refine c_dec rfl (fun hc10 => ?_) (fun hc10 => ?_) | refine c_if rfl (fun hc10 => ?_) (fun hc10 => ?_)
  · try simp only [decide_eq_true_eq, decide_eq_false_iff_not, Bool.not_eq_true, Bool.not_eq_false, Bool.not_eq_eq_eq_not, Bool.not_true, Bool.not_false, Int.not_lt, Int.not_le] at hc10
    refine c_skip ?_
    refine t_n ?_
    refine c_seq ?_
    refine c_block ?_
    refine c_seq ?_
    refine r_plain ?_
    refine p1 (x_move (by conv => lhs; whnf)) ?_
    refine p1 (x_move (by conv => lhs; whnf)) ?_
    refine p1 (x_move (by conv => lhs; whnf)) ?_
    refine p1 (x_ixs u31 sz35 rfl rfl ((ha.ext hX).adr kHash_pos (by omega)) (by omega) (by omega)) ?_
    refine p1 (x_loadN ua35 rfl (hcs_sz sz35 _) ((ha.ext hX).hashAt _ (by omega) (by omega))) ?_
    refine o_call Try.func42 fn42 fb42 (ref06_Has ys (xs.getD _ default) _ _ _ _ _ (hb.ext hX)) rfl ?_
    rintro v2 w2 ⟨rfl, hE2⟩
    have hX := hX.ext hE2
    have hWL0 := hWL0.ext hE2
    have hR := hR.ext hE2
    refine r_nil ?_
    refine t_n ?_
    first | refine c_dec rfl (fun hc18 => ?_) (fun hc18 => ?_) | refine c_if rfl (fun hc18 => ?_) (fun hc18 => ?_)
    · try simp only [decide_eq_true_eq, decide_eq_false_iff_not, Bool.not_eq_true, Bool.not_eq_false, Bool.not_eq_eq_eq_not, Bool.not_true, Bool.not_false, Int.not_lt, Int.not_le] at hc18
      have hsn := sel_take (ys := ys) (inn := true) (xs := xs) (k := k) (by omega)
      rw [if_pos (by simpa using hc18)] at hsn
      refine r_plain ?_
      refine p1 (x_move (by conv => lhs; whnf)) ?_
      refine p1 (x_move (by conv => lhs; whnf)) ?_
      refine p1 (x_move (by conv => lhs; whnf)) ?_
      refine p1 (x_ixs u31 sz35 rfl rfl ((ha.ext hX).adr kHash_pos (by omega)) (by omega) (by omega)) ?_
      refine p1 (x_loadN ua35 rfl (hcs_sz sz35 _) ((ha.ext hX).hashAt _ (by omega) (by omega))) ?_
      refine o_call Try.func93 fn93 fb93 (ref06_With (srt (sel ys true (xs.take k))) (xs.getD _ default) B _ _ _ _ hR (by omega)) rfl ?_
      rintro v3 w3 ⟨⟨q5, m5, c5, rfl, hR2, hm5⟩, hE3⟩
      have hX := hX.ext hE3
      have hWL0 := hWL0.ext hE3
      have hR := hR.ext hE3
      refine p1 (x_assign (by conv => lhs; whnf)) ?_
      refine r_nil ?_
      refine b_n ?_
      refine t_n ?_
      refine r_plain ?_
      refine p1 (x_move (by conv => lhs; whnf)) ?_
      refine p1 (x_add rfl rfl (fits_i64 (by omega) (by omega))) ?_
      refine p1 (x_assign (by conv => lhs; whnf)) ?_
      refine r_nil ?_
      first
        | exact t_n (At.mk ((k + 1, q5, m5, c5)) (by repeat (first | exact Agr.refl _ _ | exact Agr.hav _ _ _ | refine Agr.upd rfl ?_ | refine Agr.updL ?_ _ rfl | refine Agr.hav' rfl ?_)) ⟨rfl, rfl, trivial⟩ ⟨⟨hWL0, ⟨by rw [hsn, ← srt_snoc]; exact hR2, by omega, by omega⟩⟩, by first | (dsimp only; omega) | ((show _ < _); omega)⟩)
        | exact t_n (At.mk ((k + 1, q4, m4, c4)) (by repeat (first | exact Agr.refl _ _ | exact Agr.hav _ _ _ | refine Agr.upd rfl ?_ | refine Agr.updL ?_ _ rfl | refine Agr.hav' rfl ?_)) ⟨rfl, rfl, trivial⟩ ⟨⟨hWL0, ⟨by rw [hsn]; exact hR, by omega, by omega⟩⟩, by first | (dsimp only; omega) | ((show _ < _); omega)⟩)
    · try simp only [decide_eq_true_eq, decide_eq_false_iff_not, Bool.not_eq_true, Bool.not_eq_false, Bool.not_eq_eq_eq_not, Bool.not_true, Bool.not_false, Int.not_lt, Int.not_le] at hc18
      have hsn := sel_take (ys := ys) (inn := true) (xs := xs) (k := k) (by omega)
      rw [if_neg (by simpa using hc18)] at hsn
      refine c_skip ?_
      refine b_n ?_
      refine t_n ?_
      refine r_plain ?_
      refine p1 (x_move (by conv => lhs; whnf)) ?_
      refine p1 (x_add rfl rfl (fits_i64 (by omega) (by omega))) ?_
      refine p1 (x_assign (by conv => lhs; whnf)) ?_
      refine r_nil ?_
      first
        | exact t_n (At.mk ((k + 1, q5, m5, c5)) (by repeat (first | exact Agr.refl _ _ | exact Agr.hav _ _ _ | refine Agr.upd rfl ?_ | refine Agr.updL ?_ _ rfl | refine Agr.hav' rfl ?_)) ⟨rfl, rfl, trivial⟩ ⟨⟨hWL0, ⟨by rw [hsn, ← srt_snoc]; exact hR2, by omega, by omega⟩⟩, by first | (dsimp only; omega) | ((show _ < _); omega)⟩)
        | exact t_n (At.mk ((k + 1, q4, m4, c4)) (by repeat (first | exact Agr.refl _ _ | exact Agr.hav _ _ _ | refine Agr.upd rfl ?_ | refine Agr.updL ?_ _ rfl | refine Agr.hav' rfl ?_)) ⟨rfl, rfl, trivial⟩ ⟨⟨hWL0, ⟨by rw [hsn]; exact hR, by omega, by omega⟩⟩, by first | (dsimp only; omega) | ((show _ < _); omega)⟩)
  · try simp only [decide_eq_true_eq, decide_eq_false_iff_not, Bool.not_eq_true, Bool.not_eq_false, Bool.not_eq_eq_eq_not, Bool.not_true, Bool.not_false, Int.not_lt, Int.not_le] at hc10
    have hkn : k = n := by omega
    rw [hkn, List.take_of_length_le (by omega)] at hR
    refine c_exit ?_
    refine t_e ?_
    refine t_e ?_
    refine b_hit ?_
    refine t_n ?_
    refine c_seq ?_
    refine r_plain ?_
    refine p1 (x_move (by conv => lhs; whnf)) ?_
    refine p1 (x_assign (by conv => lhs; whnf)) ?_
    refine r_nil ?_
    refine t_n ?_
    refine c_ret ?_
    refine end1 rfl (by conv => lhs; whnf) ?_
    exact ⟨⟨_, _, _, rfl, by omega, hR⟩, hX⟩
end Go.Proofs.Eng
