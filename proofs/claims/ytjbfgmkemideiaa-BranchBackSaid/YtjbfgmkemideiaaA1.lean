import Derived.Test.YtjbfgmkemideiaaP0
import Derived.Test.YtjbfgmkemideiaaT0
set_option linter.unusedVariables false
set_option linter.unusedSimpArgs false
set_option maxRecDepth 100000
set_option maxHeartbeats 4000000
namespace Go.Proofs.Eng
open Go.RowKit
open Extern.Stop (cell)
theorem sha_Less (a b : Hash) (w : World) :
    Ret Try.prog 94 [.agg (hv a), .agg (hv b)] w (fun v w' => v = .bool (hlt a b) ∧ Ext w w') := by
  have hX := Ext.refl w
  refine enter 25 _ Try.func94 rfl rfl (Nat.le_of_ble_eq_true rfl) ?_
  refine c_seq ?_
  refine r_plain ?_
  refine o_boxA (by conv => lhs; whnf) ?_
  intro w1 g2 hN2
  have hE1 := hN2.ext
  have hX := hX.ext hE1
  have hB2 := hN2.blk
  refine o_boxA (by conv => lhs; whnf) ?_
  intro w2 g3 hN3
  have hE2 := hN3.ext
  have hX := hX.ext hE2
  have hB2 := hB2.ext hE2
  have hB3 := hN3.blk
  refine p1 (x_assign (by conv => lhs; whnf)) ?_
  refine r_nil ?_
  refine t_n ?_
  refine c_seq ?_
  refine c_seq ?_
  refine r_plain ?_
  refine p1 (x_loadB ua35 rfl hB2 (hv_sz sz35 a)) ?_
  refine p1 (x_loadB ua35 rfl hB3 (hv_sz sz35 b)) ?_
  refine p1 (x_eql_bytes u35 u5 sz5 eg35 rfl rfl a.2 b.2) ?_
  refine r_nil ?_
  refine t_n ?_
  first | refine c_dec rfl (fun hc8 => ?_) (fun hc8 => ?_) | refine c_if rfl (fun hc8 => ?_) (fun hc8 => ?_)
  · try simp only [decide_eq_true_eq, decide_eq_false_iff_not, Bool.not_eq_true, Bool.not_eq_false, Bool.not_eq_eq_eq_not, Bool.not_true, Bool.not_false, Int.not_lt, Int.not_le] at hc8
    have hp : hlt a b = false := by rw [Subtype.ext hc8]; exact hlt_self b
    refine c_seq ?_
    refine r_plain ?_
    refine p1 (x_assign (by conv => lhs; whnf)) ?_
    refine r_nil ?_
    refine t_n ?_
    refine c_ret ?_
    refine t_r ?_
    refine end1 rfl (by conv => lhs; whnf) ?_
    first | exact ⟨by rw [hp], hX⟩ | exact ⟨by rw [hlt_at k hk hL (fun e => hc15 (u8_inj.2 e)), u8_dlt], hX⟩
  · try simp only [decide_eq_true_eq, decide_eq_false_iff_not, Bool.not_eq_true, Bool.not_eq_false, Bool.not_eq_eq_eq_not, Bool.not_true, Bool.not_false, Int.not_lt, Int.not_le] at hc8
    refine c_skip ?_
    refine t_n ?_
    refine c_seq ?_
    refine r_plain ?_
    refine p1 (x_assign (by conv => lhs; whnf)) ?_
    refine r_nil ?_
    refine t_n ?_
    refine c_seq ?_
    refine c_block ?_
    have hWL0 := Ext.refl w2
    refine c_loop (ι := Nat) [5, 9, 10, 11, 12, 13, 14, 15, 16, 17] (fun k => [(5, .int .i64 (k : Int))]) (fun k w' => Ext w2 w' ∧ (k < 32 ∧ ∀ i, i < k → a.1.getD i 0 = b.1.getD i 0)) (fun k => 32 - k) (0) ⟨rfl, trivial⟩ ⟨Ext.refl _, ⟨by omega, fun i hi => by omega⟩⟩ ?_
    rintro k GL0 w3 ⟨hE3, hk, hL⟩
    have hX := hX.ext hE3
    have hB2 := hB2.ext hE3
    have hB3 := hB3.ext hE3
    have hWL0 := hE3
    refine c_seq ?_
    refine c_seq ?_
    refine r_still mixed (by kernel_rfl) ?_
    intro w4 hE4
    have hX := hX.ext hE4
    have hB2 := hB2.ext hE4
    have hB3 := hB3.ext hE4
    have hWL0 := hWL0.ext hE4
    refine s1 (x_move (by conv => lhs; whnf)) ?_
    refine s1 (x_ixa0 u35 sz5 rfl rfl (by omega)) ?_
    refine s1 (x_load1 un5 rfl (hB2.cell (hv_get a _ (by omega)))) ?_
    refine s1 (x_move (by conv => lhs; whnf)) ?_
    refine s1 (x_ixa0 u35 sz5 rfl rfl (by omega)) ?_
    refine s1 (x_load1 un5 rfl (hB3.cell (hv_get b _ (by omega)))) ?_
    refine s1 (x_eql rfl rfl) ?_
    refine s_nil ?_
    refine t_n ?_
    first | refine c_dec rfl (fun hc15 => ?_) (fun hc15 => ?_) | refine c_if rfl (fun hc15 => ?_) (fun hc15 => ?_)
    · try simp only [decide_eq_true_eq, decide_eq_false_iff_not, Bool.not_eq_true, Bool.not_eq_false, Bool.not_eq_eq_eq_not, Bool.not_true, Bool.not_false, Int.not_lt, Int.not_le] at hc15
      have h1 := u8_inj.1 hc15
      have hk2 : k + 1 < 32 := by
        apply Classical.byContradiction
        intro hn
        exact hc8 (congrArg Subtype.val <| hash_eq_of_all (fun i hi => if h : i < k then hL i h else by rw [show i = k from by omega]; exact h1))
      refine c_skip ?_
      refine t_n ?_
      refine c_block ?_
      refine r_plain ?_
      refine p1 (x_move (by conv => lhs; whnf)) ?_
      refine p1 (x_add rfl rfl (fits_i64 (by omega) (by omega))) ?_
      refine p1 (x_assign (by conv => lhs; whnf)) ?_
      refine r_nil ?_
      refine b_n ?_
      refine t_n (At.mk (k + 1) (by repeat (first | exact Agr.refl _ _ | exact Agr.hav _ _ _ | refine Agr.upd rfl ?_ | refine Agr.updL ?_ _ rfl | refine Agr.hav' rfl ?_)) ⟨rfl, trivial⟩ ?_)
      exact ⟨⟨hWL0, ⟨hk2, fun i hi => if h : i < k then hL i h else by rw [show i = k from by omega]; exact h1⟩⟩, by first | (dsimp only; omega) | ((show _ < _); omega)⟩
    · try simp only [decide_eq_true_eq, decide_eq_false_iff_not, Bool.not_eq_true, Bool.not_eq_false, Bool.not_eq_eq_eq_not, Bool.not_true, Bool.not_false, Int.not_lt, Int.not_le] at hc15
      refine c_exit ?_
      refine t_e ?_
      refine t_e ?_
      refine b_hit ?_
      refine t_n ?_
      refine c_seq ?_
      refine r_still mixed (by kernel_rfl) ?_
      intro w5 hE5
      have hX := hX.ext hE5
      have hB2 := hB2.ext hE5
      have hB3 := hB3.ext hE5
      refine s1 (x_move (by conv => lhs; whnf)) ?_
      refine s1 (x_ixa0 u35 sz5 rfl rfl (by omega)) ?_
      refine s1 (x_load1 un5 rfl (hB2.cell (hv_get a _ (by omega)))) ?_
      refine s1 (x_move (by conv => lhs; whnf)) ?_
      refine s1 (x_ixa0 u35 sz5 rfl rfl (by omega)) ?_
      refine s1 (x_load1 un5 rfl (hB3.cell (hv_get b _ (by omega)))) ?_
      refine s1 (x_lss rfl rfl) ?_
      refine s1 (x_assign (by conv => lhs; whnf)) ?_
      refine s_nil ?_
      refine t_n ?_
      refine c_ret ?_
      refine end1 rfl (by conv => lhs; whnf) ?_
      first | exact ⟨by rw [hp], hX⟩ | exact ⟨by rw [hlt_at k hk hL (fun e => hc15 (u8_inj.2 e)), u8_dlt], hX⟩
theorem ref01_Less (a b : Hash) (w : World) :
    Ret Try.prog 95 [.agg (hv a), .agg (hv b)] w (fun v w' => v = .bool (hlt a b) ∧ Ext w w') := by
  have hX := Ext.refl w
  refine enter 24 _ Try.func95 rfl rfl (Nat.le_of_ble_eq_true rfl) ?_
  refine c_seq ?_
  refine r_plain ?_
  refine o_boxA (by conv => lhs; whnf) ?_
  intro w1 g2 hN2
  have hE1 := hN2.ext
  have hX := hX.ext hE1
  have hB2 := hN2.blk
  refine o_boxA (by conv => lhs; whnf) ?_
  intro w2 g3 hN3
  have hE2 := hN3.ext
  have hX := hX.ext hE2
  have hB2 := hB2.ext hE2
  have hB3 := hN3.blk
  refine p1 (x_assign (by conv => lhs; whnf)) ?_
  refine r_nil ?_
  refine t_n ?_
  refine c_seq ?_
  refine c_seq ?_
  refine r_plain ?_
  refine p1 (x_assign (by conv => lhs; whnf)) ?_
  refine r_nil ?_
  refine t_n ?_
  refine c_block ?_
  have hWL0 := Ext.refl w2
  refine c_loop (ι := Nat) [4, 5, 6, 7, 8, 9, 10, 11, 12, 13, 14, 15, 16, 17, 18, 19, 20, 21, 22, 23] (fun k => [(5, .int .i64 (k : Int))]) (fun k w' => Ext w2 w' ∧ (k ≤ 32 ∧ ∀ i, i < k → a.1.getD i 0 = b.1.getD i 0)) (fun k => 32 - k) (0) ⟨rfl, trivial⟩ ⟨Ext.refl _, ⟨by omega, fun i hi => by omega⟩⟩ ?_
  rintro k GL0 w3 ⟨hE3, hk, hL⟩
  have hX := hX.ext hE3
  have hB2 := hB2.ext hE3
  have hB3 := hB3.ext hE3
  have hWL0 := hE3
  refine c_seq ?_
  refine c_seq ?_
  refine r_plain ?_
  refine p1 (x_move (by conv => lhs; whnf)) ?_
  refine p1 (x_lss rfl rfl) ?_
  refine r_nil ?_
  refine t_n ?_
  first | refine c_dec rfl (fun hc7 => ?_) (fun hc7 => ?_) | refine c_if rfl (fun hc7 => ?_) (fun hc7 => ?_)
  · try simp only [decide_eq_true_eq, decide_eq_false_iff_not, Bool.not_eq_true, Bool.not_eq_false, Bool.not_eq_eq_eq_not, Bool.not_true, Bool.not_false, Int.not_lt, Int.not_le] at hc7
    refine c_skip ?_
    refine t_n ?_
    refine c_seq ?_
    refine c_block ?_
    refine c_seq ?_
    refine r_still mixed (by kernel_rfl) ?_
    intro w4 hE4
    have hX := hX.ext hE4
    have hB2 := hB2.ext hE4
    have hB3 := hB3.ext hE4
    have hWL0 := hWL0.ext hE4
    refine s1 (x_move (by conv => lhs; whnf)) ?_
    refine s1 (x_ixa0 u35 sz5 rfl rfl (by omega)) ?_
    refine s1 (x_load1 un5 rfl (hB2.cell (hv_get a _ (by omega)))) ?_
    refine s1 (x_move (by conv => lhs; whnf)) ?_
    refine s1 (x_ixa0 u35 sz5 rfl rfl (by omega)) ?_
    refine s1 (x_load1 un5 rfl (hB3.cell (hv_get b _ (by omega)))) ?_
    refine s1 (x_neq rfl rfl) ?_
    refine s_nil ?_
    refine t_n ?_
    first | refine c_dec rfl (fun hc16 => ?_) (fun hc16 => ?_) | refine c_if rfl (fun hc16 => ?_) (fun hc16 => ?_)
    · try simp only [decide_eq_true_eq, decide_eq_false_iff_not, Bool.not_eq_true, Bool.not_eq_false, Bool.not_eq_eq_eq_not, Bool.not_true, Bool.not_false, Int.not_lt, Int.not_le] at hc16
      have hne : a.1.getD k 0 ≠ b.1.getD k 0 := fun e => hc16 (u8_inj.2 e)
      refine c_seq ?_
      refine r_still mixed (by kernel_rfl) ?_
      intro w5 hE5
      have hX := hX.ext hE5
      have hB2 := hB2.ext hE5
      have hB3 := hB3.ext hE5
      have hWL0 := hWL0.ext hE5
      refine s1 (x_move (by conv => lhs; whnf)) ?_
      refine s1 (x_ixa0 u35 sz5 rfl rfl (by omega)) ?_
      refine s1 (x_load1 un5 rfl (hB2.cell (hv_get a _ (by omega)))) ?_
      refine s1 (x_move (by conv => lhs; whnf)) ?_
      refine s1 (x_ixa0 u35 sz5 rfl rfl (by omega)) ?_
      refine s1 (x_load1 un5 rfl (hB3.cell (hv_get b _ (by omega)))) ?_
      refine s1 (x_lss rfl rfl) ?_
      refine s1 (x_assign (by conv => lhs; whnf)) ?_
      refine s_nil ?_
      refine t_n ?_
      refine c_ret ?_
      refine b_r ?_
      refine t_r ?_
      refine t_r ?_
      refine b_r ?_
      refine t_r ?_
      refine end1 rfl (by conv => lhs; whnf) ?_
      first | exact ⟨by rw [hab, hlt_self], hX⟩ | exact ⟨by rw [hlt_at k (by omega) hL hne, u8_dlt], hX⟩
    · try simp only [decide_eq_true_eq, decide_eq_false_iff_not, Bool.not_eq_true, Bool.not_eq_false, Bool.not_eq_eq_eq_not, Bool.not_true, Bool.not_false, Int.not_lt, Int.not_le] at hc16
      have h1 : a.1.getD k 0 = b.1.getD k 0 := u8_inj.1 (Classical.byContradiction hc16)
      refine c_skip ?_
      refine b_n ?_
      refine t_n ?_
      refine r_plain ?_
      refine p1 (x_move (by conv => lhs; whnf)) ?_
      refine p1 (x_add rfl rfl (fits_i64 (by omega) (by omega))) ?_
      refine p1 (x_assign (by conv => lhs; whnf)) ?_
      refine r_nil ?_
      refine t_n (At.mk (k + 1) (by repeat (first | exact Agr.refl _ _ | exact Agr.hav _ _ _ | refine Agr.upd rfl ?_ | refine Agr.updL ?_ _ rfl | refine Agr.hav' rfl ?_)) ⟨rfl, trivial⟩ ?_)
      exact ⟨⟨hWL0, ⟨by omega, fun i hi => if h : i < k then hL i h else by rw [show i = k from by omega]; exact h1⟩⟩, by first | (dsimp only; omega) | ((show _ < _); omega)⟩
  · try simp only [decide_eq_true_eq, decide_eq_false_iff_not, Bool.not_eq_true, Bool.not_eq_false, Bool.not_eq_eq_eq_not, Bool.not_true, Bool.not_false, Int.not_lt, Int.not_le] at hc7
    have hab : a = b := hash_eq_of_all (fun i hi => hL i (by omega))
    refine c_exit ?_
    refine t_e ?_
    refine t_e ?_
    refine b_hit ?_
    refine t_n ?_
    refine c_seq ?_
    refine r_plain ?_
    refine p1 (x_assign (by conv => lhs; whnf)) ?_
    refine r_nil ?_
    refine t_n ?_
    refine c_ret ?_
    refine end1 rfl (by conv => lhs; whnf) ?_
    first | exact ⟨by rw [hab, hlt_self], hX⟩ | exact ⟨by rw [hlt_at k (by omega) hL hne, u8_dlt], hX⟩
theorem compare_any (a b : Hash) (w : World) :
    Ret Try.prog 91 [.agg (hv a), .agg (hv b)] w (fun v w' => v = .int .i64 (hcmp a b) ∧ Ext w w') := by
  have hX := Ext.refl w
  refine enter 13 _ Try.func91 rfl rfl (Nat.le_of_ble_eq_true rfl) ?_
  refine c_seq ?_
  refine r_plain ?_
  refine o_boxA (by conv => lhs; whnf) ?_
  intro w1 g2 hN2
  have hE1 := hN2.ext
  have hX := hX.ext hE1
  have hB2 := hN2.blk
  refine o_boxA (by conv => lhs; whnf) ?_
  intro w2 g3 hN3
  have hE2 := hN3.ext
  have hX := hX.ext hE2
  have hB2 := hB2.ext hE2
  have hB3 := hN3.blk
  refine p1 (x_assign (by conv => lhs; whnf)) ?_
  refine r_nil ?_
  refine t_n ?_
  refine c_seq ?_
  refine c_block ?_
  refine c_seq ?_
  refine r_plain ?_
  refine p1 (x_loadB ua35 rfl hB2 (hv_sz sz35 a)) ?_
  refine p1 (x_loadB ua35 rfl hB3 (hv_sz sz35 b)) ?_
  refine p1 (x_eql_bytes u35 u5 sz5 eg35 rfl rfl a.2 b.2) ?_
  refine p1 (x_assign (by conv => lhs; whnf)) ?_
  refine r_nil ?_
  refine t_n ?_
  first | refine c_dec rfl (fun hc5 => ?_) (fun hc5 => ?_) | refine c_if rfl (fun hc5 => ?_) (fun hc5 => ?_)
  · try simp only [decide_eq_true_eq, decide_eq_false_iff_not, Bool.not_eq_true, Bool.not_eq_false, Bool.not_eq_eq_eq_not, Bool.not_true, Bool.not_false, Int.not_lt, Int.not_le] at hc5
    have hp : hcmp a b = 0 := by unfold hcmp; rw [if_pos (Subtype.ext hc5)]
    refine c_seq ?_
    refine r_plain ?_
    refine p1 (x_assign (by conv => lhs; whnf)) ?_
    refine r_nil ?_
    refine t_n ?_
    refine c_ret ?_
    refine b_r ?_
    refine t_r ?_
    refine end1 rfl (by conv => lhs; whnf) ?_
    exact ⟨by rw [hp], hX⟩
  · try simp only [decide_eq_true_eq, decide_eq_false_iff_not, Bool.not_eq_true, Bool.not_eq_false, Bool.not_eq_eq_eq_not, Bool.not_true, Bool.not_false, Int.not_lt, Int.not_le] at hc5
    refine c_seq ?_
    refine r_plain ?_
    refine p1 (x_loadB ua35 rfl hB2 (hv_sz sz35 a)) ?_
    refine p1 (x_loadB ua35 rfl hB3 (hv_sz sz35 b)) ?_
    refine o_call Try.func94 fn94 fb94 (sha_Less a b _) rfl ?_
    rintro v3 w3 ⟨rfl, hE3⟩
    have hX := hX.ext hE3
    have hB2 := hB2.ext hE3
    have hB3 := hB3.ext hE3
    refine p1 (x_assign (by conv => lhs; whnf)) ?_
    refine r_nil ?_
    refine t_n ?_
    first | refine c_dec rfl (fun hc9 => ?_) (fun hc9 => ?_) | refine c_if rfl (fun hc9 => ?_) (fun hc9 => ?_)
    · try simp only [decide_eq_true_eq, decide_eq_false_iff_not, Bool.not_eq_true, Bool.not_eq_false, Bool.not_eq_eq_eq_not, Bool.not_true, Bool.not_false, Int.not_lt, Int.not_le] at hc9
      have hp : hcmp a b = -1 := by unfold hcmp; rw [if_neg (fun e => hc5 (by rw [e])), if_pos hc9]
      refine c_seq ?_
      refine r_plain ?_
      refine p1 (x_assign (by conv => lhs; whnf)) ?_
      refine r_nil ?_
      refine t_n ?_
      refine c_ret ?_
      refine b_r ?_
      refine t_r ?_
      refine end1 rfl (by conv => lhs; whnf) ?_
      exact ⟨by rw [hp], hX⟩
    · try simp only [decide_eq_true_eq, decide_eq_false_iff_not, Bool.not_eq_true, Bool.not_eq_false, Bool.not_eq_eq_eq_not, Bool.not_true, Bool.not_false, Int.not_lt, Int.not_le] at hc9
      have hp : hcmp a b = 1 := by unfold hcmp; rw [if_neg (fun e => hc5 (by rw [e])), if_neg (by simp [hc9])]
      refine c_skip ?_
      refine b_n ?_
      refine t_n ?_
      refine c_seq ?_
      refine r_plain ?_
      refine p1 (x_assign (by conv => lhs; whnf)) ?_
      refine r_nil ?_
      refine t_n ?_
      refine c_ret ?_
      refine end1 rfl (by conv => lhs; whnf) ?_
      exact ⟨by rw [hp], hX⟩
theorem hashes_Rising (xs : List Hash) (B : Nat) (p : Option Addr) (n c : Nat) (w : World) (hl : Sl kHash 35 B w p n c xs) :
    Ret Try.prog 38 [.slice p n c] w (fun v w' => v = .bool (rising xs) ∧ Ext w w') := by
  have hX := Ext.refl w
  refine enter 21 _ Try.func38 rfl rfl (Nat.le_of_ble_eq_true rfl) ?_
  refine c_seq ?_
  refine r_plain ?_
  refine p1 (x_assign (by conv => lhs; whnf)) ?_
  refine r_nil ?_
  refine t_n ?_
  refine c_seq ?_
  refine c_seq ?_
  refine r_plain ?_
  refine p1 (x_assign (by conv => lhs; whnf)) ?_
  refine r_nil ?_
  refine t_n ?_
  refine c_block ?_
  have hWL0 := Ext.refl w
  have hlen := hl.len
  have hfit := hl.fit
  have hcap := hl.cap
  refine c_loop (ι := Nat) [2, 3, 4, 5, 6, 7, 8, 9, 10, 11, 12, 13, 14, 15, 16, 17, 18, 19, 20] (fun k => [(3, .int .i64 ((k : Int) + 1))]) (fun k w' => Ext w w' ∧ ((k = 0 ∨ k + 1 ≤ n) ∧ risingTo xs k = true)) (fun k => n - k) (0) ⟨rfl, trivial⟩ ⟨Ext.refl _, ⟨.inl rfl, rfl⟩⟩ ?_
  rintro k GL0 w1 ⟨hE1, hk, hL⟩
  have hX := hX.ext hE1
  have hWL0 := hE1
  refine c_seq ?_
  refine c_seq ?_
  refine r_plain ?_
  refine p1 (x_move (by conv => lhs; whnf)) ?_
  refine p1 (x_move (by conv => lhs; whnf)) ?_
  refine p1 (x_len_slice u31 rfl) ?_
  refine p1 (x_lss rfl rfl) ?_
  refine r_nil ?_
  refine t_n ?_
  first | refine c_dec rfl (fun hc7 => ?_) (fun hc7 => ?_) | refine c_if rfl (fun hc7 => ?_) (fun hc7 => ?_)
  · try simp only [decide_eq_true_eq, decide_eq_false_iff_not, Bool.not_eq_true, Bool.not_eq_false, Bool.not_eq_eq_eq_not, Bool.not_true, Bool.not_false, Int.not_lt, Int.not_le] at hc7
    refine c_skip ?_
    refine t_n ?_
    refine c_seq ?_
    refine c_block ?_
    refine c_seq ?_
    refine r_tail 9 mixed (by kernel_rfl) ?_
    intro w2 hE2
    have hX := hX.ext hE2
    have hWL0 := hWL0.ext hE2
    refine s1 (x_move (by conv => lhs; whnf)) ?_
    refine s1 (x_move (by conv => lhs; whnf)) ?_
    refine s1 (x_sub rfl rfl (fits_i64 (by omega) (by omega))) ?_
    refine s1 (x_ixs u31 sz35 rfl rfl ((hl.ext hX).adr kHash_pos (by omega)) (by omega) (by omega)) ?_
    refine s1 (x_loadN ua35 rfl (hcs_sz sz35 _) ((hl.ext hX).hashAt _ (by omega) (by omega))) ?_
    refine s1 (x_move (by conv => lhs; whnf)) ?_
    refine s1 (x_move (by conv => lhs; whnf)) ?_
    refine s1 (x_ixs u31 sz35 rfl rfl ((hl.ext hX).adr kHash_pos (by omega)) (by omega) (by omega)) ?_
    refine s1 (x_loadN ua35 rfl (hcs_sz sz35 _) ((hl.ext hX).hashAt _ (by omega) (by omega))) ?_
    refine s_nil ?_
    refine o_call Try.func94 fn94 fb94 (sha_Less _ _ _) rfl ?_
    rintro v3 w3 ⟨rfl, hE3⟩
    have hX := hX.ext hE3
    have hWL0 := hWL0.ext hE3
    first | refine p1 (x_notd rfl) ?_ | refine p1 (x_not rfl) ?_
    refine r_nil ?_
    refine t_n ?_
    first | refine c_dec rfl (fun hc20 => ?_) (fun hc20 => ?_) | refine c_if rfl (fun hc20 => ?_) (fun hc20 => ?_)
    · try simp only [decide_eq_true_eq, decide_eq_false_iff_not, Bool.not_eq_true, Bool.not_eq_false, Bool.not_eq_eq_eq_not, Bool.not_true, Bool.not_false, Int.not_lt, Int.not_le] at hc20
      rw [show ((k : Int) + 1 - 1).toNat = k from by omega, show ((k : Int) + 1).toNat = k + 1 from by omega] at hc20
      have hp : rising xs = false := rising_no (k := k) (by omega) (by simpa using hc20)
      refine c_seq ?_
      refine r_plain ?_
      refine p1 (x_assign (by conv => lhs; whnf)) ?_
      refine r_nil ?_
      refine t_n ?_
      refine c_ret ?_
      refine b_r ?_
      refine t_r ?_
      refine t_r ?_
      refine b_r ?_
      refine t_r ?_
      refine end1 rfl (by conv => lhs; whnf) ?_
      exact ⟨by rw [hp], hX⟩
    · try simp only [decide_eq_true_eq, decide_eq_false_iff_not, Bool.not_eq_true, Bool.not_eq_false, Bool.not_eq_eq_eq_not, Bool.not_true, Bool.not_false, Int.not_lt, Int.not_le] at hc20
      rw [show ((k : Int) + 1 - 1).toNat = k from by omega, show ((k : Int) + 1).toNat = k + 1 from by omega] at hc20
      have hs : risingTo xs (k + 1) = true := by unfold risingTo; rw [hL]; simpa using hc20
      refine c_skip ?_
      refine b_n ?_
      refine t_n ?_
      refine r_plain ?_
      refine p1 (x_move (by conv => lhs; whnf)) ?_
      refine p1 (x_add rfl rfl (fits_i64 (by omega) (by omega))) ?_
      refine p1 (x_assign (by conv => lhs; whnf)) ?_
      refine r_nil ?_
      refine t_n (At.mk (k + 1) (by repeat (first | exact Agr.refl _ _ | exact Agr.hav _ _ _ | refine Agr.upd rfl ?_ | refine Agr.updL ?_ _ rfl | refine Agr.hav' rfl ?_)) ⟨rfl, trivial⟩ ?_)
      exact ⟨⟨hWL0, ⟨.inr (by omega), hs⟩⟩, by (show _ < _); omega⟩
  · try simp only [decide_eq_true_eq, decide_eq_false_iff_not, Bool.not_eq_true, Bool.not_eq_false, Bool.not_eq_eq_eq_not, Bool.not_true, Bool.not_false, Int.not_lt, Int.not_le] at hc7
    have hp : rising xs = true := by unfold rising; rcases hk with hk | hk; (· rw [show xs.length - 1 = 0 from by omega]; rfl); (· rw [show xs.length - 1 = k from by omega]; exact hL)
    refine c_exit ?_
    refine t_e ?_
    refine t_e ?_
    refine b_hit ?_
    refine t_n ?_
    refine c_seq ?_
    refine r_plain ?_
    refine p1 (x_assign (by conv => lhs; whnf)) ?_
    refine r_nil ?_
    refine t_n ?_
    refine c_ret ?_
    refine end1 rfl (by conv => lhs; whnf) ?_
    exact ⟨by rw [hp], hX⟩
theorem ref06_Rising (xs : List Hash) (B : Nat) (p : Option Addr) (n c : Nat) (w : World) (hl : Sl kHash 35 B w p n c xs) :
    Ret Try.prog 39 [.slice p n c] w (fun v w' => v = .bool (rising xs) ∧ Ext w w') := by
  have hX := Ext.refl w
  refine enter 21 _ Try.func39 rfl rfl (Nat.le_of_ble_eq_true rfl) ?_
  refine c_seq ?_
  refine r_plain ?_
  refine p1 (x_assign (by conv => lhs; whnf)) ?_
  refine r_nil ?_
  refine t_n ?_
  refine c_seq ?_
  refine c_seq ?_
  refine r_plain ?_
  refine p1 (x_assign (by conv => lhs; whnf)) ?_
  refine r_nil ?_
  refine t_n ?_
  refine c_block ?_
  have hWL0 := Ext.refl w
  have hlen := hl.len
  have hfit := hl.fit
  have hcap := hl.cap
  refine c_loop (ι := Nat) [2, 3, 4, 5, 6, 7, 8, 9, 10, 11, 12, 13, 14, 15, 16, 17, 18, 19, 20] (fun k => [(3, .int .i64 ((k : Int) + 1))]) (fun k w' => Ext w w' ∧ ((k = 0 ∨ k + 1 ≤ n) ∧ risingTo xs k = true)) (fun k => n - k) (0) ⟨rfl, trivial⟩ ⟨Ext.refl _, ⟨.inl rfl, rfl⟩⟩ ?_
  rintro k GL0 w1 ⟨hE1, hk, hL⟩
  have hX := hX.ext hE1
  have hWL0 := hE1
  refine c_seq ?_
  refine c_seq ?_
  refine r_plain ?_
  refine p1 (x_move (by conv => lhs; whnf)) ?_
  refine p1 (x_move (by conv => lhs; whnf)) ?_
  refine p1 (x_len_slice u31 rfl) ?_
  refine p1 (x_lss rfl rfl) ?_
  refine r_nil ?_
  refine t_n ?_
  first | refine c_dec rfl (fun hc7 => ?_) (fun hc7 => ?_) | refine c_if rfl (fun hc7 => ?_) (fun hc7 => ?_)
  · try simp only [decide_eq_true_eq, decide_eq_false_iff_not, Bool.not_eq_true, Bool.not_eq_false, Bool.not_eq_eq_eq_not, Bool.not_true, Bool.not_false, Int.not_lt, Int.not_le] at hc7
    refine c_skip ?_
    refine t_n ?_
    refine c_seq ?_
    refine c_block ?_
    refine c_seq ?_
    refine r_tail 9 mixed (by kernel_rfl) ?_
    intro w2 hE2
    have hX := hX.ext hE2
    have hWL0 := hWL0.ext hE2
    refine s1 (x_move (by conv => lhs; whnf)) ?_
    refine s1 (x_move (by conv => lhs; whnf)) ?_
    refine s1 (x_sub rfl rfl (fits_i64 (by omega) (by omega))) ?_
    refine s1 (x_ixs u31 sz35 rfl rfl ((hl.ext hX).adr kHash_pos (by omega)) (by omega) (by omega)) ?_
    refine s1 (x_loadN ua35 rfl (hcs_sz sz35 _) ((hl.ext hX).hashAt _ (by omega) (by omega))) ?_
    refine s1 (x_move (by conv => lhs; whnf)) ?_
    refine s1 (x_move (by conv => lhs; whnf)) ?_
    refine s1 (x_ixs u31 sz35 rfl rfl ((hl.ext hX).adr kHash_pos (by omega)) (by omega) (by omega)) ?_
    refine s1 (x_loadN ua35 rfl (hcs_sz sz35 _) ((hl.ext hX).hashAt _ (by omega) (by omega))) ?_
    refine s_nil ?_
    refine o_call Try.func95 fn95 fb95 (ref01_Less _ _ _) rfl ?_
    rintro v3 w3 ⟨rfl, hE3⟩
    have hX := hX.ext hE3
    have hWL0 := hWL0.ext hE3
    first | refine p1 (x_notd rfl) ?_ | refine p1 (x_not rfl) ?_
    refine r_nil ?_
    refine t_n ?_
    first | refine c_dec rfl (fun hc20 => ?_) (fun hc20 => ?_) | refine c_if rfl (fun hc20 => ?_) (fun hc20 => ?_)
    · try simp only [decide_eq_true_eq, decide_eq_false_iff_not, Bool.not_eq_true, Bool.not_eq_false, Bool.not_eq_eq_eq_not, Bool.not_true, Bool.not_false, Int.not_lt, Int.not_le] at hc20
      rw [show ((k : Int) + 1 - 1).toNat = k from by omega, show ((k : Int) + 1).toNat = k + 1 from by omega] at hc20
      have hp : rising xs = false := rising_no (k := k) (by omega) (by simpa using hc20)
      refine c_seq ?_
      refine r_plain ?_
      refine p1 (x_assign (by conv => lhs; whnf)) ?_
      refine r_nil ?_
      refine t_n ?_
      refine c_ret ?_
      refine b_r ?_
      refine t_r ?_
      refine t_r ?_
      refine b_r ?_
      refine t_r ?_
      refine end1 rfl (by conv => lhs; whnf) ?_
      exact ⟨by rw [hp], hX⟩
    · try simp only [decide_eq_true_eq, decide_eq_false_iff_not, Bool.not_eq_true, Bool.not_eq_false, Bool.not_eq_eq_eq_not, Bool.not_true, Bool.not_false, Int.not_lt, Int.not_le] at hc20
      rw [show ((k : Int) + 1 - 1).toNat = k from by omega, show ((k : Int) + 1).toNat = k + 1 from by omega] at hc20
      have hs : risingTo xs (k + 1) = true := by unfold risingTo; rw [hL]; simpa using hc20
      refine c_skip ?_
      refine b_n ?_
      refine t_n ?_
      refine r_plain ?_
      refine p1 (x_move (by conv => lhs; whnf)) ?_
      refine p1 (x_add rfl rfl (fits_i64 (by omega) (by omega))) ?_
      refine p1 (x_assign (by conv => lhs; whnf)) ?_
      refine r_nil ?_
      refine t_n (At.mk (k + 1) (by repeat (first | exact Agr.refl _ _ | exact Agr.hav _ _ _ | refine Agr.upd rfl ?_ | refine Agr.updL ?_ _ rfl | refine Agr.hav' rfl ?_)) ⟨rfl, trivial⟩ ?_)
      exact ⟨⟨hWL0, ⟨.inr (by omega), hs⟩⟩, by (show _ < _); omega⟩
  · try simp only [decide_eq_true_eq, decide_eq_false_iff_not, Bool.not_eq_true, Bool.not_eq_false, Bool.not_eq_eq_eq_not, Bool.not_true, Bool.not_false, Int.not_lt, Int.not_le] at hc7
    have hp : rising xs = true := by unfold rising; rcases hk with hk | hk; (· rw [show xs.length - 1 = 0 from by omega]; rfl); (· rw [show xs.length - 1 = k from by omega]; exact hL)
    refine c_exit ?_
    refine t_e ?_
    refine t_e ?_
    refine b_hit ?_
    refine t_n ?_
    refine c_seq ?_
    refine r_plain ?_
    refine p1 (x_assign (by conv => lhs; whnf)) ?_
    refine r_nil ?_
    refine t_n ?_
    refine c_ret ?_
    refine end1 rfl (by conv => lhs; whnf) ?_
    exact ⟨by rw [hp], hX⟩
theorem ref06_Same (xs ys : List Hash) (B B2 : Nat) (p q : Option Addr) (n c m c2 : Nat) (w : World) (ha : Sl kHash 35 B w p n c xs) (hb : Sl kHash 35 B2 w q m c2 ys) :
    Ret Try.prog 36 [.slice p n c, .slice q m c2] w (fun v w' => v = .bool (decide (xs = ys)) ∧ Ext w w') := by
  have hX := Ext.refl w
  refine enter 26 _ Try.func36 rfl rfl (Nat.le_of_ble_eq_true rfl) ?_
  refine c_seq ?_
  refine r_plain ?_
  refine p1 (x_assign (by conv => lhs; whnf)) ?_
  refine r_nil ?_
  refine t_n ?_
  refine c_seq ?_
  refine c_seq ?_
  refine r_plain ?_
  refine p1 (x_move (by conv => lhs; whnf)) ?_
  refine p1 (x_len_slice u31 rfl) ?_
  refine p1 (x_move (by conv => lhs; whnf)) ?_
  refine p1 (x_len_slice u31 rfl) ?_
  refine p1 (x_neq rfl rfl) ?_
  refine r_nil ?_
  refine t_n ?_
  first | refine c_dec rfl (fun hc10 => ?_) (fun hc10 => ?_) | refine c_if rfl (fun hc10 => ?_) (fun hc10 => ?_)
  · try simp only [decide_eq_true_eq, decide_eq_false_iff_not, Bool.not_eq_true, Bool.not_eq_false, Bool.not_eq_eq_eq_not, Bool.not_true, Bool.not_false, Int.not_lt, Int.not_le] at hc10
    have hp : decide (xs = ys) = false := decide_eq_false (fun e => hc10 (by have h1 := ha.len; have h2 := hb.len; rw [e] at h1; omega))
    refine c_seq ?_
    refine r_plain ?_
    refine p1 (x_assign (by conv => lhs; whnf)) ?_
    refine r_nil ?_
    refine t_n ?_
    refine c_ret ?_
    refine t_r ?_
    refine end1 rfl (by conv => lhs; whnf) ?_
    exact ⟨by rw [hp], hX⟩
  · try simp only [decide_eq_true_eq, decide_eq_false_iff_not, Bool.not_eq_true, Bool.not_eq_false, Bool.not_eq_eq_eq_not, Bool.not_true, Bool.not_false, Int.not_lt, Int.not_le] at hc10
    refine c_skip ?_
    refine t_n ?_
    refine c_seq ?_
    refine c_seq ?_
    refine r_plain ?_
    refine p1 (x_assign (by conv => lhs; whnf)) ?_
    refine r_nil ?_
    refine t_n ?_
    refine c_block ?_
    have hWL0 := Ext.refl w
    have hlen := ha.len
    have hlen2 := hb.len
    have hfit := ha.fit
    have hcap := ha.cap
    refine c_loop (ι := Nat) [4, 5, 11, 12, 13, 14, 15, 16, 17, 18, 19, 20, 21, 22, 23, 24, 25] (fun k => [(5, .int .i64 (k : Int))]) (fun k w' => Ext w w' ∧ (k ≤ n ∧ ∀ i, i < k → xs.getD i default = ys.getD i default)) (fun k => n - k) (0) ⟨rfl, trivial⟩ ⟨Ext.refl _, ⟨by omega, fun i hi => by omega⟩⟩ ?_
    rintro k GL0 w1 ⟨hE1, hk, hL⟩
    have hX := hX.ext hE1
    have hWL0 := hE1
    refine c_seq ?_
    refine c_seq ?_
    refine r_plain ?_
    refine p1 (x_move (by conv => lhs; whnf)) ?_
    refine p1 (x_move (by conv => lhs; whnf)) ?_
    refine p1 (x_len_slice u31 rfl) ?_
    refine p1 (x_lss rfl rfl) ?_
    refine r_nil ?_
    refine t_n ?_
    first | refine c_dec rfl (fun hc14 => ?_) (fun hc14 => ?_) | refine c_if rfl (fun hc14 => ?_) (fun hc14 => ?_)
    · try simp only [decide_eq_true_eq, decide_eq_false_iff_not, Bool.not_eq_true, Bool.not_eq_false, Bool.not_eq_eq_eq_not, Bool.not_true, Bool.not_false, Int.not_lt, Int.not_le] at hc14
      refine c_skip ?_
      refine t_n ?_
      refine c_seq ?_
      refine c_block ?_
      refine c_seq ?_
      refine r_still mixed (by kernel_rfl) ?_
      intro w2 hE2
      have hX := hX.ext hE2
      have hWL0 := hWL0.ext hE2
      refine s1 (x_move (by conv => lhs; whnf)) ?_
      refine s1 (x_move (by conv => lhs; whnf)) ?_
      refine s1 (x_ixs u31 sz35 rfl rfl ((ha.ext hX).adr kHash_pos (by omega)) (by omega) (by omega)) ?_
      refine s1 (x_loadN ua35 rfl (hcs_sz sz35 _) ((ha.ext hX).hashAt _ (by omega) (by omega))) ?_
      refine s1 (x_move (by conv => lhs; whnf)) ?_
      refine s1 (x_move (by conv => lhs; whnf)) ?_
      refine s1 (x_ixs u31 sz35 rfl rfl ((hb.ext hX).adr kHash_pos (by omega)) (by omega) (by omega)) ?_
      refine s1 (x_loadN ua35 rfl (hcs_sz sz35 _) ((hb.ext hX).hashAt _ (by omega) (by omega))) ?_
      refine s1 (x_neq_bytes u35 u5 sz5 eg35 rfl rfl (xs.getD _ default).2 (ys.getD _ default).2) ?_
      refine s_nil ?_
      refine t_n ?_
      first | refine c_dec rfl (fun hc25 => ?_) (fun hc25 => ?_) | refine c_if rfl (fun hc25 => ?_) (fun hc25 => ?_)
      · try simp only [decide_eq_true_eq, decide_eq_false_iff_not, Bool.not_eq_true, Bool.not_eq_false, Bool.not_eq_eq_eq_not, Bool.not_true, Bool.not_false, Int.not_lt, Int.not_le] at hc25
        have hp : decide (xs = ys) = false := decide_eq_false (fun e => hc25 (by rw [e]))
        refine c_seq ?_
        refine r_plain ?_
        refine p1 (x_assign (by conv => lhs; whnf)) ?_
        refine r_nil ?_
        refine t_n ?_
        refine c_ret ?_
        refine b_r ?_
        refine t_r ?_
        refine t_r ?_
        refine b_r ?_
        refine t_r ?_
        refine end1 rfl (by conv => lhs; whnf) ?_
        exact ⟨by rw [hp], hX⟩
      · try simp only [decide_eq_true_eq, decide_eq_false_iff_not, Bool.not_eq_true, Bool.not_eq_false, Bool.not_eq_eq_eq_not, Bool.not_true, Bool.not_false, Int.not_lt, Int.not_le] at hc25
        have h1 : xs.getD k default = ys.getD k default := Subtype.ext (Classical.byContradiction hc25)
        refine c_skip ?_
        refine b_n ?_
        refine t_n ?_
        refine r_plain ?_
        refine p1 (x_move (by conv => lhs; whnf)) ?_
        refine p1 (x_add rfl rfl (fits_i64 (by omega) (by omega))) ?_
        refine p1 (x_assign (by conv => lhs; whnf)) ?_
        refine r_nil ?_
        refine t_n (At.mk (k + 1) (by repeat (first | exact Agr.refl _ _ | exact Agr.hav _ _ _ | refine Agr.upd rfl ?_ | refine Agr.updL ?_ _ rfl | refine Agr.hav' rfl ?_)) ⟨rfl, trivial⟩ ?_)
        exact ⟨⟨hWL0, ⟨by omega, fun i hi => if h : i < k then hL i h else by rw [show i = k from by omega]; exact h1⟩⟩, by first | (dsimp only; omega) | ((show _ < _); omega)⟩
    · try simp only [decide_eq_true_eq, decide_eq_false_iff_not, Bool.not_eq_true, Bool.not_eq_false, Bool.not_eq_eq_eq_not, Bool.not_true, Bool.not_false, Int.not_lt, Int.not_le] at hc14
      have hp : decide (xs = ys) = true := decide_eq_true (list_eq_of_all (by omega) (fun i hi => hL i (by omega)))
      refine c_exit ?_
      refine t_e ?_
      refine t_e ?_
      refine b_hit ?_
      refine t_n ?_
      refine c_seq ?_
      refine r_plain ?_
      refine p1 (x_assign (by conv => lhs; whnf)) ?_
      refine r_nil ?_
      refine t_n ?_
      refine c_ret ?_
      refine end1 rfl (by conv => lhs; whnf) ?_
      exact ⟨by rw [hp], hX⟩
theorem slices_Equal_hash (xs ys : List Hash) (B B2 : Nat) (p q : Option Addr) (n c m c2 : Nat) (w : World) (ha : Sl kHash 35 B w p n c xs) (hb : Sl kHash 35 B2 w q m c2 ys) :
    Ret Try.prog 88 [.slice p n c, .slice q m c2] w (fun v w' => v = .bool (decide (xs = ys)) ∧ Ext w w') := by
  have hX := Ext.refl w
  refine enter 26 _ Try.func88 rfl rfl (Nat.le_of_ble_eq_true rfl) ?_
  refine c_seq ?_
  refine r_plain ?_
  refine p1 (x_assign (by conv => lhs; whnf)) ?_
  refine r_nil ?_
  refine t_n ?_
  refine c_seq ?_
  refine c_seq ?_
  refine r_plain ?_
  refine p1 (x_move (by conv => lhs; whnf)) ?_
  refine p1 (x_len_slice u31 rfl) ?_
  refine p1 (x_move (by conv => lhs; whnf)) ?_
  refine p1 (x_len_slice u31 rfl) ?_
  refine p1 (x_neq rfl rfl) ?_
  refine r_nil ?_
  refine t_n ?_
  first | refine c_dec rfl (fun hc10 => ?_) (fun hc10 => ?_) | refine c_if rfl (fun hc10 => ?_) (fun hc10 => ?_)
  · try simp only [decide_eq_true_eq, decide_eq_false_iff_not, Bool.not_eq_true, Bool.not_eq_false, Bool.not_eq_eq_eq_not, Bool.not_true, Bool.not_false, Int.not_lt, Int.not_le] at hc10
    have hp : decide (xs = ys) = false := decide_eq_false (fun e => hc10 (by have h1 := ha.len; have h2 := hb.len; rw [e] at h1; omega))
    refine c_seq ?_
    refine r_plain ?_
    refine p1 (x_assign (by conv => lhs; whnf)) ?_
    refine r_nil ?_
    refine t_n ?_
    refine c_ret ?_
    refine t_r ?_
    refine end1 rfl (by conv => lhs; whnf) ?_
    exact ⟨by rw [hp], hX⟩
  · try simp only [decide_eq_true_eq, decide_eq_false_iff_not, Bool.not_eq_true, Bool.not_eq_false, Bool.not_eq_eq_eq_not, Bool.not_true, Bool.not_false, Int.not_lt, Int.not_le] at hc10
    refine c_skip ?_
    refine t_n ?_
    refine c_seq ?_
    refine c_seq ?_
    refine r_plain ?_
    refine p1 (x_move (by conv => lhs; whnf)) ?_
    refine p1 (x_len_slice u31 rfl) ?_
    refine p1 (x_move (by conv => lhs; whnf)) ?_
    refine r_nil ?_
    refine t_n ?_
    refine c_block ?_
    have hWL0 := Ext.refl w
    have hlen := ha.len
    have hlen2 := hb.len
    have hfit := ha.fit
    have hcap := ha.cap
    refine c_loop (ι := Nat) [4, 5, 13, 14, 15, 16, 17, 18, 19, 20, 21, 22, 23, 24, 25] (fun k => [(13, .int .i64 (k : Int))]) (fun k w' => Ext w w' ∧ (k ≤ n ∧ ∀ i, i < k → xs.getD i default = ys.getD i default)) (fun k => n - k) (0) ⟨rfl, trivial⟩ ⟨Ext.refl _, ⟨by omega, fun i hi => by omega⟩⟩ ?_
    rintro k GL0 w1 ⟨hE1, hk, hL⟩
    have hX := hX.ext hE1
    have hWL0 := hE1
    refine c_seq ?_
    refine r_plain ?_
    refine p1 (x_lss rfl rfl) ?_
    refine r_nil ?_
    refine t_n ?_
    refine c_seq ?_
    first | refine c_dec rfl (fun hc14 => ?_) (fun hc14 => ?_) | refine c_if rfl (fun hc14 => ?_) (fun hc14 => ?_)
    · try simp only [decide_eq_true_eq, decide_eq_false_iff_not, Bool.not_eq_true, Bool.not_eq_false, Bool.not_eq_eq_eq_not, Bool.not_true, Bool.not_false, Int.not_lt, Int.not_le] at hc14
      refine c_skip ?_
      refine t_n ?_
      refine c_seq ?_
      refine c_block ?_
      refine c_seq ?_
      refine r_plain ?_
      refine p1 (x_move (by conv => lhs; whnf)) ?_
      refine p1 (x_assign (by conv => lhs; whnf)) ?_
      refine r_nil ?_
      refine t_n ?_
      refine c_seq ?_
      refine r_still mixed (by kernel_rfl) ?_
      intro w2 hE2
      have hX := hX.ext hE2
      have hWL0 := hWL0.ext hE2
      refine s1 (x_move (by conv => lhs; whnf)) ?_
      refine s1 (x_move (by conv => lhs; whnf)) ?_
      refine s1 (x_ixs u31 sz35 rfl rfl ((ha.ext hX).adr kHash_pos (by omega)) (by omega) (by omega)) ?_
      refine s1 (x_loadN ua35 rfl (hcs_sz sz35 _) ((ha.ext hX).hashAt _ (by omega) (by omega))) ?_
      refine s1 (x_move (by conv => lhs; whnf)) ?_
      refine s1 (x_move (by conv => lhs; whnf)) ?_
      refine s1 (x_ixs u31 sz35 rfl rfl ((hb.ext hX).adr kHash_pos (by omega)) (by omega) (by omega)) ?_
      refine s1 (x_loadN ua35 rfl (hcs_sz sz35 _) ((hb.ext hX).hashAt _ (by omega) (by omega))) ?_
      refine s1 (x_neq_bytes u35 u5 sz5 eg35 rfl rfl (xs.getD _ default).2 (ys.getD _ default).2) ?_
      refine s_nil ?_
      refine t_n ?_
      first | refine c_dec rfl (fun hc24 => ?_) (fun hc24 => ?_) | refine c_if rfl (fun hc24 => ?_) (fun hc24 => ?_)
      · try simp only [decide_eq_true_eq, decide_eq_false_iff_not, Bool.not_eq_true, Bool.not_eq_false, Bool.not_eq_eq_eq_not, Bool.not_true, Bool.not_false, Int.not_lt, Int.not_le] at hc24
        have hp : decide (xs = ys) = false := decide_eq_false (fun e => hc24 (by rw [e]))
        refine c_seq ?_
        refine r_plain ?_
        refine p1 (x_assign (by conv => lhs; whnf)) ?_
        refine r_nil ?_
        refine t_n ?_
        refine c_ret ?_
        refine b_r ?_
        refine t_r ?_
        refine t_r ?_
        refine b_r ?_
        refine t_r ?_
        refine end1 rfl (by conv => lhs; whnf) ?_
        exact ⟨by rw [hp], hX⟩
      · try simp only [decide_eq_true_eq, decide_eq_false_iff_not, Bool.not_eq_true, Bool.not_eq_false, Bool.not_eq_eq_eq_not, Bool.not_true, Bool.not_false, Int.not_lt, Int.not_le] at hc24
        have h1 : xs.getD k default = ys.getD k default := Subtype.ext (Classical.byContradiction hc24)
        refine c_skip ?_
        refine b_n ?_
        refine t_n ?_
        refine r_plain ?_
        refine p1 (x_add rfl rfl (fits_i64 (by omega) (by omega))) ?_
        refine p1 (x_move (by conv => lhs; whnf)) ?_
        refine r_nil ?_
        refine t_n (At.mk (k + 1) (by repeat (first | exact Agr.refl _ _ | exact Agr.hav _ _ _ | refine Agr.upd rfl ?_ | refine Agr.updL ?_ _ rfl | refine Agr.hav' rfl ?_)) ⟨rfl, trivial⟩ ?_)
        exact ⟨⟨hWL0, ⟨by omega, fun i hi => if h : i < k then hL i h else by rw [show i = k from by omega]; exact h1⟩⟩, by first | (dsimp only; omega) | ((show _ < _); omega)⟩
    · try simp only [decide_eq_true_eq, decide_eq_false_iff_not, Bool.not_eq_true, Bool.not_eq_false, Bool.not_eq_eq_eq_not, Bool.not_true, Bool.not_false, Int.not_lt, Int.not_le] at hc14
      have hp : decide (xs = ys) = true := decide_eq_true (list_eq_of_all (by omega) (fun i hi => hL i (by omega)))
      refine c_exit ?_
      refine t_e ?_
      refine t_e ?_
      refine b_hit ?_
      refine t_n ?_
      refine c_seq ?_
      refine r_plain ?_
      refine p1 (x_assign (by conv => lhs; whnf)) ?_
      refine r_nil ?_
      refine t_n ?_
      refine c_ret ?_
      refine end1 rfl (by conv => lhs; whnf) ?_
      exact ⟨by rw [hp], hX⟩
theorem ref06_Has (xs : List Hash) (x : Hash) (B : Nat) (p : Option Addr) (n c : Nat) (w : World) (hl : Sl kHash 35 B w p n c xs) :
    Ret Try.prog 42 [.slice p n c, .agg (hv x)] w (fun v w' => v = .bool (decide (x ∈ xs)) ∧ Ext w w') := by
  have hX := Ext.refl w
  refine enter 18 _ Try.func42 rfl rfl (Nat.le_of_ble_eq_true rfl) ?_
  refine c_seq ?_
  refine r_plain ?_
  refine o_boxA (by conv => lhs; whnf) ?_
  intro w1 g3 hN3
  have hE1 := hN3.ext
  have hX := hX.ext hE1
  have hB3 := hN3.blk
  refine p1 (x_assign (by conv => lhs; whnf)) ?_
  refine r_nil ?_
  refine t_n ?_
  refine c_seq ?_
  refine c_seq ?_
  refine r_plain ?_
  refine p1 (x_assign (by conv => lhs; whnf)) ?_
  refine r_nil ?_
  refine t_n ?_
  refine c_block ?_
  have hWL0 := Ext.refl w1
  have hlen := hl.len
  have hfit := hl.fit
  have hcap := hl.cap
  refine c_loop (ι := Nat) [4, 5, 6, 7, 8, 9, 10, 11, 12, 13, 14, 15, 16, 17] (fun k => [(5, .int .i64 (k : Int))]) (fun k w' => Ext w1 w' ∧ (k ≤ n ∧ ∀ i, i < k → xs.getD i default ≠ x)) (fun k => n - k) (0) ⟨rfl, trivial⟩ ⟨Ext.refl _, ⟨by omega, fun i hi => by omega⟩⟩ ?_
  rintro k GL0 w2 ⟨hE2, hk, hL⟩
  have hX := hX.ext hE2
  have hB3 := hB3.ext hE2
  have hWL0 := hE2
  refine c_seq ?_
  refine c_seq ?_
  refine r_plain ?_
  refine p1 (x_move (by conv => lhs; whnf)) ?_
  refine p1 (x_move (by conv => lhs; whnf)) ?_
  refine p1 (x_len_slice u31 rfl) ?_
  refine p1 (x_lss rfl rfl) ?_
  refine r_nil ?_
  refine t_n ?_
  first | refine c_dec rfl (fun hc9 => ?_) (fun hc9 => ?_) | refine c_if rfl (fun hc9 => ?_) (fun hc9 => ?_)
  · try simp only [decide_eq_true_eq, decide_eq_false_iff_not, Bool.not_eq_true, Bool.not_eq_false, Bool.not_eq_eq_eq_not, Bool.not_true, Bool.not_false, Int.not_lt, Int.not_le] at hc9
    refine c_skip ?_
    refine t_n ?_
    refine c_seq ?_
    refine c_block ?_
    refine c_seq ?_
    refine r_still mixed (by kernel_rfl) ?_
    intro w3 hE3
    have hX := hX.ext hE3
    have hB3 := hB3.ext hE3
    have hWL0 := hWL0.ext hE3
    refine s1 (x_move (by conv => lhs; whnf)) ?_
    refine s1 (x_move (by conv => lhs; whnf)) ?_
    refine s1 (x_ixs u31 sz35 rfl rfl ((hl.ext hX).adr kHash_pos (by omega)) (by omega) (by omega)) ?_
    refine s1 (x_loadN ua35 rfl (hcs_sz sz35 _) ((hl.ext hX).hashAt _ (by omega) (by omega))) ?_
    refine s1 (x_loadB ua35 rfl hB3 (hv_sz sz35 x)) ?_
    refine s1 (x_eql_bytes u35 u5 sz5 eg35 rfl rfl (xs.getD _ default).2 x.2) ?_
    refine s_nil ?_
    refine t_n ?_
    first | refine c_dec rfl (fun hc17 => ?_) (fun hc17 => ?_) | refine c_if rfl (fun hc17 => ?_) (fun hc17 => ?_)
    · try simp only [decide_eq_true_eq, decide_eq_false_iff_not, Bool.not_eq_true, Bool.not_eq_false, Bool.not_eq_eq_eq_not, Bool.not_true, Bool.not_false, Int.not_lt, Int.not_le] at hc17
      have hp : decide (x ∈ xs) = true := decide_eq_true (mem_of_getD (i := k) (by omega) (Subtype.ext hc17))
      refine c_seq ?_
      refine r_plain ?_
      refine p1 (x_assign (by conv => lhs; whnf)) ?_
      refine r_nil ?_
      refine t_n ?_
      refine c_ret ?_
      refine b_r ?_
      refine t_r ?_
      refine t_r ?_
      refine b_r ?_
      refine t_r ?_
      refine end1 rfl (by conv => lhs; whnf) ?_
      exact ⟨by rw [hp], hX⟩
    · try simp only [decide_eq_true_eq, decide_eq_false_iff_not, Bool.not_eq_true, Bool.not_eq_false, Bool.not_eq_eq_eq_not, Bool.not_true, Bool.not_false, Int.not_lt, Int.not_le] at hc17
      have h1 : xs.getD k default ≠ x := fun e => hc17 (by rw [← e]; rfl)
      refine c_skip ?_
      refine b_n ?_
      refine t_n ?_
      refine r_plain ?_
      refine p1 (x_move (by conv => lhs; whnf)) ?_
      refine p1 (x_add rfl rfl (fits_i64 (by omega) (by omega))) ?_
      refine p1 (x_assign (by conv => lhs; whnf)) ?_
      refine r_nil ?_
      refine t_n (At.mk (k + 1) (by repeat (first | exact Agr.refl _ _ | exact Agr.hav _ _ _ | refine Agr.upd rfl ?_ | refine Agr.updL ?_ _ rfl | refine Agr.hav' rfl ?_)) ⟨rfl, trivial⟩ ?_)
      exact ⟨⟨hWL0, ⟨by omega, fun i hi => if h : i < k then hL i h else by rw [show i = k from by omega]; exact h1⟩⟩, by first | (dsimp only; omega) | ((show _ < _); omega)⟩
  · try simp only [decide_eq_true_eq, decide_eq_false_iff_not, Bool.not_eq_true, Bool.not_eq_false, Bool.not_eq_eq_eq_not, Bool.not_true, Bool.not_false, Int.not_lt, Int.not_le] at hc9
    have hp : decide (x ∈ xs) = false := decide_eq_false (not_mem_of_getD (fun i hi => hL i (by omega)))
    refine c_exit ?_
    refine t_e ?_
    refine t_e ?_
    refine b_hit ?_
    refine t_n ?_
    refine c_seq ?_
    refine r_plain ?_
    refine p1 (x_assign (by conv => lhs; whnf)) ?_
    refine r_nil ?_
    refine t_n ?_
    refine c_ret ?_
    refine end1 rfl (by conv => lhs; whnf) ?_
    exact ⟨by rw [hp], hX⟩
theorem slices_Index_hash (xs : List Hash) (x : Hash) (B : Nat) (p : Option Addr) (n c : Nat) (w : World) (hl : Sl kHash 35 B w p n c xs) :
    Ret Try.prog 122 [.slice p n c, .agg (hv x)] w (fun v w' => (∃ i : Int, v = .int .i64 i ∧ (0 ≤ i ↔ x ∈ xs)) ∧ Ext w w') := by
  have hX := Ext.refl w
  refine enter 19 _ Try.func122 rfl rfl (Nat.le_of_ble_eq_true rfl) ?_
  refine c_seq ?_
  refine r_plain ?_
  refine o_boxA (by conv => lhs; whnf) ?_
  intro w1 g3 hN3
  have hE1 := hN3.ext
  have hX := hX.ext hE1
  have hB3 := hN3.blk
  refine p1 (x_assign (by conv => lhs; whnf)) ?_
  refine r_nil ?_
  refine t_n ?_
  refine c_seq ?_
  refine c_seq ?_
  refine r_plain ?_
  refine p1 (x_move (by conv => lhs; whnf)) ?_
  refine p1 (x_len_slice u31 rfl) ?_
  refine p1 (x_move (by conv => lhs; whnf)) ?_
  refine r_nil ?_
  refine t_n ?_
  refine c_block ?_
  have hWL0 := Ext.refl w1
  have hlen := hl.len
  have hfit := hl.fit
  have hcap := hl.cap
  refine c_loop (ι := Nat) [4, 5, 8, 9, 10, 11, 12, 13, 14, 15, 16, 17, 18] (fun k => [(8, .int .i64 (k : Int))]) (fun k w' => Ext w1 w' ∧ (k ≤ n ∧ ∀ i, i < k → xs.getD i default ≠ x)) (fun k => n - k) (0) ⟨rfl, trivial⟩ ⟨Ext.refl _, ⟨by omega, fun i hi => by omega⟩⟩ ?_
  rintro k GL0 w2 ⟨hE2, hk, hL⟩
  have hX := hX.ext hE2
  have hB3 := hB3.ext hE2
  have hWL0 := hE2
  refine c_seq ?_
  refine r_plain ?_
  refine p1 (x_lss rfl rfl) ?_
  refine r_nil ?_
  refine t_n ?_
  refine c_seq ?_
  first | refine c_dec rfl (fun hc9 => ?_) (fun hc9 => ?_) | refine c_if rfl (fun hc9 => ?_) (fun hc9 => ?_)
  · try simp only [decide_eq_true_eq, decide_eq_false_iff_not, Bool.not_eq_true, Bool.not_eq_false, Bool.not_eq_eq_eq_not, Bool.not_true, Bool.not_false, Int.not_lt, Int.not_le] at hc9
    refine c_skip ?_
    refine t_n ?_
    refine c_seq ?_
    refine c_block ?_
    refine c_seq ?_
    refine r_plain ?_
    refine p1 (x_move (by conv => lhs; whnf)) ?_
    refine p1 (x_assign (by conv => lhs; whnf)) ?_
    refine r_nil ?_
    refine t_n ?_
    refine c_seq ?_
    refine r_still mixed (by kernel_rfl) ?_
    intro w3 hE3
    have hX := hX.ext hE3
    have hB3 := hB3.ext hE3
    have hWL0 := hWL0.ext hE3
    refine s1 (x_loadB ua35 rfl hB3 (hv_sz sz35 x)) ?_
    refine s1 (x_move (by conv => lhs; whnf)) ?_
    refine s1 (x_move (by conv => lhs; whnf)) ?_
    refine s1 (x_ixs u31 sz35 rfl rfl ((hl.ext hX).adr kHash_pos (by omega)) (by omega) (by omega)) ?_
    refine s1 (x_loadN ua35 rfl (hcs_sz sz35 _) ((hl.ext hX).hashAt _ (by omega) (by omega))) ?_
    refine s1 (x_eql_bytes u35 u5 sz5 eg35 rfl rfl x.2 (xs.getD _ default).2) ?_
    refine s_nil ?_
    refine t_n ?_
    first | refine c_dec rfl (fun hc16 => ?_) (fun hc16 => ?_) | refine c_if rfl (fun hc16 => ?_) (fun hc16 => ?_)
    · try simp only [decide_eq_true_eq, decide_eq_false_iff_not, Bool.not_eq_true, Bool.not_eq_false, Bool.not_eq_eq_eq_not, Bool.not_true, Bool.not_false, Int.not_lt, Int.not_le] at hc16
      have hp : ∃ i : Int, Value.int .i64 (k : Int) = .int .i64 i ∧ (0 ≤ i ↔ x ∈ xs) := ⟨k, rfl, ⟨fun _ => mem_of_getD (i := k) (by omega) (Subtype.ext hc16.symm), fun _ => by omega⟩⟩
      refine c_seq ?_
      refine r_plain ?_
      refine p1 (x_move (by conv => lhs; whnf)) ?_
      refine p1 (x_assign (by conv => lhs; whnf)) ?_
      refine r_nil ?_
      refine t_n ?_
      refine c_ret ?_
      refine b_r ?_
      refine t_r ?_
      refine t_r ?_
      refine b_r ?_
      refine t_r ?_
      refine end1 rfl (by conv => lhs; whnf) ?_
      exact ⟨hp, hX⟩
    · try simp only [decide_eq_true_eq, decide_eq_false_iff_not, Bool.not_eq_true, Bool.not_eq_false, Bool.not_eq_eq_eq_not, Bool.not_true, Bool.not_false, Int.not_lt, Int.not_le] at hc16
      have h1 : xs.getD k default ≠ x := fun e => hc16 (by rw [← e]; rfl)
      refine c_skip ?_
      refine b_n ?_
      refine t_n ?_
      refine r_plain ?_
      refine p1 (x_add rfl rfl (fits_i64 (by omega) (by omega))) ?_
      refine p1 (x_move (by conv => lhs; whnf)) ?_
      refine r_nil ?_
      refine t_n (At.mk (k + 1) (by repeat (first | exact Agr.refl _ _ | exact Agr.hav _ _ _ | refine Agr.upd rfl ?_ | refine Agr.updL ?_ _ rfl | refine Agr.hav' rfl ?_)) ⟨rfl, trivial⟩ ?_)
      exact ⟨⟨hWL0, ⟨by omega, fun i hi => if h : i < k then hL i h else by rw [show i = k from by omega]; exact h1⟩⟩, by first | (dsimp only; omega) | ((show _ < _); omega)⟩
  · try simp only [decide_eq_true_eq, decide_eq_false_iff_not, Bool.not_eq_true, Bool.not_eq_false, Bool.not_eq_eq_eq_not, Bool.not_true, Bool.not_false, Int.not_lt, Int.not_le] at hc9
    have hp : ∃ i : Int, Value.int .i64 (-1 : Int) = .int .i64 i ∧ (0 ≤ i ↔ x ∈ xs) := ⟨-1, rfl, ⟨fun h => absurd h (by decide), fun h => absurd h (not_mem_of_getD (fun i hi => hL i (by omega)))⟩⟩
    refine c_exit ?_
    refine t_e ?_
    refine t_e ?_
    refine b_hit ?_
    refine t_n ?_
    refine c_seq ?_
    refine r_plain ?_
    refine p1 (x_assign (by conv => lhs; whnf)) ?_
    refine r_nil ?_
    refine t_n ?_
    refine c_ret ?_
    refine end1 rfl (by conv => lhs; whnf) ?_
    exact ⟨hp, hX⟩
theorem slices_Contains_hash (xs : List Hash) (x : Hash) (B : Nat) (p : Option Addr) (n c : Nat) (w : World) (hl : Sl kHash 35 B w p n c xs) :
    Ret Try.prog 96 [.slice p n c, .agg (hv x)] w (fun v w' => v = .bool (decide (x ∈ xs)) ∧ Ext w w') := by
  have hX := Ext.refl w
  refine enter 9 _ Try.func96 rfl rfl (Nat.le_of_ble_eq_true rfl) ?_
  refine c_seq ?_
  refine r_plain ?_
  refine o_boxA (by conv => lhs; whnf) ?_
  intro w1 g3 hN3
  have hE1 := hN3.ext
  have hX := hX.ext hE1
  have hB3 := hN3.blk
  refine p1 (x_assign (by conv => lhs; whnf)) ?_
  refine r_nil ?_
  refine t_n ?_
  refine c_seq ?_
  refine r_plain ?_
  refine p1 (x_move (by conv => lhs; whnf)) ?_
  refine p1 (x_loadB ua35 rfl hB3 (hv_sz sz35 x)) ?_
  refine o_call Try.func122 fn122 fb122 (slices_Index_hash xs x B p n c _ (hl.ext hX)) rfl ?_
  rintro v2 w2 ⟨⟨i2, rfl, hi2⟩, hE2⟩
  have hX := hX.ext hE2
  have hB3 := hB3.ext hE2
  refine p1 (x_geq rfl rfl) ?_
  refine p1 (x_assign (by conv => lhs; whnf)) ?_
  refine r_nil ?_
  refine t_n ?_
  refine c_ret ?_
  refine end1 rfl (by conv => lhs; whnf) ?_
  exact ⟨by rw [decide_eq_decide.2 hi2], hX⟩
end Go.Proofs.Eng
