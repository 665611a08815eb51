import Derived.Test.YtjbfgmkemideiaaB1
import Derived.Test.YtjbfgmkemideiaaB2
set_option linter.unusedVariables false
set_option linter.unusedSimpArgs false
set_option maxRecDepth 100000
set_option maxHeartbeats 4000000
namespace Go.Proofs.Eng
open Go.RowKit
open Extern.Stop (cell)
theorem law_HashesSets (xs ys : List Hash) (B B2 : Nat) (p q : Option Addr) (n c m c2 : Nat) (w : World) (ha : Sl kHash 35 B w p n c xs) (hb : Sl kHash 35 B2 w q m c2 ys) :
    Ret Try.prog 11 [.slice p n c, .slice q m c2] w (fun v w' => v = .bool true ∧ Ext w w') := by
  have hX := Ext.refl w
  refine enter 42 _ Try.func11 rfl rfl (Nat.le_of_ble_eq_true rfl) ?_
  refine c_seq ?_
  refine r_plain ?_
  refine p1 (x_assign (by conv => lhs; whnf)) ?_
  refine r_nil ?_
  refine t_n ?_
  refine c_seq ?_
  refine c_seq ?_
  refine r_plain ?_
  refine p1 (x_move (by conv => lhs; whnf)) ?_
  refine o_call Try.func34 fn34 fb34 (law06_few xs _ _ _ _ _ (ha.ext hX)) rfl ?_
  rintro v1 w1 ⟨rfl, hE1⟩
  have hX := hX.ext hE1
  first | refine p1 (x_notd rfl) ?_ | refine p1 (x_not rfl) ?_
  refine p1b (x_move (by conv => lhs; whnf)) (fun hb1_3 => ?_) (fun hb1_3 => ?_)
  · try simp only [decide_eq_true_eq, decide_eq_false_iff_not, Bool.not_eq_true, Bool.not_eq_false, Bool.not_eq_eq_eq_not, Bool.not_true, Bool.not_false, Int.not_lt, Int.not_le] at hb1_3
    refine g0 8 rfl (by first | exact .inl rfl | exact .inr rfl) ?_
    refine g0 8 rfl (by first | exact .inl rfl | exact .inr rfl) ?_
    refine g0 8 rfl (by first | exact .inl rfl | exact .inr rfl) ?_
    refine p1 (x_pick_t rfl (by conv => lhs; whnf)) ?_
    refine r_nil ?_
    refine t_n ?_
    refine c_t rfl ?_
    refine c_seq ?_
    refine r_plain ?_
    refine o_call Try.func33 fn33 fb33 (law06_awake _) rfl ?_
    rintro v2 w2 ⟨rfl, hE2⟩
    have hX := hX.ext hE2
    refine p1 (x_assign (by conv => lhs; whnf)) ?_
    refine r_nil ?_
    refine t_n ?_
    refine c_ret ?_
    refine t_r ?_
    refine end1 rfl (by conv => lhs; whnf) ?_
    exact ⟨rfl, hX⟩
  · try simp only [decide_eq_true_eq, decide_eq_false_iff_not, Bool.not_eq_true, Bool.not_eq_false, Bool.not_eq_eq_eq_not, Bool.not_true, Bool.not_false, Int.not_lt, Int.not_le] at hb1_3
    refine g1 8 rfl rfl (x_move (by conv => lhs; whnf)) ?_
    refine g_drop 8 rfl rfl ?_
    refine o_call Try.func34 fn34 fb34 (law06_few ys _ _ _ _ _ (hb.ext hX)) rfl ?_
    rintro v3 w3 ⟨rfl, hE3⟩
    have hX := hX.ext hE3
    first | refine g1 8 rfl rfl (x_notd rfl) ?_ | refine g1 8 rfl rfl (x_not rfl) ?_
    refine p1 (x_pick_f rfl (by conv => lhs; whnf)) ?_
    refine r_nil ?_
    refine t_n ?_
    first | refine c_dec rfl (fun hc12 => ?_) (fun hc12 => ?_) | refine c_if rfl (fun hc12 => ?_) (fun hc12 => ?_)
    · try simp only [decide_eq_true_eq, decide_eq_false_iff_not, Bool.not_eq_true, Bool.not_eq_false, Bool.not_eq_eq_eq_not, Bool.not_true, Bool.not_false, Int.not_lt, Int.not_le] at hc12
      refine c_seq ?_
      refine r_plain ?_
      refine o_call Try.func33 fn33 fb33 (law06_awake _) rfl ?_
      rintro v4 w4 ⟨rfl, hE4⟩
      have hX := hX.ext hE4
      refine p1 (x_assign (by conv => lhs; whnf)) ?_
      refine r_nil ?_
      refine t_n ?_
      refine c_ret ?_
      refine t_r ?_
      refine end1 rfl (by conv => lhs; whnf) ?_
      exact ⟨rfl, hX⟩
    · try simp only [decide_eq_true_eq, decide_eq_false_iff_not, Bool.not_eq_true, Bool.not_eq_false, Bool.not_eq_eq_eq_not, Bool.not_true, Bool.not_false, Int.not_lt, Int.not_le] at hc12
      refine c_skip ?_
      refine t_n ?_
      refine c_seq ?_
      refine r_plain ?_
      refine p1 (x_move (by conv => lhs; whnf)) ?_
      refine p1 (x_move (by conv => lhs; whnf)) ?_
      refine o_call Try.func56 fn56 fb56 (hashes_Union xs ys _ _ _ _ _ _ _ _ _ (ha.ext hX) (hb.ext hX) (by omega) (by omega)) rfl ?_
      rintro v5 w5 ⟨⟨qU1, mU1, cU1, rfl, hmU1, hU1⟩, hE5⟩
      have hX := hX.ext hE5
      refine p1 (x_move (by conv => lhs; whnf)) ?_
      refine p1 (x_move (by conv => lhs; whnf)) ?_
      refine o_call Try.func57 fn57 fb57 (ref06_Union xs ys _ _ _ _ _ _ _ _ _ (ha.ext hX) (hb.ext hX) (by omega) (by omega)) rfl ?_
      rintro v6 w6 ⟨⟨qU2, mU2, cU2, rfl, hmU2, hU2⟩, hE6⟩
      have hX := hX.ext hE6
      have hU1 := hU1.ext hE6
      refine o_call Try.func36 fn36 fb36 ((ref06_Same _ _ _ _ _ _ _ _ _ _ _ hU1.sl hU2).known (c := .bool true) (congrArg Value.bool (decide_eq_true rfl))) rfl ?_
      rintro v7 w7 ⟨rfl, hE7⟩
      have hX := hX.ext hE7
      have hU1 := hU1.ext hE7
      have hU2 := hU2.ext hE7
      refine p1 (x_move (by conv => lhs; whnf)) ?_
      refine g1 21 rfl rfl (x_move (by conv => lhs; whnf)) ?_
      refine g1 21 rfl rfl (x_move (by conv => lhs; whnf)) ?_
      refine g_drop 21 rfl rfl ?_
      refine o_call Try.func58 fn58 fb58 (hashes_Minus xs ys _ _ _ _ _ _ _ _ _ (ha.ext hX) (hb.ext hX) (by omega) (by omega)) rfl ?_
      rintro v8 w8 ⟨⟨qV1, mV1, cV1, rfl, hmV1, hV1⟩, hE8⟩
      have hX := hX.ext hE8
      have hU1 := hU1.ext hE8
      have hU2 := hU2.ext hE8
      refine g1 21 rfl rfl (x_move (by conv => lhs; whnf)) ?_
      refine g1 21 rfl rfl (x_move (by conv => lhs; whnf)) ?_
      refine g_drop 21 rfl rfl ?_
      refine o_call Try.func59 fn59 fb59 (ref06_Minus xs ys _ _ _ _ _ _ _ _ _ (ha.ext hX) (hb.ext hX) (by omega) (by omega)) rfl ?_
      rintro v9 w9 ⟨⟨qV2, mV2, cV2, rfl, hmV2, hV2⟩, hE9⟩
      have hX := hX.ext hE9
      have hU1 := hU1.ext hE9
      have hU2 := hU2.ext hE9
      have hV1 := hV1.ext hE9
      refine g_drop 21 rfl rfl ?_
      refine o_call Try.func36 fn36 fb36 ((ref06_Same _ _ _ _ _ _ _ _ _ _ _ hV1.sl hV2).known (c := .bool true) (congrArg Value.bool (decide_eq_true rfl))) rfl ?_
      rintro v10 w10 ⟨rfl, hE10⟩
      have hX := hX.ext hE10
      have hU1 := hU1.ext hE10
      have hU2 := hU2.ext hE10
      have hV1 := hV1.ext hE10
      have hV2 := hV2.ext hE10
      refine p1 (x_pick_t rfl (by conv => lhs; whnf)) ?_
      refine p1 (x_move (by conv => lhs; whnf)) ?_
      refine g1 30 rfl rfl (x_move (by conv => lhs; whnf)) ?_
      refine g1 30 rfl rfl (x_move (by conv => lhs; whnf)) ?_
      refine g_drop 30 rfl rfl ?_
      refine o_call Try.func60 fn60 fb60 (hashes_Meet xs ys _ _ _ _ _ _ _ _ _ (ha.ext hX) (hb.ext hX) (by omega) (by omega)) rfl ?_
      rintro v11 w11 ⟨⟨qW1, mW1, cW1, rfl, hmW1, hW1⟩, hE11⟩
      have hX := hX.ext hE11
      have hU1 := hU1.ext hE11
      have hU2 := hU2.ext hE11
      have hV1 := hV1.ext hE11
      have hV2 := hV2.ext hE11
      refine g1 30 rfl rfl (x_move (by conv => lhs; whnf)) ?_
      refine g1 30 rfl rfl (x_move (by conv => lhs; whnf)) ?_
      refine g_drop 30 rfl rfl ?_
      refine o_call Try.func61 fn61 fb61 (ref06_Meet xs ys _ _ _ _ _ _ _ _ _ (ha.ext hX) (hb.ext hX) (by omega) (by omega)) rfl ?_
      rintro v12 w12 ⟨⟨qW2, mW2, cW2, rfl, hmW2, hW2⟩, hE12⟩
      have hX := hX.ext hE12
      have hU1 := hU1.ext hE12
      have hU2 := hU2.ext hE12
      have hV1 := hV1.ext hE12
      have hV2 := hV2.ext hE12
      have hW1 := hW1.ext hE12
      refine g_drop 30 rfl rfl ?_
      refine o_call Try.func36 fn36 fb36 ((ref06_Same _ _ _ _ _ _ _ _ _ _ _ hW1.sl hW2).known (c := .bool true) (congrArg Value.bool (decide_eq_true rfl))) rfl ?_
      rintro v13 w13 ⟨rfl, hE13⟩
      have hX := hX.ext hE13
      have hU1 := hU1.ext hE13
      have hU2 := hU2.ext hE13
      have hV1 := hV1.ext hE13
      have hV2 := hV2.ext hE13
      have hW1 := hW1.ext hE13
      have hW2 := hW2.ext hE13
      refine p1 (x_pick_t rfl (by conv => lhs; whnf)) ?_
      refine p1 (x_move (by conv => lhs; whnf)) ?_
      refine g_drop 39 rfl rfl ?_
      refine o_call Try.func33 fn33 fb33 (law06_awake _) rfl ?_
      rintro v14 w14 ⟨rfl, hE14⟩
      have hX := hX.ext hE14
      have hU1 := hU1.ext hE14
      have hU2 := hU2.ext hE14
      have hV1 := hV1.ext hE14
      have hV2 := hV2.ext hE14
      have hW1 := hW1.ext hE14
      have hW2 := hW2.ext hE14
      refine p1 (x_pick_t rfl (by conv => lhs; whnf)) ?_
      refine p1 (x_assign (by conv => lhs; whnf)) ?_
      refine r_nil ?_
      refine t_n ?_
      refine c_ret ?_
      refine end1 rfl (by conv => lhs; whnf) ?_
      exact ⟨rfl, hX⟩
end Go.Proofs.Eng
