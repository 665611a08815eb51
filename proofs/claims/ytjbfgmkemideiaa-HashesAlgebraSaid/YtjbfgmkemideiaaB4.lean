import Derived.Test.YtjbfgmkemideiaaB1
import Derived.Test.YtjbfgmkemideiaaA5
set_option linter.unusedVariables false
set_option linter.unusedSimpArgs false
set_option maxRecDepth 100000
set_option maxHeartbeats 4000000
namespace Go.Proofs.Eng
open Go.RowKit
open Extern.Stop (cell)
theorem law_HashesAlgebra (xs ys zs : List Hash) (B B2 B3 : Nat) (p q r : Option Addr) (n c m c2 l c3 : Nat) (w : World) (ha : Sl kHash 35 B w p n c xs) (hb : Sl kHash 35 B2 w q m c2 ys) (hc : Sl kHash 35 B3 w r l c3 zs) :
    Ret Try.prog 16 [.slice p n c, .slice q m c2, .slice r l c3] w (fun v w' => v = .bool true ∧ Ext w w') := by
  have hX := Ext.refl w
  refine enter 123 _ Try.func16 rfl rfl (Nat.le_of_ble_eq_true rfl) ?_
  refine c_seq ?_
  refine r_plain ?_
  refine p1 (x_assign (by conv => lhs; whnf)) ?_
  refine r_nil ?_
  refine t_n ?_
  refine c_seq ?_
  refine c_seq ?_
  refine r_plain ?_
  refine p1 (x_move (by conv => lhs; whnf)) ?_
  refine o_call Try.func34 fn34 fb34 (law06_few xs _ _ _ _ _ (ha.ext hX)) rfl ?_
  rintro v1 w1 ⟨rfl, hE1⟩
  have hX := hX.ext hE1
  first | refine p1 (x_notd rfl) ?_ | refine p1 (x_not rfl) ?_
  refine p1b (x_move (by conv => lhs; whnf)) (fun hb1_3 => ?_) (fun hb1_3 => ?_)
  · try simp only [decide_eq_true_eq, decide_eq_false_iff_not, Bool.not_eq_true, Bool.not_eq_false, Bool.not_eq_eq_eq_not, Bool.not_true, Bool.not_false, Int.not_lt, Int.not_le] at hb1_3
    refine g0 14 rfl (by first | exact .inl rfl | exact .inr rfl) ?_
    refine g0 14 rfl (by first | exact .inl rfl | exact .inr rfl) ?_
    refine g0 14 rfl (by first | exact .inl rfl | exact .inr rfl) ?_
    refine p1 (x_pick_t rfl (by conv => lhs; whnf)) ?_
    refine p1 (x_move (by conv => lhs; whnf)) ?_
    refine g0 19 rfl (by first | exact .inl rfl | exact .inr rfl) ?_
    refine g0 19 rfl (by first | exact .inl rfl | exact .inr rfl) ?_
    refine g0 19 rfl (by first | exact .inl rfl | exact .inr rfl) ?_
    refine p1 (x_pick_t rfl (by conv => lhs; whnf)) ?_
    refine r_nil ?_
    refine t_n ?_
    refine c_t rfl ?_
    refine c_seq ?_
    refine r_plain ?_
    refine o_call Try.func33 fn33 fb33 (law06_awake _) rfl ?_
    rintro v2 w2 ⟨rfl, hE2⟩
    have hX := hX.ext hE2
    refine p1 (x_assign (by conv => lhs; whnf)) ?_
    refine r_nil ?_
    refine t_n ?_
    refine c_ret ?_
    refine t_r ?_
    refine end1 rfl (by conv => lhs; whnf) ?_
    exact ⟨rfl, hX⟩
  · try simp only [decide_eq_true_eq, decide_eq_false_iff_not, Bool.not_eq_true, Bool.not_eq_false, Bool.not_eq_eq_eq_not, Bool.not_true, Bool.not_false, Int.not_lt, Int.not_le] at hb1_3
    refine g1 14 rfl rfl (x_move (by conv => lhs; whnf)) ?_
    refine g_drop 14 rfl rfl ?_
    refine o_call Try.func34 fn34 fb34 (law06_few ys _ _ _ _ _ (hb.ext hX)) rfl ?_
    rintro v3 w3 ⟨rfl, hE3⟩
    have hX := hX.ext hE3
    first | refine g1 14 rfl rfl (x_notd rfl) ?_ | refine g1 14 rfl rfl (x_not rfl) ?_
    refine p1 (x_pick_f rfl (by conv => lhs; whnf)) ?_
    refine p1b (x_move (by conv => lhs; whnf)) (fun hb1_8 => ?_) (fun hb1_8 => ?_)
    · try simp only [decide_eq_true_eq, decide_eq_false_iff_not, Bool.not_eq_true, Bool.not_eq_false, Bool.not_eq_eq_eq_not, Bool.not_true, Bool.not_false, Int.not_lt, Int.not_le] at hb1_8
      refine g0 19 rfl (by first | exact .inl rfl | exact .inr rfl) ?_
      refine g0 19 rfl (by first | exact .inl rfl | exact .inr rfl) ?_
      refine g0 19 rfl (by first | exact .inl rfl | exact .inr rfl) ?_
      refine p1 (x_pick_t rfl (by conv => lhs; whnf)) ?_
      refine r_nil ?_
      refine t_n ?_
      refine c_t rfl ?_
      refine c_seq ?_
      refine r_plain ?_
      refine o_call Try.func33 fn33 fb33 (law06_awake _) rfl ?_
      rintro v4 w4 ⟨rfl, hE4⟩
      have hX := hX.ext hE4
      refine p1 (x_assign (by conv => lhs; whnf)) ?_
      refine r_nil ?_
      refine t_n ?_
      refine c_ret ?_
      refine t_r ?_
      refine end1 rfl (by conv => lhs; whnf) ?_
      exact ⟨rfl, hX⟩
    · try simp only [decide_eq_true_eq, decide_eq_false_iff_not, Bool.not_eq_true, Bool.not_eq_false, Bool.not_eq_eq_eq_not, Bool.not_true, Bool.not_false, Int.not_lt, Int.not_le] at hb1_8
      refine g1 19 rfl rfl (x_move (by conv => lhs; whnf)) ?_
      refine g_drop 19 rfl rfl ?_
      refine o_call Try.func34 fn34 fb34 (law06_few zs _ _ _ _ _ (hc.ext hX)) rfl ?_
      rintro v5 w5 ⟨rfl, hE5⟩
      have hX := hX.ext hE5
      first | refine g1 19 rfl rfl (x_notd rfl) ?_ | refine g1 19 rfl rfl (x_not rfl) ?_
      refine p1 (x_pick_f rfl (by conv => lhs; whnf)) ?_
      refine r_nil ?_
      refine t_n ?_
      first | refine c_dec rfl (fun hc23 => ?_) (fun hc23 => ?_) | refine c_if rfl (fun hc23 => ?_) (fun hc23 => ?_)
      · try simp only [decide_eq_true_eq, decide_eq_false_iff_not, Bool.not_eq_true, Bool.not_eq_false, Bool.not_eq_eq_eq_not, Bool.not_true, Bool.not_false, Int.not_lt, Int.not_le] at hc23
        refine c_seq ?_
        refine r_plain ?_
        refine o_call Try.func33 fn33 fb33 (law06_awake _) rfl ?_
        rintro v6 w6 ⟨rfl, hE6⟩
        have hX := hX.ext hE6
        refine p1 (x_assign (by conv => lhs; whnf)) ?_
        refine r_nil ?_
        refine t_n ?_
        refine c_ret ?_
        refine t_r ?_
        refine end1 rfl (by conv => lhs; whnf) ?_
        exact ⟨rfl, hX⟩
      · try simp only [decide_eq_true_eq, decide_eq_false_iff_not, Bool.not_eq_true, Bool.not_eq_false, Bool.not_eq_eq_eq_not, Bool.not_true, Bool.not_false, Int.not_lt, Int.not_le] at hc23
        refine c_skip ?_
        refine t_n ?_
        refine c_seq ?_
        refine r_plain ?_
        refine p1 (x_move (by conv => lhs; whnf)) ?_
        refine p1 (x_move (by conv => lhs; whnf)) ?_
        refine o_call Try.func56 fn56 fb56 (hashes_Union xs ys _ _ _ _ _ _ _ _ _ (ha.ext hX) (hb.ext hX) (by omega) (by omega)) rfl ?_
        rintro v7 w7 ⟨⟨qU, mU, cU, rfl, hmU, hU⟩, hE7⟩
        have hX := hX.ext hE7
        refine p1 (x_move (by conv => lhs; whnf)) ?_
        refine p1 (x_move (by conv => lhs; whnf)) ?_
        refine o_call Try.func60 fn60 fb60 (hashes_Meet xs ys _ _ _ _ _ _ _ _ _ (ha.ext hX) (hb.ext hX) (by omega) (by omega)) rfl ?_
        rintro v8 w8 ⟨⟨qM, mM, cM, rfl, hmM, hM⟩, hE8⟩
        have hX := hX.ext hE8
        have hU := hU.ext hE8
        refine p1 (x_assign (by conv => lhs; whnf)) ?_
        refine p1 (x_assign (by conv => lhs; whnf)) ?_
        refine r_nil ?_
        refine t_n ?_
        refine c_seq ?_
        refine r_plain ?_
        refine p1 (x_move (by conv => lhs; whnf)) ?_
        refine p1 (x_move (by conv => lhs; whnf)) ?_
        refine o_call Try.func58 fn58 fb58 (hashes_Minus xs ys _ _ _ _ _ _ _ _ _ (ha.ext hX) (hb.ext hX) (by omega) (by omega)) rfl ?_
        rintro v9 w9 ⟨⟨qX, mX, cX, rfl, hmX, hX1⟩, hE9⟩
        have hX := hX.ext hE9
        have hU := hU.ext hE9
        have hM := hM.ext hE9
        refine p1 (x_move (by conv => lhs; whnf)) ?_
        refine p1 (x_move (by conv => lhs; whnf)) ?_
        refine o_call Try.func58 fn58 fb58 (hashes_Minus ys xs _ _ _ _ _ _ _ _ _ (hb.ext hX) (ha.ext hX) (by omega) (by omega)) rfl ?_
        rintro v10 w10 ⟨⟨qY, mY, cY, rfl, hmY, hY⟩, hE10⟩
        have hX := hX.ext hE10
        have hU := hU.ext hE10
        have hM := hM.ext hE10
        have hX1 := hX1.ext hE10
        refine p1 (x_assign (by conv => lhs; whnf)) ?_
        refine p1 (x_assign (by conv => lhs; whnf)) ?_
        refine r_nil ?_
        refine t_n ?_
        refine c_seq ?_
        refine c_seq ?_
        refine r_plain ?_
        refine p1 (x_move (by conv => lhs; whnf)) ?_
        refine p1 (x_move (by conv => lhs; whnf)) ?_
        refine p1 (x_move (by conv => lhs; whnf)) ?_
        refine o_call Try.func56 fn56 fb56 (hashes_Union ys xs _ _ _ _ _ _ _ _ _ (hb.ext hX) (ha.ext hX) (by omega) (by omega)) rfl ?_
        rintro v11 w11 ⟨⟨q1, m1, c1, rfl, hm1, h1⟩, hE11⟩
        have hX := hX.ext hE11
        have hU := hU.ext hE11
        have hM := hM.ext hE11
        have hX1 := hX1.ext hE11
        have hY := hY.ext hE11
        refine o_call Try.func40 fn40 fb40 ((hashes_Same (srt (xs ++ ys)) (srt (ys ++ xs)) _ _ _ _ _ _ _ _ _ hU.sl h1.sl).known (c := .bool true) (congrArg Value.bool (decide_eq_true (alg_u xs ys)))) rfl ?_
        rintro v12 w12 ⟨rfl, hE12⟩
        have hX := hX.ext hE12
        have hU := hU.ext hE12
        have hM := hM.ext hE12
        have hX1 := hX1.ext hE12
        have hY := hY.ext hE12
        have h1 := h1.ext hE12
        refine p1 (x_not rfl) ?_
        refine p1 (x_move (by conv => lhs; whnf)) ?_
        refine g1 43 rfl rfl (x_move (by conv => lhs; whnf)) ?_
        refine g1 43 rfl rfl (x_move (by conv => lhs; whnf)) ?_
        refine g1 43 rfl rfl (x_move (by conv => lhs; whnf)) ?_
        refine g_drop 43 rfl rfl ?_
        refine o_call Try.func60 fn60 fb60 (hashes_Meet ys xs _ _ _ _ _ _ _ _ _ (hb.ext hX) (ha.ext hX) (by omega) (by omega)) rfl ?_
        rintro v13 w13 ⟨⟨q2, m2, c2, rfl, hm2, h2⟩, hE13⟩
        have hX := hX.ext hE13
        have hU := hU.ext hE13
        have hM := hM.ext hE13
        have hX1 := hX1.ext hE13
        have hY := hY.ext hE13
        have h1 := h1.ext hE13
        refine g_drop 43 rfl rfl ?_
        refine o_call Try.func40 fn40 fb40 ((hashes_Same (srt (sel ys true xs)) (srt (sel xs true ys)) _ _ _ _ _ _ _ _ _ hM.sl h2.sl).known (c := .bool true) (congrArg Value.bool (decide_eq_true (alg_m xs ys)))) rfl ?_
        rintro v14 w14 ⟨rfl, hE14⟩
        have hX := hX.ext hE14
        have hU := hU.ext hE14
        have hM := hM.ext hE14
        have hX1 := hX1.ext hE14
        have hY := hY.ext hE14
        have h1 := h1.ext hE14
        have h2 := h2.ext hE14
        refine g1 43 rfl rfl (x_not rfl) ?_
        refine p1 (x_pick_f rfl (by conv => lhs; whnf)) ?_
        refine p1 (x_move (by conv => lhs; whnf)) ?_
        refine g1 51 rfl rfl (x_move (by conv => lhs; whnf)) ?_
        refine g1 51 rfl rfl (x_move (by conv => lhs; whnf)) ?_
        refine g1 51 rfl rfl (x_move (by conv => lhs; whnf)) ?_
        refine g_drop 51 rfl rfl ?_
        refine o_call Try.func56 fn56 fb56 (hashes_Union (srt (sel ys false xs)) (srt (sel xs false ys)) _ _ _ _ _ _ _ _ _ hX1.sl hY.sl (by omega) (by omega)) rfl ?_
        rintro v15 w15 ⟨⟨q3, m3, c3, rfl, hm3, h3⟩, hE15⟩
        have hX := hX.ext hE15
        have hU := hU.ext hE15
        have hM := hM.ext hE15
        have hX1 := hX1.ext hE15
        have hY := hY.ext hE15
        have h1 := h1.ext hE15
        have h2 := h2.ext hE15
        refine g1 51 rfl rfl (x_move (by conv => lhs; whnf)) ?_
        refine g_drop 51 rfl rfl ?_
        refine o_call Try.func56 fn56 fb56 (hashes_Union (srt ((srt (sel ys false xs)) ++ (srt (sel xs false ys)))) (srt (sel ys true xs)) _ _ _ _ _ _ _ _ _ h3.sl hM.sl (by omega) (by omega)) rfl ?_
        rintro v16 w16 ⟨⟨q4, m4, c4, rfl, hm4, h4⟩, hE16⟩
        have hX := hX.ext hE16
        have hU := hU.ext hE16
        have hM := hM.ext hE16
        have hX1 := hX1.ext hE16
        have hY := hY.ext hE16
        have h1 := h1.ext hE16
        have h2 := h2.ext hE16
        have h3 := h3.ext hE16
        refine g_drop 51 rfl rfl ?_
        refine o_call Try.func40 fn40 fb40 ((hashes_Same (srt (xs ++ ys)) (srt (srt ((srt (sel ys false xs)) ++ (srt (sel xs false ys))) ++ (srt (sel ys true xs)))) _ _ _ _ _ _ _ _ _ hU.sl h4.sl).known (c := .bool true) (congrArg Value.bool (decide_eq_true (alg_parts xs ys)))) rfl ?_
        rintro v17 w17 ⟨rfl, hE17⟩
        have hX := hX.ext hE17
        have hU := hU.ext hE17
        have hM := hM.ext hE17
        have hX1 := hX1.ext hE17
        have hY := hY.ext hE17
        have h1 := h1.ext hE17
        have h2 := h2.ext hE17
        have h3 := h3.ext hE17
        have h4 := h4.ext hE17
        refine g1 51 rfl rfl (x_not rfl) ?_
        refine p1 (x_pick_f rfl (by conv => lhs; whnf)) ?_
        refine p1 (x_move (by conv => lhs; whnf)) ?_
        refine g1 61 rfl rfl (x_move (by conv => lhs; whnf)) ?_
        have hlU := hU.len
        have hlX := hX1.len
        have hlY := hY.len
        have hlM := hM.len
        have hlen := alg_len xs ys
        refine g1 61 rfl rfl (x_len_slice u31 rfl) ?_
        refine g1 61 rfl rfl (x_move (by conv => lhs; whnf)) ?_
        refine g1 61 rfl rfl (x_len_slice u31 rfl) ?_
        refine g1 61 rfl rfl (x_move (by conv => lhs; whnf)) ?_
        refine g1 61 rfl rfl (x_len_slice u31 rfl) ?_
        refine g1 61 rfl rfl (x_add rfl rfl (fits_i64 (by omega) (by omega))) ?_
        refine g1 61 rfl rfl (x_move (by conv => lhs; whnf)) ?_
        refine g1 61 rfl rfl (x_len_slice u31 rfl) ?_
        refine g1 61 rfl rfl (x_add rfl rfl (fits_i64 (by omega) (by omega))) ?_
        refine g1 61 rfl rfl ((x_neq rfl rfl).cast (congrArg Value.bool (decide_eq_false (by omega)))) ?_
        refine p1 (x_pick_f rfl (by conv => lhs; whnf)) ?_
        refine r_nil ?_
        refine t_n ?_
        refine c_f rfl ?_
        refine c_skip ?_
        refine t_n ?_
        refine c_seq ?_
        refine c_seq ?_
        refine r_plain ?_
        refine p1 (x_move (by conv => lhs; whnf)) ?_
        refine p1 (x_move (by conv => lhs; whnf)) ?_
        refine o_call Try.func58 fn58 fb58 (hashes_Minus zs (srt (xs ++ ys)) _ _ _ _ _ _ _ _ _ (hc.ext hX) hU.sl (by omega) (by omega)) rfl ?_
        rintro v18 w18 ⟨⟨q5, m5, c5, rfl, hm5, h5⟩, hE18⟩
        have hX := hX.ext hE18
        have hU := hU.ext hE18
        have hM := hM.ext hE18
        have hX1 := hX1.ext hE18
        have hY := hY.ext hE18
        have h1 := h1.ext hE18
        have h2 := h2.ext hE18
        have h3 := h3.ext hE18
        have h4 := h4.ext hE18
        refine p1 (x_move (by conv => lhs; whnf)) ?_
        refine p1 (x_move (by conv => lhs; whnf)) ?_
        refine o_call Try.func58 fn58 fb58 (hashes_Minus zs xs _ _ _ _ _ _ _ _ _ (hc.ext hX) (ha.ext hX) (by omega) (by omega)) rfl ?_
        rintro v19 w19 ⟨⟨q6, m6, c6, rfl, hm6, h6⟩, hE19⟩
        have hX := hX.ext hE19
        have hU := hU.ext hE19
        have hM := hM.ext hE19
        have hX1 := hX1.ext hE19
        have hY := hY.ext hE19
        have h1 := h1.ext hE19
        have h2 := h2.ext hE19
        have h3 := h3.ext hE19
        have h4 := h4.ext hE19
        have h5 := h5.ext hE19
        refine p1 (x_move (by conv => lhs; whnf)) ?_
        refine o_call Try.func58 fn58 fb58 (hashes_Minus (srt (sel xs false zs)) ys _ _ _ _ _ _ _ _ _ h6.sl (hb.ext hX) (by omega) (by omega)) rfl ?_
        rintro v20 w20 ⟨⟨q7, m7, c7, rfl, hm7, h7⟩, hE20⟩
        have hX := hX.ext hE20
        have hU := hU.ext hE20
        have hM := hM.ext hE20
        have hX1 := hX1.ext hE20
        have hY := hY.ext hE20
        have h1 := h1.ext hE20
        have h2 := h2.ext hE20
        have h3 := h3.ext hE20
        have h4 := h4.ext hE20
        have h5 := h5.ext hE20
        have h6 := h6.ext hE20
        refine o_call Try.func40 fn40 fb40 ((hashes_Same _ _ _ _ _ _ _ _ _ _ _ h5.sl h7.sl).known (c := .bool true) (congrArg Value.bool (decide_eq_true (alg_minus xs ys zs)))) rfl ?_
        rintro v21 w21 ⟨rfl, hE21⟩
        have hX := hX.ext hE21
        have hU := hU.ext hE21
        have hM := hM.ext hE21
        have hX1 := hX1.ext hE21
        have hY := hY.ext hE21
        have h1 := h1.ext hE21
        have h2 := h2.ext hE21
        have h3 := h3.ext hE21
        have h4 := h4.ext hE21
        have h5 := h5.ext hE21
        have h6 := h6.ext hE21
        have h7 := h7.ext hE21
        refine p1 (x_not rfl) ?_
        refine p1 (x_move (by conv => lhs; whnf)) ?_
        refine g1 84 rfl rfl (x_move (by conv => lhs; whnf)) ?_
        refine g1 84 rfl rfl (x_move (by conv => lhs; whnf)) ?_
        refine g_drop 84 rfl rfl ?_
        refine o_call Try.func60 fn60 fb60 (hashes_Meet zs (srt (xs ++ ys)) _ _ _ _ _ _ _ _ _ (hc.ext hX) hU.sl (by omega) (by omega)) rfl ?_
        rintro v22 w22 ⟨⟨q8, m8, c8, rfl, hm8, h8⟩, hE22⟩
        have hX := hX.ext hE22
        have hU := hU.ext hE22
        have hM := hM.ext hE22
        have hX1 := hX1.ext hE22
        have hY := hY.ext hE22
        have h1 := h1.ext hE22
        have h2 := h2.ext hE22
        have h3 := h3.ext hE22
        have h4 := h4.ext hE22
        have h5 := h5.ext hE22
        have h6 := h6.ext hE22
        have h7 := h7.ext hE22
        refine g1 84 rfl rfl (x_move (by conv => lhs; whnf)) ?_
        refine g1 84 rfl rfl (x_move (by conv => lhs; whnf)) ?_
        refine g_drop 84 rfl rfl ?_
        refine o_call Try.func60 fn60 fb60 (hashes_Meet zs xs _ _ _ _ _ _ _ _ _ (hc.ext hX) (ha.ext hX) (by omega) (by omega)) rfl ?_
        rintro v23 w23 ⟨⟨q9, m9, c9, rfl, hm9, h9⟩, hE23⟩
        have hX := hX.ext hE23
        have hU := hU.ext hE23
        have hM := hM.ext hE23
        have hX1 := hX1.ext hE23
        have hY := hY.ext hE23
        have h1 := h1.ext hE23
        have h2 := h2.ext hE23
        have h3 := h3.ext hE23
        have h4 := h4.ext hE23
        have h5 := h5.ext hE23
        have h6 := h6.ext hE23
        have h7 := h7.ext hE23
        have h8 := h8.ext hE23
        refine g1 84 rfl rfl (x_move (by conv => lhs; whnf)) ?_
        refine g1 84 rfl rfl (x_move (by conv => lhs; whnf)) ?_
        refine g_drop 84 rfl rfl ?_
        refine o_call Try.func60 fn60 fb60 (hashes_Meet zs ys _ _ _ _ _ _ _ _ _ (hc.ext hX) (hb.ext hX) (by omega) (by omega)) rfl ?_
        rintro v24 w24 ⟨⟨q10, m10, c10, rfl, hm10, h10⟩, hE24⟩
        have hX := hX.ext hE24
        have hU := hU.ext hE24
        have hM := hM.ext hE24
        have hX1 := hX1.ext hE24
        have hY := hY.ext hE24
        have h1 := h1.ext hE24
        have h2 := h2.ext hE24
        have h3 := h3.ext hE24
        have h4 := h4.ext hE24
        have h5 := h5.ext hE24
        have h6 := h6.ext hE24
        have h7 := h7.ext hE24
        have h8 := h8.ext hE24
        have h9 := h9.ext hE24
        refine g_drop 84 rfl rfl ?_
        refine o_call Try.func56 fn56 fb56 (hashes_Union (srt (sel xs true zs)) (srt (sel ys true zs)) _ _ _ _ _ _ _ _ _ h9.sl h10.sl (by omega) (by omega)) rfl ?_
        rintro v25 w25 ⟨⟨q11, m11, c11, rfl, hm11, h11⟩, hE25⟩
        have hX := hX.ext hE25
        have hU := hU.ext hE25
        have hM := hM.ext hE25
        have hX1 := hX1.ext hE25
        have hY := hY.ext hE25
        have h1 := h1.ext hE25
        have h2 := h2.ext hE25
        have h3 := h3.ext hE25
        have h4 := h4.ext hE25
        have h5 := h5.ext hE25
        have h6 := h6.ext hE25
        have h7 := h7.ext hE25
        have h8 := h8.ext hE25
        have h9 := h9.ext hE25
        have h10 := h10.ext hE25
        refine g_drop 84 rfl rfl ?_
        refine o_call Try.func40 fn40 fb40 ((hashes_Same _ _ _ _ _ _ _ _ _ _ _ h8.sl h11.sl).known (c := .bool true) (congrArg Value.bool (decide_eq_true (alg_meet xs ys zs)))) rfl ?_
        rintro v26 w26 ⟨rfl, hE26⟩
        have hX := hX.ext hE26
        have hU := hU.ext hE26
        have hM := hM.ext hE26
        have hX1 := hX1.ext hE26
        have hY := hY.ext hE26
        have h1 := h1.ext hE26
        have h2 := h2.ext hE26
        have h3 := h3.ext hE26
        have h4 := h4.ext hE26
        have h5 := h5.ext hE26
        have h6 := h6.ext hE26
        have h7 := h7.ext hE26
        have h8 := h8.ext hE26
        have h9 := h9.ext hE26
        have h10 := h10.ext hE26
        have h11 := h11.ext hE26
        refine g1 84 rfl rfl (x_not rfl) ?_
        refine p1 (x_pick_f rfl (by conv => lhs; whnf)) ?_
        refine r_nil ?_
        refine t_n ?_
        refine c_f rfl ?_
        refine c_skip ?_
        refine t_n ?_
        refine c_seq ?_
        refine r_plain ?_
        refine p1 (x_move (by conv => lhs; whnf)) ?_
        refine p1 (x_move (by conv => lhs; whnf)) ?_
        refine o_call Try.func60 fn60 fb60 (hashes_Meet (srt (sel ys false xs)) ys _ _ _ _ _ _ _ _ _ hX1.sl (hb.ext hX) (by omega) (by omega)) rfl ?_
        rintro v27 w27 ⟨⟨q12, m12, c12, rfl, hm12, h12⟩, hE27⟩
        have hX := hX.ext hE27
        have hU := hU.ext hE27
        have hM := hM.ext hE27
        have hX1 := hX1.ext hE27
        have hY := hY.ext hE27
        have h1 := h1.ext hE27
        have h2 := h2.ext hE27
        have h3 := h3.ext hE27
        have h4 := h4.ext hE27
        have h5 := h5.ext hE27
        have h6 := h6.ext hE27
        have h7 := h7.ext hE27
        have h8 := h8.ext hE27
        have h9 := h9.ext hE27
        have h10 := h10.ext hE27
        have h11 := h11.ext hE27
        have hl12 := h12.len
        have hz12 := alg_x xs ys
        refine p1 (x_len_slice u31 rfl) ?_
        refine p1 ((x_eql rfl rfl).cast (congrArg Value.bool (decide_eq_true (by omega)))) ?_
        refine p1 (x_move (by conv => lhs; whnf)) ?_
        refine g1 103 rfl rfl (x_move (by conv => lhs; whnf)) ?_
        refine g1 103 rfl rfl (x_move (by conv => lhs; whnf)) ?_
        refine g_drop 103 rfl rfl ?_
        refine o_call Try.func58 fn58 fb58 (hashes_Minus (srt (sel ys false xs)) xs _ _ _ _ _ _ _ _ _ hX1.sl (ha.ext hX) (by omega) (by omega)) rfl ?_
        rintro v28 w28 ⟨⟨q13, m13, c13, rfl, hm13, h13⟩, hE28⟩
        have hX := hX.ext hE28
        have hU := hU.ext hE28
        have hM := hM.ext hE28
        have hX1 := hX1.ext hE28
        have hY := hY.ext hE28
        have h1 := h1.ext hE28
        have h2 := h2.ext hE28
        have h3 := h3.ext hE28
        have h4 := h4.ext hE28
        have h5 := h5.ext hE28
        have h6 := h6.ext hE28
        have h7 := h7.ext hE28
        have h8 := h8.ext hE28
        have h9 := h9.ext hE28
        have h10 := h10.ext hE28
        have h11 := h11.ext hE28
        have h12 := h12.ext hE28
        have hl13 := h13.len
        have hz13 := alg_y xs ys
        refine g1 103 rfl rfl (x_len_slice u31 rfl) ?_
        refine g1 103 rfl rfl ((x_eql rfl rfl).cast (congrArg Value.bool (decide_eq_true (by omega)))) ?_
        refine p1 (x_pick_t rfl (by conv => lhs; whnf)) ?_
        refine p1 (x_move (by conv => lhs; whnf)) ?_
        refine g1 110 rfl rfl (x_move (by conv => lhs; whnf)) ?_
        refine g_drop 110 rfl rfl ?_
        refine o_call Try.func35 fn35 fb35 (hashes_Sort (srt (xs ++ ys)) _ _ _ _ _ hU.sl (by omega)) rfl ?_
        rintro v29 w29 ⟨⟨q14, m14, c14, rfl, hm14, h14⟩, hE29⟩
        have hX := hX.ext hE29
        have hU := hU.ext hE29
        have hM := hM.ext hE29
        have hX1 := hX1.ext hE29
        have hY := hY.ext hE29
        have h1 := h1.ext hE29
        have h2 := h2.ext hE29
        have h3 := h3.ext hE29
        have h4 := h4.ext hE29
        have h5 := h5.ext hE29
        have h6 := h6.ext hE29
        have h7 := h7.ext hE29
        have h8 := h8.ext hE29
        have h9 := h9.ext hE29
        have h10 := h10.ext hE29
        have h11 := h11.ext hE29
        have h12 := h12.ext hE29
        have h13 := h13.ext hE29
        refine g1 110 rfl rfl (x_move (by conv => lhs; whnf)) ?_
        refine g_drop 110 rfl rfl ?_
        refine o_call Try.func40 fn40 fb40 ((hashes_Same _ _ _ _ _ _ _ _ _ _ _ h14.sl hU.sl).known (c := .bool true) (congrArg Value.bool (decide_eq_true (srt_self (rise_srt _))))) rfl ?_
        rintro v30 w30 ⟨rfl, hE30⟩
        have hX := hX.ext hE30
        have hU := hU.ext hE30
        have hM := hM.ext hE30
        have hX1 := hX1.ext hE30
        have hY := hY.ext hE30
        have h1 := h1.ext hE30
        have h2 := h2.ext hE30
        have h3 := h3.ext hE30
        have h4 := h4.ext hE30
        have h5 := h5.ext hE30
        have h6 := h6.ext hE30
        have h7 := h7.ext hE30
        have h8 := h8.ext hE30
        have h9 := h9.ext hE30
        have h10 := h10.ext hE30
        have h11 := h11.ext hE30
        have h12 := h12.ext hE30
        have h13 := h13.ext hE30
        have h14 := h14.ext hE30
        refine p1 (x_pick_t rfl (by conv => lhs; whnf)) ?_
        refine p1 (x_move (by conv => lhs; whnf)) ?_
        refine g1 116 rfl rfl (x_move (by conv => lhs; whnf)) ?_
        refine g_drop 116 rfl rfl ?_
        refine o_call Try.func38 fn38 fb38 ((hashes_Rising (srt (xs ++ ys)) _ _ _ _ _ hU.sl).known (c := .bool true) (congrArg Value.bool (rising_iff.2 (rise_srt _)))) rfl ?_
        rintro v31 w31 ⟨rfl, hE31⟩
        have hX := hX.ext hE31
        have hU := hU.ext hE31
        have hM := hM.ext hE31
        have hX1 := hX1.ext hE31
        have hY := hY.ext hE31
        have h1 := h1.ext hE31
        have h2 := h2.ext hE31
        have h3 := h3.ext hE31
        have h4 := h4.ext hE31
        have h5 := h5.ext hE31
        have h6 := h6.ext hE31
        have h7 := h7.ext hE31
        have h8 := h8.ext hE31
        have h9 := h9.ext hE31
        have h10 := h10.ext hE31
        have h11 := h11.ext hE31
        have h12 := h12.ext hE31
        have h13 := h13.ext hE31
        have h14 := h14.ext hE31
        refine p1 (x_pick_t rfl (by conv => lhs; whnf)) ?_
        refine p1 (x_move (by conv => lhs; whnf)) ?_
        refine g_drop 120 rfl rfl ?_
        refine o_call Try.func33 fn33 fb33 (law06_awake _) rfl ?_
        rintro v32 w32 ⟨rfl, hE32⟩
        have hX := hX.ext hE32
        have hU := hU.ext hE32
        have hM := hM.ext hE32
        have hX1 := hX1.ext hE32
        have hY := hY.ext hE32
        have h1 := h1.ext hE32
        have h2 := h2.ext hE32
        have h3 := h3.ext hE32
        have h4 := h4.ext hE32
        have h5 := h5.ext hE32
        have h6 := h6.ext hE32
        have h7 := h7.ext hE32
        have h8 := h8.ext hE32
        have h9 := h9.ext hE32
        have h10 := h10.ext hE32
        have h11 := h11.ext hE32
        have h12 := h12.ext hE32
        have h13 := h13.ext hE32
        have h14 := h14.ext hE32
        refine p1 (x_pick_t rfl (by conv => lhs; whnf)) ?_
        refine p1 (x_assign (by conv => lhs; whnf)) ?_
        refine r_nil ?_
        refine t_n ?_
        refine c_ret ?_
        refine end1 rfl (by conv => lhs; whnf) ?_
        exact ⟨rfl, hX⟩
end Go.Proofs.Eng
