import Derived.Test.YtjbfgmkemideiaaA9
import Derived.Test.YtjbfgmkemideiaaA8
import Derived.Test.YtjbfgmkemideiaaA4
set_option linter.unusedVariables false
set_option linter.unusedSimpArgs false
set_option maxRecDepth 100000
set_option maxHeartbeats 4000000
namespace Go.Proofs.Eng
open Go.RowKit
open Extern.Stop (cell)
theorem law_HashesPuts (xs : List Hash) (B : Nat) (p : Option Addr) (n c : Nat) (w : World) (hl : Sl kHash 35 B w p n c xs) (hs : 32 * n ≤ 140737488351232) :
    Ret Try.prog 9 [.slice p n c] w (fun v w' => v = .bool true ∧ Ext w w') := by
  have hX := Ext.refl w
  refine enter 25 _ Try.func9 rfl rfl (Nat.le_of_ble_eq_true rfl) ?_
  refine c_seq ?_
  refine r_plain ?_
  refine p1 (x_assign (by conv => lhs; whnf)) ?_
  refine r_nil ?_
  refine t_n ?_
  refine c_seq ?_
  refine r_held (fun w1 w2 => Ext w1 w2) mixed ?_
  intro w1 hE1
  have hX := hX.ext hE1
  have hSr1 : (fun w1 w2 => Ext w1 w2) w1 w1 := Ext.refl w1
  refine h_take 0 rfl (by kernel_rfl) (by kernel_rfl) (by kernel_rfl) hSr1 (fun wS hSS => by (have hX := hX.ext hSS; exact (x_move (by conv => lhs; whnf)))) ?_
  refine h_take 3 rfl (by kernel_rfl) (by kernel_rfl) (by kernel_rfl) hSr1 (fun wS hSS => by (have hX := hX.ext hSS; exact (x_move (by conv => lhs; whnf)))) ?_
  refine h_one 1 _ rfl (by kernel_rfl) (hop_of_list (fun Q1 hQ1 => ?_))
  refine o_call Try.func45 fn45 fb45 (hashes_Put xs _ _ _ _ _ (hl.ext hX) hs) rfl ?_
  rintro v2 w2 ⟨⟨q1, l1, c1, rfl, hO⟩, hE2⟩
  have hX := hX.ext hE2
  have hSr1 := hSr1.ext hE2
  refine hop_end hQ1 ⟨hSr1, ?_⟩
  refine h_two 2 4 _ _ rfl rfl (by kernel_rfl) (hop_of_list (fun Q2 hQ2 => ?_)) (hop_of_list (fun Q4 hQ4 => ?_))
  · skip
    refine p1 (x_bytes_str u22 u5 u9 rfl hO.sl) ?_
    refine hop_end hQ2 ⟨hSr1, ?_⟩
    refine h_one 4 _ rfl (by kernel_rfl) (hop_of_list (fun Q4 hQ4 => ?_))
    refine o_call Try.func46 fn46 fb46 (ref06_Put xs _ _ _ _ _ (hl.ext hX) hs) rfl ?_
    rintro v3 w3 ⟨⟨q2, l2, c2, rfl, hR⟩, hE3⟩
    have hX := hX.ext hE3
    have hSr1 := hSr1.ext hE3
    have hO := hO.ext hE3
    refine hop_end hQ4 ⟨hSr1, ?_⟩
    refine h_one 5 _ rfl (by kernel_rfl) (hop_of_list (fun Q5 hQ5 => ?_))
    refine p1 (x_bytes_str u22 u5 u9 rfl hR.sl) ?_
    refine hop_end hQ5 ⟨hSr1, ?_⟩
    refine h_take 6 rfl (by kernel_rfl) (by kernel_rfl) (by kernel_rfl) hSr1 (fun wS hSS => by ( exact ((x_eql_str rfl rfl).cast (congrArg _ (decide_eq_true rfl))))) ?_
    refine h_take 7 rfl (by kernel_rfl) (by kernel_rfl) (by kernel_rfl) hSr1 (fun wS hSS => by ( exact (x_move (by conv => lhs; whnf)))) ?_
    refine h_takeg 8 10 rfl rfl rfl (by kernel_rfl) (by kernel_rfl) (by kernel_rfl) hSr1 (fun wS hSS => by ( exact (x_move (by conv => lhs; whnf)))) ?_
    refine h_takeg 9 10 rfl rfl rfl (by kernel_rfl) (by kernel_rfl) (by kernel_rfl) hSr1 (fun wS hSS => by ( exact (x_len_slice u31 rfl))) ?_
    refine h_takeg 10 10 rfl rfl rfl (by kernel_rfl) (by kernel_rfl) (by kernel_rfl) hSr1 (fun wS hSS => by ( exact (x_gtr rfl rfl))) ?_
    refine h_takegb 11 10 rfl rfl rfl (by kernel_rfl) (by kernel_rfl) (by kernel_rfl) hSr1 (fun wS hSS => by ( exact (x_move (by conv => lhs; whnf)))) (fun hb1_11 => ?_) (fun hb1_11 => ?_)
    · try simp only [decide_eq_true_eq, decide_eq_false_iff_not, Bool.not_eq_true, Bool.not_eq_false, Bool.not_eq_eq_eq_not, Bool.not_true, Bool.not_false, Int.not_lt, Int.not_le] at hb1_11
      refine h_skip 12 14 rfl (by first | exact .inl rfl | exact .inr rfl) rfl (by kernel_rfl) (by kernel_rfl) (by kernel_rfl) hSr1 ?_
      refine h_skip 13 14 rfl (by first | exact .inl rfl | exact .inr rfl) rfl (by kernel_rfl) (by kernel_rfl) (by kernel_rfl) hSr1 ?_
      refine h_skip 14 14 rfl (by first | exact .inl rfl | exact .inr rfl) rfl (by kernel_rfl) (by kernel_rfl) (by kernel_rfl) hSr1 ?_
      refine h_skip 15 14 rfl (by first | exact .inl rfl | exact .inr rfl) rfl (by kernel_rfl) (by kernel_rfl) (by kernel_rfl) hSr1 ?_
      refine h_skip 16 14 rfl (by first | exact .inl rfl | exact .inr rfl) rfl (by kernel_rfl) (by kernel_rfl) (by kernel_rfl) hSr1 ?_
      refine h_takeg 17 10 rfl rfl rfl (by kernel_rfl) (by kernel_rfl) (by kernel_rfl) hSr1 (fun wS hSS => by ( exact (x_pick_t rfl (by conv => lhs; whnf)))) ?_
      refine h_take 18 rfl (by kernel_rfl) (by kernel_rfl) (by kernel_rfl) hSr1 (fun wS hSS => by ( exact (x_pick_t rfl (by conv => lhs; whnf)))) ?_
      refine h_take 19 rfl (by kernel_rfl) (by kernel_rfl) (by kernel_rfl) hSr1 (fun wS hSS => by ( exact (x_move (by conv => lhs; whnf)))) ?_
      refine h_one 20 _ rfl (by kernel_rfl) (hop_of_list (fun Q20 hQ20 => ?_))
      refine g_drop 22 rfl rfl ?_
      refine o_call Try.func33 fn33 fb33 (law06_awake _) rfl ?_
      rintro v4 w4 ⟨rfl, hE4⟩
      have hX := hX.ext hE4
      have hSr1 := hSr1.ext hE4
      have hO := hO.ext hE4
      have hR := hR.ext hE4
      refine hop_end hQ20 ⟨hSr1, ?_⟩
      refine h_take 21 rfl (by kernel_rfl) (by kernel_rfl) (by kernel_rfl) hSr1 (fun wS hSS => by ( exact (x_pick_t rfl (by conv => lhs; whnf)))) ?_
      refine h_take 22 rfl (by kernel_rfl) (by kernel_rfl) (by kernel_rfl) hSr1 (fun wS hSS => by ( exact (x_assign (by conv => lhs; whnf)))) ?_
      refine h_done (by kernel_rfl) ?_
      refine t_n ?_
      refine c_ret ?_
      refine end1 rfl (by conv => lhs; whnf) ?_
      exact ⟨rfl, hX⟩
    · try simp only [decide_eq_true_eq, decide_eq_false_iff_not, Bool.not_eq_true, Bool.not_eq_false, Bool.not_eq_eq_eq_not, Bool.not_true, Bool.not_false, Int.not_lt, Int.not_le] at hb1_11
      refine h_takeg 12 14 rfl rfl rfl (by kernel_rfl) (by kernel_rfl) (by kernel_rfl) hSr1 (fun wS hSS => by ( exact (x_move (by conv => lhs; whnf)))) ?_
      refine h_takeg 14 14 rfl rfl rfl (by kernel_rfl) (by kernel_rfl) (by kernel_rfl) hSr1 (fun wS hSS => by ( exact (x_move (by conv => lhs; whnf)))) ?_
      refine h_one 13 _ rfl (by kernel_rfl) (hop_of_list (fun Q13 hQ13 => ?_))
      refine g_drop 14 rfl rfl ?_
      refine o_call Try.func47 fn47 fb47 (hashes_Text xs _ _ _ _ _ (hl.ext hX) (by omega)) rfl ?_
      rintro v5 w5 ⟨rfl, hE5⟩
      have hX := hX.ext hE5
      have hSr1 := hSr1.ext hE5
      have hO := hO.ext hE5
      have hR := hR.ext hE5
      refine hop_end hQ13 ⟨hSr1, ?_⟩
      refine h_one 15 _ rfl (by kernel_rfl) (hop_of_list (fun Q15 hQ15 => ?_))
      refine g_drop 14 rfl rfl ?_
      refine o_call Try.func48 fn48 fb48 (ref06_Text xs _ _ _ _ _ (hl.ext hX) (by omega)) rfl ?_
      rintro v6 w6 ⟨rfl, hE6⟩
      have hX := hX.ext hE6
      have hSr1 := hSr1.ext hE6
      have hO := hO.ext hE6
      have hR := hR.ext hE6
      refine hop_end hQ15 ⟨hSr1, ?_⟩
      refine h_takeg 16 14 rfl rfl rfl (by kernel_rfl) (by kernel_rfl) (by kernel_rfl) hSr1 (fun wS hSS => by ( exact ((x_eql_str rfl rfl).cast (congrArg _ (decide_eq_true rfl))))) ?_
      refine h_takeg 17 10 rfl rfl rfl (by kernel_rfl) (by kernel_rfl) (by kernel_rfl) hSr1 (fun wS hSS => by ( exact (x_pick_f rfl (by conv => lhs; whnf)))) ?_
      refine h_take 18 rfl (by kernel_rfl) (by kernel_rfl) (by kernel_rfl) hSr1 (fun wS hSS => by ( exact (x_pick_t rfl (by conv => lhs; whnf)))) ?_
      refine h_take 19 rfl (by kernel_rfl) (by kernel_rfl) (by kernel_rfl) hSr1 (fun wS hSS => by ( exact (x_move (by conv => lhs; whnf)))) ?_
      refine h_one 20 _ rfl (by kernel_rfl) (hop_of_list (fun Q20 hQ20 => ?_))
      refine g_drop 22 rfl rfl ?_
      refine o_call Try.func33 fn33 fb33 (law06_awake _) rfl ?_
      rintro v7 w7 ⟨rfl, hE7⟩
      have hX := hX.ext hE7
      have hSr1 := hSr1.ext hE7
      have hO := hO.ext hE7
      have hR := hR.ext hE7
      refine hop_end hQ20 ⟨hSr1, ?_⟩
      refine h_take 21 rfl (by kernel_rfl) (by kernel_rfl) (by kernel_rfl) hSr1 (fun wS hSS => by ( exact (x_pick_t rfl (by conv => lhs; whnf)))) ?_
      refine h_take 22 rfl (by kernel_rfl) (by kernel_rfl) (by kernel_rfl) hSr1 (fun wS hSS => by ( exact (x_assign (by conv => lhs; whnf)))) ?_
      refine h_done (by kernel_rfl) ?_
      refine t_n ?_
      refine c_ret ?_
      refine end1 rfl (by conv => lhs; whnf) ?_
      exact ⟨rfl, hX⟩
  · skip
    refine o_call Try.func46 fn46 fb46 (ref06_Put xs _ _ _ _ _ (hl.ext hX) hs) rfl ?_
    rintro v8 w8 ⟨⟨q2, l2, c2, rfl, hR⟩, hE8⟩
    have hX := hX.ext hE8
    have hSr1 := hSr1.ext hE8
    have hO := hO.ext hE8
    refine hop_end hQ4 ⟨hSr1, ?_⟩
    refine h_two 2 5 _ _ rfl rfl (by kernel_rfl) (hop_of_list (fun Q2 hQ2 => ?_)) (hop_of_list (fun Q5 hQ5 => ?_))
    · skip
      refine p1 (x_bytes_str u22 u5 u9 rfl hO.sl) ?_
      refine hop_end hQ2 ⟨hSr1, ?_⟩
      refine h_one 5 _ rfl (by kernel_rfl) (hop_of_list (fun Q5 hQ5 => ?_))
      refine p1 (x_bytes_str u22 u5 u9 rfl hR.sl) ?_
      refine hop_end hQ5 ⟨hSr1, ?_⟩
      refine h_take 6 rfl (by kernel_rfl) (by kernel_rfl) (by kernel_rfl) hSr1 (fun wS hSS => by ( exact ((x_eql_str rfl rfl).cast (congrArg _ (decide_eq_true rfl))))) ?_
      refine h_take 7 rfl (by kernel_rfl) (by kernel_rfl) (by kernel_rfl) hSr1 (fun wS hSS => by ( exact (x_move (by conv => lhs; whnf)))) ?_
      refine h_takeg 8 10 rfl rfl rfl (by kernel_rfl) (by kernel_rfl) (by kernel_rfl) hSr1 (fun wS hSS => by ( exact (x_move (by conv => lhs; whnf)))) ?_
      refine h_takeg 9 10 rfl rfl rfl (by kernel_rfl) (by kernel_rfl) (by kernel_rfl) hSr1 (fun wS hSS => by ( exact (x_len_slice u31 rfl))) ?_
      refine h_takeg 10 10 rfl rfl rfl (by kernel_rfl) (by kernel_rfl) (by kernel_rfl) hSr1 (fun wS hSS => by ( exact (x_gtr rfl rfl))) ?_
      refine h_takegb 11 10 rfl rfl rfl (by kernel_rfl) (by kernel_rfl) (by kernel_rfl) hSr1 (fun wS hSS => by ( exact (x_move (by conv => lhs; whnf)))) (fun hb1_11 => ?_) (fun hb1_11 => ?_)
      · try simp only [decide_eq_true_eq, decide_eq_false_iff_not, Bool.not_eq_true, Bool.not_eq_false, Bool.not_eq_eq_eq_not, Bool.not_true, Bool.not_false, Int.not_lt, Int.not_le] at hb1_11
        refine h_skip 12 14 rfl (by first | exact .inl rfl | exact .inr rfl) rfl (by kernel_rfl) (by kernel_rfl) (by kernel_rfl) hSr1 ?_
        refine h_skip 13 14 rfl (by first | exact .inl rfl | exact .inr rfl) rfl (by kernel_rfl) (by kernel_rfl) (by kernel_rfl) hSr1 ?_
        refine h_skip 14 14 rfl (by first | exact .inl rfl | exact .inr rfl) rfl (by kernel_rfl) (by kernel_rfl) (by kernel_rfl) hSr1 ?_
        refine h_skip 15 14 rfl (by first | exact .inl rfl | exact .inr rfl) rfl (by kernel_rfl) (by kernel_rfl) (by kernel_rfl) hSr1 ?_
        refine h_skip 16 14 rfl (by first | exact .inl rfl | exact .inr rfl) rfl (by kernel_rfl) (by kernel_rfl) (by kernel_rfl) hSr1 ?_
        refine h_takeg 17 10 rfl rfl rfl (by kernel_rfl) (by kernel_rfl) (by kernel_rfl) hSr1 (fun wS hSS => by ( exact (x_pick_t rfl (by conv => lhs; whnf)))) ?_
        refine h_take 18 rfl (by kernel_rfl) (by kernel_rfl) (by kernel_rfl) hSr1 (fun wS hSS => by ( exact (x_pick_t rfl (by conv => lhs; whnf)))) ?_
        refine h_take 19 rfl (by kernel_rfl) (by kernel_rfl) (by kernel_rfl) hSr1 (fun wS hSS => by ( exact (x_move (by conv => lhs; whnf)))) ?_
        refine h_one 20 _ rfl (by kernel_rfl) (hop_of_list (fun Q20 hQ20 => ?_))
        refine g_drop 22 rfl rfl ?_
        refine o_call Try.func33 fn33 fb33 (law06_awake _) rfl ?_
        rintro v9 w9 ⟨rfl, hE9⟩
        have hX := hX.ext hE9
        have hSr1 := hSr1.ext hE9
        have hO := hO.ext hE9
        have hR := hR.ext hE9
        refine hop_end hQ20 ⟨hSr1, ?_⟩
        refine h_take 21 rfl (by kernel_rfl) (by kernel_rfl) (by kernel_rfl) hSr1 (fun wS hSS => by ( exact (x_pick_t rfl (by conv => lhs; whnf)))) ?_
        refine h_take 22 rfl (by kernel_rfl) (by kernel_rfl) (by kernel_rfl) hSr1 (fun wS hSS => by ( exact (x_assign (by conv => lhs; whnf)))) ?_
        refine h_done (by kernel_rfl) ?_
        refine t_n ?_
        refine c_ret ?_
        refine end1 rfl (by conv => lhs; whnf) ?_
        exact ⟨rfl, hX⟩
      · try simp only [decide_eq_true_eq, decide_eq_false_iff_not, Bool.not_eq_true, Bool.not_eq_false, Bool.not_eq_eq_eq_not, Bool.not_true, Bool.not_false, Int.not_lt, Int.not_le] at hb1_11
        refine h_takeg 12 14 rfl rfl rfl (by kernel_rfl) (by kernel_rfl) (by kernel_rfl) hSr1 (fun wS hSS => by ( exact (x_move (by conv => lhs; whnf)))) ?_
        refine h_takeg 14 14 rfl rfl rfl (by kernel_rfl) (by kernel_rfl) (by kernel_rfl) hSr1 (fun wS hSS => by ( exact (x_move (by conv => lhs; whnf)))) ?_
        refine h_one 13 _ rfl (by kernel_rfl) (hop_of_list (fun Q13 hQ13 => ?_))
        refine g_drop 14 rfl rfl ?_
        refine o_call Try.func47 fn47 fb47 (hashes_Text xs _ _ _ _ _ (hl.ext hX) (by omega)) rfl ?_
        rintro v10 w10 ⟨rfl, hE10⟩
        have hX := hX.ext hE10
        have hSr1 := hSr1.ext hE10
        have hO := hO.ext hE10
        have hR := hR.ext hE10
        refine hop_end hQ13 ⟨hSr1, ?_⟩
        refine h_one 15 _ rfl (by kernel_rfl) (hop_of_list (fun Q15 hQ15 => ?_))
        refine g_drop 14 rfl rfl ?_
        refine o_call Try.func48 fn48 fb48 (ref06_Text xs _ _ _ _ _ (hl.ext hX) (by omega)) rfl ?_
        rintro v11 w11 ⟨rfl, hE11⟩
        have hX := hX.ext hE11
        have hSr1 := hSr1.ext hE11
        have hO := hO.ext hE11
        have hR := hR.ext hE11
        refine hop_end hQ15 ⟨hSr1, ?_⟩
        refine h_takeg 16 14 rfl rfl rfl (by kernel_rfl) (by kernel_rfl) (by kernel_rfl) hSr1 (fun wS hSS => by ( exact ((x_eql_str rfl rfl).cast (congrArg _ (decide_eq_true rfl))))) ?_
        refine h_takeg 17 10 rfl rfl rfl (by kernel_rfl) (by kernel_rfl) (by kernel_rfl) hSr1 (fun wS hSS => by ( exact (x_pick_f rfl (by conv => lhs; whnf)))) ?_
        refine h_take 18 rfl (by kernel_rfl) (by kernel_rfl) (by kernel_rfl) hSr1 (fun wS hSS => by ( exact (x_pick_t rfl (by conv => lhs; whnf)))) ?_
        refine h_take 19 rfl (by kernel_rfl) (by kernel_rfl) (by kernel_rfl) hSr1 (fun wS hSS => by ( exact (x_move (by conv => lhs; whnf)))) ?_
        refine h_one 20 _ rfl (by kernel_rfl) (hop_of_list (fun Q20 hQ20 => ?_))
        refine g_drop 22 rfl rfl ?_
        refine o_call Try.func33 fn33 fb33 (law06_awake _) rfl ?_
        rintro v12 w12 ⟨rfl, hE12⟩
        have hX := hX.ext hE12
        have hSr1 := hSr1.ext hE12
        have hO := hO.ext hE12
        have hR := hR.ext hE12
        refine hop_end hQ20 ⟨hSr1, ?_⟩
        refine h_take 21 rfl (by kernel_rfl) (by kernel_rfl) (by kernel_rfl) hSr1 (fun wS hSS => by ( exact (x_pick_t rfl (by conv => lhs; whnf)))) ?_
        refine h_take 22 rfl (by kernel_rfl) (by kernel_rfl) (by kernel_rfl) hSr1 (fun wS hSS => by ( exact (x_assign (by conv => lhs; whnf)))) ?_
        refine h_done (by kernel_rfl) ?_
        refine t_n ?_
        refine c_ret ?_
        refine end1 rfl (by conv => lhs; whnf) ?_
        exact ⟨rfl, hX⟩
    · skip
      refine p1 (x_bytes_str u22 u5 u9 rfl hR.sl) ?_
      refine hop_end hQ5 ⟨hSr1, ?_⟩
      refine h_one 2 _ rfl (by kernel_rfl) (hop_of_list (fun Q2 hQ2 => ?_))
      refine p1 (x_bytes_str u22 u5 u9 rfl hO.sl) ?_
      refine hop_end hQ2 ⟨hSr1, ?_⟩
      refine h_take 6 rfl (by kernel_rfl) (by kernel_rfl) (by kernel_rfl) hSr1 (fun wS hSS => by ( exact ((x_eql_str rfl rfl).cast (congrArg _ (decide_eq_true rfl))))) ?_
      refine h_take 7 rfl (by kernel_rfl) (by kernel_rfl) (by kernel_rfl) hSr1 (fun wS hSS => by ( exact (x_move (by conv => lhs; whnf)))) ?_
      refine h_takeg 8 10 rfl rfl rfl (by kernel_rfl) (by kernel_rfl) (by kernel_rfl) hSr1 (fun wS hSS => by ( exact (x_move (by conv => lhs; whnf)))) ?_
      refine h_takeg 9 10 rfl rfl rfl (by kernel_rfl) (by kernel_rfl) (by kernel_rfl) hSr1 (fun wS hSS => by ( exact (x_len_slice u31 rfl))) ?_
      refine h_takeg 10 10 rfl rfl rfl (by kernel_rfl) (by kernel_rfl) (by kernel_rfl) hSr1 (fun wS hSS => by ( exact (x_gtr rfl rfl))) ?_
      refine h_takegb 11 10 rfl rfl rfl (by kernel_rfl) (by kernel_rfl) (by kernel_rfl) hSr1 (fun wS hSS => by ( exact (x_move (by conv => lhs; whnf)))) (fun hb1_11 => ?_) (fun hb1_11 => ?_)
      · try simp only [decide_eq_true_eq, decide_eq_false_iff_not, Bool.not_eq_true, Bool.not_eq_false, Bool.not_eq_eq_eq_not, Bool.not_true, Bool.not_false, Int.not_lt, Int.not_le] at hb1_11
        refine h_skip 12 14 rfl (by first | exact .inl rfl | exact .inr rfl) rfl (by kernel_rfl) (by kernel_rfl) (by kernel_rfl) hSr1 ?_
        refine h_skip 13 14 rfl (by first | exact .inl rfl | exact .inr rfl) rfl (by kernel_rfl) (by kernel_rfl) (by kernel_rfl) hSr1 ?_
        refine h_skip 14 14 rfl (by first | exact .inl rfl | exact .inr rfl) rfl (by kernel_rfl) (by kernel_rfl) (by kernel_rfl) hSr1 ?_
        refine h_skip 15 14 rfl (by first | exact .inl rfl | exact .inr rfl) rfl (by kernel_rfl) (by kernel_rfl) (by kernel_rfl) hSr1 ?_
        refine h_skip 16 14 rfl (by first | exact .inl rfl | exact .inr rfl) rfl (by kernel_rfl) (by kernel_rfl) (by kernel_rfl) hSr1 ?_
        refine h_takeg 17 10 rfl rfl rfl (by kernel_rfl) (by kernel_rfl) (by kernel_rfl) hSr1 (fun wS hSS => by ( exact (x_pick_t rfl (by conv => lhs; whnf)))) ?_
        refine h_take 18 rfl (by kernel_rfl) (by kernel_rfl) (by kernel_rfl) hSr1 (fun wS hSS => by ( exact (x_pick_t rfl (by conv => lhs; whnf)))) ?_
        refine h_take 19 rfl (by kernel_rfl) (by kernel_rfl) (by kernel_rfl) hSr1 (fun wS hSS => by ( exact (x_move (by conv => lhs; whnf)))) ?_
        refine h_one 20 _ rfl (by kernel_rfl) (hop_of_list (fun Q20 hQ20 => ?_))
        refine g_drop 22 rfl rfl ?_
        refine o_call Try.func33 fn33 fb33 (law06_awake _) rfl ?_
        rintro v13 w13 ⟨rfl, hE13⟩
        have hX := hX.ext hE13
        have hSr1 := hSr1.ext hE13
        have hO := hO.ext hE13
        have hR := hR.ext hE13
        refine hop_end hQ20 ⟨hSr1, ?_⟩
        refine h_take 21 rfl (by kernel_rfl) (by kernel_rfl) (by kernel_rfl) hSr1 (fun wS hSS => by ( exact (x_pick_t rfl (by conv => lhs; whnf)))) ?_
        refine h_take 22 rfl (by kernel_rfl) (by kernel_rfl) (by kernel_rfl) hSr1 (fun wS hSS => by ( exact (x_assign (by conv => lhs; whnf)))) ?_
        refine h_done (by kernel_rfl) ?_
        refine t_n ?_
        refine c_ret ?_
        refine end1 rfl (by conv => lhs; whnf) ?_
        exact ⟨rfl, hX⟩
      · try simp only [decide_eq_true_eq, decide_eq_false_iff_not, Bool.not_eq_true, Bool.not_eq_false, Bool.not_eq_eq_eq_not, Bool.not_true, Bool.not_false, Int.not_lt, Int.not_le] at hb1_11
        refine h_takeg 12 14 rfl rfl rfl (by kernel_rfl) (by kernel_rfl) (by kernel_rfl) hSr1 (fun wS hSS => by ( exact (x_move (by conv => lhs; whnf)))) ?_
        refine h_takeg 14 14 rfl rfl rfl (by kernel_rfl) (by kernel_rfl) (by kernel_rfl) hSr1 (fun wS hSS => by ( exact (x_move (by conv => lhs; whnf)))) ?_
        refine h_one 13 _ rfl (by kernel_rfl) (hop_of_list (fun Q13 hQ13 => ?_))
        refine g_drop 14 rfl rfl ?_
        refine o_call Try.func47 fn47 fb47 (hashes_Text xs _ _ _ _ _ (hl.ext hX) (by omega)) rfl ?_
        rintro v14 w14 ⟨rfl, hE14⟩
        have hX := hX.ext hE14
        have hSr1 := hSr1.ext hE14
        have hO := hO.ext hE14
        have hR := hR.ext hE14
        refine hop_end hQ13 ⟨hSr1, ?_⟩
        refine h_one 15 _ rfl (by kernel_rfl) (hop_of_list (fun Q15 hQ15 => ?_))
        refine g_drop 14 rfl rfl ?_
        refine o_call Try.func48 fn48 fb48 (ref06_Text xs _ _ _ _ _ (hl.ext hX) (by omega)) rfl ?_
        rintro v15 w15 ⟨rfl, hE15⟩
        have hX := hX.ext hE15
        have hSr1 := hSr1.ext hE15
        have hO := hO.ext hE15
        have hR := hR.ext hE15
        refine hop_end hQ15 ⟨hSr1, ?_⟩
        refine h_takeg 16 14 rfl rfl rfl (by kernel_rfl) (by kernel_rfl) (by kernel_rfl) hSr1 (fun wS hSS => by ( exact ((x_eql_str rfl rfl).cast (congrArg _ (decide_eq_true rfl))))) ?_
        refine h_takeg 17 10 rfl rfl rfl (by kernel_rfl) (by kernel_rfl) (by kernel_rfl) hSr1 (fun wS hSS => by ( exact (x_pick_f rfl (by conv => lhs; whnf)))) ?_
        refine h_take 18 rfl (by kernel_rfl) (by kernel_rfl) (by kernel_rfl) hSr1 (fun wS hSS => by ( exact (x_pick_t rfl (by conv => lhs; whnf)))) ?_
        refine h_take 19 rfl (by kernel_rfl) (by kernel_rfl) (by kernel_rfl) hSr1 (fun wS hSS => by ( exact (x_move (by conv => lhs; whnf)))) ?_
        refine h_one 20 _ rfl (by kernel_rfl) (hop_of_list (fun Q20 hQ20 => ?_))
        refine g_drop 22 rfl rfl ?_
        refine o_call Try.func33 fn33 fb33 (law06_awake _) rfl ?_
        rintro v16 w16 ⟨rfl, hE16⟩
        have hX := hX.ext hE16
        have hSr1 := hSr1.ext hE16
        have hO := hO.ext hE16
        have hR := hR.ext hE16
        refine hop_end hQ20 ⟨hSr1, ?_⟩
        refine h_take 21 rfl (by kernel_rfl) (by kernel_rfl) (by kernel_rfl) hSr1 (fun wS hSS => by ( exact (x_pick_t rfl (by conv => lhs; whnf)))) ?_
        refine h_take 22 rfl (by kernel_rfl) (by kernel_rfl) (by kernel_rfl) hSr1 (fun wS hSS => by ( exact (x_assign (by conv => lhs; whnf)))) ?_
        refine h_done (by kernel_rfl) ?_
        refine t_n ?_
        refine c_ret ?_
        refine end1 rfl (by conv => lhs; whnf) ?_
        exact ⟨rfl, hX⟩
end Go.Proofs.Eng
