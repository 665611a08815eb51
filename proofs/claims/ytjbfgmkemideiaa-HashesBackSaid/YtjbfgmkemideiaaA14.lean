import Derived.Test.YtjbfgmkemideiaaP6
import Derived.Test.YtjbfgmkemideiaaA11
import Derived.Test.YtjbfgmkemideiaaA8
import Derived.Test.YtjbfgmkemideiaaA5
set_option linter.unusedVariables false
set_option linter.unusedSimpArgs false
set_option maxRecDepth 100000
set_option maxHeartbeats 4000000
namespace Go.Proofs.Eng
open Go.RowKit
open Extern.Stop (cell)
theorem law_HashesBack (xs : List Hash) (ys : List UInt8) (B B2 : Nat) (p q : Option Addr) (n c m c2 : Nat) (w : World) (ha : Sl kHash 35 B w p n c xs) (hb : Sl kByte 5 B2 w q m c2 ys) (hs : m ≤ 140737488351232) :
    Ret Try.prog 15 [.slice p n c, .slice q m c2] w (fun v w' => v = .bool true ∧ Ext w w') := by
  have hX := Ext.refl w
  refine enter 89 _ Try.func15 rfl rfl (Nat.le_of_ble_eq_true rfl) ?_
  refine c_seq ?_
  refine r_plain ?_
  refine p1 (x_assign (by conv => lhs; whnf)) ?_
  refine r_nil ?_
  refine t_n ?_
  refine c_seq ?_
  refine c_seq ?_
  refine r_plain ?_
  refine p1 (x_move (by conv => lhs; whnf)) ?_
  refine o_call Try.func34 fn34 fb34 (law06_few xs _ _ _ _ _ (ha.ext hX)) rfl ?_
  rintro v1 w1 ⟨rfl, hE1⟩
  have hX := hX.ext hE1
  first | refine p1 (x_notd rfl) ?_ | refine p1 (x_not rfl) ?_
  refine r_nil ?_
  refine t_n ?_
  first | refine c_dec rfl (fun hc18 => ?_) (fun hc18 => ?_) | refine c_if rfl (fun hc18 => ?_) (fun hc18 => ?_)
  · try simp only [decide_eq_true_eq, decide_eq_false_iff_not, Bool.not_eq_true, Bool.not_eq_false, Bool.not_eq_eq_eq_not, Bool.not_true, Bool.not_false, Int.not_lt, Int.not_le] at hc18
    refine c_seq ?_
    refine r_plain ?_
    refine o_call Try.func33 fn33 fb33 (law06_awake _) rfl ?_
    rintro v2 w2 ⟨rfl, hE2⟩
    have hX := hX.ext hE2
    refine p1 (x_assign (by conv => lhs; whnf)) ?_
    refine r_nil ?_
    refine t_n ?_
    refine c_ret ?_
    refine t_r ?_
    refine end1 rfl (by conv => lhs; whnf) ?_
    exact ⟨rfl, hX⟩
  · try simp only [decide_eq_true_eq, decide_eq_false_iff_not, Bool.not_eq_true, Bool.not_eq_false, Bool.not_eq_eq_eq_not, Bool.not_true, Bool.not_false, Int.not_lt, Int.not_le] at hc18
    have hn : n ≤ 2000 := by omega
    have hmlen := hb.len
    refine c_skip ?_
    refine t_n ?_
    refine c_seq ?_
    refine r_plain ?_
    refine p1 (x_move (by conv => lhs; whnf)) ?_
    refine o_call Try.func35 fn35 fb35 (hashes_Sort xs _ _ _ _ _ (ha.ext hX) (by omega)) rfl ?_
    rintro v3 w3 ⟨⟨q1, m1, c1, rfl, hm1, hS⟩, hE3⟩
    have hX := hX.ext hE3
    refine p1 (x_assign (by conv => lhs; whnf)) ?_
    refine r_nil ?_
    refine t_n ?_
    refine c_seq ?_
    refine r_plain ?_
    refine p1 (x_move (by conv => lhs; whnf)) ?_
    refine o_call Try.func45 fn45 fb45 (hashes_Put (srt xs) _ _ _ _ _ hS.sl (by omega)) rfl ?_
    rintro v4 w4 ⟨⟨q3, l1, c3, rfl, hP⟩, hE4⟩
    have hX := hX.ext hE4
    have hS := hS.ext hE4
    have hml := hS.len
    rw [← hml] at hP
    have hP : Own kByte 5 0 _ _ q3 l1 c3 (putB (srt xs)) := hP
    have hll := hP.len
    have hl10 := lebU_len10 (n := (srt xs).length) (by omega)
    have hpl : l1 ≤ 10 + 32 * (srt xs).length := by rw [← hll]; simp only [putB, List.length_append, flat32]; omega
    refine p1 (x_assign (by conv => lhs; whnf)) ?_
    refine r_nil ?_
    refine t_n ?_
    refine c_seq ?_
    refine r_plain ?_
    have hXs := hX.size
    obtain ⟨Bo, hBo⟩ : ∃ Bo, Bo = w4.heap.size := ⟨_, rfl⟩
    have hPlt := hP.below
    rw [← hBo] at hXs hPlt
    refine o_buildSlice u22 inf5 rfl (by decide) (fun base hb => by have h0 : base = #[] := Array.eq_empty_of_size_eq_zero (by simpa using hb); subst h0; rfl) ?_
    intro w5 g25 hN25
    have hE5 := hN25.ext
    have hX := hX.ext hE5
    have hS := hS.ext hE5
    have hP := hP.ext hE5
    have hO : Own kByte 5 0 Bo w5 (some ⟨g25, 0, none⟩) 0 0 [] := Own.made kByte 5 0 _ hN25 [] [] 0 0 rfl trivial (Nat.le_of_eq hBo) (by omega) (by omega) (by rfl) (by simp)
    have hq0 := hN25.ext.size
    refine p1 (x_move (by conv => lhs; whnf)) ?_
    have hWt := Mod.refl Bo 5 w5
    refine o_append (d := kByte) (putB (srt xs)) u22 inf5 rfl kByte_pos rfl rfl hO (src_pure u22 hP.sl (by decide)) hP.len (byte_all _ _ _) (rfl) (by omega) (by omega) (by omega) (by omega) (by decide) ?_
    intro p27 c27 w6 hO hM6
    have hX := hX.mod hM6 (hXs)
    have hS := hS.mod hM6 (Nat.zero_le _) (by decide)
    have hP := hP.modB hM6 (Nat.zero_le _) (by decide) hPlt
    have hWt := hWt.mod hM6 (by first | exact Nat.le_refl _ | exact trivial | omega)
    refine p1 (x_move (by conv => lhs; whnf)) ?_
    have hq1 := hWt.size
    refine o_append (d := kByte) (ys) u22 inf5 rfl kByte_pos rfl rfl hO (src_pure u22 (hb.ext hX) (by decide)) hb.len (byte_all _ _ _) (rfl) (by omega) (by omega) (by omega) (by omega) (by decide) ?_
    intro p29 c29 w7 hO hM7
    have hX := hX.mod hM7 (hXs)
    have hS := hS.mod hM7 (Nat.zero_le _) (by decide)
    have hP := hP.modB hM7 (Nat.zero_le _) (by decide) hPlt
    have hWt := hWt.mod hM7 (by first | exact Nat.le_refl _ | exact trivial | omega)
    rw [List.nil_append] at hO
    refine p1 (x_move (by conv => lhs; whnf)) ?_
    refine p1 (x_len_slice u31 rfl) ?_
    refine o_call Try.func43 fn43 fb43 ((by have h9 := hashes_Get (putB (srt xs) ++ ys) (m1 : Int) _ _ _ _ _ hO.sl (by omega) (by omega); rw [← hml, gets_put ys (rise_srt xs) (by omega)] at h9; rw [← hml]; exact h9)) rfl ?_
    rintro v8 w8 ⟨⟨q4, m4, c4, rfl, hA⟩, hE8⟩
    have hX := hX.ext hE8
    have hS := hS.ext hE8
    have hP := hP.ext hE8
    have hWt := hWt.ext hE8
    have hO := hO.ext hE8
    refine p1 (x_move (by conv => lhs; whnf)) ?_
    refine p1 (x_extract rfl rfl) ?_
    refine p1 (x_extract rfl rfl) ?_
    refine p1 (x_extract rfl rfl) ?_
    refine p1 (x_assign (by conv => lhs; whnf)) ?_
    refine p1 (x_assign (by conv => lhs; whnf)) ?_
    refine p1 (x_assign (by conv => lhs; whnf)) ?_
    refine r_nil ?_
    refine t_n ?_
    refine c_seq ?_
    refine r_plain ?_
    refine p1 (x_move (by conv => lhs; whnf)) ?_
    refine o_call Try.func43 fn43 fb43 (hashes_Get ys 1048576 _ _ _ _ _ (hb.ext hX) (by omega) (by omega)) rfl ?_
    rintro v9 w9 ⟨⟨q5, m5, c5, rfl, hY⟩, hE9⟩
    have hX := hX.ext hE9
    have hS := hS.ext hE9
    have hP := hP.ext hE9
    have hWt := hWt.ext hE9
    have hO := hO.ext hE9
    have hA := hA.ext hE9
    refine p1 (x_move (by conv => lhs; whnf)) ?_
    refine p1 (x_extract rfl rfl) ?_
    refine p1 (x_extract rfl rfl) ?_
    refine p1 (x_extract rfl rfl) ?_
    refine p1 (x_assign (by conv => lhs; whnf)) ?_
    refine p1 (x_assign (by conv => lhs; whnf)) ?_
    refine p1 (x_assign (by conv => lhs; whnf)) ?_
    refine r_nil ?_
    refine t_n ?_
    refine c_seq ?_
    refine c_seq ?_
    refine r_held (fun w1 w2 => Ext w1 w2) mixed ?_
    intro w10 hE10
    have hX := hX.ext hE10
    have hS := hS.ext hE10
    have hP := hP.ext hE10
    have hWt := hWt.ext hE10
    have hO := hO.ext hE10
    have hA := hA.ext hE10
    have hY := hY.ext hE10
    have hSr7 : (fun w1 w2 => Ext w1 w2) w10 w10 := Ext.refl w10
    refine h_take 0 rfl (by kernel_rfl) (by kernel_rfl) (by kernel_rfl) hSr7 (fun wS hSS => by (have hX := hX.ext hSS; have hP := hP.ext hSS; have hWt := hWt.ext hSS; have hO := hO.ext hSS; have hA := hA.ext hSS; have hY := hY.ext hSS; exact (x_move (by conv => lhs; whnf)))) ?_
    refine h_take 1 rfl (by kernel_rfl) (by kernel_rfl) (by kernel_rfl) hSr7 (fun wS hSS => by (have hX := hX.ext hSS; have hP := hP.ext hSS; have hWt := hWt.ext hSS; have hO := hO.ext hSS; have hA := hA.ext hSS; have hY := hY.ext hSS; exact (x_eql rfl rfl))) ?_
    refine h_takeb 2 rfl (by kernel_rfl) (by kernel_rfl) (by kernel_rfl) hSr7 (fun wS hSS => by (have hX := hX.ext hSS; have hP := hP.ext hSS; have hWt := hWt.ext hSS; have hO := hO.ext hSS; have hA := hA.ext hSS; have hY := hY.ext hSS; exact (x_move (by conv => lhs; whnf)))) (fun hb7_2 => ?_) (fun hb7_2 => ?_)
    · try simp only [decide_eq_true_eq, decide_eq_false_iff_not, Bool.not_eq_true, Bool.not_eq_false, Bool.not_eq_eq_eq_not, Bool.not_true, Bool.not_false, Int.not_lt, Int.not_le] at hb7_2
      have hpg := put_gets (b := ys) (most := 1048576) hb7_2
      have hyl := hY.len
      have hy32 : 32 * m5 ≤ 140737488351232 := by
        have h8 := congrArg List.length hpg.2
        simp only [putB, List.length_append, flat32, List.length_take] at h8
        have := hpg.1
        omega
      refine h_takeg 3 44 rfl rfl rfl (by kernel_rfl) (by kernel_rfl) (by kernel_rfl) hSr7 (fun wS hSS => by (have hX := hX.ext hSS; have hP := hP.ext hSS; have hWt := hWt.ext hSS; have hO := hO.ext hSS; have hA := hA.ext hSS; have hY := hY.ext hSS; exact (x_move (by conv => lhs; whnf)))) ?_
      refine h_takeg 4 44 rfl rfl rfl (by kernel_rfl) (by kernel_rfl) (by kernel_rfl) hSr7 (fun wS hSS => by (have hX := hX.ext hSS; have hP := hP.ext hSS; have hWt := hWt.ext hSS; have hO := hO.ext hSS; have hA := hA.ext hSS; have hY := hY.ext hSS; exact (x_move (by conv => lhs; whnf)))) ?_
      refine h_takeg 5 44 rfl rfl rfl (by kernel_rfl) (by kernel_rfl) (by kernel_rfl) hSr7 (fun wS hSS => by (have hX := hX.ext hSS; have hP := hP.ext hSS; have hWt := hWt.ext hSS; have hO := hO.ext hSS; have hA := hA.ext hSS; have hY := hY.ext hSS; exact (x_len_slice u22 rfl))) ?_
      refine h_takeg 6 44 rfl rfl rfl (by kernel_rfl) (by kernel_rfl) (by kernel_rfl) hSr7 (fun wS hSS => by (have hX := hX.ext hSS; have hP := hP.ext hSS; have hWt := hWt.ext hSS; have hO := hO.ext hSS; have hA := hA.ext hSS; have hY := hY.ext hSS; exact ((x_gtr rfl rfl).cast (congrArg _ (decide_eq_false (by have := hpg.1; omega)))))) ?_
      refine h_takeg 7 44 rfl rfl rfl (by kernel_rfl) (by kernel_rfl) (by kernel_rfl) hSr7 (fun wS hSS => by (have hX := hX.ext hSS; have hP := hP.ext hSS; have hWt := hWt.ext hSS; have hO := hO.ext hSS; have hA := hA.ext hSS; have hY := hY.ext hSS; exact (x_move (by conv => lhs; whnf)))) ?_
      refine h_takeg 8 49 rfl rfl rfl (by kernel_rfl) (by kernel_rfl) (by kernel_rfl) hSr7 (fun wS hSS => by (have hX := hX.ext hSS; have hP := hP.ext hSS; have hWt := hWt.ext hSS; have hO := hO.ext hSS; have hA := hA.ext hSS; have hY := hY.ext hSS; exact (x_move (by conv => lhs; whnf)))) ?_
      refine h_takeg 11 49 rfl rfl rfl (by kernel_rfl) (by kernel_rfl) (by kernel_rfl) hSr7 (fun wS hSS => by (have hX := hX.ext hSS; have hP := hP.ext hSS; have hWt := hWt.ext hSS; have hO := hO.ext hSS; have hA := hA.ext hSS; have hY := hY.ext hSS; exact (x_move (by conv => lhs; whnf)))) ?_
      refine h_takeg 12 49 rfl rfl rfl (by kernel_rfl) (by kernel_rfl) (by kernel_rfl) hSr7 (fun wS hSS => by (have hX := hX.ext hSS; have hP := hP.ext hSS; have hWt := hWt.ext hSS; have hO := hO.ext hSS; have hA := hA.ext hSS; have hY := hY.ext hSS; exact (x_move (by conv => lhs; whnf)))) ?_
      refine h_takeg 13 49 rfl rfl rfl (by kernel_rfl) (by kernel_rfl) (by kernel_rfl) hSr7 (fun wS hSS => by (have hX := hX.ext hSS; have hP := hP.ext hSS; have hWt := hWt.ext hSS; have hO := hO.ext hSS; have hA := hA.ext hSS; have hY := hY.ext hSS; exact (x_slice_hN u22 sz5 rfl rfl (by have := hpg.1; have := hb.cap; omega)))) ?_
      refine h_takeg 14 49 rfl rfl rfl (by kernel_rfl) (by kernel_rfl) (by kernel_rfl) hSr7 (fun wS hSS => by (have hX := hX.ext hSS; have hP := hP.ext hSS; have hWt := hWt.ext hSS; have hO := hO.ext hSS; have hA := hA.ext hSS; have hY := hY.ext hSS; exact (x_bytes_str u22 u5 u9 rfl ((hb.ext hX).take (gets ys 1048576).2.1 (by have := hpg.1; omega))))) ?_
      refine h_one 9 _ rfl (by kernel_rfl) (hop_of_list (fun Q9 hQ9 => ?_))
      refine g_drop 49 rfl rfl ?_
      refine o_call Try.func45 fn45 fb45 (hashes_Put (gets ys 1048576).1 _ _ _ _ _ hY.sl hy32) rfl ?_
      rintro v11 w11 ⟨⟨q6, l6, c6, rfl, hZ⟩, hE11⟩
      have hX := hX.ext hE11
      have hS := hS.ext hE11
      have hP := hP.ext hE11
      have hWt := hWt.ext hE11
      have hO := hO.ext hE11
      have hA := hA.ext hE11
      have hY := hY.ext hE11
      have hSr7 := hSr7.ext hE11
      rw [← hyl] at hZ
      have hZ : Own kByte 5 0 _ _ q6 l6 c6 (putB (gets ys 1048576).1) := hZ
      refine hop_end hQ9 ⟨hSr7, ?_⟩
      refine h_one 10 _ rfl (by kernel_rfl) (hop_of_list (fun Q10 hQ10 => ?_))
      refine g1 49 rfl rfl (x_bytes_str u22 u5 u9 rfl hZ.sl) ?_
      refine hop_end hQ10 ⟨hSr7, ?_⟩
      refine h_takeg 15 49 rfl rfl rfl (by kernel_rfl) (by kernel_rfl) (by kernel_rfl) hSr7 (fun wS hSS => by ( exact ((x_neq_str rfl rfl).cast (congrArg _ (decide_eq_false (fun h9 => h9 (by rw [hpg.2]))))))) ?_
      refine h_takeg 16 44 rfl rfl rfl (by kernel_rfl) (by kernel_rfl) (by kernel_rfl) hSr7 (fun wS hSS => by ( exact (x_pick_f rfl (by conv => lhs; whnf)))) ?_
      refine h_take 17 rfl (by kernel_rfl) (by kernel_rfl) (by kernel_rfl) hSr7 (fun wS hSS => by ( exact (x_pick_t rfl (by conv => lhs; whnf)))) ?_
      refine h_done (by kernel_rfl) ?_
      refine t_n ?_
      refine c_f rfl ?_
      refine c_skip ?_
      refine t_n ?_
      refine c_seq ?_
      refine r_plain ?_
      refine p1 (x_move (by conv => lhs; whnf)) ?_
      refine p1 (x_move (by conv => lhs; whnf)) ?_
      refine p1 (x_len_slice u31 rfl) ?_
      refine p1 (x_sub rfl rfl (fits_i64 (by omega) (by omega))) ?_
      refine o_call Try.func43 fn43 fb43 ((by have h9 := hashes_Get (putB (srt xs)) ((m1 : Int) - 1) _ _ _ _ _ hP.sl (by omega) (by omega); rw [← hml, gets_less (by omega)] at h9; rw [← hml]; exact h9)) rfl ?_
      rintro v12 w12 ⟨⟨q7, m7, c7, rfl, hG⟩, hE12⟩
      have hX := hX.ext hE12
      have hS := hS.ext hE12
      have hP := hP.ext hE12
      have hWt := hWt.ext hE12
      have hO := hO.ext hE12
      have hA := hA.ext hE12
      have hY := hY.ext hE12
      have hZ := hZ.ext hE12
      refine p1 (x_move (by conv => lhs; whnf)) ?_
      refine p1 (x_extract rfl rfl) ?_
      refine p1 (x_extract rfl rfl) ?_
      refine p1 (x_extract rfl rfl) ?_
      refine p1 (x_assign (by conv => lhs; whnf)) ?_
      refine p1 (x_assign (by conv => lhs; whnf)) ?_
      refine p1 (x_assign (by conv => lhs; whnf)) ?_
      refine r_nil ?_
      refine t_n ?_
      refine c_seq ?_
      refine r_plain ?_
      refine p1 (x_move (by conv => lhs; whnf)) ?_
      refine p1 (x_move (by conv => lhs; whnf)) ?_
      refine o_call Try.func40 fn40 fb40 ((hashes_Same (srt xs) (srt xs) _ _ _ _ _ _ _ _ _ hA.sl hS.sl).known (c := .bool true) (congrArg Value.bool (decide_eq_true rfl))) rfl ?_
      rintro v13 w13 ⟨rfl, hE13⟩
      have hX := hX.ext hE13
      have hS := hS.ext hE13
      have hP := hP.ext hE13
      have hWt := hWt.ext hE13
      have hO := hO.ext hE13
      have hA := hA.ext hE13
      have hY := hY.ext hE13
      have hZ := hZ.ext hE13
      refine p1 (x_move (by conv => lhs; whnf)) ?_
      refine g1 72 rfl rfl (x_move (by conv => lhs; whnf)) ?_
      refine g1 72 rfl rfl (x_move (by conv => lhs; whnf)) ?_
      refine g1 72 rfl rfl (x_len_slice u22 rfl) ?_
      refine g1 72 rfl rfl ((x_eql rfl rfl).cast (congrArg _ (decide_eq_true (by rw [hll])))) ?_
      refine p1 (x_pick_t rfl (by conv => lhs; whnf)) ?_
      refine p1 (x_move (by conv => lhs; whnf)) ?_
      refine g1 78 rfl rfl (x_move (by conv => lhs; whnf)) ?_
      refine g1 78 rfl rfl ((x_eql rfl rfl).cast (congrArg _ (decide_eq_true rfl))) ?_
      refine p1 (x_pick_t rfl (by conv => lhs; whnf)) ?_
      refine p1 (x_move (by conv => lhs; whnf)) ?_
      refine g1 82 rfl rfl (x_move (by conv => lhs; whnf)) ?_
      refine g1 82 rfl rfl ((x_eql rfl rfl).cast (congrArg _ (decide_eq_true rfl))) ?_
      refine p1 (x_pick_t rfl (by conv => lhs; whnf)) ?_
      refine p1 (x_move (by conv => lhs; whnf)) ?_
      refine g_drop 86 rfl rfl ?_
      refine o_call Try.func33 fn33 fb33 (law06_awake _) rfl ?_
      rintro v14 w14 ⟨rfl, hE14⟩
      have hX := hX.ext hE14
      have hS := hS.ext hE14
      have hP := hP.ext hE14
      have hWt := hWt.ext hE14
      have hO := hO.ext hE14
      have hA := hA.ext hE14
      have hY := hY.ext hE14
      have hZ := hZ.ext hE14
      refine p1 (x_pick_t rfl (by conv => lhs; whnf)) ?_
      refine p1 (x_assign (by conv => lhs; whnf)) ?_
      refine r_nil ?_
      refine t_n ?_
      refine c_ret ?_
      refine end1 rfl (by conv => lhs; whnf) ?_
      exact ⟨rfl, hX⟩
    · try simp only [decide_eq_true_eq, decide_eq_false_iff_not, Bool.not_eq_true, Bool.not_eq_false, Bool.not_eq_eq_eq_not, Bool.not_true, Bool.not_false, Int.not_lt, Int.not_le] at hb7_2
      refine h_skip 3 44 rfl (by first | exact .inl rfl | exact .inr rfl) rfl (by kernel_rfl) (by kernel_rfl) (by kernel_rfl) hSr7 ?_
      refine h_skip 4 44 rfl (by first | exact .inl rfl | exact .inr rfl) rfl (by kernel_rfl) (by kernel_rfl) (by kernel_rfl) hSr7 ?_
      refine h_skip 5 44 rfl (by first | exact .inl rfl | exact .inr rfl) rfl (by kernel_rfl) (by kernel_rfl) (by kernel_rfl) hSr7 ?_
      refine h_skip 6 44 rfl (by first | exact .inl rfl | exact .inr rfl) rfl (by kernel_rfl) (by kernel_rfl) (by kernel_rfl) hSr7 ?_
      refine h_skip 7 44 rfl (by first | exact .inl rfl | exact .inr rfl) rfl (by kernel_rfl) (by kernel_rfl) (by kernel_rfl) hSr7 ?_
      refine h_skip 8 49 rfl (by first | exact .inl rfl | exact .inr rfl) rfl (by kernel_rfl) (by kernel_rfl) (by kernel_rfl) hSr7 ?_
      refine h_skip 9 49 rfl (by first | exact .inl rfl | exact .inr rfl) rfl (by kernel_rfl) (by kernel_rfl) (by kernel_rfl) hSr7 ?_
      refine h_skip 10 49 rfl (by first | exact .inl rfl | exact .inr rfl) rfl (by kernel_rfl) (by kernel_rfl) (by kernel_rfl) hSr7 ?_
      refine h_skip 11 49 rfl (by first | exact .inl rfl | exact .inr rfl) rfl (by kernel_rfl) (by kernel_rfl) (by kernel_rfl) hSr7 ?_
      refine h_skip 12 49 rfl (by first | exact .inl rfl | exact .inr rfl) rfl (by kernel_rfl) (by kernel_rfl) (by kernel_rfl) hSr7 ?_
      refine h_skip 13 49 rfl (by first | exact .inl rfl | exact .inr rfl) rfl (by kernel_rfl) (by kernel_rfl) (by kernel_rfl) hSr7 ?_
      refine h_skip 14 49 rfl (by first | exact .inl rfl | exact .inr rfl) rfl (by kernel_rfl) (by kernel_rfl) (by kernel_rfl) hSr7 ?_
      refine h_skip 15 49 rfl (by first | exact .inl rfl | exact .inr rfl) rfl (by kernel_rfl) (by kernel_rfl) (by kernel_rfl) hSr7 ?_
      refine h_skip 16 44 rfl (by first | exact .inl rfl | exact .inr rfl) rfl (by kernel_rfl) (by kernel_rfl) (by kernel_rfl) hSr7 ?_
      refine h_take 17 rfl (by kernel_rfl) (by kernel_rfl) (by kernel_rfl) hSr7 (fun wS hSS => by ( exact (x_pick_f rfl (by conv => lhs; whnf)))) ?_
      refine h_done (by kernel_rfl) ?_
      refine t_n ?_
      refine c_f rfl ?_
      refine c_skip ?_
      refine t_n ?_
      refine c_seq ?_
      refine r_plain ?_
      refine p1 (x_move (by conv => lhs; whnf)) ?_
      refine p1 (x_move (by conv => lhs; whnf)) ?_
      refine p1 (x_len_slice u31 rfl) ?_
      refine p1 (x_sub rfl rfl (fits_i64 (by omega) (by omega))) ?_
      refine o_call Try.func43 fn43 fb43 ((by have h9 := hashes_Get (putB (srt xs)) ((m1 : Int) - 1) _ _ _ _ _ hP.sl (by omega) (by omega); rw [← hml, gets_less (by omega)] at h9; rw [← hml]; exact h9)) rfl ?_
      rintro v15 w15 ⟨⟨q7, m7, c7, rfl, hG⟩, hE15⟩
      have hX := hX.ext hE15
      have hS := hS.ext hE15
      have hP := hP.ext hE15
      have hWt := hWt.ext hE15
      have hO := hO.ext hE15
      have hA := hA.ext hE15
      have hY := hY.ext hE15
      refine p1 (x_move (by conv => lhs; whnf)) ?_
      refine p1 (x_extract rfl rfl) ?_
      refine p1 (x_extract rfl rfl) ?_
      refine p1 (x_extract rfl rfl) ?_
      refine p1 (x_assign (by conv => lhs; whnf)) ?_
      refine p1 (x_assign (by conv => lhs; whnf)) ?_
      refine p1 (x_assign (by conv => lhs; whnf)) ?_
      refine r_nil ?_
      refine t_n ?_
      refine c_seq ?_
      refine r_plain ?_
      refine p1 (x_move (by conv => lhs; whnf)) ?_
      refine p1 (x_move (by conv => lhs; whnf)) ?_
      refine o_call Try.func40 fn40 fb40 ((hashes_Same (srt xs) (srt xs) _ _ _ _ _ _ _ _ _ hA.sl hS.sl).known (c := .bool true) (congrArg Value.bool (decide_eq_true rfl))) rfl ?_
      rintro v16 w16 ⟨rfl, hE16⟩
      have hX := hX.ext hE16
      have hS := hS.ext hE16
      have hP := hP.ext hE16
      have hWt := hWt.ext hE16
      have hO := hO.ext hE16
      have hA := hA.ext hE16
      have hY := hY.ext hE16
      refine p1 (x_move (by conv => lhs; whnf)) ?_
      refine g1 72 rfl rfl (x_move (by conv => lhs; whnf)) ?_
      refine g1 72 rfl rfl (x_move (by conv => lhs; whnf)) ?_
      refine g1 72 rfl rfl (x_len_slice u22 rfl) ?_
      refine g1 72 rfl rfl ((x_eql rfl rfl).cast (congrArg _ (decide_eq_true (by rw [hll])))) ?_
      refine p1 (x_pick_t rfl (by conv => lhs; whnf)) ?_
      refine p1 (x_move (by conv => lhs; whnf)) ?_
      refine g1 78 rfl rfl (x_move (by conv => lhs; whnf)) ?_
      refine g1 78 rfl rfl ((x_eql rfl rfl).cast (congrArg _ (decide_eq_true rfl))) ?_
      refine p1 (x_pick_t rfl (by conv => lhs; whnf)) ?_
      refine p1 (x_move (by conv => lhs; whnf)) ?_
      refine g1 82 rfl rfl (x_move (by conv => lhs; whnf)) ?_
      refine g1 82 rfl rfl ((x_eql rfl rfl).cast (congrArg _ (decide_eq_true rfl))) ?_
      refine p1 (x_pick_t rfl (by conv => lhs; whnf)) ?_
      refine p1 (x_move (by conv => lhs; whnf)) ?_
      refine g_drop 86 rfl rfl ?_
      refine o_call Try.func33 fn33 fb33 (law06_awake _) rfl ?_
      rintro v17 w17 ⟨rfl, hE17⟩
      have hX := hX.ext hE17
      have hS := hS.ext hE17
      have hP := hP.ext hE17
      have hWt := hWt.ext hE17
      have hO := hO.ext hE17
      have hA := hA.ext hE17
      have hY := hY.ext hE17
      refine p1 (x_pick_t rfl (by conv => lhs; whnf)) ?_
      refine p1 (x_assign (by conv => lhs; whnf)) ?_
      refine r_nil ?_
      refine t_n ?_
      refine c_ret ?_
      refine end1 rfl (by conv => lhs; whnf) ?_
      exact ⟨rfl, hX⟩
end Go.Proofs.Eng
