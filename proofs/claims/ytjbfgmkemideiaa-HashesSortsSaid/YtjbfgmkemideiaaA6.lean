import Derived.Test.YtjbfgmkemideiaaA5
set_option linter.unusedVariables false
set_option linter.unusedSimpArgs false
set_option maxRecDepth 100000
set_option maxHeartbeats 4000000
namespace Go.Proofs.Eng
open Go.RowKit
open Extern.Stop (cell)
theorem law_HashesSorts (xs ys : List Hash) (x : Hash) (B B2 : Nat) (p q : Option Addr) (n c m c2 : Nat) (w : World) (ha : Sl kHash 35 B w p n c xs) (hb : Sl kHash 35 B2 w q m c2 ys) :
    Ret Try.prog 7 [.slice p n c, .slice q m c2, .agg (hv x)] w (fun v w' => v = .bool true ∧ Ext w w') := by
  have hX := Ext.refl w
  refine enter 82 _ Try.func7 rfl rfl (Nat.le_of_ble_eq_true rfl) ?_
  refine c_seq ?_
  refine r_plain ?_
  refine o_boxA (by conv => lhs; whnf) ?_
  intro w1 g5 hN5
  have hE1 := hN5.ext
  have hX := hX.ext hE1
  have hB5 := hN5.blk
  refine p1 (x_assign (by conv => lhs; whnf)) ?_
  refine r_nil ?_
  refine t_n ?_
  refine c_seq ?_
  refine c_seq ?_
  refine r_plain ?_
  refine p1 (x_move (by conv => lhs; whnf)) ?_
  refine o_call Try.func34 fn34 fb34 (law06_few xs _ _ _ _ _ (ha.ext hX)) rfl ?_
  rintro v2 w2 ⟨rfl, hE2⟩
  have hX := hX.ext hE2
  have hB5 := hB5.ext hE2
  first | refine p1 (x_notd rfl) ?_ | refine p1 (x_not rfl) ?_
  refine p1b (x_move (by conv => lhs; whnf)) (fun hb1_3 => ?_) (fun hb1_3 => ?_)
  · try simp only [decide_eq_true_eq, decide_eq_false_iff_not, Bool.not_eq_true, Bool.not_eq_false, Bool.not_eq_eq_eq_not, Bool.not_true, Bool.not_false, Int.not_lt, Int.not_le] at hb1_3
    refine g0 14 rfl (by first | exact .inl rfl | exact .inr rfl) ?_
    refine g0 14 rfl (by first | exact .inl rfl | exact .inr rfl) ?_
    refine g0 14 rfl (by first | exact .inl rfl | exact .inr rfl) ?_
    refine p1 (x_pick_t rfl (by conv => lhs; whnf)) ?_
    refine r_nil ?_
    refine t_n ?_
    refine c_t rfl ?_
    refine c_seq ?_
    refine r_plain ?_
    refine o_call Try.func33 fn33 fb33 (law06_awake _) rfl ?_
    rintro v3 w3 ⟨rfl, hE3⟩
    have hX := hX.ext hE3
    have hB5 := hB5.ext hE3
    refine p1 (x_assign (by conv => lhs; whnf)) ?_
    refine r_nil ?_
    refine t_n ?_
    refine c_ret ?_
    refine t_r ?_
    refine end1 rfl (by conv => lhs; whnf) ?_
    exact ⟨rfl, hX⟩
  · try simp only [decide_eq_true_eq, decide_eq_false_iff_not, Bool.not_eq_true, Bool.not_eq_false, Bool.not_eq_eq_eq_not, Bool.not_true, Bool.not_false, Int.not_lt, Int.not_le] at hb1_3
    refine g1 14 rfl rfl (x_move (by conv => lhs; whnf)) ?_
    refine g_drop 14 rfl rfl ?_
    refine o_call Try.func34 fn34 fb34 (law06_few ys _ _ _ _ _ (hb.ext hX)) rfl ?_
    rintro v4 w4 ⟨rfl, hE4⟩
    have hX := hX.ext hE4
    have hB5 := hB5.ext hE4
    first | refine g1 14 rfl rfl (x_notd rfl) ?_ | refine g1 14 rfl rfl (x_not rfl) ?_
    refine p1 (x_pick_f rfl (by conv => lhs; whnf)) ?_
    refine r_nil ?_
    refine t_n ?_
    first | refine c_dec rfl (fun hc18 => ?_) (fun hc18 => ?_) | refine c_if rfl (fun hc18 => ?_) (fun hc18 => ?_)
    · try simp only [decide_eq_true_eq, decide_eq_false_iff_not, Bool.not_eq_true, Bool.not_eq_false, Bool.not_eq_eq_eq_not, Bool.not_true, Bool.not_false, Int.not_lt, Int.not_le] at hc18
      refine c_seq ?_
      refine r_plain ?_
      refine o_call Try.func33 fn33 fb33 (law06_awake _) rfl ?_
      rintro v5 w5 ⟨rfl, hE5⟩
      have hX := hX.ext hE5
      have hB5 := hB5.ext hE5
      refine p1 (x_assign (by conv => lhs; whnf)) ?_
      refine r_nil ?_
      refine t_n ?_
      refine c_ret ?_
      refine t_r ?_
      refine end1 rfl (by conv => lhs; whnf) ?_
      exact ⟨rfl, hX⟩
    · try simp only [decide_eq_true_eq, decide_eq_false_iff_not, Bool.not_eq_true, Bool.not_eq_false, Bool.not_eq_eq_eq_not, Bool.not_true, Bool.not_false, Int.not_lt, Int.not_le] at hc18
      refine c_skip ?_
      refine t_n ?_
      refine c_seq ?_
      refine r_plain ?_
      have hXs := hX.size
      obtain ⟨Bo, hBo⟩ : ∃ Bo, Bo = w4.heap.size := ⟨_, rfl⟩
      have h5lt := hB5.lt
      rw [← hBo] at hXs h5lt
      refine o_buildSlice u31 inf35 rfl (by decide) (fun base hb => by have h0 : base = #[] := Array.eq_empty_of_size_eq_zero (by simpa using hb); subst h0; rfl) ?_
      intro w6 g20 hN20
      have hE6 := hN20.ext
      have hX := hX.ext hE6
      have hB5 := hB5.ext hE6
      have hO : Own kHash 35 0 Bo w6 (some ⟨g20, 0, none⟩) 0 0 [] := Own.made kHash 35 0 _ hN20 [] [] 0 0 rfl trivial (Nat.le_of_eq hBo) (by omega) (by omega) (by rfl) (by simp)
      refine p1 (x_move (by conv => lhs; whnf)) ?_
      have hB0 := hX.size
      have hq0 := hN20.ext.size
      have hl2 := ha.ext hX
      have hn : n ≤ 2000 := by omega
      refine o_append (d := kHash) (xs) u31 inf35 rfl kHash_pos rfl rfl hO (src_pure u31 hl2 (by decide)) ha.len (hash_all _ _ _) (rfl) (by omega) (by omega) (by omega) (by omega) (by decide) ?_
      intro p22 c22 w7 hO hM7
      have hX := hX.mod hM7 (hXs)
      have hB5 := hB5.modB hM7 h5lt
      rw [List.nil_append] at hO
      refine p1 (x_assign (by conv => lhs; whnf)) ?_
      refine r_nil ?_
      refine t_n ?_
      refine c_seq ?_
      refine r_plain ?_
      refine p1 (x_move (by conv => lhs; whnf)) ?_
      have hOlt := hO.below
      obtain ⟨Bz, hBz⟩ : ∃ Bz, Bz = w7.heap.size := ⟨_, rfl⟩
      rw [← hBz] at hOlt
      have hBw : w.heap.size ≤ Bz := by rw [hBz]; exact hX.size
      refine o_call Try.func35 fn35 fb35 (hashes_Sort xs _ _ _ _ _ hO.sl (by omega)) rfl ?_
      rintro v8 w8 ⟨⟨q3, m3, c3, rfl, hm3, hZ⟩, hE8⟩
      have hX := hX.ext hE8
      have hB5 := hB5.ext hE8
      have hO := hO.ext hE8
      rw [← hBz] at hZ
      refine p1 (x_assign (by conv => lhs; whnf)) ?_
      refine r_nil ?_
      refine t_n ?_
      refine c_seq ?_
      refine r_held (fun w1 w2 => Ext w1 w2) mixed ?_
      intro w9 hE9
      have hX := hX.ext hE9
      have hB5 := hB5.ext hE9
      have hO := hO.ext hE9
      have hZ := hZ.ext hE9
      have hSr5 := Ext.refl w9
      refine h_take 0 rfl (by kernel_rfl) (by kernel_rfl) (by kernel_rfl) hSr5 (fun wS hSS => by (have hX := hX.ext hSS; have hB5 := hB5.ext hSS; have hO := hO.ext hSS; have hZ := hZ.ext hSS; exact (x_move (by conv => lhs; whnf)))) ?_
      refine h_take 1 rfl (by kernel_rfl) (by kernel_rfl) (by kernel_rfl) hSr5 (fun wS hSS => by (have hX := hX.ext hSS; have hB5 := hB5.ext hSS; have hO := hO.ext hSS; have hZ := hZ.ext hSS; exact (x_move (by conv => lhs; whnf)))) ?_
      refine h_one 2 _ rfl (by kernel_rfl) (hop_of_list (fun Q2 hQ2 => ?_))
      refine o_call Try.func37 fn37 fb37 (ref06_Sort xs _ _ _ _ _ (ha.ext hX) (by omega)) rfl ?_
      rintro v10 w10 ⟨⟨q4, m4, c4, rfl, hR, hm4⟩, hE10⟩
      have hX := hX.ext hE10
      have hB5 := hB5.ext hE10
      have hO := hO.ext hE10
      have hZ := hZ.ext hE10
      have hSr5 := hSr5.ext hE10
      refine hop_end hQ2 ⟨hSr5, ?_⟩
      refine h_one 3 _ rfl (by kernel_rfl) (hop_of_list (fun Q3 hQ3 => ?_))
      refine o_call Try.func36 fn36 fb36 ((ref06_Same (srt xs) (srt xs) _ _ _ _ _ _ _ _ _ hZ.sl hR).known (c := .bool true) (congrArg Value.bool (decide_eq_true rfl))) rfl ?_
      rintro v11 w11 ⟨rfl, hE11⟩
      have hX := hX.ext hE11
      have hB5 := hB5.ext hE11
      have hO := hO.ext hE11
      have hZ := hZ.ext hE11
      have hSr5 := hSr5.ext hE11
      have hR := hR.ext hE11
      refine hop_end hQ3 ⟨hSr5, ?_⟩
      refine h_take 4 rfl (by kernel_rfl) (by kernel_rfl) (by kernel_rfl) hSr5 (fun wS hSS => by ( exact (x_move (by conv => lhs; whnf)))) ?_
      refine h_takeg 5 29 rfl rfl rfl (by kernel_rfl) (by kernel_rfl) (by kernel_rfl) hSr5 (fun wS hSS => by ( exact (x_move (by conv => lhs; whnf)))) ?_
      refine h_takeg 7 29 rfl rfl rfl (by kernel_rfl) (by kernel_rfl) (by kernel_rfl) hSr5 (fun wS hSS => by ( exact (x_move (by conv => lhs; whnf)))) ?_
      refine h_one 6 _ rfl (by kernel_rfl) (hop_of_list (fun Q6 hQ6 => ?_))
      refine g_drop 29 rfl rfl ?_
      refine o_call Try.func38 fn38 fb38 (hashes_Rising xs _ _ _ _ _ hO.sl) rfl ?_
      rintro v12 w12 ⟨rfl, hE12⟩
      have hX := hX.ext hE12
      have hB5 := hB5.ext hE12
      have hO := hO.ext hE12
      have hZ := hZ.ext hE12
      have hSr5 := hSr5.ext hE12
      have hR := hR.ext hE12
      refine hop_end hQ6 ⟨hSr5, ?_⟩
      refine h_one 8 _ rfl (by kernel_rfl) (hop_of_list (fun Q8 hQ8 => ?_))
      refine g_drop 29 rfl rfl ?_
      refine o_call Try.func39 fn39 fb39 (ref06_Rising xs _ _ _ _ _ (ha.ext hX)) rfl ?_
      rintro v13 w13 ⟨rfl, hE13⟩
      have hX := hX.ext hE13
      have hB5 := hB5.ext hE13
      have hO := hO.ext hE13
      have hZ := hZ.ext hE13
      have hSr5 := hSr5.ext hE13
      have hR := hR.ext hE13
      refine hop_end hQ8 ⟨hSr5, ?_⟩
      refine h_takeg 9 29 rfl rfl rfl (by kernel_rfl) (by kernel_rfl) (by kernel_rfl) hSr5 (fun wS hSS => by ( exact ((x_eql_bool u4 rfl rfl).cast (congrArg _ (decide_eq_true rfl))))) ?_
      refine h_take 10 rfl (by kernel_rfl) (by kernel_rfl) (by kernel_rfl) hSr5 (fun wS hSS => by ( exact (x_pick_t rfl (by conv => lhs; whnf)))) ?_
      refine h_take 11 rfl (by kernel_rfl) (by kernel_rfl) (by kernel_rfl) hSr5 (fun wS hSS => by ( exact (x_move (by conv => lhs; whnf)))) ?_
      refine h_takeg 12 36 rfl rfl rfl (by kernel_rfl) (by kernel_rfl) (by kernel_rfl) hSr5 (fun wS hSS => by ( exact (x_move (by conv => lhs; whnf)))) ?_
      refine h_takeg 13 36 rfl rfl rfl (by kernel_rfl) (by kernel_rfl) (by kernel_rfl) hSr5 (fun wS hSS => by ( exact (x_move (by conv => lhs; whnf)))) ?_
      refine h_takeg 15 36 rfl rfl rfl (by kernel_rfl) (by kernel_rfl) (by kernel_rfl) hSr5 (fun wS hSS => by ( exact (x_move (by conv => lhs; whnf)))) ?_
      refine h_takeg 16 36 rfl rfl rfl (by kernel_rfl) (by kernel_rfl) (by kernel_rfl) hSr5 (fun wS hSS => by ( exact (x_move (by conv => lhs; whnf)))) ?_
      refine h_one 14 _ rfl (by kernel_rfl) (hop_of_list (fun Q14 hQ14 => ?_))
      refine g_drop 36 rfl rfl ?_
      refine o_call Try.func40 fn40 fb40 (hashes_Same xs ys _ _ _ _ _ _ _ _ _ hO.sl (hb.ext hX)) rfl ?_
      rintro v14 w14 ⟨rfl, hE14⟩
      have hX := hX.ext hE14
      have hB5 := hB5.ext hE14
      have hO := hO.ext hE14
      have hZ := hZ.ext hE14
      have hSr5 := hSr5.ext hE14
      have hR := hR.ext hE14
      refine hop_end hQ14 ⟨hSr5, ?_⟩
      refine h_one 17 _ rfl (by kernel_rfl) (hop_of_list (fun Q17 hQ17 => ?_))
      refine g_drop 36 rfl rfl ?_
      refine o_call Try.func36 fn36 fb36 (ref06_Same xs ys _ _ _ _ _ _ _ _ _ (ha.ext hX) (hb.ext hX)) rfl ?_
      rintro v15 w15 ⟨rfl, hE15⟩
      have hX := hX.ext hE15
      have hB5 := hB5.ext hE15
      have hO := hO.ext hE15
      have hZ := hZ.ext hE15
      have hSr5 := hSr5.ext hE15
      have hR := hR.ext hE15
      refine hop_end hQ17 ⟨hSr5, ?_⟩
      refine h_takeg 18 36 rfl rfl rfl (by kernel_rfl) (by kernel_rfl) (by kernel_rfl) hSr5 (fun wS hSS => by ( exact ((x_eql_bool u4 rfl rfl).cast (congrArg _ (decide_eq_true rfl))))) ?_
      refine h_take 19 rfl (by kernel_rfl) (by kernel_rfl) (by kernel_rfl) hSr5 (fun wS hSS => by ( exact (x_pick_t rfl (by conv => lhs; whnf)))) ?_
      refine h_take 20 rfl (by kernel_rfl) (by kernel_rfl) (by kernel_rfl) hSr5 (fun wS hSS => by ( exact (x_move (by conv => lhs; whnf)))) ?_
      refine h_takeg 21 45 rfl rfl rfl (by kernel_rfl) (by kernel_rfl) (by kernel_rfl) hSr5 (fun wS hSS => by ( exact (x_move (by conv => lhs; whnf)))) ?_
      refine h_takeg 24 45 rfl rfl rfl (by kernel_rfl) (by kernel_rfl) (by kernel_rfl) hSr5 (fun wS hSS => by ( exact (x_move (by conv => lhs; whnf)))) ?_
      refine h_two 22 25 _ _ rfl rfl (by kernel_rfl) (hop_of_list (fun Q22 hQ22 => ?_)) (hop_of_list (fun Q25 hQ25 => ?_))
      · skip
        refine g1 45 rfl rfl (x_loadB ua35 rfl hB5 (hv_sz sz35 x)) ?_
        refine hop_end hQ22 ⟨hSr5, ?_⟩
        refine h_two 23 25 _ _ rfl rfl (by kernel_rfl) (hop_of_list (fun Q23 hQ23 => ?_)) (hop_of_list (fun Q25 hQ25 => ?_))
        · skip
          refine g_drop 45 rfl rfl ?_
          refine o_call Try.func41 fn41 fb41 (hashes_Has xs x _ _ _ _ _ hO.sl) rfl ?_
          rintro v16 w16 ⟨rfl, hE16⟩
          have hX := hX.ext hE16
          have hB5 := hB5.ext hE16
          have hO := hO.ext hE16
          have hZ := hZ.ext hE16
          have hSr5 := hSr5.ext hE16
          have hR := hR.ext hE16
          refine hop_end hQ23 ⟨hSr5, ?_⟩
          refine h_one 25 _ rfl (by kernel_rfl) (hop_of_list (fun Q25 hQ25 => ?_))
          refine g1 45 rfl rfl (x_loadB ua35 rfl hB5 (hv_sz sz35 x)) ?_
          refine hop_end hQ25 ⟨hSr5, ?_⟩
          refine h_one 26 _ rfl (by kernel_rfl) (hop_of_list (fun Q26 hQ26 => ?_))
          refine g_drop 45 rfl rfl ?_
          refine o_call Try.func42 fn42 fb42 (ref06_Has xs x _ _ _ _ _ (ha.ext hX)) rfl ?_
          rintro v17 w17 ⟨rfl, hE17⟩
          have hX := hX.ext hE17
          have hB5 := hB5.ext hE17
          have hO := hO.ext hE17
          have hZ := hZ.ext hE17
          have hSr5 := hSr5.ext hE17
          have hR := hR.ext hE17
          refine hop_end hQ26 ⟨hSr5, ?_⟩
          refine h_takeg 27 45 rfl rfl rfl (by kernel_rfl) (by kernel_rfl) (by kernel_rfl) hSr5 (fun wS hSS => by ( exact ((x_eql_bool u4 rfl rfl).cast (congrArg _ (decide_eq_true rfl))))) ?_
          refine h_take 28 rfl (by kernel_rfl) (by kernel_rfl) (by kernel_rfl) hSr5 (fun wS hSS => by ( exact (x_pick_t rfl (by conv => lhs; whnf)))) ?_
          refine h_take 29 rfl (by kernel_rfl) (by kernel_rfl) (by kernel_rfl) hSr5 (fun wS hSS => by ( exact (x_move (by conv => lhs; whnf)))) ?_
          refine h_takeg 30 54 rfl rfl rfl (by kernel_rfl) (by kernel_rfl) (by kernel_rfl) hSr5 (fun wS hSS => by ( exact (x_move (by conv => lhs; whnf)))) ?_
          refine h_takeg 31 54 rfl rfl rfl (by kernel_rfl) (by kernel_rfl) (by kernel_rfl) hSr5 (fun wS hSS => by ( exact (x_move (by conv => lhs; whnf)))) ?_
          refine h_one 32 _ rfl (by kernel_rfl) (hop_of_list (fun Q32 hQ32 => ?_))
          refine g_drop 54 rfl rfl ?_
          refine o_call Try.func40 fn40 fb40 ((hashes_Same xs xs _ _ _ _ _ _ _ _ _ hO.sl (ha.ext hX)).known (c := .bool true) (congrArg Value.bool (decide_eq_true rfl))) rfl ?_
          rintro v18 w18 ⟨rfl, hE18⟩
          have hX := hX.ext hE18
          have hB5 := hB5.ext hE18
          have hO := hO.ext hE18
          have hZ := hZ.ext hE18
          have hSr5 := hSr5.ext hE18
          have hR := hR.ext hE18
          refine hop_end hQ32 ⟨hSr5, ?_⟩
          refine h_take 33 rfl (by kernel_rfl) (by kernel_rfl) (by kernel_rfl) hSr5 (fun wS hSS => by ( exact (x_pick_t rfl (by conv => lhs; whnf)))) ?_
          refine h_take 34 rfl (by kernel_rfl) (by kernel_rfl) (by kernel_rfl) hSr5 (fun wS hSS => by ( exact (x_assign (by conv => lhs; whnf)))) ?_
          refine h_done (by kernel_rfl) ?_
          refine t_n ?_
          refine c_seq ?_
          refine c_seq ?_
          refine r_plain ?_
          refine p1 (x_assign (by conv => lhs; whnf)) ?_
          refine r_nil ?_
          refine t_n ?_
          refine c_block ?_
          refine c_loop (ι := Nat × List Hash) [10, 59, 60, 61, 62, 63, 64, 65, 66, 67, 68, 69, 70, 71, 72] (fun (k, zs) => [(10, .int .i64 (k : Int))]) (fun (k, zs) w' => Ext w w' ∧ (Own kHash 35 0 Bz w' q3 m3 c3 zs ∧ Own kHash 35 0 Bo w' p22 (0 + n) c22 xs ∧ k ≤ m3)) (fun (k, zs) => m3 - k) ((0, srt xs)) ⟨rfl, trivial⟩ ⟨hX, ⟨hZ, hO, by omega⟩⟩ ?_
          rintro ⟨k, zs⟩ GL0 w19 ⟨hE19, hZ, hO, hk⟩
          have hX := hE19
          refine c_seq ?_
          refine c_seq ?_
          refine r_plain ?_
          refine p1 (x_move (by conv => lhs; whnf)) ?_
          refine p1 (x_move (by conv => lhs; whnf)) ?_
          refine p1 (x_len_slice u31 rfl) ?_
          refine p1 (x_lss rfl rfl) ?_
          refine r_nil ?_
          refine t_n ?_
          first | refine c_dec rfl (fun hc62 => ?_) (fun hc62 => ?_) | refine c_if rfl (fun hc62 => ?_) (fun hc62 => ?_)
          · try simp only [decide_eq_true_eq, decide_eq_false_iff_not, Bool.not_eq_true, Bool.not_eq_false, Bool.not_eq_eq_eq_not, Bool.not_true, Bool.not_false, Int.not_lt, Int.not_le] at hc62
            refine c_skip ?_
            refine t_n ?_
            refine c_seq ?_
            refine c_block ?_
            have hzl := hZ.small
            refine r_tail 8 mixed (by kernel_rfl) ?_
            intro w20 hE20
            have hX := hX.ext hE20
            have hZ := hZ.ext hE20
            have hO := hO.ext hE20
            refine s1 (x_move (by conv => lhs; whnf)) ?_
            refine s1 (x_move (by conv => lhs; whnf)) ?_
            refine s1 (x_ixs u31 sz35 rfl rfl (hZ.sl.adr kHash_pos (by omega)) (by omega) (by omega)) ?_
            refine s1 (x_ixa u35 sz5 rfl rfl (by omega) (by omega)) ?_
            refine s1 (x_load1 un5 rfl ((hZ.sl.hashAt (k : Int) (by omega) (by omega)) 0 _ (hcs_get (zs.getD ((k : Int)).toNat default) 0 (by omega)))) ?_
            refine s1 ((x_addw rfl rfl).cast (congrArg _ (u8_inc ((zs.getD ((k : Int)).toNat default).1.getD 0 0)))) ?_
            refine s1 (x_ixs u31 sz35 rfl rfl (hZ.sl.adr kHash_pos (by omega)) (by omega) (by omega)) ?_
            refine s1 (x_ixa u35 sz5 rfl rfl (by omega) (by omega)) ?_
            refine s_nil ?_
            refine o_storeIn (d := kHash) (i := k) (j := 0) (default) ((zs.getD ((k : Int)).toNat default).put 0 ((zs.getD ((k : Int)).toNat default).1.getD 0 0 + 1)) rfl (by conv => lhs; whnf) rfl rfl hZ (by omega) (by decide) (fun cx hcx => kHash_put cx hcx) sz5 (Nat.zero_le _) (by decide) ?_
            intro w21 hZ hM21
            have hX := hX.mod hM21 (hBw)
            have hO := hO.modB hM21 (Nat.zero_le _) (by decide) hOlt
            refine r_nil ?_
            refine b_n ?_
            refine t_n ?_
            refine r_plain ?_
            refine p1 (x_move (by conv => lhs; whnf)) ?_
            refine p1 (x_add rfl rfl (fits_i64 (by omega) (by omega))) ?_
            refine p1 (x_assign (by conv => lhs; whnf)) ?_
            refine r_nil ?_
            refine t_n (At.mk ((k + 1, zs.set k ((zs.getD ((k : Int)).toNat default).put 0 ((zs.getD ((k : Int)).toNat default).1.getD 0 0 + 1)))) (by repeat (first | exact Agr.refl _ _ | exact Agr.hav _ _ _ | refine Agr.upd rfl ?_ | refine Agr.updL ?_ _ rfl | refine Agr.hav' rfl ?_)) ⟨rfl, trivial⟩ ?_)
            exact ⟨⟨hX, ⟨hZ, hO, by omega⟩⟩, by first | (dsimp only; omega) | ((show _ < _); omega)⟩
          · try simp only [decide_eq_true_eq, decide_eq_false_iff_not, Bool.not_eq_true, Bool.not_eq_false, Bool.not_eq_eq_eq_not, Bool.not_true, Bool.not_false, Int.not_lt, Int.not_le] at hc62
            refine c_exit ?_
            refine t_e ?_
            refine t_e ?_
            refine b_hit ?_
            refine t_n ?_
            refine c_seq ?_
            refine r_plain ?_
            refine p1 (x_move (by conv => lhs; whnf)) ?_
            refine p1 (x_move (by conv => lhs; whnf)) ?_
            refine g1 74 rfl rfl (x_move (by conv => lhs; whnf)) ?_
            refine g1 74 rfl rfl (x_move (by conv => lhs; whnf)) ?_
            refine g_drop 74 rfl rfl ?_
            refine o_call Try.func36 fn36 fb36 ((ref06_Same xs xs _ _ _ _ _ _ _ _ _ hO.sl (ha.ext hX)).known (c := .bool true) (congrArg Value.bool (decide_eq_true rfl))) rfl ?_
            rintro v22 w22 ⟨rfl, hE22⟩
            have hX := hX.ext hE22
            have hZ := hZ.ext hE22
            have hO := hO.ext hE22
            refine p1 (x_pick_t rfl (by conv => lhs; whnf)) ?_
            refine p1 (x_move (by conv => lhs; whnf)) ?_
            refine g_drop 79 rfl rfl ?_
            refine o_call Try.func33 fn33 fb33 (law06_awake _) rfl ?_
            rintro v23 w23 ⟨rfl, hE23⟩
            have hX := hX.ext hE23
            have hZ := hZ.ext hE23
            have hO := hO.ext hE23
            refine p1 (x_pick_t rfl (by conv => lhs; whnf)) ?_
            refine p1 (x_assign (by conv => lhs; whnf)) ?_
            refine r_nil ?_
            refine t_n ?_
            refine c_ret ?_
            refine end1 rfl (by conv => lhs; whnf) ?_
            exact ⟨rfl, hX⟩
        · skip
          refine g1 45 rfl rfl (x_loadB ua35 rfl hB5 (hv_sz sz35 x)) ?_
          refine hop_end hQ25 ⟨hSr5, ?_⟩
          refine h_one 23 _ rfl (by kernel_rfl) (hop_of_list (fun Q23 hQ23 => ?_))
          refine g_drop 45 rfl rfl ?_
          refine o_call Try.func41 fn41 fb41 (hashes_Has xs x _ _ _ _ _ hO.sl) rfl ?_
          rintro v24 w24 ⟨rfl, hE24⟩
          have hX := hX.ext hE24
          have hB5 := hB5.ext hE24
          have hO := hO.ext hE24
          have hZ := hZ.ext hE24
          have hSr5 := hSr5.ext hE24
          have hR := hR.ext hE24
          refine hop_end hQ23 ⟨hSr5, ?_⟩
          refine h_one 26 _ rfl (by kernel_rfl) (hop_of_list (fun Q26 hQ26 => ?_))
          refine g_drop 45 rfl rfl ?_
          refine o_call Try.func42 fn42 fb42 (ref06_Has xs x _ _ _ _ _ (ha.ext hX)) rfl ?_
          rintro v25 w25 ⟨rfl, hE25⟩
          have hX := hX.ext hE25
          have hB5 := hB5.ext hE25
          have hO := hO.ext hE25
          have hZ := hZ.ext hE25
          have hSr5 := hSr5.ext hE25
          have hR := hR.ext hE25
          refine hop_end hQ26 ⟨hSr5, ?_⟩
          refine h_takeg 27 45 rfl rfl rfl (by kernel_rfl) (by kernel_rfl) (by kernel_rfl) hSr5 (fun wS hSS => by ( exact ((x_eql_bool u4 rfl rfl).cast (congrArg _ (decide_eq_true rfl))))) ?_
          refine h_take 28 rfl (by kernel_rfl) (by kernel_rfl) (by kernel_rfl) hSr5 (fun wS hSS => by ( exact (x_pick_t rfl (by conv => lhs; whnf)))) ?_
          refine h_take 29 rfl (by kernel_rfl) (by kernel_rfl) (by kernel_rfl) hSr5 (fun wS hSS => by ( exact (x_move (by conv => lhs; whnf)))) ?_
          refine h_takeg 30 54 rfl rfl rfl (by kernel_rfl) (by kernel_rfl) (by kernel_rfl) hSr5 (fun wS hSS => by ( exact (x_move (by conv => lhs; whnf)))) ?_
          refine h_takeg 31 54 rfl rfl rfl (by kernel_rfl) (by kernel_rfl) (by kernel_rfl) hSr5 (fun wS hSS => by ( exact (x_move (by conv => lhs; whnf)))) ?_
          refine h_one 32 _ rfl (by kernel_rfl) (hop_of_list (fun Q32 hQ32 => ?_))
          refine g_drop 54 rfl rfl ?_
          refine o_call Try.func40 fn40 fb40 ((hashes_Same xs xs _ _ _ _ _ _ _ _ _ hO.sl (ha.ext hX)).known (c := .bool true) (congrArg Value.bool (decide_eq_true rfl))) rfl ?_
          rintro v26 w26 ⟨rfl, hE26⟩
          have hX := hX.ext hE26
          have hB5 := hB5.ext hE26
          have hO := hO.ext hE26
          have hZ := hZ.ext hE26
          have hSr5 := hSr5.ext hE26
          have hR := hR.ext hE26
          refine hop_end hQ32 ⟨hSr5, ?_⟩
          refine h_take 33 rfl (by kernel_rfl) (by kernel_rfl) (by kernel_rfl) hSr5 (fun wS hSS => by ( exact (x_pick_t rfl (by conv => lhs; whnf)))) ?_
          refine h_take 34 rfl (by kernel_rfl) (by kernel_rfl) (by kernel_rfl) hSr5 (fun wS hSS => by ( exact (x_assign (by conv => lhs; whnf)))) ?_
          refine h_done (by kernel_rfl) ?_
          refine t_n ?_
          refine c_seq ?_
          refine c_seq ?_
          refine r_plain ?_
          refine p1 (x_assign (by conv => lhs; whnf)) ?_
          refine r_nil ?_
          refine t_n ?_
          refine c_block ?_
          refine c_loop (ι := Nat × List Hash) [10, 59, 60, 61, 62, 63, 64, 65, 66, 67, 68, 69, 70, 71, 72] (fun (k, zs) => [(10, .int .i64 (k : Int))]) (fun (k, zs) w' => Ext w w' ∧ (Own kHash 35 0 Bz w' q3 m3 c3 zs ∧ Own kHash 35 0 Bo w' p22 (0 + n) c22 xs ∧ k ≤ m3)) (fun (k, zs) => m3 - k) ((0, srt xs)) ⟨rfl, trivial⟩ ⟨hX, ⟨hZ, hO, by omega⟩⟩ ?_
          rintro ⟨k, zs⟩ GL0 w27 ⟨hE27, hZ, hO, hk⟩
          have hX := hE27
          refine c_seq ?_
          refine c_seq ?_
          refine r_plain ?_
          refine p1 (x_move (by conv => lhs; whnf)) ?_
          refine p1 (x_move (by conv => lhs; whnf)) ?_
          refine p1 (x_len_slice u31 rfl) ?_
          refine p1 (x_lss rfl rfl) ?_
          refine r_nil ?_
          refine t_n ?_
          first | refine c_dec rfl (fun hc62 => ?_) (fun hc62 => ?_) | refine c_if rfl (fun hc62 => ?_) (fun hc62 => ?_)
          · try simp only [decide_eq_true_eq, decide_eq_false_iff_not, Bool.not_eq_true, Bool.not_eq_false, Bool.not_eq_eq_eq_not, Bool.not_true, Bool.not_false, Int.not_lt, Int.not_le] at hc62
            refine c_skip ?_
            refine t_n ?_
            refine c_seq ?_
            refine c_block ?_
            have hzl := hZ.small
            refine r_tail 8 mixed (by kernel_rfl) ?_
            intro w28 hE28
            have hX := hX.ext hE28
            have hZ := hZ.ext hE28
            have hO := hO.ext hE28
            refine s1 (x_move (by conv => lhs; whnf)) ?_
            refine s1 (x_move (by conv => lhs; whnf)) ?_
            refine s1 (x_ixs u31 sz35 rfl rfl (hZ.sl.adr kHash_pos (by omega)) (by omega) (by omega)) ?_
            refine s1 (x_ixa u35 sz5 rfl rfl (by omega) (by omega)) ?_
            refine s1 (x_load1 un5 rfl ((hZ.sl.hashAt (k : Int) (by omega) (by omega)) 0 _ (hcs_get (zs.getD ((k : Int)).toNat default) 0 (by omega)))) ?_
            refine s1 ((x_addw rfl rfl).cast (congrArg _ (u8_inc ((zs.getD ((k : Int)).toNat default).1.getD 0 0)))) ?_
            refine s1 (x_ixs u31 sz35 rfl rfl (hZ.sl.adr kHash_pos (by omega)) (by omega) (by omega)) ?_
            refine s1 (x_ixa u35 sz5 rfl rfl (by omega) (by omega)) ?_
            refine s_nil ?_
            refine o_storeIn (d := kHash) (i := k) (j := 0) (default) ((zs.getD ((k : Int)).toNat default).put 0 ((zs.getD ((k : Int)).toNat default).1.getD 0 0 + 1)) rfl (by conv => lhs; whnf) rfl rfl hZ (by omega) (by decide) (fun cx hcx => kHash_put cx hcx) sz5 (Nat.zero_le _) (by decide) ?_
            intro w29 hZ hM29
            have hX := hX.mod hM29 (hBw)
            have hO := hO.modB hM29 (Nat.zero_le _) (by decide) hOlt
            refine r_nil ?_
            refine b_n ?_
            refine t_n ?_
            refine r_plain ?_
            refine p1 (x_move (by conv => lhs; whnf)) ?_
            refine p1 (x_add rfl rfl (fits_i64 (by omega) (by omega))) ?_
            refine p1 (x_assign (by conv => lhs; whnf)) ?_
            refine r_nil ?_
            refine t_n (At.mk ((k + 1, zs.set k ((zs.getD ((k : Int)).toNat default).put 0 ((zs.getD ((k : Int)).toNat default).1.getD 0 0 + 1)))) (by repeat (first | exact Agr.refl _ _ | exact Agr.hav _ _ _ | refine Agr.upd rfl ?_ | refine Agr.updL ?_ _ rfl | refine Agr.hav' rfl ?_)) ⟨rfl, trivial⟩ ?_)
            exact ⟨⟨hX, ⟨hZ, hO, by omega⟩⟩, by first | (dsimp only; omega) | ((show _ < _); omega)⟩
          · try simp only [decide_eq_true_eq, decide_eq_false_iff_not, Bool.not_eq_true, Bool.not_eq_false, Bool.not_eq_eq_eq_not, Bool.not_true, Bool.not_false, Int.not_lt, Int.not_le] at hc62
            refine c_exit ?_
            refine t_e ?_
            refine t_e ?_
            refine b_hit ?_
            refine t_n ?_
            refine c_seq ?_
            refine r_plain ?_
            refine p1 (x_move (by conv => lhs; whnf)) ?_
            refine p1 (x_move (by conv => lhs; whnf)) ?_
            refine g1 74 rfl rfl (x_move (by conv => lhs; whnf)) ?_
            refine g1 74 rfl rfl (x_move (by conv => lhs; whnf)) ?_
            refine g_drop 74 rfl rfl ?_
            refine o_call Try.func36 fn36 fb36 ((ref06_Same xs xs _ _ _ _ _ _ _ _ _ hO.sl (ha.ext hX)).known (c := .bool true) (congrArg Value.bool (decide_eq_true rfl))) rfl ?_
            rintro v30 w30 ⟨rfl, hE30⟩
            have hX := hX.ext hE30
            have hZ := hZ.ext hE30
            have hO := hO.ext hE30
            refine p1 (x_pick_t rfl (by conv => lhs; whnf)) ?_
            refine p1 (x_move (by conv => lhs; whnf)) ?_
            refine g_drop 79 rfl rfl ?_
            refine o_call Try.func33 fn33 fb33 (law06_awake _) rfl ?_
            rintro v31 w31 ⟨rfl, hE31⟩
            have hX := hX.ext hE31
            have hZ := hZ.ext hE31
            have hO := hO.ext hE31
            refine p1 (x_pick_t rfl (by conv => lhs; whnf)) ?_
            refine p1 (x_assign (by conv => lhs; whnf)) ?_
            refine r_nil ?_
            refine t_n ?_
            refine c_ret ?_
            refine end1 rfl (by conv => lhs; whnf) ?_
            exact ⟨rfl, hX⟩
      · skip
        refine g1 45 rfl rfl (x_loadB ua35 rfl hB5 (hv_sz sz35 x)) ?_
        refine hop_end hQ25 ⟨hSr5, ?_⟩
        refine h_one 22 _ rfl (by kernel_rfl) (hop_of_list (fun Q22 hQ22 => ?_))
        refine g1 45 rfl rfl (x_loadB ua35 rfl hB5 (hv_sz sz35 x)) ?_
        refine hop_end hQ22 ⟨hSr5, ?_⟩
        refine h_one 23 _ rfl (by kernel_rfl) (hop_of_list (fun Q23 hQ23 => ?_))
        refine g_drop 45 rfl rfl ?_
        refine o_call Try.func41 fn41 fb41 (hashes_Has xs x _ _ _ _ _ hO.sl) rfl ?_
        rintro v32 w32 ⟨rfl, hE32⟩
        have hX := hX.ext hE32
        have hB5 := hB5.ext hE32
        have hO := hO.ext hE32
        have hZ := hZ.ext hE32
        have hSr5 := hSr5.ext hE32
        have hR := hR.ext hE32
        refine hop_end hQ23 ⟨hSr5, ?_⟩
        refine h_one 26 _ rfl (by kernel_rfl) (hop_of_list (fun Q26 hQ26 => ?_))
        refine g_drop 45 rfl rfl ?_
        refine o_call Try.func42 fn42 fb42 (ref06_Has xs x _ _ _ _ _ (ha.ext hX)) rfl ?_
        rintro v33 w33 ⟨rfl, hE33⟩
        have hX := hX.ext hE33
        have hB5 := hB5.ext hE33
        have hO := hO.ext hE33
        have hZ := hZ.ext hE33
        have hSr5 := hSr5.ext hE33
        have hR := hR.ext hE33
        refine hop_end hQ26 ⟨hSr5, ?_⟩
        refine h_takeg 27 45 rfl rfl rfl (by kernel_rfl) (by kernel_rfl) (by kernel_rfl) hSr5 (fun wS hSS => by ( exact ((x_eql_bool u4 rfl rfl).cast (congrArg _ (decide_eq_true rfl))))) ?_
        refine h_take 28 rfl (by kernel_rfl) (by kernel_rfl) (by kernel_rfl) hSr5 (fun wS hSS => by ( exact (x_pick_t rfl (by conv => lhs; whnf)))) ?_
        refine h_take 29 rfl (by kernel_rfl) (by kernel_rfl) (by kernel_rfl) hSr5 (fun wS hSS => by ( exact (x_move (by conv => lhs; whnf)))) ?_
        refine h_takeg 30 54 rfl rfl rfl (by kernel_rfl) (by kernel_rfl) (by kernel_rfl) hSr5 (fun wS hSS => by ( exact (x_move (by conv => lhs; whnf)))) ?_
        refine h_takeg 31 54 rfl rfl rfl (by kernel_rfl) (by kernel_rfl) (by kernel_rfl) hSr5 (fun wS hSS => by ( exact (x_move (by conv => lhs; whnf)))) ?_
        refine h_one 32 _ rfl (by kernel_rfl) (hop_of_list (fun Q32 hQ32 => ?_))
        refine g_drop 54 rfl rfl ?_
        refine o_call Try.func40 fn40 fb40 ((hashes_Same xs xs _ _ _ _ _ _ _ _ _ hO.sl (ha.ext hX)).known (c := .bool true) (congrArg Value.bool (decide_eq_true rfl))) rfl ?_
        rintro v34 w34 ⟨rfl, hE34⟩
        have hX := hX.ext hE34
        have hB5 := hB5.ext hE34
        have hO := hO.ext hE34
        have hZ := hZ.ext hE34
        have hSr5 := hSr5.ext hE34
        have hR := hR.ext hE34
        refine hop_end hQ32 ⟨hSr5, ?_⟩
        refine h_take 33 rfl (by kernel_rfl) (by kernel_rfl) (by kernel_rfl) hSr5 (fun wS hSS => by ( exact (x_pick_t rfl (by conv => lhs; whnf)))) ?_
        refine h_take 34 rfl (by kernel_rfl) (by kernel_rfl) (by kernel_rfl) hSr5 (fun wS hSS => by ( exact (x_assign (by conv => lhs; whnf)))) ?_
        refine h_done (by kernel_rfl) ?_
        refine t_n ?_
        refine c_seq ?_
        refine c_seq ?_
        refine r_plain ?_
        refine p1 (x_assign (by conv => lhs; whnf)) ?_
        refine r_nil ?_
        refine t_n ?_
        refine c_block ?_
        refine c_loop (ι := Nat × List Hash) [10, 59, 60, 61, 62, 63, 64, 65, 66, 67, 68, 69, 70, 71, 72] (fun (k, zs) => [(10, .int .i64 (k : Int))]) (fun (k, zs) w' => Ext w w' ∧ (Own kHash 35 0 Bz w' q3 m3 c3 zs ∧ Own kHash 35 0 Bo w' p22 (0 + n) c22 xs ∧ k ≤ m3)) (fun (k, zs) => m3 - k) ((0, srt xs)) ⟨rfl, trivial⟩ ⟨hX, ⟨hZ, hO, by omega⟩⟩ ?_
        rintro ⟨k, zs⟩ GL0 w35 ⟨hE35, hZ, hO, hk⟩
        have hX := hE35
        refine c_seq ?_
        refine c_seq ?_
        refine r_plain ?_
        refine p1 (x_move (by conv => lhs; whnf)) ?_
        refine p1 (x_move (by conv => lhs; whnf)) ?_
        refine p1 (x_len_slice u31 rfl) ?_
        refine p1 (x_lss rfl rfl) ?_
        refine r_nil ?_
        refine t_n ?_
        first | refine c_dec rfl (fun hc62 => ?_) (fun hc62 => ?_) | refine c_if rfl (fun hc62 => ?_) (fun hc62 => ?_)
        · try simp only [decide_eq_true_eq, decide_eq_false_iff_not, Bool.not_eq_true, Bool.not_eq_false, Bool.not_eq_eq_eq_not, Bool.not_true, Bool.not_false, Int.not_lt, Int.not_le] at hc62
          refine c_skip ?_
          refine t_n ?_
          refine c_seq ?_
          refine c_block ?_
          have hzl := hZ.small
          refine r_tail 8 mixed (by kernel_rfl) ?_
          intro w36 hE36
          have hX := hX.ext hE36
          have hZ := hZ.ext hE36
          have hO := hO.ext hE36
          refine s1 (x_move (by conv => lhs; whnf)) ?_
          refine s1 (x_move (by conv => lhs; whnf)) ?_
          refine s1 (x_ixs u31 sz35 rfl rfl (hZ.sl.adr kHash_pos (by omega)) (by omega) (by omega)) ?_
          refine s1 (x_ixa u35 sz5 rfl rfl (by omega) (by omega)) ?_
          refine s1 (x_load1 un5 rfl ((hZ.sl.hashAt (k : Int) (by omega) (by omega)) 0 _ (hcs_get (zs.getD ((k : Int)).toNat default) 0 (by omega)))) ?_
          refine s1 ((x_addw rfl rfl).cast (congrArg _ (u8_inc ((zs.getD ((k : Int)).toNat default).1.getD 0 0)))) ?_
          refine s1 (x_ixs u31 sz35 rfl rfl (hZ.sl.adr kHash_pos (by omega)) (by omega) (by omega)) ?_
          refine s1 (x_ixa u35 sz5 rfl rfl (by omega) (by omega)) ?_
          refine s_nil ?_
          refine o_storeIn (d := kHash) (i := k) (j := 0) (default) ((zs.getD ((k : Int)).toNat default).put 0 ((zs.getD ((k : Int)).toNat default).1.getD 0 0 + 1)) rfl (by conv => lhs; whnf) rfl rfl hZ (by omega) (by decide) (fun cx hcx => kHash_put cx hcx) sz5 (Nat.zero_le _) (by decide) ?_
          intro w37 hZ hM37
          have hX := hX.mod hM37 (hBw)
          have hO := hO.modB hM37 (Nat.zero_le _) (by decide) hOlt
          refine r_nil ?_
          refine b_n ?_
          refine t_n ?_
          refine r_plain ?_
          refine p1 (x_move (by conv => lhs; whnf)) ?_
          refine p1 (x_add rfl rfl (fits_i64 (by omega) (by omega))) ?_
          refine p1 (x_assign (by conv => lhs; whnf)) ?_
          refine r_nil ?_
          refine t_n (At.mk ((k + 1, zs.set k ((zs.getD ((k : Int)).toNat default).put 0 ((zs.getD ((k : Int)).toNat default).1.getD 0 0 + 1)))) (by repeat (first | exact Agr.refl _ _ | exact Agr.hav _ _ _ | refine Agr.upd rfl ?_ | refine Agr.updL ?_ _ rfl | refine Agr.hav' rfl ?_)) ⟨rfl, trivial⟩ ?_)
          exact ⟨⟨hX, ⟨hZ, hO, by omega⟩⟩, by first | (dsimp only; omega) | ((show _ < _); omega)⟩
        · try simp only [decide_eq_true_eq, decide_eq_false_iff_not, Bool.not_eq_true, Bool.not_eq_false, Bool.not_eq_eq_eq_not, Bool.not_true, Bool.not_false, Int.not_lt, Int.not_le] at hc62
          refine c_exit ?_
          refine t_e ?_
          refine t_e ?_
          refine b_hit ?_
          refine t_n ?_
          refine c_seq ?_
          refine r_plain ?_
          refine p1 (x_move (by conv => lhs; whnf)) ?_
          refine p1 (x_move (by conv => lhs; whnf)) ?_
          refine g1 74 rfl rfl (x_move (by conv => lhs; whnf)) ?_
          refine g1 74 rfl rfl (x_move (by conv => lhs; whnf)) ?_
          refine g_drop 74 rfl rfl ?_
          refine o_call Try.func36 fn36 fb36 ((ref06_Same xs xs _ _ _ _ _ _ _ _ _ hO.sl (ha.ext hX)).known (c := .bool true) (congrArg Value.bool (decide_eq_true rfl))) rfl ?_
          rintro v38 w38 ⟨rfl, hE38⟩
          have hX := hX.ext hE38
          have hZ := hZ.ext hE38
          have hO := hO.ext hE38
          refine p1 (x_pick_t rfl (by conv => lhs; whnf)) ?_
          refine p1 (x_move (by conv => lhs; whnf)) ?_
          refine g_drop 79 rfl rfl ?_
          refine o_call Try.func33 fn33 fb33 (law06_awake _) rfl ?_
          rintro v39 w39 ⟨rfl, hE39⟩
          have hX := hX.ext hE39
          have hZ := hZ.ext hE39
          have hO := hO.ext hE39
          refine p1 (x_pick_t rfl (by conv => lhs; whnf)) ?_
          refine p1 (x_assign (by conv => lhs; whnf)) ?_
          refine r_nil ?_
          refine t_n ?_
          refine c_ret ?_
          refine end1 rfl (by conv => lhs; whnf) ?_
          exact ⟨rfl, hX⟩
end Go.Proofs.Eng
