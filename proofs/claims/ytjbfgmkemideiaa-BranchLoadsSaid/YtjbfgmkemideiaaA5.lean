import Derived.Test.YtjbfgmkemideiaaA4
set_option linter.unusedVariables false
set_option linter.unusedSimpArgs false
set_option maxRecDepth 100000
set_option maxHeartbeats 4000000
namespace Go.Proofs.Eng
open Go.RowKit
open Extern.Stop (cell)
theorem ref06_With (xs : List Hash) (x : Hash) (B : Nat) (p : Option Addr) (n c : Nat) (w : World) (hl : Sl kHash 35 B w p n c xs) (hs : n ≤ 4194304000) :
    Ret Try.prog 93 [.slice p n c, .agg (hv x)] w (fun v w' => (∃ q m c', v = .slice q m c' ∧ Sl kHash 35 B w' q m c' (wth xs x) ∧ m ≤ n + 1) ∧ Ext w w') := by
  have hX := Ext.refl w
  refine enter 47 _ Try.func93 rfl rfl (Nat.le_of_ble_eq_true rfl) ?_
  refine c_seq ?_
  refine r_plain ?_
  refine o_boxA (by conv => lhs; whnf) ?_
  intro w1 g3 hN3
  have hE1 := hN3.ext
  have hX := hX.ext hE1
  have hB3 := hN3.blk
  refine p1 (x_assign (by conv => lhs; whnf)) ?_
  refine r_nil ?_
  refine t_n ?_
  refine c_seq ?_
  refine r_plain ?_
  refine p1 (x_assign (by conv => lhs; whnf)) ?_
  refine r_nil ?_
  refine t_n ?_
  refine c_seq ?_
  refine c_block ?_
  have hWL0 := Ext.refl w1
  have hlen := hl.len
  have hfit := hl.fit
  have hcap := hl.cap
  refine c_loop (ι := Nat) [5, 7, 8, 9, 10, 11, 12, 13, 14, 15, 16, 17, 18, 19, 20] (fun k => [(5, .int .i64 (k : Int))]) (fun k w' => Ext w1 w' ∧ (k ≤ n ∧ ∀ j, j < k → hlt (xs.getD j default) x = true)) (fun k => n - k) (0) ⟨rfl, trivial⟩ ⟨Ext.refl _, ⟨by omega, fun i hi => by omega⟩⟩ ?_
  rintro k GL0 w2 ⟨hE2, hk, hL⟩
  have hX := hX.ext hE2
  have hB3 := hB3.ext hE2
  have hWL0 := hE2
  refine c_seq ?_
  refine c_seq ?_
  refine r_tail 10 mixed (by kernel_rfl) ?_
  intro w3 hE3
  have hX := hX.ext hE3
  have hB3 := hB3.ext hE3
  have hWL0 := hWL0.ext hE3
  refine s1 (x_move (by conv => lhs; whnf)) ?_
  refine s1 (x_move (by conv => lhs; whnf)) ?_
  refine s1 (x_len_slice u31 rfl) ?_
  refine s1 (x_lss rfl rfl) ?_
  refine s1b (x_move (by conv => lhs; whnf)) (fun hb2_4 => ?_) (fun hb2_4 => ?_)
  · try simp only [decide_eq_true_eq, decide_eq_false_iff_not, Bool.not_eq_true, Bool.not_eq_false, Bool.not_eq_eq_eq_not, Bool.not_true, Bool.not_false, Int.not_lt, Int.not_le] at hb2_4
    refine sg1 11 rfl rfl (x_move (by conv => lhs; whnf)) ?_
    refine sg1 11 rfl rfl (x_move (by conv => lhs; whnf)) ?_
    refine sg1 11 rfl rfl (x_ixs u31 sz35 rfl rfl ((hl.ext hX).adr kHash_pos (by omega)) (by omega) (by omega)) ?_
    refine sg1 11 rfl rfl (x_loadN ua35 rfl (hcs_sz sz35 _) ((hl.ext hX).hashAt _ (by omega) (by omega))) ?_
    refine sg1 11 rfl rfl (x_loadB ua35 rfl hB3 (hv_sz sz35 x)) ?_
    refine s_nil ?_
    refine g_drop 11 rfl rfl ?_
    refine o_call Try.func95 fn95 fb95 (ref01_Less _ x _) rfl ?_
    rintro v4 w4 ⟨rfl, hE4⟩
    have hX := hX.ext hE4
    have hB3 := hB3.ext hE4
    have hWL0 := hWL0.ext hE4
    refine p1 (x_pick_t rfl (by conv => lhs; whnf)) ?_
    refine r_nil ?_
    refine t_n ?_
    first | refine c_dec rfl (fun hc18 => ?_) (fun hc18 => ?_) | refine c_if rfl (fun hc18 => ?_) (fun hc18 => ?_)
    · try simp only [decide_eq_true_eq, decide_eq_false_iff_not, Bool.not_eq_true, Bool.not_eq_false, Bool.not_eq_eq_eq_not, Bool.not_true, Bool.not_false, Int.not_lt, Int.not_le] at hc18
      have h1 : hlt (xs.getD k default) x = true := hc18
      refine c_skip ?_
      refine t_n ?_
      refine c_block ?_
      refine r_plain ?_
      refine p1 (x_move (by conv => lhs; whnf)) ?_
      refine p1 (x_add rfl rfl (fits_i64 (by omega) (by omega))) ?_
      refine p1 (x_assign (by conv => lhs; whnf)) ?_
      refine r_nil ?_
      refine b_n ?_
      refine t_n (At.mk (k + 1) (by repeat (first | exact Agr.refl _ _ | exact Agr.hav _ _ _ | refine Agr.upd rfl ?_ | refine Agr.updL ?_ _ rfl | refine Agr.hav' rfl ?_)) ⟨rfl, trivial⟩ ?_)
      exact ⟨⟨hWL0, ⟨by omega, fun i hi => if h : i < k then hL i h else by rw [show i = k from by omega]; exact h1⟩⟩, by first | (dsimp only; omega) | ((show _ < _); omega)⟩
    · try simp only [decide_eq_true_eq, decide_eq_false_iff_not, Bool.not_eq_true, Bool.not_eq_false, Bool.not_eq_eq_eq_not, Bool.not_true, Bool.not_false, Int.not_lt, Int.not_le] at hc18
      have hex : k < n → hlt (xs.getD k default) x = false := by first | (intro h; exfalso; omega) | (intro h; exact Bool.eq_false_iff.2 (fun e => by simp_all))
      have hwa := wth_at xs x k (by omega) hL (fun h => hex (by omega))
      refine c_exit ?_
      refine t_e ?_
      refine t_e ?_
      refine b_hit ?_
      refine t_n ?_
      refine c_seq ?_
      refine c_seq ?_
      refine r_still mixed (by kernel_rfl) ?_
      intro w5 hE5
      have hX := hX.ext hE5
      have hB3 := hB3.ext hE5
      refine s1 (x_move (by conv => lhs; whnf)) ?_
      refine s1 (x_move (by conv => lhs; whnf)) ?_
      refine s1 (x_len_slice u31 rfl) ?_
      refine s1 (x_lss rfl rfl) ?_
      refine s1b (x_move (by conv => lhs; whnf)) (fun hb4_4 => ?_) (fun hb4_4 => ?_)
      · try simp only [decide_eq_true_eq, decide_eq_false_iff_not, Bool.not_eq_true, Bool.not_eq_false, Bool.not_eq_eq_eq_not, Bool.not_true, Bool.not_false, Int.not_lt, Int.not_le] at hb4_4
        refine sg1 25 rfl rfl (x_move (by conv => lhs; whnf)) ?_
        refine sg1 25 rfl rfl (x_move (by conv => lhs; whnf)) ?_
        refine sg1 25 rfl rfl (x_ixs u31 sz35 rfl rfl ((hl.ext hX).adr kHash_pos (by omega)) (by omega) (by omega)) ?_
        refine sg1 25 rfl rfl (x_loadN ua35 rfl (hcs_sz sz35 _) ((hl.ext hX).hashAt _ (by omega) (by omega))) ?_
        refine sg1 25 rfl rfl (x_loadB ua35 rfl hB3 (hv_sz sz35 x)) ?_
        refine sg1 25 rfl rfl (x_eql_bytes u35 u5 sz5 eg35 rfl rfl (xs.getD _ default).2 x.2) ?_
        refine s1 (x_pick_t rfl (by conv => lhs; whnf)) ?_
        refine s_nil ?_
        refine t_n ?_
        first | refine c_dec rfl (fun hc32 => ?_) (fun hc32 => ?_) | refine c_if rfl (fun hc32 => ?_) (fun hc32 => ?_)
        · try simp only [decide_eq_true_eq, decide_eq_false_iff_not, Bool.not_eq_true, Bool.not_eq_false, Bool.not_eq_eq_eq_not, Bool.not_true, Bool.not_false, Int.not_lt, Int.not_le] at hc32
          have hp : wth xs x = xs := by rw [hwa, if_pos ⟨by omega, Subtype.ext hc32⟩]
          refine c_seq ?_
          refine r_plain ?_
          refine p1 (x_move (by conv => lhs; whnf)) ?_
          refine p1 (x_assign (by conv => lhs; whnf)) ?_
          refine r_nil ?_
          refine t_n ?_
          refine c_ret ?_
          refine t_r ?_
          refine end1 rfl (by conv => lhs; whnf) ?_
          first | exact ⟨⟨_, _, _, rfl, (by rw [hp]; exact hl.ext hX), by omega⟩, hX⟩ | exact ⟨⟨_, _, _, rfl, (by rw [hp]; have h9 := hO.sl.mono (Nat.zero_le B); rw [show [] ++ xs.take k ++ [x] ++ xs.drop k = xs.take k ++ x :: xs.drop k from by simp] at h9; exact h9), by omega⟩, hX⟩
        · try simp only [decide_eq_true_eq, decide_eq_false_iff_not, Bool.not_eq_true, Bool.not_eq_false, Bool.not_eq_eq_eq_not, Bool.not_true, Bool.not_false, Int.not_lt, Int.not_le] at hc32
          have hp : wth xs x = xs.take k ++ x :: xs.drop k := by rw [hwa, if_neg (fun e => by first | exact hc32 (congrArg Subtype.val e.2) | omega)]
          refine c_skip ?_
          refine t_n ?_
          refine c_seq ?_
          refine r_plain ?_
          refine p1 (x_assign (by conv => lhs; whnf)) ?_
          refine r_nil ?_
          refine t_n ?_
          refine c_seq ?_
          refine r_held (fun w1 w2 => Ext w1 w2) mixed ?_
          intro w6 hE6
          have hX := hX.ext hE6
          have hB3 := hB3.ext hE6
          have hSr7 : (fun w1 w2 => Ext w1 w2) w6 w6 := Ext.refl w6
          refine h_take 0 rfl (by kernel_rfl) (by kernel_rfl) (by kernel_rfl) hSr7 (fun wS hSS => by (have hX := hX.ext hSS; have hB3 := hB3.ext hSS; exact (x_move (by conv => lhs; whnf)))) ?_
          refine h_take 1 rfl (by kernel_rfl) (by kernel_rfl) (by kernel_rfl) hSr7 (fun wS hSS => by (have hX := hX.ext hSS; have hB3 := hB3.ext hSS; exact (x_move (by conv => lhs; whnf)))) ?_
          refine h_take 2 rfl (by kernel_rfl) (by kernel_rfl) (by kernel_rfl) hSr7 (fun wS hSS => by (have hX := hX.ext hSS; have hB3 := hB3.ext hSS; exact (x_move (by conv => lhs; whnf)))) ?_
          refine h_take 3 rfl (by kernel_rfl) (by kernel_rfl) (by kernel_rfl) hSr7 (fun wS hSS => by (have hX := hX.ext hSS; have hB3 := hB3.ext hSS; exact (x_slice_hN u31 sz35 rfl rfl (by omega)))) ?_
          refine h_take 5 rfl (by kernel_rfl) (by kernel_rfl) (by kernel_rfl) hSr7 (fun wS hSS => by (have hX := hX.ext hSS; have hB3 := hB3.ext hSS; exact (x_loadB ua35 rfl hB3 (hv_sz sz35 x)))) ?_
          refine h_two 4 6 _ _ rfl rfl (by kernel_rfl) (hop_of_list (fun Q4 hQ4 => ?_)) (hop_of_list (fun Q6 hQ6 => ?_))
          · skip
            have hO : Own kHash 35 0 w6.heap.size w6 none 0 0 [] := Own.nil _ _ _ _ _
            have hBz : w.heap.size ≤ w6.heap.size := hX.size
            have hBs := hSr7.size
            have hWt := Ext.refl w6
            refine o_append (d := kHash) (xs.take k) u31 inf35 rfl kHash_pos rfl rfl hO (src_pure u31 ((hl.ext hX).take k (by omega)) (by decide)) (by rw [List.length_take]; omega) (hash_all _ _ _) (rfl) (by omega) (by omega) (by omega) (by omega) (by decide) ?_
            intro p38 c38 w7 hO hM7
            have hX := hX.mod hM7 (hBz)
            have hB3 := hB3.ext ((Ext.refl _).mod hM7 (Nat.le_refl _))
            have hSr7 := hSr7.mod hM7 (by first | exact Nat.le_refl _ | exact trivial | omega)
            have hWt := hWt.mod hM7 (by first | exact Nat.le_refl _ | exact trivial | omega)
            refine hop_end hQ4 ⟨hSr7, ?_⟩
            refine h_one 6 _ rfl (by kernel_rfl) (hop_of_list (fun Q6 hQ6 => ?_))
            refine o_buildSlice u31 inf35 rfl (by decide) (fun base hb => fill_kn [.agg (hv x)] (by intro v hv'; simp only [List.mem_singleton] at hv'; subst hv'; simp [Value.cells, hv, hcs_len]) base hb) ?_
            intro w8 g40 hN40
            have hE8 := hN40.ext
            have hX := hX.ext hE8
            have hB3 := hB3.ext hE8
            have hSr7 := hSr7.ext hE8
            have hWt := hWt.ext hE8
            have hO := hO.ext hE8
            have hJ : Own kHash 35 0 0 w8 (some ⟨g40, 0, none⟩) 1 1 [x] := own_lit [x] hN40 (Nat.zero_le _) (by simp)
            refine hop_end hQ6 ⟨hSr7, ?_⟩
            refine h_one 7 _ rfl (by kernel_rfl) (hop_of_list (fun Q7 hQ7 => ?_))
            have hq1 := hWt.size
            refine o_append (d := kHash) ([x]) u31 inf35 rfl kHash_pos rfl rfl hO (src_pure u31 hJ.sl (by decide)) rfl (hash_all _ _ _) (rfl) (by omega) (by omega) (by omega) (by omega) (by decide) ?_
            intro p41 c41 w9 hO hM9
            have hX := hX.mod hM9 (hBz)
            have hSr7 := hSr7.mod hM9 (by first | exact Nat.le_refl _ | exact trivial | omega)
            have hWt := hWt.mod hM9 (by first | exact Nat.le_refl _ | exact trivial | omega)
            refine hop_end hQ7 ⟨hSr7, ?_⟩
            refine h_take 8 rfl (by kernel_rfl) (by kernel_rfl) (by kernel_rfl) hSr7 (fun wS hSS => by ( exact (x_assign (by conv => lhs; whnf)))) ?_
            refine h_done (by kernel_rfl) ?_
            refine t_n ?_
            refine c_seq ?_
            refine r_plain ?_
            refine p1 (x_move (by conv => lhs; whnf)) ?_
            refine p1 (x_move (by conv => lhs; whnf)) ?_
            refine p1 (x_move (by conv => lhs; whnf)) ?_
            refine p1 (x_slice_lN u31 sz35 rfl rfl (by omega)) ?_
            have hq1 := hWt.size
            refine o_append (d := kHash) (xs.drop k) u31 inf35 rfl kHash_pos rfl rfl hO (src_pure u31 ((hl.ext hX).dropI k (by omega)) (by decide)) (by rw [List.length_drop]; omega) (hash_all _ _ _) (rfl) (by omega) (by omega) (by omega) (by omega) (by decide) ?_
            intro p46 c46 w10 hO hM10
            have hX := hX.mod hM10 (hBz)
            have hWt := hWt.mod hM10 (by first | exact Nat.le_refl _ | exact trivial | omega)
            refine p1 (x_assign (by conv => lhs; whnf)) ?_
            refine r_nil ?_
            refine t_n ?_
            refine c_ret ?_
            refine end1 rfl (by conv => lhs; whnf) ?_
            first | exact ⟨⟨_, _, _, rfl, (by rw [hp]; exact hl.ext hX), by omega⟩, hX⟩ | exact ⟨⟨_, _, _, rfl, (by rw [hp]; have h9 := hO.sl.mono (Nat.zero_le B); rw [show [] ++ xs.take k ++ [x] ++ xs.drop k = xs.take k ++ x :: xs.drop k from by simp] at h9; exact h9), by omega⟩, hX⟩
          · skip
            refine o_buildSlice u31 inf35 rfl (by decide) (fun base hb => fill_kn [.agg (hv x)] (by intro v hv'; simp only [List.mem_singleton] at hv'; subst hv'; simp [Value.cells, hv, hcs_len]) base hb) ?_
            intro w11 g40 hN40
            have hE11 := hN40.ext
            have hX := hX.ext hE11
            have hB3 := hB3.ext hE11
            have hSr7 := hSr7.ext hE11
            have hJ : Own kHash 35 0 0 w11 (some ⟨g40, 0, none⟩) 1 1 [x] := own_lit [x] hN40 (Nat.zero_le _) (by simp)
            refine hop_end hQ6 ⟨hSr7, ?_⟩
            refine h_one 4 _ rfl (by kernel_rfl) (hop_of_list (fun Q4 hQ4 => ?_))
            have hO : Own kHash 35 0 w11.heap.size w11 none 0 0 [] := Own.nil _ _ _ _ _
            have hBz : w.heap.size ≤ w11.heap.size := hX.size
            have hBs := hSr7.size
            have hWt := Ext.refl w11
            refine o_append (d := kHash) (xs.take k) u31 inf35 rfl kHash_pos rfl rfl hO (src_pure u31 ((hl.ext hX).take k (by omega)) (by decide)) (by rw [List.length_take]; omega) (hash_all _ _ _) (rfl) (by omega) (by omega) (by omega) (by omega) (by decide) ?_
            intro p38 c38 w12 hO hM12
            have hX := hX.mod hM12 (hBz)
            have hB3 := hB3.ext ((Ext.refl _).mod hM12 (Nat.le_refl _))
            have hSr7 := hSr7.mod hM12 (by first | exact Nat.le_refl _ | exact trivial | omega)
            have hJ := hJ.ext ((Ext.refl _).mod hM12 (Nat.le_refl _))
            have hWt := hWt.mod hM12 (by first | exact Nat.le_refl _ | exact trivial | omega)
            refine hop_end hQ4 ⟨hSr7, ?_⟩
            refine h_one 7 _ rfl (by kernel_rfl) (hop_of_list (fun Q7 hQ7 => ?_))
            have hq1 := hWt.size
            refine o_append (d := kHash) ([x]) u31 inf35 rfl kHash_pos rfl rfl hO (src_pure u31 hJ.sl (by decide)) rfl (hash_all _ _ _) (rfl) (by omega) (by omega) (by omega) (by omega) (by decide) ?_
            intro p41 c41 w13 hO hM13
            have hX := hX.mod hM13 (hBz)
            have hSr7 := hSr7.mod hM13 (by first | exact Nat.le_refl _ | exact trivial | omega)
            have hWt := hWt.mod hM13 (by first | exact Nat.le_refl _ | exact trivial | omega)
            refine hop_end hQ7 ⟨hSr7, ?_⟩
            refine h_take 8 rfl (by kernel_rfl) (by kernel_rfl) (by kernel_rfl) hSr7 (fun wS hSS => by ( exact (x_assign (by conv => lhs; whnf)))) ?_
            refine h_done (by kernel_rfl) ?_
            refine t_n ?_
            refine c_seq ?_
            refine r_plain ?_
            refine p1 (x_move (by conv => lhs; whnf)) ?_
            refine p1 (x_move (by conv => lhs; whnf)) ?_
            refine p1 (x_move (by conv => lhs; whnf)) ?_
            refine p1 (x_slice_lN u31 sz35 rfl rfl (by omega)) ?_
            have hq1 := hWt.size
            refine o_append (d := kHash) (xs.drop k) u31 inf35 rfl kHash_pos rfl rfl hO (src_pure u31 ((hl.ext hX).dropI k (by omega)) (by decide)) (by rw [List.length_drop]; omega) (hash_all _ _ _) (rfl) (by omega) (by omega) (by omega) (by omega) (by decide) ?_
            intro p46 c46 w14 hO hM14
            have hX := hX.mod hM14 (hBz)
            have hWt := hWt.mod hM14 (by first | exact Nat.le_refl _ | exact trivial | omega)
            refine p1 (x_assign (by conv => lhs; whnf)) ?_
            refine r_nil ?_
            refine t_n ?_
            refine c_ret ?_
            refine end1 rfl (by conv => lhs; whnf) ?_
            first | exact ⟨⟨_, _, _, rfl, (by rw [hp]; exact hl.ext hX), by omega⟩, hX⟩ | exact ⟨⟨_, _, _, rfl, (by rw [hp]; have h9 := hO.sl.mono (Nat.zero_le B); rw [show [] ++ xs.take k ++ [x] ++ xs.drop k = xs.take k ++ x :: xs.drop k from by simp] at h9; exact h9), by omega⟩, hX⟩
      · try simp only [decide_eq_true_eq, decide_eq_false_iff_not, Bool.not_eq_true, Bool.not_eq_false, Bool.not_eq_eq_eq_not, Bool.not_true, Bool.not_false, Int.not_lt, Int.not_le] at hb4_4
        refine sg0 25 rfl (by first | exact .inl rfl | exact .inr rfl) ?_
        refine sg0 25 rfl (by first | exact .inl rfl | exact .inr rfl) ?_
        refine sg0 25 rfl (by first | exact .inl rfl | exact .inr rfl) ?_
        refine sg0 25 rfl (by first | exact .inl rfl | exact .inr rfl) ?_
        refine sg0 25 rfl (by first | exact .inl rfl | exact .inr rfl) ?_
        refine sg0 25 rfl (by first | exact .inl rfl | exact .inr rfl) ?_
        refine s1 (x_pick_f rfl (by conv => lhs; whnf)) ?_
        refine s_nil ?_
        refine t_n ?_
        refine c_f rfl ?_
        have hp : wth xs x = xs.take k ++ x :: xs.drop k := by rw [hwa, if_neg (fun e => by first | exact hc32 (congrArg Subtype.val e.2) | omega)]
        refine c_skip ?_
        refine t_n ?_
        refine c_seq ?_
        refine r_plain ?_
        refine p1 (x_assign (by conv => lhs; whnf)) ?_
        refine r_nil ?_
        refine t_n ?_
        refine c_seq ?_
        refine r_held (fun w1 w2 => Ext w1 w2) mixed ?_
        intro w15 hE15
        have hX := hX.ext hE15
        have hB3 := hB3.ext hE15
        have hSr7 : (fun w1 w2 => Ext w1 w2) w15 w15 := Ext.refl w15
        refine h_take 0 rfl (by kernel_rfl) (by kernel_rfl) (by kernel_rfl) hSr7 (fun wS hSS => by (have hX := hX.ext hSS; have hB3 := hB3.ext hSS; exact (x_move (by conv => lhs; whnf)))) ?_
        refine h_take 1 rfl (by kernel_rfl) (by kernel_rfl) (by kernel_rfl) hSr7 (fun wS hSS => by (have hX := hX.ext hSS; have hB3 := hB3.ext hSS; exact (x_move (by conv => lhs; whnf)))) ?_
        refine h_take 2 rfl (by kernel_rfl) (by kernel_rfl) (by kernel_rfl) hSr7 (fun wS hSS => by (have hX := hX.ext hSS; have hB3 := hB3.ext hSS; exact (x_move (by conv => lhs; whnf)))) ?_
        refine h_take 3 rfl (by kernel_rfl) (by kernel_rfl) (by kernel_rfl) hSr7 (fun wS hSS => by (have hX := hX.ext hSS; have hB3 := hB3.ext hSS; exact (x_slice_hN u31 sz35 rfl rfl (by omega)))) ?_
        refine h_take 5 rfl (by kernel_rfl) (by kernel_rfl) (by kernel_rfl) hSr7 (fun wS hSS => by (have hX := hX.ext hSS; have hB3 := hB3.ext hSS; exact (x_loadB ua35 rfl hB3 (hv_sz sz35 x)))) ?_
        refine h_two 4 6 _ _ rfl rfl (by kernel_rfl) (hop_of_list (fun Q4 hQ4 => ?_)) (hop_of_list (fun Q6 hQ6 => ?_))
        · skip
          have hO : Own kHash 35 0 w15.heap.size w15 none 0 0 [] := Own.nil _ _ _ _ _
          have hBz : w.heap.size ≤ w15.heap.size := hX.size
          have hBs := hSr7.size
          have hWt := Ext.refl w15
          refine o_append (d := kHash) (xs.take k) u31 inf35 rfl kHash_pos rfl rfl hO (src_pure u31 ((hl.ext hX).take k (by omega)) (by decide)) (by rw [List.length_take]; omega) (hash_all _ _ _) (rfl) (by omega) (by omega) (by omega) (by omega) (by decide) ?_
          intro p38 c38 w16 hO hM16
          have hX := hX.mod hM16 (hBz)
          have hB3 := hB3.ext ((Ext.refl _).mod hM16 (Nat.le_refl _))
          have hSr7 := hSr7.mod hM16 (by first | exact Nat.le_refl _ | exact trivial | omega)
          have hWt := hWt.mod hM16 (by first | exact Nat.le_refl _ | exact trivial | omega)
          refine hop_end hQ4 ⟨hSr7, ?_⟩
          refine h_one 6 _ rfl (by kernel_rfl) (hop_of_list (fun Q6 hQ6 => ?_))
          refine o_buildSlice u31 inf35 rfl (by decide) (fun base hb => fill_kn [.agg (hv x)] (by intro v hv'; simp only [List.mem_singleton] at hv'; subst hv'; simp [Value.cells, hv, hcs_len]) base hb) ?_
          intro w17 g40 hN40
          have hE17 := hN40.ext
          have hX := hX.ext hE17
          have hB3 := hB3.ext hE17
          have hSr7 := hSr7.ext hE17
          have hWt := hWt.ext hE17
          have hO := hO.ext hE17
          have hJ : Own kHash 35 0 0 w17 (some ⟨g40, 0, none⟩) 1 1 [x] := own_lit [x] hN40 (Nat.zero_le _) (by simp)
          refine hop_end hQ6 ⟨hSr7, ?_⟩
          refine h_one 7 _ rfl (by kernel_rfl) (hop_of_list (fun Q7 hQ7 => ?_))
          have hq1 := hWt.size
          refine o_append (d := kHash) ([x]) u31 inf35 rfl kHash_pos rfl rfl hO (src_pure u31 hJ.sl (by decide)) rfl (hash_all _ _ _) (rfl) (by omega) (by omega) (by omega) (by omega) (by decide) ?_
          intro p41 c41 w18 hO hM18
          have hX := hX.mod hM18 (hBz)
          have hSr7 := hSr7.mod hM18 (by first | exact Nat.le_refl _ | exact trivial | omega)
          have hWt := hWt.mod hM18 (by first | exact Nat.le_refl _ | exact trivial | omega)
          refine hop_end hQ7 ⟨hSr7, ?_⟩
          refine h_take 8 rfl (by kernel_rfl) (by kernel_rfl) (by kernel_rfl) hSr7 (fun wS hSS => by ( exact (x_assign (by conv => lhs; whnf)))) ?_
          refine h_done (by kernel_rfl) ?_
          refine t_n ?_
          refine c_seq ?_
          refine r_plain ?_
          refine p1 (x_move (by conv => lhs; whnf)) ?_
          refine p1 (x_move (by conv => lhs; whnf)) ?_
          refine p1 (x_move (by conv => lhs; whnf)) ?_
          refine p1 (x_slice_lN u31 sz35 rfl rfl (by omega)) ?_
          have hq1 := hWt.size
          refine o_append (d := kHash) (xs.drop k) u31 inf35 rfl kHash_pos rfl rfl hO (src_pure u31 ((hl.ext hX).dropI k (by omega)) (by decide)) (by rw [List.length_drop]; omega) (hash_all _ _ _) (rfl) (by omega) (by omega) (by omega) (by omega) (by decide) ?_
          intro p46 c46 w19 hO hM19
          have hX := hX.mod hM19 (hBz)
          have hWt := hWt.mod hM19 (by first | exact Nat.le_refl _ | exact trivial | omega)
          refine p1 (x_assign (by conv => lhs; whnf)) ?_
          refine r_nil ?_
          refine t_n ?_
          refine c_ret ?_
          refine end1 rfl (by conv => lhs; whnf) ?_
          first | exact ⟨⟨_, _, _, rfl, (by rw [hp]; exact hl.ext hX), by omega⟩, hX⟩ | exact ⟨⟨_, _, _, rfl, (by rw [hp]; have h9 := hO.sl.mono (Nat.zero_le B); rw [show [] ++ xs.take k ++ [x] ++ xs.drop k = xs.take k ++ x :: xs.drop k from by simp] at h9; exact h9), by omega⟩, hX⟩
        · skip
          refine o_buildSlice u31 inf35 rfl (by decide) (fun base hb => fill_kn [.agg (hv x)] (by intro v hv'; simp only [List.mem_singleton] at hv'; subst hv'; simp [Value.cells, hv, hcs_len]) base hb) ?_
          intro w20 g40 hN40
          have hE20 := hN40.ext
          have hX := hX.ext hE20
          have hB3 := hB3.ext hE20
          have hSr7 := hSr7.ext hE20
          have hJ : Own kHash 35 0 0 w20 (some ⟨g40, 0, none⟩) 1 1 [x] := own_lit [x] hN40 (Nat.zero_le _) (by simp)
          refine hop_end hQ6 ⟨hSr7, ?_⟩
          refine h_one 4 _ rfl (by kernel_rfl) (hop_of_list (fun Q4 hQ4 => ?_))
          have hO : Own kHash 35 0 w20.heap.size w20 none 0 0 [] := Own.nil _ _ _ _ _
          have hBz : w.heap.size ≤ w20.heap.size := hX.size
          have hBs := hSr7.size
          have hWt := Ext.refl w20
          refine o_append (d := kHash) (xs.take k) u31 inf35 rfl kHash_pos rfl rfl hO (src_pure u31 ((hl.ext hX).take k (by omega)) (by decide)) (by rw [List.length_take]; omega) (hash_all _ _ _) (rfl) (by omega) (by omega) (by omega) (by omega) (by decide) ?_
          intro p38 c38 w21 hO hM21
          have hX := hX.mod hM21 (hBz)
          have hB3 := hB3.ext ((Ext.refl _).mod hM21 (Nat.le_refl _))
          have hSr7 := hSr7.mod hM21 (by first | exact Nat.le_refl _ | exact trivial | omega)
          have hJ := hJ.ext ((Ext.refl _).mod hM21 (Nat.le_refl _))
          have hWt := hWt.mod hM21 (by first | exact Nat.le_refl _ | exact trivial | omega)
          refine hop_end hQ4 ⟨hSr7, ?_⟩
          refine h_one 7 _ rfl (by kernel_rfl) (hop_of_list (fun Q7 hQ7 => ?_))
          have hq1 := hWt.size
          refine o_append (d := kHash) ([x]) u31 inf35 rfl kHash_pos rfl rfl hO (src_pure u31 hJ.sl (by decide)) rfl (hash_all _ _ _) (rfl) (by omega) (by omega) (by omega) (by omega) (by decide) ?_
          intro p41 c41 w22 hO hM22
          have hX := hX.mod hM22 (hBz)
          have hSr7 := hSr7.mod hM22 (by first | exact Nat.le_refl _ | exact trivial | omega)
          have hWt := hWt.mod hM22 (by first | exact Nat.le_refl _ | exact trivial | omega)
          refine hop_end hQ7 ⟨hSr7, ?_⟩
          refine h_take 8 rfl (by kernel_rfl) (by kernel_rfl) (by kernel_rfl) hSr7 (fun wS hSS => by ( exact (x_assign (by conv => lhs; whnf)))) ?_
          refine h_done (by kernel_rfl) ?_
          refine t_n ?_
          refine c_seq ?_
          refine r_plain ?_
          refine p1 (x_move (by conv => lhs; whnf)) ?_
          refine p1 (x_move (by conv => lhs; whnf)) ?_
          refine p1 (x_move (by conv => lhs; whnf)) ?_
          refine p1 (x_slice_lN u31 sz35 rfl rfl (by omega)) ?_
          have hq1 := hWt.size
          refine o_append (d := kHash) (xs.drop k) u31 inf35 rfl kHash_pos rfl rfl hO (src_pure u31 ((hl.ext hX).dropI k (by omega)) (by decide)) (by rw [List.length_drop]; omega) (hash_all _ _ _) (rfl) (by omega) (by omega) (by omega) (by omega) (by decide) ?_
          intro p46 c46 w23 hO hM23
          have hX := hX.mod hM23 (hBz)
          have hWt := hWt.mod hM23 (by first | exact Nat.le_refl _ | exact trivial | omega)
          refine p1 (x_assign (by conv => lhs; whnf)) ?_
          refine r_nil ?_
          refine t_n ?_
          refine c_ret ?_
          refine end1 rfl (by conv => lhs; whnf) ?_
          first | exact ⟨⟨_, _, _, rfl, (by rw [hp]; exact hl.ext hX), by omega⟩, hX⟩ | exact ⟨⟨_, _, _, rfl, (by rw [hp]; have h9 := hO.sl.mono (Nat.zero_le B); rw [show [] ++ xs.take k ++ [x] ++ xs.drop k = xs.take k ++ x :: xs.drop k from by simp] at h9; exact h9), by omega⟩, hX⟩
  · try simp only [decide_eq_true_eq, decide_eq_false_iff_not, Bool.not_eq_true, Bool.not_eq_false, Bool.not_eq_eq_eq_not, Bool.not_true, Bool.not_false, Int.not_lt, Int.not_le] at hb2_4
    refine sg0 11 rfl (by first | exact .inl rfl | exact .inr rfl) ?_
    refine sg0 11 rfl (by first | exact .inl rfl | exact .inr rfl) ?_
    refine sg0 11 rfl (by first | exact .inl rfl | exact .inr rfl) ?_
    refine sg0 11 rfl (by first | exact .inl rfl | exact .inr rfl) ?_
    refine sg0 11 rfl (by first | exact .inl rfl | exact .inr rfl) ?_
    refine s_nil ?_
    refine g0 11 rfl (by first | exact .inl rfl | exact .inr rfl) ?_
    refine p1 (x_pick_f rfl (by conv => lhs; whnf)) ?_
    refine r_nil ?_
    refine t_n ?_
    refine c_f rfl ?_
    have hex : k < n → hlt (xs.getD k default) x = false := by first | (intro h; exfalso; omega) | (intro h; exact Bool.eq_false_iff.2 (fun e => by simp_all))
    have hwa := wth_at xs x k (by omega) hL (fun h => hex (by omega))
    refine c_exit ?_
    refine t_e ?_
    refine t_e ?_
    refine b_hit ?_
    refine t_n ?_
    refine c_seq ?_
    refine c_seq ?_
    refine r_still mixed (by kernel_rfl) ?_
    intro w24 hE24
    have hX := hX.ext hE24
    have hB3 := hB3.ext hE24
    refine s1 (x_move (by conv => lhs; whnf)) ?_
    refine s1 (x_move (by conv => lhs; whnf)) ?_
    refine s1 (x_len_slice u31 rfl) ?_
    refine s1 (x_lss rfl rfl) ?_
    refine s1b (x_move (by conv => lhs; whnf)) (fun hb4_4 => ?_) (fun hb4_4 => ?_)
    · try simp only [decide_eq_true_eq, decide_eq_false_iff_not, Bool.not_eq_true, Bool.not_eq_false, Bool.not_eq_eq_eq_not, Bool.not_true, Bool.not_false, Int.not_lt, Int.not_le] at hb4_4
      refine sg1 25 rfl rfl (x_move (by conv => lhs; whnf)) ?_
      refine sg1 25 rfl rfl (x_move (by conv => lhs; whnf)) ?_
      refine sg1 25 rfl rfl (x_ixs u31 sz35 rfl rfl ((hl.ext hX).adr kHash_pos (by omega)) (by omega) (by omega)) ?_
      refine sg1 25 rfl rfl (x_loadN ua35 rfl (hcs_sz sz35 _) ((hl.ext hX).hashAt _ (by omega) (by omega))) ?_
      refine sg1 25 rfl rfl (x_loadB ua35 rfl hB3 (hv_sz sz35 x)) ?_
      refine sg1 25 rfl rfl (x_eql_bytes u35 u5 sz5 eg35 rfl rfl (xs.getD _ default).2 x.2) ?_
      refine s1 (x_pick_t rfl (by conv => lhs; whnf)) ?_
      refine s_nil ?_
      refine t_n ?_
      first | refine c_dec rfl (fun hc32 => ?_) (fun hc32 => ?_) | refine c_if rfl (fun hc32 => ?_) (fun hc32 => ?_)
      · try simp only [decide_eq_true_eq, decide_eq_false_iff_not, Bool.not_eq_true, Bool.not_eq_false, Bool.not_eq_eq_eq_not, Bool.not_true, Bool.not_false, Int.not_lt, Int.not_le] at hc32
        have hp : wth xs x = xs := by rw [hwa, if_pos ⟨by omega, Subtype.ext hc32⟩]
        refine c_seq ?_
        refine r_plain ?_
        refine p1 (x_move (by conv => lhs; whnf)) ?_
        refine p1 (x_assign (by conv => lhs; whnf)) ?_
        refine r_nil ?_
        refine t_n ?_
        refine c_ret ?_
        refine t_r ?_
        refine end1 rfl (by conv => lhs; whnf) ?_
        first | exact ⟨⟨_, _, _, rfl, (by rw [hp]; exact hl.ext hX), by omega⟩, hX⟩ | exact ⟨⟨_, _, _, rfl, (by rw [hp]; have h9 := hO.sl.mono (Nat.zero_le B); rw [show [] ++ xs.take k ++ [x] ++ xs.drop k = xs.take k ++ x :: xs.drop k from by simp] at h9; exact h9), by omega⟩, hX⟩
      · try simp only [decide_eq_true_eq, decide_eq_false_iff_not, Bool.not_eq_true, Bool.not_eq_false, Bool.not_eq_eq_eq_not, Bool.not_true, Bool.not_false, Int.not_lt, Int.not_le] at hc32
        have hp : wth xs x = xs.take k ++ x :: xs.drop k := by rw [hwa, if_neg (fun e => by first | exact hc32 (congrArg Subtype.val e.2) | omega)]
        refine c_skip ?_
        refine t_n ?_
        refine c_seq ?_
        refine r_plain ?_
        refine p1 (x_assign (by conv => lhs; whnf)) ?_
        refine r_nil ?_
        refine t_n ?_
        refine c_seq ?_
        refine r_held (fun w1 w2 => Ext w1 w2) mixed ?_
        intro w25 hE25
        have hX := hX.ext hE25
        have hB3 := hB3.ext hE25
        have hSr7 : (fun w1 w2 => Ext w1 w2) w25 w25 := Ext.refl w25
        refine h_take 0 rfl (by kernel_rfl) (by kernel_rfl) (by kernel_rfl) hSr7 (fun wS hSS => by (have hX := hX.ext hSS; have hB3 := hB3.ext hSS; exact (x_move (by conv => lhs; whnf)))) ?_
        refine h_take 1 rfl (by kernel_rfl) (by kernel_rfl) (by kernel_rfl) hSr7 (fun wS hSS => by (have hX := hX.ext hSS; have hB3 := hB3.ext hSS; exact (x_move (by conv => lhs; whnf)))) ?_
        refine h_take 2 rfl (by kernel_rfl) (by kernel_rfl) (by kernel_rfl) hSr7 (fun wS hSS => by (have hX := hX.ext hSS; have hB3 := hB3.ext hSS; exact (x_move (by conv => lhs; whnf)))) ?_
        refine h_take 3 rfl (by kernel_rfl) (by kernel_rfl) (by kernel_rfl) hSr7 (fun wS hSS => by (have hX := hX.ext hSS; have hB3 := hB3.ext hSS; exact (x_slice_hN u31 sz35 rfl rfl (by omega)))) ?_
        refine h_take 5 rfl (by kernel_rfl) (by kernel_rfl) (by kernel_rfl) hSr7 (fun wS hSS => by (have hX := hX.ext hSS; have hB3 := hB3.ext hSS; exact (x_loadB ua35 rfl hB3 (hv_sz sz35 x)))) ?_
        refine h_two 4 6 _ _ rfl rfl (by kernel_rfl) (hop_of_list (fun Q4 hQ4 => ?_)) (hop_of_list (fun Q6 hQ6 => ?_))
        · skip
          have hO : Own kHash 35 0 w25.heap.size w25 none 0 0 [] := Own.nil _ _ _ _ _
          have hBz : w.heap.size ≤ w25.heap.size := hX.size
          have hBs := hSr7.size
          have hWt := Ext.refl w25
          refine o_append (d := kHash) (xs.take k) u31 inf35 rfl kHash_pos rfl rfl hO (src_pure u31 ((hl.ext hX).take k (by omega)) (by decide)) (by rw [List.length_take]; omega) (hash_all _ _ _) (rfl) (by omega) (by omega) (by omega) (by omega) (by decide) ?_
          intro p38 c38 w26 hO hM26
          have hX := hX.mod hM26 (hBz)
          have hB3 := hB3.ext ((Ext.refl _).mod hM26 (Nat.le_refl _))
          have hSr7 := hSr7.mod hM26 (by first | exact Nat.le_refl _ | exact trivial | omega)
          have hWt := hWt.mod hM26 (by first | exact Nat.le_refl _ | exact trivial | omega)
          refine hop_end hQ4 ⟨hSr7, ?_⟩
          refine h_one 6 _ rfl (by kernel_rfl) (hop_of_list (fun Q6 hQ6 => ?_))
          refine o_buildSlice u31 inf35 rfl (by decide) (fun base hb => fill_kn [.agg (hv x)] (by intro v hv'; simp only [List.mem_singleton] at hv'; subst hv'; simp [Value.cells, hv, hcs_len]) base hb) ?_
          intro w27 g40 hN40
          have hE27 := hN40.ext
          have hX := hX.ext hE27
          have hB3 := hB3.ext hE27
          have hSr7 := hSr7.ext hE27
          have hWt := hWt.ext hE27
          have hO := hO.ext hE27
          have hJ : Own kHash 35 0 0 w27 (some ⟨g40, 0, none⟩) 1 1 [x] := own_lit [x] hN40 (Nat.zero_le _) (by simp)
          refine hop_end hQ6 ⟨hSr7, ?_⟩
          refine h_one 7 _ rfl (by kernel_rfl) (hop_of_list (fun Q7 hQ7 => ?_))
          have hq1 := hWt.size
          refine o_append (d := kHash) ([x]) u31 inf35 rfl kHash_pos rfl rfl hO (src_pure u31 hJ.sl (by decide)) rfl (hash_all _ _ _) (rfl) (by omega) (by omega) (by omega) (by omega) (by decide) ?_
          intro p41 c41 w28 hO hM28
          have hX := hX.mod hM28 (hBz)
          have hSr7 := hSr7.mod hM28 (by first | exact Nat.le_refl _ | exact trivial | omega)
          have hWt := hWt.mod hM28 (by first | exact Nat.le_refl _ | exact trivial | omega)
          refine hop_end hQ7 ⟨hSr7, ?_⟩
          refine h_take 8 rfl (by kernel_rfl) (by kernel_rfl) (by kernel_rfl) hSr7 (fun wS hSS => by ( exact (x_assign (by conv => lhs; whnf)))) ?_
          refine h_done (by kernel_rfl) ?_
          refine t_n ?_
          refine c_seq ?_
          refine r_plain ?_
          refine p1 (x_move (by conv => lhs; whnf)) ?_
          refine p1 (x_move (by conv => lhs; whnf)) ?_
          refine p1 (x_move (by conv => lhs; whnf)) ?_
          refine p1 (x_slice_lN u31 sz35 rfl rfl (by omega)) ?_
          have hq1 := hWt.size
          refine o_append (d := kHash) (xs.drop k) u31 inf35 rfl kHash_pos rfl rfl hO (src_pure u31 ((hl.ext hX).dropI k (by omega)) (by decide)) (by rw [List.length_drop]; omega) (hash_all _ _ _) (rfl) (by omega) (by omega) (by omega) (by omega) (by decide) ?_
          intro p46 c46 w29 hO hM29
          have hX := hX.mod hM29 (hBz)
          have hWt := hWt.mod hM29 (by first | exact Nat.le_refl _ | exact trivial | omega)
          refine p1 (x_assign (by conv => lhs; whnf)) ?_
          refine r_nil ?_
          refine t_n ?_
          refine c_ret ?_
          refine end1 rfl (by conv => lhs; whnf) ?_
          first | exact ⟨⟨_, _, _, rfl, (by rw [hp]; exact hl.ext hX), by omega⟩, hX⟩ | exact ⟨⟨_, _, _, rfl, (by rw [hp]; have h9 := hO.sl.mono (Nat.zero_le B); rw [show [] ++ xs.take k ++ [x] ++ xs.drop k = xs.take k ++ x :: xs.drop k from by simp] at h9; exact h9), by omega⟩, hX⟩
        · skip
          refine o_buildSlice u31 inf35 rfl (by decide) (fun base hb => fill_kn [.agg (hv x)] (by intro v hv'; simp only [List.mem_singleton] at hv'; subst hv'; simp [Value.cells, hv, hcs_len]) base hb) ?_
          intro w30 g40 hN40
          have hE30 := hN40.ext
          have hX := hX.ext hE30
          have hB3 := hB3.ext hE30
          have hSr7 := hSr7.ext hE30
          have hJ : Own kHash 35 0 0 w30 (some ⟨g40, 0, none⟩) 1 1 [x] := own_lit [x] hN40 (Nat.zero_le _) (by simp)
          refine hop_end hQ6 ⟨hSr7, ?_⟩
          refine h_one 4 _ rfl (by kernel_rfl) (hop_of_list (fun Q4 hQ4 => ?_))
          have hO : Own kHash 35 0 w30.heap.size w30 none 0 0 [] := Own.nil _ _ _ _ _
          have hBz : w.heap.size ≤ w30.heap.size := hX.size
          have hBs := hSr7.size
          have hWt := Ext.refl w30
          refine o_append (d := kHash) (xs.take k) u31 inf35 rfl kHash_pos rfl rfl hO (src_pure u31 ((hl.ext hX).take k (by omega)) (by decide)) (by rw [List.length_take]; omega) (hash_all _ _ _) (rfl) (by omega) (by omega) (by omega) (by omega) (by decide) ?_
          intro p38 c38 w31 hO hM31
          have hX := hX.mod hM31 (hBz)
          have hB3 := hB3.ext ((Ext.refl _).mod hM31 (Nat.le_refl _))
          have hSr7 := hSr7.mod hM31 (by first | exact Nat.le_refl _ | exact trivial | omega)
          have hJ := hJ.ext ((Ext.refl _).mod hM31 (Nat.le_refl _))
          have hWt := hWt.mod hM31 (by first | exact Nat.le_refl _ | exact trivial | omega)
          refine hop_end hQ4 ⟨hSr7, ?_⟩
          refine h_one 7 _ rfl (by kernel_rfl) (hop_of_list (fun Q7 hQ7 => ?_))
          have hq1 := hWt.size
          refine o_append (d := kHash) ([x]) u31 inf35 rfl kHash_pos rfl rfl hO (src_pure u31 hJ.sl (by decide)) rfl (hash_all _ _ _) (rfl) (by omega) (by omega) (by omega) (by omega) (by decide) ?_
          intro p41 c41 w32 hO hM32
          have hX := hX.mod hM32 (hBz)
          have hSr7 := hSr7.mod hM32 (by first | exact Nat.le_refl _ | exact trivial | omega)
          have hWt := hWt.mod hM32 (by first | exact Nat.le_refl _ | exact trivial | omega)
          refine hop_end hQ7 ⟨hSr7, ?_⟩
          refine h_take 8 rfl (by kernel_rfl) (by kernel_rfl) (by kernel_rfl) hSr7 (fun wS hSS => by ( exact (x_assign (by conv => lhs; whnf)))) ?_
          refine h_done (by kernel_rfl) ?_
          refine t_n ?_
          refine c_seq ?_
          refine r_plain ?_
          refine p1 (x_move (by conv => lhs; whnf)) ?_
          refine p1 (x_move (by conv => lhs; whnf)) ?_
          refine p1 (x_move (by conv => lhs; whnf)) ?_
          refine p1 (x_slice_lN u31 sz35 rfl rfl (by omega)) ?_
          have hq1 := hWt.size
          refine o_append (d := kHash) (xs.drop k) u31 inf35 rfl kHash_pos rfl rfl hO (src_pure u31 ((hl.ext hX).dropI k (by omega)) (by decide)) (by rw [List.length_drop]; omega) (hash_all _ _ _) (rfl) (by omega) (by omega) (by omega) (by omega) (by decide) ?_
          intro p46 c46 w33 hO hM33
          have hX := hX.mod hM33 (hBz)
          have hWt := hWt.mod hM33 (by first | exact Nat.le_refl _ | exact trivial | omega)
          refine p1 (x_assign (by conv => lhs; whnf)) ?_
          refine r_nil ?_
          refine t_n ?_
          refine c_ret ?_
          refine end1 rfl (by conv => lhs; whnf) ?_
          first | exact ⟨⟨_, _, _, rfl, (by rw [hp]; exact hl.ext hX), by omega⟩, hX⟩ | exact ⟨⟨_, _, _, rfl, (by rw [hp]; have h9 := hO.sl.mono (Nat.zero_le B); rw [show [] ++ xs.take k ++ [x] ++ xs.drop k = xs.take k ++ x :: xs.drop k from by simp] at h9; exact h9), by omega⟩, hX⟩
    · try simp only [decide_eq_true_eq, decide_eq_false_iff_not, Bool.not_eq_true, Bool.not_eq_false, Bool.not_eq_eq_eq_not, Bool.not_true, Bool.not_false, Int.not_lt, Int.not_le] at hb4_4
      refine sg0 25 rfl (by first | exact .inl rfl | exact .inr rfl) ?_
      refine sg0 25 rfl (by first | exact .inl rfl | exact .inr rfl) ?_
      refine sg0 25 rfl (by first | exact .inl rfl | exact .inr rfl) ?_
      refine sg0 25 rfl (by first | exact .inl rfl | exact .inr rfl) ?_
      refine sg0 25 rfl (by first | exact .inl rfl | exact .inr rfl) ?_
      refine sg0 25 rfl (by first | exact .inl rfl | exact .inr rfl) ?_
      refine s1 (x_pick_f rfl (by conv => lhs; whnf)) ?_
      refine s_nil ?_
      refine t_n ?_
      refine c_f rfl ?_
      have hp : wth xs x = xs.take k ++ x :: xs.drop k := by rw [hwa, if_neg (fun e => by first | exact hc32 (congrArg Subtype.val e.2) | omega)]
      refine c_skip ?_
      refine t_n ?_
      refine c_seq ?_
      refine r_plain ?_
      refine p1 (x_assign (by conv => lhs; whnf)) ?_
      refine r_nil ?_
      refine t_n ?_
      refine c_seq ?_
      refine r_held (fun w1 w2 => Ext w1 w2) mixed ?_
      intro w34 hE34
      have hX := hX.ext hE34
      have hB3 := hB3.ext hE34
      have hSr7 : (fun w1 w2 => Ext w1 w2) w34 w34 := Ext.refl w34
      refine h_take 0 rfl (by kernel_rfl) (by kernel_rfl) (by kernel_rfl) hSr7 (fun wS hSS => by (have hX := hX.ext hSS; have hB3 := hB3.ext hSS; exact (x_move (by conv => lhs; whnf)))) ?_
      refine h_take 1 rfl (by kernel_rfl) (by kernel_rfl) (by kernel_rfl) hSr7 (fun wS hSS => by (have hX := hX.ext hSS; have hB3 := hB3.ext hSS; exact (x_move (by conv => lhs; whnf)))) ?_
      refine h_take 2 rfl (by kernel_rfl) (by kernel_rfl) (by kernel_rfl) hSr7 (fun wS hSS => by (have hX := hX.ext hSS; have hB3 := hB3.ext hSS; exact (x_move (by conv => lhs; whnf)))) ?_
      refine h_take 3 rfl (by kernel_rfl) (by kernel_rfl) (by kernel_rfl) hSr7 (fun wS hSS => by (have hX := hX.ext hSS; have hB3 := hB3.ext hSS; exact (x_slice_hN u31 sz35 rfl rfl (by omega)))) ?_
      refine h_take 5 rfl (by kernel_rfl) (by kernel_rfl) (by kernel_rfl) hSr7 (fun wS hSS => by (have hX := hX.ext hSS; have hB3 := hB3.ext hSS; exact (x_loadB ua35 rfl hB3 (hv_sz sz35 x)))) ?_
      refine h_two 4 6 _ _ rfl rfl (by kernel_rfl) (hop_of_list (fun Q4 hQ4 => ?_)) (hop_of_list (fun Q6 hQ6 => ?_))
      · skip
        have hO : Own kHash 35 0 w34.heap.size w34 none 0 0 [] := Own.nil _ _ _ _ _
        have hBz : w.heap.size ≤ w34.heap.size := hX.size
        have hBs := hSr7.size
        have hWt := Ext.refl w34
        refine o_append (d := kHash) (xs.take k) u31 inf35 rfl kHash_pos rfl rfl hO (src_pure u31 ((hl.ext hX).take k (by omega)) (by decide)) (by rw [List.length_take]; omega) (hash_all _ _ _) (rfl) (by omega) (by omega) (by omega) (by omega) (by decide) ?_
        intro p38 c38 w35 hO hM35
        have hX := hX.mod hM35 (hBz)
        have hB3 := hB3.ext ((Ext.refl _).mod hM35 (Nat.le_refl _))
        have hSr7 := hSr7.mod hM35 (by first | exact Nat.le_refl _ | exact trivial | omega)
        have hWt := hWt.mod hM35 (by first | exact Nat.le_refl _ | exact trivial | omega)
        refine hop_end hQ4 ⟨hSr7, ?_⟩
        refine h_one 6 _ rfl (by kernel_rfl) (hop_of_list (fun Q6 hQ6 => ?_))
        refine o_buildSlice u31 inf35 rfl (by decide) (fun base hb => fill_kn [.agg (hv x)] (by intro v hv'; simp only [List.mem_singleton] at hv'; subst hv'; simp [Value.cells, hv, hcs_len]) base hb) ?_
        intro w36 g40 hN40
        have hE36 := hN40.ext
        have hX := hX.ext hE36
        have hB3 := hB3.ext hE36
        have hSr7 := hSr7.ext hE36
        have hWt := hWt.ext hE36
        have hO := hO.ext hE36
        have hJ : Own kHash 35 0 0 w36 (some ⟨g40, 0, none⟩) 1 1 [x] := own_lit [x] hN40 (Nat.zero_le _) (by simp)
        refine hop_end hQ6 ⟨hSr7, ?_⟩
        refine h_one 7 _ rfl (by kernel_rfl) (hop_of_list (fun Q7 hQ7 => ?_))
        have hq1 := hWt.size
        refine o_append (d := kHash) ([x]) u31 inf35 rfl kHash_pos rfl rfl hO (src_pure u31 hJ.sl (by decide)) rfl (hash_all _ _ _) (rfl) (by omega) (by omega) (by omega) (by omega) (by decide) ?_
        intro p41 c41 w37 hO hM37
        have hX := hX.mod hM37 (hBz)
        have hSr7 := hSr7.mod hM37 (by first | exact Nat.le_refl _ | exact trivial | omega)
        have hWt := hWt.mod hM37 (by first | exact Nat.le_refl _ | exact trivial | omega)
        refine hop_end hQ7 ⟨hSr7, ?_⟩
        refine h_take 8 rfl (by kernel_rfl) (by kernel_rfl) (by kernel_rfl) hSr7 (fun wS hSS => by ( exact (x_assign (by conv => lhs; whnf)))) ?_
        refine h_done (by kernel_rfl) ?_
        refine t_n ?_
        refine c_seq ?_
        refine r_plain ?_
        refine p1 (x_move (by conv => lhs; whnf)) ?_
        refine p1 (x_move (by conv => lhs; whnf)) ?_
        refine p1 (x_move (by conv => lhs; whnf)) ?_
        refine p1 (x_slice_lN u31 sz35 rfl rfl (by omega)) ?_
        have hq1 := hWt.size
        refine o_append (d := kHash) (xs.drop k) u31 inf35 rfl kHash_pos rfl rfl hO (src_pure u31 ((hl.ext hX).dropI k (by omega)) (by decide)) (by rw [List.length_drop]; omega) (hash_all _ _ _) (rfl) (by omega) (by omega) (by omega) (by omega) (by decide) ?_
        intro p46 c46 w38 hO hM38
        have hX := hX.mod hM38 (hBz)
        have hWt := hWt.mod hM38 (by first | exact Nat.le_refl _ | exact trivial | omega)
        refine p1 (x_assign (by conv => lhs; whnf)) ?_
        refine r_nil ?_
        refine t_n ?_
        refine c_ret ?_
        refine end1 rfl (by conv => lhs; whnf) ?_
        first | exact ⟨⟨_, _, _, rfl, (by rw [hp]; exact hl.ext hX), by omega⟩, hX⟩ | exact ⟨⟨_, _, _, rfl, (by rw [hp]; have h9 := hO.sl.mono (Nat.zero_le B); rw [show [] ++ xs.take k ++ [x] ++ xs.drop k = xs.take k ++ x :: xs.drop k from by simp] at h9; exact h9), by omega⟩, hX⟩
      · skip
        refine o_buildSlice u31 inf35 rfl (by decide) (fun base hb => fill_kn [.agg (hv x)] (by intro v hv'; simp only [List.mem_singleton] at hv'; subst hv'; simp [Value.cells, hv, hcs_len]) base hb) ?_
        intro w39 g40 hN40
        have hE39 := hN40.ext
        have hX := hX.ext hE39
        have hB3 := hB3.ext hE39
        have hSr7 := hSr7.ext hE39
        have hJ : Own kHash 35 0 0 w39 (some ⟨g40, 0, none⟩) 1 1 [x] := own_lit [x] hN40 (Nat.zero_le _) (by simp)
        refine hop_end hQ6 ⟨hSr7, ?_⟩
        refine h_one 4 _ rfl (by kernel_rfl) (hop_of_list (fun Q4 hQ4 => ?_))
        have hO : Own kHash 35 0 w39.heap.size w39 none 0 0 [] := Own.nil _ _ _ _ _
        have hBz : w.heap.size ≤ w39.heap.size := hX.size
        have hBs := hSr7.size
        have hWt := Ext.refl w39
        refine o_append (d := kHash) (xs.take k) u31 inf35 rfl kHash_pos rfl rfl hO (src_pure u31 ((hl.ext hX).take k (by omega)) (by decide)) (by rw [List.length_take]; omega) (hash_all _ _ _) (rfl) (by omega) (by omega) (by omega) (by omega) (by decide) ?_
        intro p38 c38 w40 hO hM40
        have hX := hX.mod hM40 (hBz)
        have hB3 := hB3.ext ((Ext.refl _).mod hM40 (Nat.le_refl _))
        have hSr7 := hSr7.mod hM40 (by first | exact Nat.le_refl _ | exact trivial | omega)
        have hJ := hJ.ext ((Ext.refl _).mod hM40 (Nat.le_refl _))
        have hWt := hWt.mod hM40 (by first | exact Nat.le_refl _ | exact trivial | omega)
        refine hop_end hQ4 ⟨hSr7, ?_⟩
        refine h_one 7 _ rfl (by kernel_rfl) (hop_of_list (fun Q7 hQ7 => ?_))
        have hq1 := hWt.size
        refine o_append (d := kHash) ([x]) u31 inf35 rfl kHash_pos rfl rfl hO (src_pure u31 hJ.sl (by decide)) rfl (hash_all _ _ _) (rfl) (by omega) (by omega) (by omega) (by omega) (by decide) ?_
        intro p41 c41 w41 hO hM41
        have hX := hX.mod hM41 (hBz)
        have hSr7 := hSr7.mod hM41 (by first | exact Nat.le_refl _ | exact trivial | omega)
        have hWt := hWt.mod hM41 (by first | exact Nat.le_refl _ | exact trivial | omega)
        refine hop_end hQ7 ⟨hSr7, ?_⟩
        refine h_take 8 rfl (by kernel_rfl) (by kernel_rfl) (by kernel_rfl) hSr7 (fun wS hSS => by ( exact (x_assign (by conv => lhs; whnf)))) ?_
        refine h_done (by kernel_rfl) ?_
        refine t_n ?_
        refine c_seq ?_
        refine r_plain ?_
        refine p1 (x_move (by conv => lhs; whnf)) ?_
        refine p1 (x_move (by conv => lhs; whnf)) ?_
        refine p1 (x_move (by conv => lhs; whnf)) ?_
        refine p1 (x_slice_lN u31 sz35 rfl rfl (by omega)) ?_
        have hq1 := hWt.size
        refine o_append (d := kHash) (xs.drop k) u31 inf35 rfl kHash_pos rfl rfl hO (src_pure u31 ((hl.ext hX).dropI k (by omega)) (by decide)) (by rw [List.length_drop]; omega) (hash_all _ _ _) (rfl) (by omega) (by omega) (by omega) (by omega) (by decide) ?_
        intro p46 c46 w42 hO hM42
        have hX := hX.mod hM42 (hBz)
        have hWt := hWt.mod hM42 (by first | exact Nat.le_refl _ | exact trivial | omega)
        refine p1 (x_assign (by conv => lhs; whnf)) ?_
        refine r_nil ?_
        refine t_n ?_
        refine c_ret ?_
        refine end1 rfl (by conv => lhs; whnf) ?_
        first | exact ⟨⟨_, _, _, rfl, (by rw [hp]; exact hl.ext hX), by omega⟩, hX⟩ | exact ⟨⟨_, _, _, rfl, (by rw [hp]; have h9 := hO.sl.mono (Nat.zero_le B); rw [show [] ++ xs.take k ++ [x] ++ xs.drop k = xs.take k ++ x :: xs.drop k from by simp] at h9; exact h9), by omega⟩, hX⟩
theorem ref06_Sort (xs : List Hash) (B : Nat) (p : Option Addr) (n c : Nat) (w : World) (hl : Sl kHash 35 B w p n c xs) (hs : n ≤ 4194304000) :
    Ret Try.prog 37 [.slice p n c] w (fun v w' => (∃ q m c', v = .slice q m c' ∧ Sl kHash 35 B w' q m c' (srt xs) ∧ m ≤ n) ∧ Ext w w') := by
  have hX := Ext.refl w
  refine enter 18 _ Try.func37 rfl rfl (Nat.le_of_ble_eq_true rfl) ?_
  refine c_seq ?_
  refine r_plain ?_
  refine p1 (x_assign (by conv => lhs; whnf)) ?_
  refine r_nil ?_
  refine t_n ?_
  refine c_seq ?_
  refine r_plain ?_
  refine p1 (x_assign (by conv => lhs; whnf)) ?_
  refine r_nil ?_
  refine t_n ?_
  refine c_seq ?_
  refine c_seq ?_
  refine r_plain ?_
  refine p1 (x_assign (by conv => lhs; whnf)) ?_
  refine r_nil ?_
  refine t_n ?_
  refine c_block ?_
  have hWL0 := Ext.refl w
  have hlen := hl.len
  have hfit := hl.fit
  have hcap := hl.cap
  refine c_loop (ι := Nat × Option Addr × Nat × Nat) [3, 4, 5, 6, 7, 8, 9, 10, 11, 12, 13, 14, 15, 16] (fun (k, q, m, c1) => [(3, .slice q m c1), (4, .int .i64 (k : Int))]) (fun (k, q, m, c1) w' => Ext w w' ∧ (Sl kHash 35 B w' q m c1 (srtTo [] (xs.take k)) ∧ m ≤ k ∧ k ≤ n)) (fun (k, q, m, c1) => n - k) ((0, none, 0, 0)) ⟨rfl, rfl, trivial⟩ ⟨Ext.refl _, ⟨Sl.nil _ _ _ _ _ _ (by omega), by omega, by omega⟩⟩ ?_
  rintro ⟨k, q, m, c1⟩ GL0 w1 ⟨hE1, hR, hm, hk⟩
  have hX := hX.ext hE1
  have hWL0 := hE1
  refine c_seq ?_
  refine c_seq ?_
  refine r_plain ?_
  refine p1 (x_move (by conv => lhs; whnf)) ?_
  refine p1 (x_move (by conv => lhs; whnf)) ?_
  refine p1 (x_len_slice u31 rfl) ?_
  refine p1 (x_lss rfl rfl) ?_
  refine r_nil ?_
  refine t_n ?_
  first | refine c_dec rfl (fun hc8 => ?_) (fun hc8 => ?_) | refine c_if rfl (fun hc8 => ?_) (fun hc8 => ?_)
  · try simp only [decide_eq_true_eq, decide_eq_false_iff_not, Bool.not_eq_true, Bool.not_eq_false, Bool.not_eq_eq_eq_not, Bool.not_true, Bool.not_false, Int.not_lt, Int.not_le] at hc8
    refine c_skip ?_
    refine t_n ?_
    refine c_seq ?_
    refine c_block ?_
    refine r_plain ?_
    refine p1 (x_move (by conv => lhs; whnf)) ?_
    refine p1 (x_move (by conv => lhs; whnf)) ?_
    refine p1 (x_move (by conv => lhs; whnf)) ?_
    refine p1 (x_ixs u31 sz35 rfl rfl ((hl.ext hX).adr kHash_pos (by omega)) (by omega) (by omega)) ?_
    refine p1 (x_loadN ua35 rfl (hcs_sz sz35 _) ((hl.ext hX).hashAt _ (by omega) (by omega))) ?_
    refine o_call Try.func93 fn93 fb93 (ref06_With (srtTo [] (xs.take k)) (xs.getD _ default) B _ _ _ _ hR (by omega)) rfl ?_
    rintro v2 w2 ⟨⟨q2, m2, c2, rfl, hR2, hm2⟩, hE2⟩
    have hX := hX.ext hE2
    have hWL0 := hWL0.ext hE2
    have hR := hR.ext hE2
    refine p1 (x_assign (by conv => lhs; whnf)) ?_
    refine r_nil ?_
    refine b_n ?_
    refine t_n ?_
    refine r_plain ?_
    refine p1 (x_move (by conv => lhs; whnf)) ?_
    refine p1 (x_add rfl rfl (fits_i64 (by omega) (by omega))) ?_
    refine p1 (x_assign (by conv => lhs; whnf)) ?_
    refine r_nil ?_
    refine t_n (At.mk ((k + 1, q2, m2, c2)) (by repeat (first | exact Agr.refl _ _ | exact Agr.hav _ _ _ | refine Agr.upd rfl ?_ | refine Agr.updL ?_ _ rfl | refine Agr.hav' rfl ?_)) ⟨rfl, rfl, trivial⟩ ?_)
    exact ⟨⟨hWL0, ⟨by rw [srtTo_take (by omega)]; exact hR2, by omega, by omega⟩⟩, by first | (dsimp only; omega) | ((show _ < _); omega)⟩
  · try simp only [decide_eq_true_eq, decide_eq_false_iff_not, Bool.not_eq_true, Bool.not_eq_false, Bool.not_eq_eq_eq_not, Bool.not_true, Bool.not_false, Int.not_lt, Int.not_le] at hc8
    have hkn : k = n := by omega
    rw [hkn, List.take_of_length_le (by omega)] at hR
    refine c_exit ?_
    refine t_e ?_
    refine t_e ?_
    refine b_hit ?_
    refine t_n ?_
    refine c_seq ?_
    refine r_plain ?_
    refine p1 (x_move (by conv => lhs; whnf)) ?_
    refine p1 (x_assign (by conv => lhs; whnf)) ?_
    refine r_nil ?_
    refine t_n ?_
    refine c_ret ?_
    refine end1 rfl (by conv => lhs; whnf) ?_
    exact ⟨⟨_, _, _, rfl, hR, by omega⟩, hX⟩
theorem law06_few (xs : List Hash) (B : Nat) (p : Option Addr) (n c : Nat) (w : World) (hl : Sl kHash 35 B w p n c xs) :
    Ret Try.prog 34 [.slice p n c] w (fun v w' => v = .bool (decide ((n : Int) ≤ 2000)) ∧ Ext w w') := by
  have hX := Ext.refl w
  refine enter 6 _ Try.func34 rfl rfl (Nat.le_of_ble_eq_true rfl) ?_
  refine c_seq ?_
  refine r_plain ?_
  refine p1 (x_assign (by conv => lhs; whnf)) ?_
  refine r_nil ?_
  refine t_n ?_
  refine c_seq ?_
  refine r_plain ?_
  refine p1 (x_move (by conv => lhs; whnf)) ?_
  refine p1 (x_len_slice u31 rfl) ?_
  refine p1 (x_leq rfl rfl) ?_
  refine p1 (x_assign (by conv => lhs; whnf)) ?_
  refine r_nil ?_
  refine t_n ?_
  refine c_ret ?_
  refine end1 rfl (by conv => lhs; whnf) ?_
  exact ⟨rfl, hX⟩
end Go.Proofs.Eng
