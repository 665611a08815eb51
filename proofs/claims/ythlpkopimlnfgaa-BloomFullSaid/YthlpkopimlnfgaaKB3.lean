import Derived.Test.YthlpkopimlnfgaaKB2
/- Merged: A5 T6 P5 P6 PB H6 T7 H7 T8 H8 G6 H9 -/
section
set_option linter.unusedVariables false
set_option linter.unusedSimpArgs false
set_option maxRecDepth 100000
set_option maxHeartbeats 4000000
namespace Go.Proofs.Eng
open Go.RowKit
open Extern.Stop (cell)
theorem ref06_With (xs : List Hash) (x : Hash) (B : Nat) (p : Option Addr) (n c : Nat) (w : World) (hl : Sl kHash 29 B w p n c xs) (hs : n ≤ 4194304000) :
    Ret Try.prog 36 [.slice p n c, .agg (hv x)] w (fun v w' => (∃ q m c', v = .slice q m c' ∧ Sl kHash 29 B w' q m c' (wth xs x) ∧ m ≤ n + 1) ∧ Ext w w') := by
  have hX := Ext.refl w
  refine enter 47 _ Try.func36 rfl rfl (Nat.le_of_ble_eq_true rfl) rfl ?_
  refine c_seq ?_
  refine r_plain ?_
  refine o_boxA (by conv => lhs; whnf) ?_
  intro w1 g3 hN3
  have hE1 := hN3.ext
  have hX := hX.ext hE1
  have hB3 := hN3.blk
  refine p1 (x_assign (by conv => lhs; whnf)) ?_
  refine r_nil ?_
  refine t_n ?_
  refine c_seq ?_
  refine r_plain ?_
  refine p1 (x_assign (by conv => lhs; whnf)) ?_
  refine r_nil ?_
  refine t_n ?_
  refine c_seq ?_
  refine c_block ?_
  have hWL0 := Ext.refl w1
  have hlen := hl.len
  have hfit := hl.fit
  have hcap := hl.cap
  refine c_loop (ι := Nat) [5, 7, 8, 9, 10, 11, 12, 13, 14, 15, 16, 17, 18, 19, 20] (fun k => [(5, .int .i64 (k : Int))]) (fun k w' => Ext w1 w' ∧ (k ≤ n ∧ ∀ j, j < k → hlt (xs.getD j default) x = true)) (fun k => n - k) (0) ⟨rfl, trivial⟩ ⟨Ext.refl _, ⟨by omega, fun i hi => by omega⟩⟩ ?_
  rintro k GL0 w2 ⟨hE2, hk, hL⟩
  have hX := hX.ext hE2
  have hB3 := hB3.ext hE2
  have hWL0 := hE2
  refine c_seq ?_
  refine c_seq ?_
  refine r_tail 10 mixed (by kernel_rfl) ?_
  intro w3 hE3
  have hX := hX.ext hE3
  have hB3 := hB3.ext hE3
  have hWL0 := hWL0.ext hE3
  refine s1 (x_move (by conv => lhs; whnf)) ?_
  refine s1 (x_move (by conv => lhs; whnf)) ?_
  refine s1 (x_len_slice u22 rfl) ?_
  refine s1 (x_lss rfl rfl) ?_
  refine s1b (x_move (by conv => lhs; whnf)) (fun hb2_4 => ?_) (fun hb2_4 => ?_)
  · try simp only [decide_eq_true_eq, decide_eq_false_iff_not, Bool.not_eq_true, Bool.not_eq_false, Bool.not_eq_eq_eq_not, Bool.not_true, Bool.not_false, Int.not_lt, Int.not_le] at hb2_4
    refine sg1 11 rfl rfl (x_move (by conv => lhs; whnf)) ?_
    refine sg1 11 rfl rfl (x_move (by conv => lhs; whnf)) ?_
    refine sg1 11 rfl rfl (x_ixs u22 sz29 rfl rfl ((hl.ext hX).adr kHash_pos (by omega)) (by omega) (by omega)) ?_
    refine sg1 11 rfl rfl (x_loadN ua29 rfl (hcs_sz sz29 _) ((hl.ext hX).hashAt _ (by omega) (by omega))) ?_
    refine sg1 11 rfl rfl (x_loadB ua29 rfl hB3 (hv_sz sz29 x)) ?_
    refine s_nil ?_
    refine g_drop 11 rfl rfl ?_
    refine o_call Try.func46 fn46 fb46 (ref01_Less _ x _) rfl ?_
    rintro v4 w4 ⟨rfl, hE4⟩
    have hX := hX.ext hE4
    have hB3 := hB3.ext hE4
    have hWL0 := hWL0.ext hE4
    refine p1 (x_pick_t rfl (by conv => lhs; whnf)) ?_
    refine r_nil ?_
    refine t_n ?_
    first | refine c_dec rfl (fun hc18 => ?_) (fun hc18 => ?_) | refine c_if rfl (fun hc18 => ?_) (fun hc18 => ?_)
    · try simp only [decide_eq_true_eq, decide_eq_false_iff_not, Bool.not_eq_true, Bool.not_eq_false, Bool.not_eq_eq_eq_not, Bool.not_true, Bool.not_false, Int.not_lt, Int.not_le] at hc18
      have h1 : hlt (xs.getD k default) x = true := hc18
      refine c_skip ?_
      refine t_n ?_
      refine c_block ?_
      refine r_plain ?_
      refine p1 (x_move (by conv => lhs; whnf)) ?_
      refine p1 (x_add rfl rfl (fits_i64 (by omega) (by omega))) ?_
      refine p1 (x_assign (by conv => lhs; whnf)) ?_
      refine r_nil ?_
      refine b_n ?_
      refine t_n (At.mk (k + 1) (by repeat (first | exact Agr.refl _ _ | exact Agr.hav _ _ _ | refine Agr.upd rfl ?_ | refine Agr.updR rfl ?_ | refine Agr.updL ?_ _ rfl | refine Agr.hav' rfl ?_)) ⟨rfl, trivial⟩ ?_)
      exact ⟨⟨hWL0, ⟨by omega, fun i hi => if h : i < k then hL i h else by rw [show i = k from by omega]; exact h1⟩⟩, by first | (dsimp only; omega) | ((show _ < _); omega)⟩
    · try simp only [decide_eq_true_eq, decide_eq_false_iff_not, Bool.not_eq_true, Bool.not_eq_false, Bool.not_eq_eq_eq_not, Bool.not_true, Bool.not_false, Int.not_lt, Int.not_le] at hc18
      have hex : k < n → hlt (xs.getD k default) x = false := by first | (intro h; exfalso; omega) | (intro h; exact Bool.eq_false_iff.2 (fun e => by simp_all))
      have hwa := wth_at xs x k (by omega) hL (fun h => hex (by omega))
      refine c_exit ?_
      refine t_e ?_
      refine t_e ?_
      refine b_hit ?_
      refine t_n ?_
      refine c_seq ?_
      refine c_seq ?_
      refine r_still mixed (by kernel_rfl) ?_
      intro w5 hE5
      have hX := hX.ext hE5
      have hB3 := hB3.ext hE5
      refine s1 (x_move (by conv => lhs; whnf)) ?_
      refine s1 (x_move (by conv => lhs; whnf)) ?_
      refine s1 (x_len_slice u22 rfl) ?_
      refine s1 (x_lss rfl rfl) ?_
      refine s1b (x_move (by conv => lhs; whnf)) (fun hb4_4 => ?_) (fun hb4_4 => ?_)
      · try simp only [decide_eq_true_eq, decide_eq_false_iff_not, Bool.not_eq_true, Bool.not_eq_false, Bool.not_eq_eq_eq_not, Bool.not_true, Bool.not_false, Int.not_lt, Int.not_le] at hb4_4
        refine sg1 25 rfl rfl (x_move (by conv => lhs; whnf)) ?_
        refine sg1 25 rfl rfl (x_move (by conv => lhs; whnf)) ?_
        refine sg1 25 rfl rfl (x_ixs u22 sz29 rfl rfl ((hl.ext hX).adr kHash_pos (by omega)) (by omega) (by omega)) ?_
        refine sg1 25 rfl rfl (x_loadN ua29 rfl (hcs_sz sz29 _) ((hl.ext hX).hashAt _ (by omega) (by omega))) ?_
        refine sg1 25 rfl rfl (x_loadB ua29 rfl hB3 (hv_sz sz29 x)) ?_
        refine sg1 25 rfl rfl (x_eql_bytes u29 u5 sz5 eg29 rfl rfl (xs.getD _ default).2 x.2) ?_
        refine s1 (x_pick_t rfl (by conv => lhs; whnf)) ?_
        refine s_nil ?_
        refine t_n ?_
        first | refine c_dec rfl (fun hc32 => ?_) (fun hc32 => ?_) | refine c_if rfl (fun hc32 => ?_) (fun hc32 => ?_)
        · try simp only [decide_eq_true_eq, decide_eq_false_iff_not, Bool.not_eq_true, Bool.not_eq_false, Bool.not_eq_eq_eq_not, Bool.not_true, Bool.not_false, Int.not_lt, Int.not_le] at hc32
          have hp : wth xs x = xs := by rw [hwa, if_pos ⟨by omega, Subtype.ext hc32⟩]
          refine c_seq ?_
          refine r_plain ?_
          refine p1 (x_move (by conv => lhs; whnf)) ?_
          refine p1 (x_assign (by conv => lhs; whnf)) ?_
          refine r_nil ?_
          refine t_n ?_
          refine c_ret ?_
          refine t_r ?_
          refine end1 rfl (by conv => lhs; whnf) ?_
          first | exact ⟨⟨_, _, _, rfl, (by rw [hp]; exact hl.ext hX), by omega⟩, hX⟩ | exact ⟨⟨_, _, _, rfl, (by rw [hp]; have h9 := hO.sl.mono (Nat.zero_le B); rw [show [] ++ xs.take k ++ [x] ++ xs.drop k = xs.take k ++ x :: xs.drop k from by simp] at h9; exact h9), by omega⟩, hX⟩
        · try simp only [decide_eq_true_eq, decide_eq_false_iff_not, Bool.not_eq_true, Bool.not_eq_false, Bool.not_eq_eq_eq_not, Bool.not_true, Bool.not_false, Int.not_lt, Int.not_le] at hc32
          have hp : wth xs x = xs.take k ++ x :: xs.drop k := by rw [hwa, if_neg (fun e => by first | exact hc32 (congrArg Subtype.val e.2) | omega)]
          refine c_skip ?_
          refine t_n ?_
          refine c_seq ?_
          refine r_plain ?_
          refine p1 (x_assign (by conv => lhs; whnf)) ?_
          refine r_nil ?_
          refine t_n ?_
          refine c_seq ?_
          refine r_held (fun w1 w2 => Ext w1 w2) mixed ?_
          intro w6 hE6
          have hX := hX.ext hE6
          have hB3 := hB3.ext hE6
          have hSr7 : (fun w1 w2 => Ext w1 w2) w6 w6 := Ext.refl w6
          refine h_take 0 rfl (by kernel_rfl) (by kernel_rfl) (by kernel_rfl) hSr7 (fun wS hSS => by (have hX := hX.ext hSS; have hB3 := hB3.ext hSS; exact (x_move (by conv => lhs; whnf)))) ?_
          refine h_take 1 rfl (by kernel_rfl) (by kernel_rfl) (by kernel_rfl) hSr7 (fun wS hSS => by (have hX := hX.ext hSS; have hB3 := hB3.ext hSS; exact (x_move (by conv => lhs; whnf)))) ?_
          refine h_take 2 rfl (by kernel_rfl) (by kernel_rfl) (by kernel_rfl) hSr7 (fun wS hSS => by (have hX := hX.ext hSS; have hB3 := hB3.ext hSS; exact (x_move (by conv => lhs; whnf)))) ?_
          refine h_take 3 rfl (by kernel_rfl) (by kernel_rfl) (by kernel_rfl) hSr7 (fun wS hSS => by (have hX := hX.ext hSS; have hB3 := hB3.ext hSS; exact (x_slice_hN u22 sz29 rfl rfl (by omega)))) ?_
          refine h_take 5 rfl (by kernel_rfl) (by kernel_rfl) (by kernel_rfl) hSr7 (fun wS hSS => by (have hX := hX.ext hSS; have hB3 := hB3.ext hSS; exact (x_loadB ua29 rfl hB3 (hv_sz sz29 x)))) ?_
          refine h_two 4 6 _ _ rfl rfl (by kernel_rfl) (hop_of_list (fun Q4 hQ4 => ?_)) (hop_of_list (fun Q6 hQ6 => ?_))
          · skip
            have hO : Own kHash 29 0 w6.heap.size w6 none 0 0 [] := Own.nil _ _ _ _ _
            have hBz : w.heap.size ≤ w6.heap.size := hX.size
            have hBs := hSr7.size
            have hWt := Ext.refl w6
            refine o_append (d := kHash) (xs.take k) u22 inf29 rfl kHash_pos rfl rfl hO (src_pure u22 ((hl.ext hX).take k (by omega)) (by decide)) (by rw [List.length_take]; omega) (hash_all _ _ _) (rfl) (by omega) (by omega) (by omega) (by omega) (by decide) ?_
            intro p38 c38 w7 hO hM7
            have hX := hX.mod hM7 (hBz)
            have hB3 := hB3.ext ((Ext.refl _).mod hM7 (Nat.le_refl _))
            have hSr7 := hSr7.mod hM7 (by first | exact Nat.le_refl _ | exact trivial | omega)
            have hWt := hWt.mod hM7 (by first | exact Nat.le_refl _ | exact trivial | omega)
            refine hop_end hQ4 ⟨hSr7, ?_⟩
            refine h_one 6 _ rfl (by kernel_rfl) (hop_of_list (fun Q6 hQ6 => ?_))
            refine o_buildSlice u22 inf29 rfl (by decide) (fun base hb => fill_kn [.agg (hv x)] (by intro v hv'; simp only [List.mem_singleton] at hv'; subst hv'; simp [Value.cells, hv, hcs_len]) base hb) ?_
            intro w8 g40 hN40
            have hE8 := hN40.ext
            have hX := hX.ext hE8
            have hB3 := hB3.ext hE8
            have hSr7 := hSr7.ext hE8
            have hWt := hWt.ext hE8
            have hO := hO.ext hE8
            have hJ : Own kHash 29 0 0 w8 (some ⟨g40, 0, none⟩) 1 1 [x] := own_lit [x] hN40 (Nat.zero_le _) (by simp)
            refine hop_end hQ6 ⟨hSr7, ?_⟩
            refine h_one 7 _ rfl (by kernel_rfl) (hop_of_list (fun Q7 hQ7 => ?_))
            have hq1 := hWt.size
            refine o_append (d := kHash) ([x]) u22 inf29 rfl kHash_pos rfl rfl hO (src_pure u22 hJ.sl (by decide)) rfl (hash_all _ _ _) (rfl) (by omega) (by omega) (by omega) (by omega) (by decide) ?_
            intro p41 c41 w9 hO hM9
            have hX := hX.mod hM9 (hBz)
            have hSr7 := hSr7.mod hM9 (by first | exact Nat.le_refl _ | exact trivial | omega)
            have hWt := hWt.mod hM9 (by first | exact Nat.le_refl _ | exact trivial | omega)
            refine hop_end hQ7 ⟨hSr7, ?_⟩
            refine h_take 8 rfl (by kernel_rfl) (by kernel_rfl) (by kernel_rfl) hSr7 (fun wS hSS => by ( exact (x_assign (by conv => lhs; whnf)))) ?_
            refine h_done (by kernel_rfl) ?_
            refine t_n ?_
            refine c_seq ?_
            refine r_plain ?_
            refine p1 (x_move (by conv => lhs; whnf)) ?_
            refine p1 (x_move (by conv => lhs; whnf)) ?_
            refine p1 (x_move (by conv => lhs; whnf)) ?_
            refine p1 (x_slice_lN u22 sz29 rfl rfl (by omega)) ?_
            have hq1 := hWt.size
            refine o_append (d := kHash) (xs.drop k) u22 inf29 rfl kHash_pos rfl rfl hO (src_pure u22 ((hl.ext hX).dropI k (by omega)) (by decide)) (by rw [List.length_drop]; omega) (hash_all _ _ _) (rfl) (by omega) (by omega) (by omega) (by omega) (by decide) ?_
            intro p46 c46 w10 hO hM10
            have hX := hX.mod hM10 (hBz)
            have hWt := hWt.mod hM10 (by first | exact Nat.le_refl _ | exact trivial | omega)
            refine p1 (x_assign (by conv => lhs; whnf)) ?_
            refine r_nil ?_
            refine t_n ?_
            refine c_ret ?_
            refine end1 rfl (by conv => lhs; whnf) ?_
            first | exact ⟨⟨_, _, _, rfl, (by rw [hp]; exact hl.ext hX), by omega⟩, hX⟩ | exact ⟨⟨_, _, _, rfl, (by rw [hp]; have h9 := hO.sl.mono (Nat.zero_le B); rw [show [] ++ xs.take k ++ [x] ++ xs.drop k = xs.take k ++ x :: xs.drop k from by simp] at h9; exact h9), by omega⟩, hX⟩
          · skip
            refine o_buildSlice u22 inf29 rfl (by decide) (fun base hb => fill_kn [.agg (hv x)] (by intro v hv'; simp only [List.mem_singleton] at hv'; subst hv'; simp [Value.cells, hv, hcs_len]) base hb) ?_
            intro w11 g40 hN40
            have hE11 := hN40.ext
            have hX := hX.ext hE11
            have hB3 := hB3.ext hE11
            have hSr7 := hSr7.ext hE11
            have hJ : Own kHash 29 0 0 w11 (some ⟨g40, 0, none⟩) 1 1 [x] := own_lit [x] hN40 (Nat.zero_le _) (by simp)
            refine hop_end hQ6 ⟨hSr7, ?_⟩
            refine h_one 4 _ rfl (by kernel_rfl) (hop_of_list (fun Q4 hQ4 => ?_))
            have hO : Own kHash 29 0 w11.heap.size w11 none 0 0 [] := Own.nil _ _ _ _ _
            have hBz : w.heap.size ≤ w11.heap.size := hX.size
            have hBs := hSr7.size
            have hWt := Ext.refl w11
            refine o_append (d := kHash) (xs.take k) u22 inf29 rfl kHash_pos rfl rfl hO (src_pure u22 ((hl.ext hX).take k (by omega)) (by decide)) (by rw [List.length_take]; omega) (hash_all _ _ _) (rfl) (by omega) (by omega) (by omega) (by omega) (by decide) ?_
            intro p38 c38 w12 hO hM12
            have hX := hX.mod hM12 (hBz)
            have hB3 := hB3.ext ((Ext.refl _).mod hM12 (Nat.le_refl _))
            have hSr7 := hSr7.mod hM12 (by first | exact Nat.le_refl _ | exact trivial | omega)
            have hJ := hJ.ext ((Ext.refl _).mod hM12 (Nat.le_refl _))
            have hWt := hWt.mod hM12 (by first | exact Nat.le_refl _ | exact trivial | omega)
            refine hop_end hQ4 ⟨hSr7, ?_⟩
            refine h_one 7 _ rfl (by kernel_rfl) (hop_of_list (fun Q7 hQ7 => ?_))
            have hq1 := hWt.size
            refine o_append (d := kHash) ([x]) u22 inf29 rfl kHash_pos rfl rfl hO (src_pure u22 hJ.sl (by decide)) rfl (hash_all _ _ _) (rfl) (by omega) (by omega) (by omega) (by omega) (by decide) ?_
            intro p41 c41 w13 hO hM13
            have hX := hX.mod hM13 (hBz)
            have hSr7 := hSr7.mod hM13 (by first | exact Nat.le_refl _ | exact trivial | omega)
            have hWt := hWt.mod hM13 (by first | exact Nat.le_refl _ | exact trivial | omega)
            refine hop_end hQ7 ⟨hSr7, ?_⟩
            refine h_take 8 rfl (by kernel_rfl) (by kernel_rfl) (by kernel_rfl) hSr7 (fun wS hSS => by ( exact (x_assign (by conv => lhs; whnf)))) ?_
            refine h_done (by kernel_rfl) ?_
            refine t_n ?_
            refine c_seq ?_
            refine r_plain ?_
            refine p1 (x_move (by conv => lhs; whnf)) ?_
            refine p1 (x_move (by conv => lhs; whnf)) ?_
            refine p1 (x_move (by conv => lhs; whnf)) ?_
            refine p1 (x_slice_lN u22 sz29 rfl rfl (by omega)) ?_
            have hq1 := hWt.size
            refine o_append (d := kHash) (xs.drop k) u22 inf29 rfl kHash_pos rfl rfl hO (src_pure u22 ((hl.ext hX).dropI k (by omega)) (by decide)) (by rw [List.length_drop]; omega) (hash_all _ _ _) (rfl) (by omega) (by omega) (by omega) (by omega) (by decide) ?_
            intro p46 c46 w14 hO hM14
            have hX := hX.mod hM14 (hBz)
            have hWt := hWt.mod hM14 (by first | exact Nat.le_refl _ | exact trivial | omega)
            refine p1 (x_assign (by conv => lhs; whnf)) ?_
            refine r_nil ?_
            refine t_n ?_
            refine c_ret ?_
            refine end1 rfl (by conv => lhs; whnf) ?_
            first | exact ⟨⟨_, _, _, rfl, (by rw [hp]; exact hl.ext hX), by omega⟩, hX⟩ | exact ⟨⟨_, _, _, rfl, (by rw [hp]; have h9 := hO.sl.mono (Nat.zero_le B); rw [show [] ++ xs.take k ++ [x] ++ xs.drop k = xs.take k ++ x :: xs.drop k from by simp] at h9; exact h9), by omega⟩, hX⟩
      · try simp only [decide_eq_true_eq, decide_eq_false_iff_not, Bool.not_eq_true, Bool.not_eq_false, Bool.not_eq_eq_eq_not, Bool.not_true, Bool.not_false, Int.not_lt, Int.not_le] at hb4_4
        refine sg0 25 rfl (by first | exact .inl rfl | exact .inr rfl) ?_
        refine sg0 25 rfl (by first | exact .inl rfl | exact .inr rfl) ?_
        refine sg0 25 rfl (by first | exact .inl rfl | exact .inr rfl) ?_
        refine sg0 25 rfl (by first | exact .inl rfl | exact .inr rfl) ?_
        refine sg0 25 rfl (by first | exact .inl rfl | exact .inr rfl) ?_
        refine sg0 25 rfl (by first | exact .inl rfl | exact .inr rfl) ?_
        refine s1 (x_pick_f rfl (by conv => lhs; whnf)) ?_
        refine s_nil ?_
        refine t_n ?_
        refine c_f rfl ?_
        have hp : wth xs x = xs.take k ++ x :: xs.drop k := by rw [hwa, if_neg (fun e => by first | exact hc32 (congrArg Subtype.val e.2) | omega)]
        refine c_skip ?_
        refine t_n ?_
        refine c_seq ?_
        refine r_plain ?_
        refine p1 (x_assign (by conv => lhs; whnf)) ?_
        refine r_nil ?_
        refine t_n ?_
        refine c_seq ?_
        refine r_held (fun w1 w2 => Ext w1 w2) mixed ?_
        intro w15 hE15
        have hX := hX.ext hE15
        have hB3 := hB3.ext hE15
        have hSr7 : (fun w1 w2 => Ext w1 w2) w15 w15 := Ext.refl w15
        refine h_take 0 rfl (by kernel_rfl) (by kernel_rfl) (by kernel_rfl) hSr7 (fun wS hSS => by (have hX := hX.ext hSS; have hB3 := hB3.ext hSS; exact (x_move (by conv => lhs; whnf)))) ?_
        refine h_take 1 rfl (by kernel_rfl) (by kernel_rfl) (by kernel_rfl) hSr7 (fun wS hSS => by (have hX := hX.ext hSS; have hB3 := hB3.ext hSS; exact (x_move (by conv => lhs; whnf)))) ?_
        refine h_take 2 rfl (by kernel_rfl) (by kernel_rfl) (by kernel_rfl) hSr7 (fun wS hSS => by (have hX := hX.ext hSS; have hB3 := hB3.ext hSS; exact (x_move (by conv => lhs; whnf)))) ?_
        refine h_take 3 rfl (by kernel_rfl) (by kernel_rfl) (by kernel_rfl) hSr7 (fun wS hSS => by (have hX := hX.ext hSS; have hB3 := hB3.ext hSS; exact (x_slice_hN u22 sz29 rfl rfl (by omega)))) ?_
        refine h_take 5 rfl (by kernel_rfl) (by kernel_rfl) (by kernel_rfl) hSr7 (fun wS hSS => by (have hX := hX.ext hSS; have hB3 := hB3.ext hSS; exact (x_loadB ua29 rfl hB3 (hv_sz sz29 x)))) ?_
        refine h_two 4 6 _ _ rfl rfl (by kernel_rfl) (hop_of_list (fun Q4 hQ4 => ?_)) (hop_of_list (fun Q6 hQ6 => ?_))
        · skip
          have hO : Own kHash 29 0 w15.heap.size w15 none 0 0 [] := Own.nil _ _ _ _ _
          have hBz : w.heap.size ≤ w15.heap.size := hX.size
          have hBs := hSr7.size
          have hWt := Ext.refl w15
          refine o_append (d := kHash) (xs.take k) u22 inf29 rfl kHash_pos rfl rfl hO (src_pure u22 ((hl.ext hX).take k (by omega)) (by decide)) (by rw [List.length_take]; omega) (hash_all _ _ _) (rfl) (by omega) (by omega) (by omega) (by omega) (by decide) ?_
          intro p38 c38 w16 hO hM16
          have hX := hX.mod hM16 (hBz)
          have hB3 := hB3.ext ((Ext.refl _).mod hM16 (Nat.le_refl _))
          have hSr7 := hSr7.mod hM16 (by first | exact Nat.le_refl _ | exact trivial | omega)
          have hWt := hWt.mod hM16 (by first | exact Nat.le_refl _ | exact trivial | omega)
          refine hop_end hQ4 ⟨hSr7, ?_⟩
          refine h_one 6 _ rfl (by kernel_rfl) (hop_of_list (fun Q6 hQ6 => ?_))
          refine o_buildSlice u22 inf29 rfl (by decide) (fun base hb => fill_kn [.agg (hv x)] (by intro v hv'; simp only [List.mem_singleton] at hv'; subst hv'; simp [Value.cells, hv, hcs_len]) base hb) ?_
          intro w17 g40 hN40
          have hE17 := hN40.ext
          have hX := hX.ext hE17
          have hB3 := hB3.ext hE17
          have hSr7 := hSr7.ext hE17
          have hWt := hWt.ext hE17
          have hO := hO.ext hE17
          have hJ : Own kHash 29 0 0 w17 (some ⟨g40, 0, none⟩) 1 1 [x] := own_lit [x] hN40 (Nat.zero_le _) (by simp)
          refine hop_end hQ6 ⟨hSr7, ?_⟩
          refine h_one 7 _ rfl (by kernel_rfl) (hop_of_list (fun Q7 hQ7 => ?_))
          have hq1 := hWt.size
          refine o_append (d := kHash) ([x]) u22 inf29 rfl kHash_pos rfl rfl hO (src_pure u22 hJ.sl (by decide)) rfl (hash_all _ _ _) (rfl) (by omega) (by omega) (by omega) (by omega) (by decide) ?_
          intro p41 c41 w18 hO hM18
          have hX := hX.mod hM18 (hBz)
          have hSr7 := hSr7.mod hM18 (by first | exact Nat.le_refl _ | exact trivial | omega)
          have hWt := hWt.mod hM18 (by first | exact Nat.le_refl _ | exact trivial | omega)
          refine hop_end hQ7 ⟨hSr7, ?_⟩
          refine h_take 8 rfl (by kernel_rfl) (by kernel_rfl) (by kernel_rfl) hSr7 (fun wS hSS => by ( exact (x_assign (by conv => lhs; whnf)))) ?_
          refine h_done (by kernel_rfl) ?_
          refine t_n ?_
          refine c_seq ?_
          refine r_plain ?_
          refine p1 (x_move (by conv => lhs; whnf)) ?_
          refine p1 (x_move (by conv => lhs; whnf)) ?_
          refine p1 (x_move (by conv => lhs; whnf)) ?_
          refine p1 (x_slice_lN u22 sz29 rfl rfl (by omega)) ?_
          have hq1 := hWt.size
          refine o_append (d := kHash) (xs.drop k) u22 inf29 rfl kHash_pos rfl rfl hO (src_pure u22 ((hl.ext hX).dropI k (by omega)) (by decide)) (by rw [List.length_drop]; omega) (hash_all _ _ _) (rfl) (by omega) (by omega) (by omega) (by omega) (by decide) ?_
          intro p46 c46 w19 hO hM19
          have hX := hX.mod hM19 (hBz)
          have hWt := hWt.mod hM19 (by first | exact Nat.le_refl _ | exact trivial | omega)
          refine p1 (x_assign (by conv => lhs; whnf)) ?_
          refine r_nil ?_
          refine t_n ?_
          refine c_ret ?_
          refine end1 rfl (by conv => lhs; whnf) ?_
          first | exact ⟨⟨_, _, _, rfl, (by rw [hp]; exact hl.ext hX), by omega⟩, hX⟩ | exact ⟨⟨_, _, _, rfl, (by rw [hp]; have h9 := hO.sl.mono (Nat.zero_le B); rw [show [] ++ xs.take k ++ [x] ++ xs.drop k = xs.take k ++ x :: xs.drop k from by simp] at h9; exact h9), by omega⟩, hX⟩
        · skip
          refine o_buildSlice u22 inf29 rfl (by decide) (fun base hb => fill_kn [.agg (hv x)] (by intro v hv'; simp only [List.mem_singleton] at hv'; subst hv'; simp [Value.cells, hv, hcs_len]) base hb) ?_
          intro w20 g40 hN40
          have hE20 := hN40.ext
          have hX := hX.ext hE20
          have hB3 := hB3.ext hE20
          have hSr7 := hSr7.ext hE20
          have hJ : Own kHash 29 0 0 w20 (some ⟨g40, 0, none⟩) 1 1 [x] := own_lit [x] hN40 (Nat.zero_le _) (by simp)
          refine hop_end hQ6 ⟨hSr7, ?_⟩
          refine h_one 4 _ rfl (by kernel_rfl) (hop_of_list (fun Q4 hQ4 => ?_))
          have hO : Own kHash 29 0 w20.heap.size w20 none 0 0 [] := Own.nil _ _ _ _ _
          have hBz : w.heap.size ≤ w20.heap.size := hX.size
          have hBs := hSr7.size
          have hWt := Ext.refl w20
          refine o_append (d := kHash) (xs.take k) u22 inf29 rfl kHash_pos rfl rfl hO (src_pure u22 ((hl.ext hX).take k (by omega)) (by decide)) (by rw [List.length_take]; omega) (hash_all _ _ _) (rfl) (by omega) (by omega) (by omega) (by omega) (by decide) ?_
          intro p38 c38 w21 hO hM21
          have hX := hX.mod hM21 (hBz)
          have hB3 := hB3.ext ((Ext.refl _).mod hM21 (Nat.le_refl _))
          have hSr7 := hSr7.mod hM21 (by first | exact Nat.le_refl _ | exact trivial | omega)
          have hJ := hJ.ext ((Ext.refl _).mod hM21 (Nat.le_refl _))
          have hWt := hWt.mod hM21 (by first | exact Nat.le_refl _ | exact trivial | omega)
          refine hop_end hQ4 ⟨hSr7, ?_⟩
          refine h_one 7 _ rfl (by kernel_rfl) (hop_of_list (fun Q7 hQ7 => ?_))
          have hq1 := hWt.size
          refine o_append (d := kHash) ([x]) u22 inf29 rfl kHash_pos rfl rfl hO (src_pure u22 hJ.sl (by decide)) rfl (hash_all _ _ _) (rfl) (by omega) (by omega) (by omega) (by omega) (by decide) ?_
          intro p41 c41 w22 hO hM22
          have hX := hX.mod hM22 (hBz)
          have hSr7 := hSr7.mod hM22 (by first | exact Nat.le_refl _ | exact trivial | omega)
          have hWt := hWt.mod hM22 (by first | exact Nat.le_refl _ | exact trivial | omega)
          refine hop_end hQ7 ⟨hSr7, ?_⟩
          refine h_take 8 rfl (by kernel_rfl) (by kernel_rfl) (by kernel_rfl) hSr7 (fun wS hSS => by ( exact (x_assign (by conv => lhs; whnf)))) ?_
          refine h_done (by kernel_rfl) ?_
          refine t_n ?_
          refine c_seq ?_
          refine r_plain ?_
          refine p1 (x_move (by conv => lhs; whnf)) ?_
          refine p1 (x_move (by conv => lhs; whnf)) ?_
          refine p1 (x_move (by conv => lhs; whnf)) ?_
          refine p1 (x_slice_lN u22 sz29 rfl rfl (by omega)) ?_
          have hq1 := hWt.size
          refine o_append (d := kHash) (xs.drop k) u22 inf29 rfl kHash_pos rfl rfl hO (src_pure u22 ((hl.ext hX).dropI k (by omega)) (by decide)) (by rw [List.length_drop]; omega) (hash_all _ _ _) (rfl) (by omega) (by omega) (by omega) (by omega) (by decide) ?_
          intro p46 c46 w23 hO hM23
          have hX := hX.mod hM23 (hBz)
          have hWt := hWt.mod hM23 (by first | exact Nat.le_refl _ | exact trivial | omega)
          refine p1 (x_assign (by conv => lhs; whnf)) ?_
          refine r_nil ?_
          refine t_n ?_
          refine c_ret ?_
          refine end1 rfl (by conv => lhs; whnf) ?_
          first | exact ⟨⟨_, _, _, rfl, (by rw [hp]; exact hl.ext hX), by omega⟩, hX⟩ | exact ⟨⟨_, _, _, rfl, (by rw [hp]; have h9 := hO.sl.mono (Nat.zero_le B); rw [show [] ++ xs.take k ++ [x] ++ xs.drop k = xs.take k ++ x :: xs.drop k from by simp] at h9; exact h9), by omega⟩, hX⟩
  · try simp only [decide_eq_true_eq, decide_eq_false_iff_not, Bool.not_eq_true, Bool.not_eq_false, Bool.not_eq_eq_eq_not, Bool.not_true, Bool.not_false, Int.not_lt, Int.not_le] at hb2_4
    refine sg0 11 rfl (by first | exact .inl rfl | exact .inr rfl) ?_
    refine sg0 11 rfl (by first | exact .inl rfl | exact .inr rfl) ?_
    refine sg0 11 rfl (by first | exact .inl rfl | exact .inr rfl) ?_
    refine sg0 11 rfl (by first | exact .inl rfl | exact .inr rfl) ?_
    refine sg0 11 rfl (by first | exact .inl rfl | exact .inr rfl) ?_
    refine s_nil ?_
    refine g0 11 rfl (by first | exact .inl rfl | exact .inr rfl) ?_
    refine p1 (x_pick_f rfl (by conv => lhs; whnf)) ?_
    refine r_nil ?_
    refine t_n ?_
    refine c_f rfl ?_
    have hex : k < n → hlt (xs.getD k default) x = false := by first | (intro h; exfalso; omega) | (intro h; exact Bool.eq_false_iff.2 (fun e => by simp_all))
    have hwa := wth_at xs x k (by omega) hL (fun h => hex (by omega))
    refine c_exit ?_
    refine t_e ?_
    refine t_e ?_
    refine b_hit ?_
    refine t_n ?_
    refine c_seq ?_
    refine c_seq ?_
    refine r_still mixed (by kernel_rfl) ?_
    intro w24 hE24
    have hX := hX.ext hE24
    have hB3 := hB3.ext hE24
    refine s1 (x_move (by conv => lhs; whnf)) ?_
    refine s1 (x_move (by conv => lhs; whnf)) ?_
    refine s1 (x_len_slice u22 rfl) ?_
    refine s1 (x_lss rfl rfl) ?_
    refine s1b (x_move (by conv => lhs; whnf)) (fun hb4_4 => ?_) (fun hb4_4 => ?_)
    · try simp only [decide_eq_true_eq, decide_eq_false_iff_not, Bool.not_eq_true, Bool.not_eq_false, Bool.not_eq_eq_eq_not, Bool.not_true, Bool.not_false, Int.not_lt, Int.not_le] at hb4_4
      refine sg1 25 rfl rfl (x_move (by conv => lhs; whnf)) ?_
      refine sg1 25 rfl rfl (x_move (by conv => lhs; whnf)) ?_
      refine sg1 25 rfl rfl (x_ixs u22 sz29 rfl rfl ((hl.ext hX).adr kHash_pos (by omega)) (by omega) (by omega)) ?_
      refine sg1 25 rfl rfl (x_loadN ua29 rfl (hcs_sz sz29 _) ((hl.ext hX).hashAt _ (by omega) (by omega))) ?_
      refine sg1 25 rfl rfl (x_loadB ua29 rfl hB3 (hv_sz sz29 x)) ?_
      refine sg1 25 rfl rfl (x_eql_bytes u29 u5 sz5 eg29 rfl rfl (xs.getD _ default).2 x.2) ?_
      refine s1 (x_pick_t rfl (by conv => lhs; whnf)) ?_
      refine s_nil ?_
      refine t_n ?_
      first | refine c_dec rfl (fun hc32 => ?_) (fun hc32 => ?_) | refine c_if rfl (fun hc32 => ?_) (fun hc32 => ?_)
      · try simp only [decide_eq_true_eq, decide_eq_false_iff_not, Bool.not_eq_true, Bool.not_eq_false, Bool.not_eq_eq_eq_not, Bool.not_true, Bool.not_false, Int.not_lt, Int.not_le] at hc32
        have hp : wth xs x = xs := by rw [hwa, if_pos ⟨by omega, Subtype.ext hc32⟩]
        refine c_seq ?_
        refine r_plain ?_
        refine p1 (x_move (by conv => lhs; whnf)) ?_
        refine p1 (x_assign (by conv => lhs; whnf)) ?_
        refine r_nil ?_
        refine t_n ?_
        refine c_ret ?_
        refine t_r ?_
        refine end1 rfl (by conv => lhs; whnf) ?_
        first | exact ⟨⟨_, _, _, rfl, (by rw [hp]; exact hl.ext hX), by omega⟩, hX⟩ | exact ⟨⟨_, _, _, rfl, (by rw [hp]; have h9 := hO.sl.mono (Nat.zero_le B); rw [show [] ++ xs.take k ++ [x] ++ xs.drop k = xs.take k ++ x :: xs.drop k from by simp] at h9; exact h9), by omega⟩, hX⟩
      · try simp only [decide_eq_true_eq, decide_eq_false_iff_not, Bool.not_eq_true, Bool.not_eq_false, Bool.not_eq_eq_eq_not, Bool.not_true, Bool.not_false, Int.not_lt, Int.not_le] at hc32
        have hp : wth xs x = xs.take k ++ x :: xs.drop k := by rw [hwa, if_neg (fun e => by first | exact hc32 (congrArg Subtype.val e.2) | omega)]
        refine c_skip ?_
        refine t_n ?_
        refine c_seq ?_
        refine r_plain ?_
        refine p1 (x_assign (by conv => lhs; whnf)) ?_
        refine r_nil ?_
        refine t_n ?_
        refine c_seq ?_
        refine r_held (fun w1 w2 => Ext w1 w2) mixed ?_
        intro w25 hE25
        have hX := hX.ext hE25
        have hB3 := hB3.ext hE25
        have hSr7 : (fun w1 w2 => Ext w1 w2) w25 w25 := Ext.refl w25
        refine h_take 0 rfl (by kernel_rfl) (by kernel_rfl) (by kernel_rfl) hSr7 (fun wS hSS => by (have hX := hX.ext hSS; have hB3 := hB3.ext hSS; exact (x_move (by conv => lhs; whnf)))) ?_
        refine h_take 1 rfl (by kernel_rfl) (by kernel_rfl) (by kernel_rfl) hSr7 (fun wS hSS => by (have hX := hX.ext hSS; have hB3 := hB3.ext hSS; exact (x_move (by conv => lhs; whnf)))) ?_
        refine h_take 2 rfl (by kernel_rfl) (by kernel_rfl) (by kernel_rfl) hSr7 (fun wS hSS => by (have hX := hX.ext hSS; have hB3 := hB3.ext hSS; exact (x_move (by conv => lhs; whnf)))) ?_
        refine h_take 3 rfl (by kernel_rfl) (by kernel_rfl) (by kernel_rfl) hSr7 (fun wS hSS => by (have hX := hX.ext hSS; have hB3 := hB3.ext hSS; exact (x_slice_hN u22 sz29 rfl rfl (by omega)))) ?_
        refine h_take 5 rfl (by kernel_rfl) (by kernel_rfl) (by kernel_rfl) hSr7 (fun wS hSS => by (have hX := hX.ext hSS; have hB3 := hB3.ext hSS; exact (x_loadB ua29 rfl hB3 (hv_sz sz29 x)))) ?_
        refine h_two 4 6 _ _ rfl rfl (by kernel_rfl) (hop_of_list (fun Q4 hQ4 => ?_)) (hop_of_list (fun Q6 hQ6 => ?_))
        · skip
          have hO : Own kHash 29 0 w25.heap.size w25 none 0 0 [] := Own.nil _ _ _ _ _
          have hBz : w.heap.size ≤ w25.heap.size := hX.size
          have hBs := hSr7.size
          have hWt := Ext.refl w25
          refine o_append (d := kHash) (xs.take k) u22 inf29 rfl kHash_pos rfl rfl hO (src_pure u22 ((hl.ext hX).take k (by omega)) (by decide)) (by rw [List.length_take]; omega) (hash_all _ _ _) (rfl) (by omega) (by omega) (by omega) (by omega) (by decide) ?_
          intro p38 c38 w26 hO hM26
          have hX := hX.mod hM26 (hBz)
          have hB3 := hB3.ext ((Ext.refl _).mod hM26 (Nat.le_refl _))
          have hSr7 := hSr7.mod hM26 (by first | exact Nat.le_refl _ | exact trivial | omega)
          have hWt := hWt.mod hM26 (by first | exact Nat.le_refl _ | exact trivial | omega)
          refine hop_end hQ4 ⟨hSr7, ?_⟩
          refine h_one 6 _ rfl (by kernel_rfl) (hop_of_list (fun Q6 hQ6 => ?_))
          refine o_buildSlice u22 inf29 rfl (by decide) (fun base hb => fill_kn [.agg (hv x)] (by intro v hv'; simp only [List.mem_singleton] at hv'; subst hv'; simp [Value.cells, hv, hcs_len]) base hb) ?_
          intro w27 g40 hN40
          have hE27 := hN40.ext
          have hX := hX.ext hE27
          have hB3 := hB3.ext hE27
          have hSr7 := hSr7.ext hE27
          have hWt := hWt.ext hE27
          have hO := hO.ext hE27
          have hJ : Own kHash 29 0 0 w27 (some ⟨g40, 0, none⟩) 1 1 [x] := own_lit [x] hN40 (Nat.zero_le _) (by simp)
          refine hop_end hQ6 ⟨hSr7, ?_⟩
          refine h_one 7 _ rfl (by kernel_rfl) (hop_of_list (fun Q7 hQ7 => ?_))
          have hq1 := hWt.size
          refine o_append (d := kHash) ([x]) u22 inf29 rfl kHash_pos rfl rfl hO (src_pure u22 hJ.sl (by decide)) rfl (hash_all _ _ _) (rfl) (by omega) (by omega) (by omega) (by omega) (by decide) ?_
          intro p41 c41 w28 hO hM28
          have hX := hX.mod hM28 (hBz)
          have hSr7 := hSr7.mod hM28 (by first | exact Nat.le_refl _ | exact trivial | omega)
          have hWt := hWt.mod hM28 (by first | exact Nat.le_refl _ | exact trivial | omega)
          refine hop_end hQ7 ⟨hSr7, ?_⟩
          refine h_take 8 rfl (by kernel_rfl) (by kernel_rfl) (by kernel_rfl) hSr7 (fun wS hSS => by ( exact (x_assign (by conv => lhs; whnf)))) ?_
          refine h_done (by kernel_rfl) ?_
          refine t_n ?_
          refine c_seq ?_
          refine r_plain ?_
          refine p1 (x_move (by conv => lhs; whnf)) ?_
          refine p1 (x_move (by conv => lhs; whnf)) ?_
          refine p1 (x_move (by conv => lhs; whnf)) ?_
          refine p1 (x_slice_lN u22 sz29 rfl rfl (by omega)) ?_
          have hq1 := hWt.size
          refine o_append (d := kHash) (xs.drop k) u22 inf29 rfl kHash_pos rfl rfl hO (src_pure u22 ((hl.ext hX).dropI k (by omega)) (by decide)) (by rw [List.length_drop]; omega) (hash_all _ _ _) (rfl) (by omega) (by omega) (by omega) (by omega) (by decide) ?_
          intro p46 c46 w29 hO hM29
          have hX := hX.mod hM29 (hBz)
          have hWt := hWt.mod hM29 (by first | exact Nat.le_refl _ | exact trivial | omega)
          refine p1 (x_assign (by conv => lhs; whnf)) ?_
          refine r_nil ?_
          refine t_n ?_
          refine c_ret ?_
          refine end1 rfl (by conv => lhs; whnf) ?_
          first | exact ⟨⟨_, _, _, rfl, (by rw [hp]; exact hl.ext hX), by omega⟩, hX⟩ | exact ⟨⟨_, _, _, rfl, (by rw [hp]; have h9 := hO.sl.mono (Nat.zero_le B); rw [show [] ++ xs.take k ++ [x] ++ xs.drop k = xs.take k ++ x :: xs.drop k from by simp] at h9; exact h9), by omega⟩, hX⟩
        · skip
          refine o_buildSlice u22 inf29 rfl (by decide) (fun base hb => fill_kn [.agg (hv x)] (by intro v hv'; simp only [List.mem_singleton] at hv'; subst hv'; simp [Value.cells, hv, hcs_len]) base hb) ?_
          intro w30 g40 hN40
          have hE30 := hN40.ext
          have hX := hX.ext hE30
          have hB3 := hB3.ext hE30
          have hSr7 := hSr7.ext hE30
          have hJ : Own kHash 29 0 0 w30 (some ⟨g40, 0, none⟩) 1 1 [x] := own_lit [x] hN40 (Nat.zero_le _) (by simp)
          refine hop_end hQ6 ⟨hSr7, ?_⟩
          refine h_one 4 _ rfl (by kernel_rfl) (hop_of_list (fun Q4 hQ4 => ?_))
          have hO : Own kHash 29 0 w30.heap.size w30 none 0 0 [] := Own.nil _ _ _ _ _
          have hBz : w.heap.size ≤ w30.heap.size := hX.size
          have hBs := hSr7.size
          have hWt := Ext.refl w30
          refine o_append (d := kHash) (xs.take k) u22 inf29 rfl kHash_pos rfl rfl hO (src_pure u22 ((hl.ext hX).take k (by omega)) (by decide)) (by rw [List.length_take]; omega) (hash_all _ _ _) (rfl) (by omega) (by omega) (by omega) (by omega) (by decide) ?_
          intro p38 c38 w31 hO hM31
          have hX := hX.mod hM31 (hBz)
          have hB3 := hB3.ext ((Ext.refl _).mod hM31 (Nat.le_refl _))
          have hSr7 := hSr7.mod hM31 (by first | exact Nat.le_refl _ | exact trivial | omega)
          have hJ := hJ.ext ((Ext.refl _).mod hM31 (Nat.le_refl _))
          have hWt := hWt.mod hM31 (by first | exact Nat.le_refl _ | exact trivial | omega)
          refine hop_end hQ4 ⟨hSr7, ?_⟩
          refine h_one 7 _ rfl (by kernel_rfl) (hop_of_list (fun Q7 hQ7 => ?_))
          have hq1 := hWt.size
          refine o_append (d := kHash) ([x]) u22 inf29 rfl kHash_pos rfl rfl hO (src_pure u22 hJ.sl (by decide)) rfl (hash_all _ _ _) (rfl) (by omega) (by omega) (by omega) (by omega) (by decide) ?_
          intro p41 c41 w32 hO hM32
          have hX := hX.mod hM32 (hBz)
          have hSr7 := hSr7.mod hM32 (by first | exact Nat.le_refl _ | exact trivial | omega)
          have hWt := hWt.mod hM32 (by first | exact Nat.le_refl _ | exact trivial | omega)
          refine hop_end hQ7 ⟨hSr7, ?_⟩
          refine h_take 8 rfl (by kernel_rfl) (by kernel_rfl) (by kernel_rfl) hSr7 (fun wS hSS => by ( exact (x_assign (by conv => lhs; whnf)))) ?_
          refine h_done (by kernel_rfl) ?_
          refine t_n ?_
          refine c_seq ?_
          refine r_plain ?_
          refine p1 (x_move (by conv => lhs; whnf)) ?_
          refine p1 (x_move (by conv => lhs; whnf)) ?_
          refine p1 (x_move (by conv => lhs; whnf)) ?_
          refine p1 (x_slice_lN u22 sz29 rfl rfl (by omega)) ?_
          have hq1 := hWt.size
          refine o_append (d := kHash) (xs.drop k) u22 inf29 rfl kHash_pos rfl rfl hO (src_pure u22 ((hl.ext hX).dropI k (by omega)) (by decide)) (by rw [List.length_drop]; omega) (hash_all _ _ _) (rfl) (by omega) (by omega) (by omega) (by omega) (by decide) ?_
          intro p46 c46 w33 hO hM33
          have hX := hX.mod hM33 (hBz)
          have hWt := hWt.mod hM33 (by first | exact Nat.le_refl _ | exact trivial | omega)
          refine p1 (x_assign (by conv => lhs; whnf)) ?_
          refine r_nil ?_
          refine t_n ?_
          refine c_ret ?_
          refine end1 rfl (by conv => lhs; whnf) ?_
          first | exact ⟨⟨_, _, _, rfl, (by rw [hp]; exact hl.ext hX), by omega⟩, hX⟩ | exact ⟨⟨_, _, _, rfl, (by rw [hp]; have h9 := hO.sl.mono (Nat.zero_le B); rw [show [] ++ xs.take k ++ [x] ++ xs.drop k = xs.take k ++ x :: xs.drop k from by simp] at h9; exact h9), by omega⟩, hX⟩
    · try simp only [decide_eq_true_eq, decide_eq_false_iff_not, Bool.not_eq_true, Bool.not_eq_false, Bool.not_eq_eq_eq_not, Bool.not_true, Bool.not_false, Int.not_lt, Int.not_le] at hb4_4
      refine sg0 25 rfl (by first | exact .inl rfl | exact .inr rfl) ?_
      refine sg0 25 rfl (by first | exact .inl rfl | exact .inr rfl) ?_
      refine sg0 25 rfl (by first | exact .inl rfl | exact .inr rfl) ?_
      refine sg0 25 rfl (by first | exact .inl rfl | exact .inr rfl) ?_
      refine sg0 25 rfl (by first | exact .inl rfl | exact .inr rfl) ?_
      refine sg0 25 rfl (by first | exact .inl rfl | exact .inr rfl) ?_
      refine s1 (x_pick_f rfl (by conv => lhs; whnf)) ?_
      refine s_nil ?_
      refine t_n ?_
      refine c_f rfl ?_
      have hp : wth xs x = xs.take k ++ x :: xs.drop k := by rw [hwa, if_neg (fun e => by first | exact hc32 (congrArg Subtype.val e.2) | omega)]
      refine c_skip ?_
      refine t_n ?_
      refine c_seq ?_
      refine r_plain ?_
      refine p1 (x_assign (by conv => lhs; whnf)) ?_
      refine r_nil ?_
      refine t_n ?_
      refine c_seq ?_
      refine r_held (fun w1 w2 => Ext w1 w2) mixed ?_
      intro w34 hE34
      have hX := hX.ext hE34
      have hB3 := hB3.ext hE34
      have hSr7 : (fun w1 w2 => Ext w1 w2) w34 w34 := Ext.refl w34
      refine h_take 0 rfl (by kernel_rfl) (by kernel_rfl) (by kernel_rfl) hSr7 (fun wS hSS => by (have hX := hX.ext hSS; have hB3 := hB3.ext hSS; exact (x_move (by conv => lhs; whnf)))) ?_
      refine h_take 1 rfl (by kernel_rfl) (by kernel_rfl) (by kernel_rfl) hSr7 (fun wS hSS => by (have hX := hX.ext hSS; have hB3 := hB3.ext hSS; exact (x_move (by conv => lhs; whnf)))) ?_
      refine h_take 2 rfl (by kernel_rfl) (by kernel_rfl) (by kernel_rfl) hSr7 (fun wS hSS => by (have hX := hX.ext hSS; have hB3 := hB3.ext hSS; exact (x_move (by conv => lhs; whnf)))) ?_
      refine h_take 3 rfl (by kernel_rfl) (by kernel_rfl) (by kernel_rfl) hSr7 (fun wS hSS => by (have hX := hX.ext hSS; have hB3 := hB3.ext hSS; exact (x_slice_hN u22 sz29 rfl rfl (by omega)))) ?_
      refine h_take 5 rfl (by kernel_rfl) (by kernel_rfl) (by kernel_rfl) hSr7 (fun wS hSS => by (have hX := hX.ext hSS; have hB3 := hB3.ext hSS; exact (x_loadB ua29 rfl hB3 (hv_sz sz29 x)))) ?_
      refine h_two 4 6 _ _ rfl rfl (by kernel_rfl) (hop_of_list (fun Q4 hQ4 => ?_)) (hop_of_list (fun Q6 hQ6 => ?_))
      · skip
        have hO : Own kHash 29 0 w34.heap.size w34 none 0 0 [] := Own.nil _ _ _ _ _
        have hBz : w.heap.size ≤ w34.heap.size := hX.size
        have hBs := hSr7.size
        have hWt := Ext.refl w34
        refine o_append (d := kHash) (xs.take k) u22 inf29 rfl kHash_pos rfl rfl hO (src_pure u22 ((hl.ext hX).take k (by omega)) (by decide)) (by rw [List.length_take]; omega) (hash_all _ _ _) (rfl) (by omega) (by omega) (by omega) (by omega) (by decide) ?_
        intro p38 c38 w35 hO hM35
        have hX := hX.mod hM35 (hBz)
        have hB3 := hB3.ext ((Ext.refl _).mod hM35 (Nat.le_refl _))
        have hSr7 := hSr7.mod hM35 (by first | exact Nat.le_refl _ | exact trivial | omega)
        have hWt := hWt.mod hM35 (by first | exact Nat.le_refl _ | exact trivial | omega)
        refine hop_end hQ4 ⟨hSr7, ?_⟩
        refine h_one 6 _ rfl (by kernel_rfl) (hop_of_list (fun Q6 hQ6 => ?_))
        refine o_buildSlice u22 inf29 rfl (by decide) (fun base hb => fill_kn [.agg (hv x)] (by intro v hv'; simp only [List.mem_singleton] at hv'; subst hv'; simp [Value.cells, hv, hcs_len]) base hb) ?_
        intro w36 g40 hN40
        have hE36 := hN40.ext
        have hX := hX.ext hE36
        have hB3 := hB3.ext hE36
        have hSr7 := hSr7.ext hE36
        have hWt := hWt.ext hE36
        have hO := hO.ext hE36
        have hJ : Own kHash 29 0 0 w36 (some ⟨g40, 0, none⟩) 1 1 [x] := own_lit [x] hN40 (Nat.zero_le _) (by simp)
        refine hop_end hQ6 ⟨hSr7, ?_⟩
        refine h_one 7 _ rfl (by kernel_rfl) (hop_of_list (fun Q7 hQ7 => ?_))
        have hq1 := hWt.size
        refine o_append (d := kHash) ([x]) u22 inf29 rfl kHash_pos rfl rfl hO (src_pure u22 hJ.sl (by decide)) rfl (hash_all _ _ _) (rfl) (by omega) (by omega) (by omega) (by omega) (by decide) ?_
        intro p41 c41 w37 hO hM37
        have hX := hX.mod hM37 (hBz)
        have hSr7 := hSr7.mod hM37 (by first | exact Nat.le_refl _ | exact trivial | omega)
        have hWt := hWt.mod hM37 (by first | exact Nat.le_refl _ | exact trivial | omega)
        refine hop_end hQ7 ⟨hSr7, ?_⟩
        refine h_take 8 rfl (by kernel_rfl) (by kernel_rfl) (by kernel_rfl) hSr7 (fun wS hSS => by ( exact (x_assign (by conv => lhs; whnf)))) ?_
        refine h_done (by kernel_rfl) ?_
        refine t_n ?_
        refine c_seq ?_
        refine r_plain ?_
        refine p1 (x_move (by conv => lhs; whnf)) ?_
        refine p1 (x_move (by conv => lhs; whnf)) ?_
        refine p1 (x_move (by conv => lhs; whnf)) ?_
        refine p1 (x_slice_lN u22 sz29 rfl rfl (by omega)) ?_
        have hq1 := hWt.size
        refine o_append (d := kHash) (xs.drop k) u22 inf29 rfl kHash_pos rfl rfl hO (src_pure u22 ((hl.ext hX).dropI k (by omega)) (by decide)) (by rw [List.length_drop]; omega) (hash_all _ _ _) (rfl) (by omega) (by omega) (by omega) (by omega) (by decide) ?_
        intro p46 c46 w38 hO hM38
        have hX := hX.mod hM38 (hBz)
        have hWt := hWt.mod hM38 (by first | exact Nat.le_refl _ | exact trivial | omega)
        refine p1 (x_assign (by conv => lhs; whnf)) ?_
        refine r_nil ?_
        refine t_n ?_
        refine c_ret ?_
        refine end1 rfl (by conv => lhs; whnf) ?_
        first | exact ⟨⟨_, _, _, rfl, (by rw [hp]; exact hl.ext hX), by omega⟩, hX⟩ | exact ⟨⟨_, _, _, rfl, (by rw [hp]; have h9 := hO.sl.mono (Nat.zero_le B); rw [show [] ++ xs.take k ++ [x] ++ xs.drop k = xs.take k ++ x :: xs.drop k from by simp] at h9; exact h9), by omega⟩, hX⟩
      · skip
        refine o_buildSlice u22 inf29 rfl (by decide) (fun base hb => fill_kn [.agg (hv x)] (by intro v hv'; simp only [List.mem_singleton] at hv'; subst hv'; simp [Value.cells, hv, hcs_len]) base hb) ?_
        intro w39 g40 hN40
        have hE39 := hN40.ext
        have hX := hX.ext hE39
        have hB3 := hB3.ext hE39
        have hSr7 := hSr7.ext hE39
        have hJ : Own kHash 29 0 0 w39 (some ⟨g40, 0, none⟩) 1 1 [x] := own_lit [x] hN40 (Nat.zero_le _) (by simp)
        refine hop_end hQ6 ⟨hSr7, ?_⟩
        refine h_one 4 _ rfl (by kernel_rfl) (hop_of_list (fun Q4 hQ4 => ?_))
        have hO : Own kHash 29 0 w39.heap.size w39 none 0 0 [] := Own.nil _ _ _ _ _
        have hBz : w.heap.size ≤ w39.heap.size := hX.size
        have hBs := hSr7.size
        have hWt := Ext.refl w39
        refine o_append (d := kHash) (xs.take k) u22 inf29 rfl kHash_pos rfl rfl hO (src_pure u22 ((hl.ext hX).take k (by omega)) (by decide)) (by rw [List.length_take]; omega) (hash_all _ _ _) (rfl) (by omega) (by omega) (by omega) (by omega) (by decide) ?_
        intro p38 c38 w40 hO hM40
        have hX := hX.mod hM40 (hBz)
        have hB3 := hB3.ext ((Ext.refl _).mod hM40 (Nat.le_refl _))
        have hSr7 := hSr7.mod hM40 (by first | exact Nat.le_refl _ | exact trivial | omega)
        have hJ := hJ.ext ((Ext.refl _).mod hM40 (Nat.le_refl _))
        have hWt := hWt.mod hM40 (by first | exact Nat.le_refl _ | exact trivial | omega)
        refine hop_end hQ4 ⟨hSr7, ?_⟩
        refine h_one 7 _ rfl (by kernel_rfl) (hop_of_list (fun Q7 hQ7 => ?_))
        have hq1 := hWt.size
        refine o_append (d := kHash) ([x]) u22 inf29 rfl kHash_pos rfl rfl hO (src_pure u22 hJ.sl (by decide)) rfl (hash_all _ _ _) (rfl) (by omega) (by omega) (by omega) (by omega) (by decide) ?_
        intro p41 c41 w41 hO hM41
        have hX := hX.mod hM41 (hBz)
        have hSr7 := hSr7.mod hM41 (by first | exact Nat.le_refl _ | exact trivial | omega)
        have hWt := hWt.mod hM41 (by first | exact Nat.le_refl _ | exact trivial | omega)
        refine hop_end hQ7 ⟨hSr7, ?_⟩
        refine h_take 8 rfl (by kernel_rfl) (by kernel_rfl) (by kernel_rfl) hSr7 (fun wS hSS => by ( exact (x_assign (by conv => lhs; whnf)))) ?_
        refine h_done (by kernel_rfl) ?_
        refine t_n ?_
        refine c_seq ?_
        refine r_plain ?_
        refine p1 (x_move (by conv => lhs; whnf)) ?_
        refine p1 (x_move (by conv => lhs; whnf)) ?_
        refine p1 (x_move (by conv => lhs; whnf)) ?_
        refine p1 (x_slice_lN u22 sz29 rfl rfl (by omega)) ?_
        have hq1 := hWt.size
        refine o_append (d := kHash) (xs.drop k) u22 inf29 rfl kHash_pos rfl rfl hO (src_pure u22 ((hl.ext hX).dropI k (by omega)) (by decide)) (by rw [List.length_drop]; omega) (hash_all _ _ _) (rfl) (by omega) (by omega) (by omega) (by omega) (by decide) ?_
        intro p46 c46 w42 hO hM42
        have hX := hX.mod hM42 (hBz)
        have hWt := hWt.mod hM42 (by first | exact Nat.le_refl _ | exact trivial | omega)
        refine p1 (x_assign (by conv => lhs; whnf)) ?_
        refine r_nil ?_
        refine t_n ?_
        refine c_ret ?_
        refine end1 rfl (by conv => lhs; whnf) ?_
        first | exact ⟨⟨_, _, _, rfl, (by rw [hp]; exact hl.ext hX), by omega⟩, hX⟩ | exact ⟨⟨_, _, _, rfl, (by rw [hp]; have h9 := hO.sl.mono (Nat.zero_le B); rw [show [] ++ xs.take k ++ [x] ++ xs.drop k = xs.take k ++ x :: xs.drop k from by simp] at h9; exact h9), by omega⟩, hX⟩
theorem ref06_Sort (xs : List Hash) (B : Nat) (p : Option Addr) (n c : Nat) (w : World) (hl : Sl kHash 29 B w p n c xs) (hs : n ≤ 4194304000) :
    Ret Try.prog 24 [.slice p n c] w (fun v w' => (∃ q m c', v = .slice q m c' ∧ Sl kHash 29 B w' q m c' (srt xs) ∧ m ≤ n) ∧ Ext w w') := by
  have hX := Ext.refl w
  refine enter 18 _ Try.func24 rfl rfl (Nat.le_of_ble_eq_true rfl) rfl ?_
  refine c_seq ?_
  refine r_plain ?_
  refine p1 (x_assign (by conv => lhs; whnf)) ?_
  refine r_nil ?_
  refine t_n ?_
  refine c_seq ?_
  refine r_plain ?_
  refine p1 (x_assign (by conv => lhs; whnf)) ?_
  refine r_nil ?_
  refine t_n ?_
  refine c_seq ?_
  refine c_seq ?_
  refine r_plain ?_
  refine p1 (x_assign (by conv => lhs; whnf)) ?_
  refine r_nil ?_
  refine t_n ?_
  refine c_block ?_
  have hWL0 := Ext.refl w
  have hlen := hl.len
  have hfit := hl.fit
  have hcap := hl.cap
  refine c_loop (ι := Nat × Option Addr × Nat × Nat) [3, 4, 5, 6, 7, 8, 9, 10, 11, 12, 13, 14, 15, 16] (fun (k, q, m, c1) => [(3, .slice q m c1), (4, .int .i64 (k : Int))]) (fun (k, q, m, c1) w' => Ext w w' ∧ (Sl kHash 29 B w' q m c1 (srtTo [] (xs.take k)) ∧ m ≤ k ∧ k ≤ n)) (fun (k, q, m, c1) => n - k) ((0, none, 0, 0)) ⟨rfl, rfl, trivial⟩ ⟨Ext.refl _, ⟨Sl.nil _ _ _ _ _ _ (by omega), by omega, by omega⟩⟩ ?_
  rintro ⟨k, q, m, c1⟩ GL0 w1 ⟨hE1, hR, hm, hk⟩
  have hX := hX.ext hE1
  have hWL0 := hE1
  refine c_seq ?_
  refine c_seq ?_
  refine r_plain ?_
  refine p1 (x_move (by conv => lhs; whnf)) ?_
  refine p1 (x_move (by conv => lhs; whnf)) ?_
  refine p1 (x_len_slice u22 rfl) ?_
  refine p1 (x_lss rfl rfl) ?_
  refine r_nil ?_
  refine t_n ?_
  first | refine c_dec rfl (fun hc8 => ?_) (fun hc8 => ?_) | refine c_if rfl (fun hc8 => ?_) (fun hc8 => ?_)
  · try simp only [decide_eq_true_eq, decide_eq_false_iff_not, Bool.not_eq_true, Bool.not_eq_false, Bool.not_eq_eq_eq_not, Bool.not_true, Bool.not_false, Int.not_lt, Int.not_le] at hc8
    refine c_skip ?_
    refine t_n ?_
    refine c_seq ?_
    refine c_block ?_
    refine r_plain ?_
    refine p1 (x_move (by conv => lhs; whnf)) ?_
    refine p1 (x_move (by conv => lhs; whnf)) ?_
    refine p1 (x_move (by conv => lhs; whnf)) ?_
    refine p1 (x_ixs u22 sz29 rfl rfl ((hl.ext hX).adr kHash_pos (by omega)) (by omega) (by omega)) ?_
    refine p1 (x_loadN ua29 rfl (hcs_sz sz29 _) ((hl.ext hX).hashAt _ (by omega) (by omega))) ?_
    refine o_call Try.func36 fn36 fb36 (ref06_With (srtTo [] (xs.take k)) (xs.getD _ default) B _ _ _ _ hR (by omega)) rfl ?_
    rintro v2 w2 ⟨⟨q2, m2, c2, rfl, hR2, hm2⟩, hE2⟩
    have hX := hX.ext hE2
    have hWL0 := hWL0.ext hE2
    have hR := hR.ext hE2
    refine p1 (x_assign (by conv => lhs; whnf)) ?_
    refine r_nil ?_
    refine b_n ?_
    refine t_n ?_
    refine r_plain ?_
    refine p1 (x_move (by conv => lhs; whnf)) ?_
    refine p1 (x_add rfl rfl (fits_i64 (by omega) (by omega))) ?_
    refine p1 (x_assign (by conv => lhs; whnf)) ?_
    refine r_nil ?_
    refine t_n (At.mk ((k + 1, q2, m2, c2)) (by repeat (first | exact Agr.refl _ _ | exact Agr.hav _ _ _ | refine Agr.upd rfl ?_ | refine Agr.updR rfl ?_ | refine Agr.updL ?_ _ rfl | refine Agr.hav' rfl ?_)) ⟨rfl, rfl, trivial⟩ ?_)
    exact ⟨⟨hWL0, ⟨by rw [srtTo_take (by omega)]; exact hR2, by omega, by omega⟩⟩, by first | (dsimp only; omega) | ((show _ < _); omega)⟩
  · try simp only [decide_eq_true_eq, decide_eq_false_iff_not, Bool.not_eq_true, Bool.not_eq_false, Bool.not_eq_eq_eq_not, Bool.not_true, Bool.not_false, Int.not_lt, Int.not_le] at hc8
    have hkn : k = n := by omega
    rw [hkn, List.take_of_length_le (by omega)] at hR
    refine c_exit ?_
    refine t_e ?_
    refine t_e ?_
    refine b_hit ?_
    refine t_n ?_
    refine c_seq ?_
    refine r_plain ?_
    refine p1 (x_move (by conv => lhs; whnf)) ?_
    refine p1 (x_assign (by conv => lhs; whnf)) ?_
    refine r_nil ?_
    refine t_n ?_
    refine c_ret ?_
    refine end1 rfl (by conv => lhs; whnf) ?_
    exact ⟨⟨_, _, _, rfl, hR, by omega⟩, hX⟩
end Go.Proofs.Eng
end
section
set_option linter.unusedVariables false
set_option linter.unusedSimpArgs false
set_option maxRecDepth 100000
set_option maxHeartbeats 4000000
namespace Go.Proofs.Eng
open Go.RowKit
open Extern.Stop (cell)
theorem fb19 : Try.f19.body.isNone = false := by kernel_rfl
theorem fb22 : Try.f22.body.isNone = false := by kernel_rfl
theorem fb23 : Try.f23.body.isNone = false := by kernel_rfl
theorem fb35 : Try.f35.body.isNone = false := by kernel_rfl
theorem fn19 : (Try.f19.name == "runtime.NumGoroutine") = false := by kernel_rfl
theorem fn22 : (Try.f22.name == "runtime.NumGoroutine") = false := by kernel_rfl
theorem fn23 : (Try.f23.name == "runtime.NumGoroutine") = false := by kernel_rfl
theorem fn35 : (Try.f35.name == "runtime.NumGoroutine") = false := by kernel_rfl
theorem inf26 : (Try.prog.info? 26).map (fun i => (i.zero, i.size, i.bytes)) = some (some (.slice none 0 0), 1, 24) := by kernel_rfl
theorem u58 : Try.prog.underlying 58 = some (.slice 26) := by kernel_rfl
theorem zr29 : (Try.prog.info? 29).map (·.zero) = some (some (.agg #[.int .u8 0, .int .u8 0, .int .u8 0, .int .u8 0, .int .u8 0, .int .u8 0, .int .u8 0, .int .u8 0, .int .u8 0, .int .u8 0, .int .u8 0, .int .u8 0, .int .u8 0, .int .u8 0, .int .u8 0, .int .u8 0, .int .u8 0, .int .u8 0, .int .u8 0, .int .u8 0, .int .u8 0, .int .u8 0, .int .u8 0, .int .u8 0, .int .u8 0, .int .u8 0, .int .u8 0, .int .u8 0, .int .u8 0, .int .u8 0, .int .u8 0, .int .u8 0])) := by kernel_rfl
end Go.Proofs.Eng
end
section
set_option linter.unusedVariables false
namespace Go.Proofs.Eng
def hZero : Hash := ⟨List.replicate 32 0, by simp⟩
end Go.Proofs.Eng
end
section
set_option linter.unusedVariables false
set_option linter.unusedSimpArgs false
namespace Go.Proofs.Eng
theorem getUF_lebU (t : List UInt8) : ∀ (m i acc : Nat), acc < 2 ^ (7 * i) → acc + m * 2 ^ (7 * i) < 18446744073709551616 → i ≤ 9 → (i = 0 ∨ m ≠ 0) → getUF i acc (lebU m ++ t) = (acc + m * 2 ^ (7 * i), i + (lebU m).length, 0) := by
  intro m
  induction m using Nat.strongRecOn with
  | _ m ih =>
    intro i acc ha hs hi h0
    by_cases hm : m < 128
    · rw [lebU_lt hm]
      have e : (UInt8.ofNat m).toNat = m := by simp; omega
      show getUF i acc (UInt8.ofNat m :: ([] ++ t)) = _
      unfold getUF
      simp only [e]
      have hc : ¬ ((i = 9 ∧ 1 < m) ∨ (0 < i ∧ m = 0)) := by
        rintro (⟨h1, h2⟩ | ⟨h1, h2⟩)
        · subst h1
          have : 2 * 2 ^ (7 * 9) ≤ m * 2 ^ (7 * 9) := Nat.mul_le_mul_right _ (by omega)
          omega
        · omega
      rw [if_neg hc, if_pos hm, Nat.mod_eq_of_lt hm]; rfl
    · have hp : 2 ^ (7 * (i + 1)) = 128 * 2 ^ (7 * i) := pow_step i
      have hpos : 0 < 2 ^ (7 * i) := Nat.two_pow_pos _
      have hle : 128 * 2 ^ (7 * i) ≤ m * 2 ^ (7 * i) := Nat.mul_le_mul_right _ (by omega)
      have hi8 : i ≤ 8 := by
        rcases Nat.lt_or_ge i 9 with h | h
        · omega
        · have : i = 9 := by omega
          subst this; omega
      rw [lebU_ge hm]
      have e : (UInt8.ofNat (m % 128 + 128)).toNat = m % 128 + 128 := by simp; omega
      show getUF i acc (UInt8.ofNat (m % 128 + 128) :: (lebU (m / 128) ++ t)) = _
      unfold getUF
      simp only [e]
      rw [if_neg (by omega), if_neg (by omega)]
      have hd : m = m / 128 * 128 + m % 128 := by omega
      have hmm : m * 2 ^ (7 * i) = m / 128 * (128 * 2 ^ (7 * i)) + m % 128 * 2 ^ (7 * i) := by
        conv => lhs; rw [hd]
        rw [Nat.add_mul, Nat.mul_assoc]
      have e2 : (m % 128 + 128) % 128 = m % 128 := by omega
      rw [e2]
      have hr : m % 128 * 2 ^ (7 * i) ≤ 127 * 2 ^ (7 * i) := Nat.mul_le_mul_right _ (by omega)
      rw [ih (m / 128) (by omega) (i + 1) _ (by rw [hp]; omega) (by rw [hp]; omega) (by omega) (.inr (by omega)), hp]
      simp only [List.length_cons, Prod.mk.injEq, and_true]
      omega
theorem getU_lebU {n : Nat} (t : List UInt8) (h : n < 18446744073709551616) : getU (lebU n ++ t) = (n, (lebU n).length, 0) := by
  unfold getU
  rw [getUF_lebU t n 0 0 (by simp) (by simp; exact h) (by omega) (.inl rfl)]
  simp
end Go.Proofs.Eng
end
section
set_option linter.unusedVariables false
set_option linter.unusedSimpArgs false
namespace Go.Proofs.Eng
theorem pNum_leb {n most : Nat} (t : List UInt8) (h : n ≤ most) (hn : n < 18446744073709551616) : pNum most (lebU n ++ t) = some (n, t) := by
  unfold pNum
  rw [getU_lebU t hn]
  simp [h]
def mkB (l : List Hash) (seed : Nat) (bits : Int) : List UInt8 :=
  lebU (srt l).length ++ lebU seed ++ lebU (kB bits) ++ body (srt l) seed (szB (srt l).length (kB bits))
theorem partsB_mk (l : List Hash) (seed : Nat) (bits : Int) (hs : seed ≤ 4294967295) (hl : (srt l).length ≤ 65536) :
    partsB (mkB l seed bits) = some ((srt l).length, seed, kB bits, body (srt l) seed (szB (srt l).length (kB bits))) := by
  have hk := kB_le bits
  unfold partsB mkB
  simp only [List.append_assoc]
  rw [pNum_leb _ hl (by omega), Option.bind_some, pNum_leb _ hs (by omega), Option.bind_some, pNum_leb _ hk.2 (by omega), Option.bind_some, if_pos ⟨by show kB bits ≠ 0; omega, body_len _ _ _⟩]
theorem mk_never (l : List Hash) (seed : Nat) (bits : Int) (hs : seed ≤ 4294967295) (hl : (srt l).length ≤ 65536) : checkB (mkB l seed bits) = 0 ∧ manyB (mkB l seed bits) = (srt l).length ∧ ∀ h ∈ l, hasB (mkB l seed bits) h = true := by
  have hp := partsB_mk l seed bits hs hl
  unfold checkB manyB hasB shpB
  rw [hp]
  refine ⟨rfl, rfl, fun h hh => ?_⟩
  have hm : h ∈ srt l := mem_srt.2 hh
  have h0 : (srt l).length ≠ 0 := fun e => by rw [List.eq_nil_of_length_eq_zero e] at hm; simp at hm
  simp only [Option.getD_some, body_len]
  rw [decide_eq_true h0, Bool.true_and]
  exact body_bit (szB_pos h0 (kB_le bits).1) hm
theorem mk_order (l : List Hash) (seed : Nat) (bits : Int) : mkB (l.reverse ++ l) seed bits = mkB l seed bits := by
  have : srt (l.reverse ++ l) = srt l := srt_eq (rise_srt _) fun z => by rw [mem_srt]; simp
  unfold mkB; rw [this]
/-! noughts, and ones -/
def headB (n k : Nat) : List UInt8 := lebU n ++ lebU 0 ++ lebU k
theorem partsB_full {n k : Nat} (b : List UInt8) (hn : n ≤ 255) (hk : 1 ≤ k) (hk2 : k ≤ 64) : partsB (headB n k ++ b) = if b.length = szB n k then some (n, 0, k, b) else none := by
  unfold partsB headB
  simp only [List.append_assoc]
  rw [pNum_leb _ (by omega) (by omega), Option.bind_some, pNum_leb _ (by omega) (by omega), Option.bind_some, pNum_leb _ hk2 (by omega), Option.bind_some]
  by_cases h : b.length = szB n k
  · rw [if_pos h, if_pos ⟨by show k ≠ 0; omega, h⟩]
  · rw [if_neg h, if_neg (fun e => h e.2)]
theorem bit_rep {n : Nat} {c : UInt8} {p : Nat} (hp : p / 8 < n) : bitAt (List.replicate n c) p = c.toNat.testBit (p % 8) := by
  unfold bitAt; rw [List.getD_eq_getElem?_getD, List.getElem?_replicate, if_pos hp]; rfl
theorem full_none {n k : Nat} (h : Hash) (hn : n ≤ 255) (hk : 1 ≤ k) (hk2 : k ≤ 64) : hasB (headB n k ++ List.replicate (szB n k) 0) h = false := by
  unfold hasB shpB
  rw [partsB_full _ hn hk hk2, if_pos (by simp)]
  simp only [Option.getD_some, List.length_replicate]
  by_cases h0 : n = 0
  · simp [h0]
  · have hp := szB_pos h0 hk
    have hm := at0_lt (h := h) (seed := 0) (i := 0) (m := 8 * szB n k) (by omega)
    rw [Bool.and_eq_false_iff]; right
    rw [List.all_eq_false]
    refine ⟨at0 h 0 (8 * szB n k) 0, by simp [places, plcTo, List.range_succ, stn], ?_⟩
    rw [bit_rep (by omega)]; simp
theorem full_all {n k : Nat} (h : Hash) (hn : n ≤ 255) (hk : 1 ≤ k) (hk2 : k ≤ 64) : hasB (headB n k ++ List.replicate (szB n k) 255) h = decide (0 < n) := by
  unfold hasB shpB
  rw [partsB_full _ hn hk hk2, if_pos (by simp)]
  simp only [Option.getD_some, List.length_replicate]
  by_cases h0 : n = 0
  · simp [h0]
  · have hp := szB_pos h0 hk
    rw [decide_eq_true (by omega : n ≠ 0), decide_eq_true (by omega : 0 < n), Bool.true_and]
    refine List.all_eq_true.2 fun q hq => ?_
    have := places_lt (by omega) hq
    rw [bit_rep (by omega)]
    have h8 : q % 8 < 8 := Nat.mod_lt _ (by omega)
    have : ∀ j, j < 8 → (255 : UInt8).toNat.testBit j = true := by decide
    exact this _ h8
theorem headB_lt {n k : Nat} (hn : n < 128) (hk : k < 128) : headB n k = [UInt8.ofNat n, 0, UInt8.ofNat k] := by unfold headB; rw [lebU_lt hn, lebU_lt (by omega : 0 < 128), lebU_lt hk]; rfl
theorem headB_ge {n k : Nat} (hn : 128 ≤ n) (hn2 : n ≤ 255) (hk : k < 128) : headB n k = [UInt8.ofNat n, 1, 0, UInt8.ofNat k] := by
  unfold headB; rw [lebU_ge (by omega), lebU_lt (by omega : n / 128 < 128), lebU_lt (by omega : 0 < 128), lebU_lt hk, show n / 128 = 1 from by omega, show n % 128 + 128 = n from by omega]; rfl
end Go.Proofs.Eng
end
section
set_option linter.unusedVariables false
set_option linter.unusedSimpArgs false
set_option maxRecDepth 100000
set_option maxHeartbeats 4000000
namespace Go.Proofs.Eng
open Go.RowKit
open Extern.Stop (cell)
theorem slices_Concat_byte_grow (m : Nat) (w : World) (hs : m ≤ 225179981368000) :
    Ret Try.prog 35 [.slice none 0 0, .int .i64 (m : Int)] w (fun v w' => (∃ p c', v = .slice p 0 c' ∧ Own kByte 5 0 w.heap.size w' p 0 c' []) ∧ Ext w w') := by
  have hX := Ext.refl w
  refine enter 27 _ Try.func35 rfl rfl (Nat.le_of_ble_eq_true rfl) rfl ?_
  refine c_seq ?_
  refine r_plain ?_
  refine p1 (x_assign (by conv => lhs; whnf)) ?_
  refine r_nil ?_
  refine t_n ?_
  refine c_seq ?_
  refine c_seq ?_
  refine r_plain ?_
  refine p1 (x_move (by conv => lhs; whnf)) ?_
  refine p1 ((x_lss rfl rfl).cast (congrArg _ (decide_eq_false (by omega)))) ?_
  refine r_nil ?_
  refine t_n ?_
  refine c_f rfl ?_
  refine c_skip ?_
  refine t_n ?_
  refine c_seq ?_
  refine c_seq ?_
  refine r_plain ?_
  refine p1 (x_move (by conv => lhs; whnf)) ?_
  refine p1 (x_move (by conv => lhs; whnf)) ?_
  refine p1 (x_cap_slice u26 rfl) ?_
  refine p1 (x_move (by conv => lhs; whnf)) ?_
  refine p1 (x_len_slice u26 rfl) ?_
  refine p1 (x_sub rfl rfl (fits_i64 (by omega) (by omega))) ?_
  refine p1 ((x_sub rfl rfl (fits_i64 (by omega) (by omega))).cast (congrArg (Value.int .i64) (show _ = (m : Int) by omega))) ?_
  refine p1 (x_assign (by conv => lhs; whnf)) ?_
  refine r_nil ?_
  refine t_n ?_
  refine c_seq ?_
  refine r_plain ?_
  refine p1 (x_move (by conv => lhs; whnf)) ?_
  refine p1 (x_gtr rfl rfl) ?_
  refine r_nil ?_
  refine t_n ?_
  first | refine c_dec rfl (fun hc16 => ?_) (fun hc16 => ?_) | refine c_if rfl (fun hc16 => ?_) (fun hc16 => ?_)
  · try simp only [decide_eq_true_eq, decide_eq_false_iff_not, Bool.not_eq_true, Bool.not_eq_false, Bool.not_eq_eq_eq_not, Bool.not_true, Bool.not_false, Int.not_lt, Int.not_le] at hc16
    refine r_plain ?_
    refine p1 (x_move (by conv => lhs; whnf)) ?_
    refine p1 (x_move (by conv => lhs; whnf)) ?_
    refine p1 (x_cap_slice u26 rfl) ?_
    refine p1 (x_slice_hN u26 sz5 rfl rfl (Nat.le_refl _)) ?_
    refine p1 (x_move (by conv => lhs; whnf)) ?_
    have hXs := hX.size
    refine o_growNil (kByte) (m := m) u26 u3 inf5 rfl kByte_pos rfl rfl (by omega) (by omega) (by omega) ?_
    intro p22 c22 w1 hK22 hge22 hE1
    have hX := hX.ext hE1
    have hO := hK22 0 w.heap.size (hXs)
    refine p1 (x_move (by conv => lhs; whnf)) ?_
    refine p1 (x_len_slice u26 rfl) ?_
    refine p1 (x_slice_hN u26 sz5 rfl rfl (Nat.zero_le _)) ?_
    refine p1 (x_assign (by conv => lhs; whnf)) ?_
    refine r_nil ?_
    refine t_n ?_
    refine c_seq ?_
    refine r_plain ?_
    refine p1 (x_move (by conv => lhs; whnf)) ?_
    refine p1 (x_assign (by conv => lhs; whnf)) ?_
    refine r_nil ?_
    refine t_n ?_
    refine c_ret ?_
    refine end1 rfl (by conv => lhs; whnf) ?_
    first | exact ⟨⟨_, _, rfl, hO⟩, hX⟩ | exact ⟨⟨_, _, rfl, Own.nil _ _ _ _ _⟩, hX⟩
  · try simp only [decide_eq_true_eq, decide_eq_false_iff_not, Bool.not_eq_true, Bool.not_eq_false, Bool.not_eq_eq_eq_not, Bool.not_true, Bool.not_false, Int.not_lt, Int.not_le] at hc16
    refine c_skip ?_
    refine t_n ?_
    refine c_seq ?_
    refine r_plain ?_
    refine p1 (x_move (by conv => lhs; whnf)) ?_
    refine p1 (x_assign (by conv => lhs; whnf)) ?_
    refine r_nil ?_
    refine t_n ?_
    refine c_ret ?_
    refine end1 rfl (by conv => lhs; whnf) ?_
    first | exact ⟨⟨_, _, rfl, hO⟩, hX⟩ | exact ⟨⟨_, _, rfl, Own.nil _ _ _ _ _⟩, hX⟩
theorem slices_Concat_byte {B : Nat} (xss : List _) (p : Option Addr) (n c : Nat) (w : World) (hl : Sl (kSl kByte 5) 26 B w p n c xss) (hs : xss.flatten.length ≤ 225179981368000) :
    Ret Try.prog 22 [.slice p n c] w (fun v w' => (∃ q m c', v = .slice q m c' ∧ Own kByte 5 0 w.heap.size w' q m c' xss.flatten) ∧ Ext w w') := by
  have hX := Ext.refl w
  refine enter 36 _ Try.func22 rfl rfl (Nat.le_of_ble_eq_true rfl) rfl ?_
  refine c_seq ?_
  refine r_plain ?_
  refine p1 (x_assign (by conv => lhs; whnf)) ?_
  refine r_nil ?_
  refine t_n ?_
  refine c_seq ?_
  refine r_plain ?_
  refine p1 (x_assign (by conv => lhs; whnf)) ?_
  refine r_nil ?_
  refine t_n ?_
  refine c_seq ?_
  refine c_seq ?_
  refine r_plain ?_
  refine p1 (x_move (by conv => lhs; whnf)) ?_
  refine p1 (x_len_slice u58 rfl) ?_
  refine p1 (x_move (by conv => lhs; whnf)) ?_
  refine r_nil ?_
  refine t_n ?_
  refine c_block ?_
  have hWL0 := Ext.refl w
  have hlen := hl.len
  have hfit := hl.fit
  have hcap := hl.cap
  refine c_loop (ι := Nat) [3, 5, 11, 12, 13, 14, 15, 16, 17, 18, 19, 20, 21, 22] (fun k => [(3, .int .i64 (((xss.take k).flatten.length : Nat) : Int)), (11, .int .i64 (k : Int))]) (fun k w' => Ext w w' ∧ (k ≤ n)) (fun k => n - k) (0) ⟨rfl, rfl, trivial⟩ ⟨Ext.refl _, by omega⟩ ?_
  rintro k GL0 w1 ⟨hE1, hL⟩
  have hX := hX.ext hE1
  have hWL0 := hE1
  refine c_seq ?_
  refine r_plain ?_
  refine p1 (x_lss rfl rfl) ?_
  refine r_nil ?_
  refine t_n ?_
  refine c_seq ?_
  first | refine c_dec rfl (fun hc12 => ?_) (fun hc12 => ?_) | refine c_if rfl (fun hc12 => ?_) (fun hc12 => ?_)
  · try simp only [decide_eq_true_eq, decide_eq_false_iff_not, Bool.not_eq_true, Bool.not_eq_false, Bool.not_eq_eq_eq_not, Bool.not_true, Bool.not_false, Int.not_lt, Int.not_le] at hc12
    refine c_skip ?_
    refine t_n ?_
    refine c_seq ?_
    refine c_block ?_
    refine c_seq ?_
    obtain ⟨q1, m1, c1, hcell1, hS1⟩ := (hl.ext hX).slAt k (by omega)
    have hS1l := hS1.len
    have hadd := flat_take_add (xss := xss) (k := k) (by omega)
    have hsuc := congrArg List.length (flat_take_succ (xss := xss) (k := k) (by omega))
    rw [List.length_append] at hsuc
    refine r_plain ?_
    refine p1 (x_ixs0 u58 sz26 rfl rfl ((hl.ext hX).adr kSl_pos (by omega)) (by omega)) ?_
    refine p1 (x_load1 un26 rfl hcell1) ?_
    refine p1 (x_assign (by conv => lhs; whnf)) ?_
    refine r_nil ?_
    refine t_n ?_
    refine c_seq ?_
    refine r_plain ?_
    refine p1 (x_move (by conv => lhs; whnf)) ?_
    refine p1 (x_move (by conv => lhs; whnf)) ?_
    refine p1 (x_len_slice u26 rfl) ?_
    refine p1 ((x_add rfl rfl (fits_i64 (by omega) (by omega))).cast (congrArg (Value.int .i64) (show _ = (((xss.take (k + 1)).flatten.length : Nat) : Int) by omega))) ?_
    refine p1 (x_assign (by conv => lhs; whnf)) ?_
    refine r_nil ?_
    refine t_n ?_
    refine c_seq ?_
    refine r_plain ?_
    refine p1 (x_move (by conv => lhs; whnf)) ?_
    refine p1 ((x_lss rfl rfl).cast (congrArg _ (decide_eq_false (by omega)))) ?_
    refine r_nil ?_
    refine t_n ?_
    refine c_f rfl ?_
    refine c_skip ?_
    refine b_n ?_
    refine t_n ?_
    refine r_plain ?_
    refine p1 (x_add rfl rfl (fits_i64 (by omega) (by omega))) ?_
    refine p1 (x_move (by conv => lhs; whnf)) ?_
    refine r_nil ?_
    refine t_n (At.mk (k + 1) (by repeat (first | exact Agr.refl _ _ | exact Agr.hav _ _ _ | refine Agr.upd rfl ?_ | refine Agr.updR rfl ?_ | refine Agr.updL ?_ _ rfl | refine Agr.hav' rfl ?_)) ⟨rfl, rfl, trivial⟩ ?_)
    exact ⟨⟨hWL0, by omega⟩, by first | (dsimp only; omega) | ((show _ < _); omega)⟩
  · try simp only [decide_eq_true_eq, decide_eq_false_iff_not, Bool.not_eq_true, Bool.not_eq_false, Bool.not_eq_eq_eq_not, Bool.not_true, Bool.not_false, Int.not_lt, Int.not_le] at hc12
    refine c_exit ?_
    refine t_e ?_
    refine t_e ?_
    refine b_hit ?_
    refine t_n ?_
    refine c_seq ?_
    have hle9 := flat_take_le xss k
    have hXs := hX.size
    refine r_plain ?_
    refine p1 (x_move (by conv => lhs; whnf)) ?_
    refine o_call Try.func35 fn35 fb35 (slices_Concat_byte_grow ((xss.take k).flatten.length : Nat) _ (by omega)) rfl ?_
    rintro v2 w2 ⟨⟨pG, cG, rfl, hO⟩, hE2⟩
    have hX := hX.ext hE2
    have hO := hO.lower hXs
    refine p1 (x_assign (by conv => lhs; whnf)) ?_
    refine r_nil ?_
    refine t_n ?_
    refine c_seq ?_
    refine c_seq ?_
    refine r_plain ?_
    refine p1 (x_move (by conv => lhs; whnf)) ?_
    refine p1 (x_len_slice u58 rfl) ?_
    refine p1 (x_move (by conv => lhs; whnf)) ?_
    refine r_nil ?_
    refine t_n ?_
    refine c_block ?_
    refine c_loop (ι := Nat × Option Addr × Nat × Nat) [6, 8, 27, 28, 29, 30, 31, 32, 33, 34] (fun (k2, q, m, c2) => [(6, .slice q m c2), (27, .int .i64 (k2 : Int))]) (fun (k2, q, m, c2) w' => Ext w w' ∧ (Own kByte 5 0 w.heap.size w' q m c2 (xss.take k2).flatten ∧ k2 ≤ n)) (fun (k2, q, m, c2) => n - k2) ((0, pG, 0, cG)) ⟨rfl, rfl, trivial⟩ ⟨hX, ⟨by simpa using hO, by omega⟩⟩ ?_
    rintro ⟨k2, q, m, c2⟩ GL2 w3 ⟨hE3, hO, hk2⟩
    have hX := hE3
    refine c_seq ?_
    refine r_plain ?_
    refine p1 (x_lss rfl rfl) ?_
    refine r_nil ?_
    refine t_n ?_
    refine c_seq ?_
    first | refine c_dec rfl (fun hc28 => ?_) (fun hc28 => ?_) | refine c_if rfl (fun hc28 => ?_) (fun hc28 => ?_)
    · try simp only [decide_eq_true_eq, decide_eq_false_iff_not, Bool.not_eq_true, Bool.not_eq_false, Bool.not_eq_eq_eq_not, Bool.not_true, Bool.not_false, Int.not_lt, Int.not_le] at hc28
      refine c_skip ?_
      refine t_n ?_
      refine c_seq ?_
      refine c_block ?_
      refine c_seq ?_
      obtain ⟨q2, m2, c3, hcell2, hS2⟩ := (hl.ext hX).slAt k2 (by omega)
      have hS2l := hS2.len
      have hOl := hO.len
      have hadd2 := flat_take_add (xss := xss) (k := k2) (by omega)
      refine r_plain ?_
      refine p1 (x_ixs0 u58 sz26 rfl rfl ((hl.ext hX).adr kSl_pos (by omega)) (by omega)) ?_
      refine p1 (x_load1 un26 rfl hcell2) ?_
      refine p1 (x_assign (by conv => lhs; whnf)) ?_
      refine r_nil ?_
      refine t_n ?_
      refine r_plain ?_
      refine p1 (x_move (by conv => lhs; whnf)) ?_
      refine p1 (x_move (by conv => lhs; whnf)) ?_
      have hq1 := hX.size
      refine o_append (d := kByte) (xss.getD k2 []) u26 inf5 rfl kByte_pos rfl rfl hO (src_pure u26 hS2 (by decide)) hS2.len (byte_all _ _ _) (rfl) (by omega) (by omega) (by omega) (by omega) (by decide) ?_
      intro p33 c33 w4 hO hM4
      have hX := hX.mod hM4 (Nat.le_refl _)
      refine p1 (x_assign (by conv => lhs; whnf)) ?_
      refine r_nil ?_
      refine b_n ?_
      refine t_n ?_
      refine r_plain ?_
      refine p1 (x_add rfl rfl (fits_i64 (by omega) (by omega))) ?_
      refine p1 (x_move (by conv => lhs; whnf)) ?_
      refine r_nil ?_
      refine t_n (At.mk ((k2 + 1, p33, m + m2, c33)) (by repeat (first | exact Agr.refl _ _ | exact Agr.hav _ _ _ | refine Agr.upd rfl ?_ | refine Agr.updR rfl ?_ | refine Agr.updL ?_ _ rfl | refine Agr.hav' rfl ?_)) ⟨rfl, rfl, trivial⟩ ?_)
      exact ⟨⟨hX, ⟨by rw [flat_take_succ (by omega)]; exact hO, by omega⟩⟩, by first | (dsimp only; omega) | ((show _ < _); omega)⟩
    · try simp only [decide_eq_true_eq, decide_eq_false_iff_not, Bool.not_eq_true, Bool.not_eq_false, Bool.not_eq_eq_eq_not, Bool.not_true, Bool.not_false, Int.not_lt, Int.not_le] at hc28
      have hkn : k2 = n := by omega
      rw [hkn, List.take_of_length_le (by omega)] at hO
      refine c_exit ?_
      refine t_e ?_
      refine t_e ?_
      refine b_hit ?_
      refine t_n ?_
      refine c_seq ?_
      refine r_plain ?_
      refine p1 (x_move (by conv => lhs; whnf)) ?_
      refine p1 (x_assign (by conv => lhs; whnf)) ?_
      refine r_nil ?_
      refine t_n ?_
      refine c_ret ?_
      refine end1 rfl (by conv => lhs; whnf) ?_
      exact ⟨⟨_, _, _, rfl, hO⟩, hX⟩
theorem kB_eq (bits : Int) : (if 1 < (if 64 < bits then 64 else bits) then (if 64 < bits then 64 else bits) else 1) = ((kB bits : Nat) : Int) := by
  unfold kB
  split <;> split <;> omega
theorem mkB_cat (l : List Hash) (seed : Nat) (bits : Int) : [lebU (srt l).length, lebU seed, lebU (kB bits), body (srt l) seed (szB (srt l).length (kB bits))].flatten = mkB l seed bits := by
  unfold mkB; simp
theorem mkB_len (l : List Hash) (seed : Nat) (bits : Int) (hs : seed < 4294967296) (hl : (srt l).length ≤ 65536) : (mkB l seed bits).length ≤ 600000 := by
  have h1 := lebU_len10 (n := (srt l).length) (by omega)
  have h2 := lebU_len10 (n := seed) (by omega)
  have h3 := lebU_len10 (n := kB bits) (by have := kB_le bits; omega)
  have h4 := szB_le hl (kB_le bits).2
  unfold mkB
  rw [List.length_append, List.length_append, List.length_append, body_len]
  omega
theorem bloom_Make (xs : List Hash) (seed : Nat) (bits : Int) (B : Nat) (p : Option Addr) (n c : Nat) (w : World) (hl : Sl kHash 29 B w p n c xs) (hs : n ≤ 65536) (hse : seed < 4294967296) :
    Ret Try.prog 11 [.slice p n c, .int .u32 (seed : Int), .int .i64 bits] w (fun v w' => (∃ q l c', v = .slice q l c' ∧ Own kByte 5 0 w.heap.size w' q l c' (mkB xs seed bits)) ∧ Ext w w') := by
  have hX := Ext.refl w
  refine enterM 63 _ Try.func11 rfl rfl (Nat.le_of_ble_eq_true rfl) rfl ?_
  refine c_seq ?_
  refine r_plain ?_
  refine p1 (x_assign (by conv => lhs; whnf)) ?_
  refine r_nil ?_
  refine t_n ?_
  refine c_seq ?_
  refine r_plain ?_
  refine p1 (x_move (by conv => lhs; whnf)) ?_
  refine o_call Try.func19 fn19 fb19 (hashes_Sort xs _ _ _ _ _ (hl.ext hX) (by omega)) rfl ?_
  rintro v1 w1 ⟨⟨q, m1, c1, rfl, hm1, hO0⟩, hE1⟩
  have hX := hX.ext hE1
  have hlm := hO0.len
  have hk1 := kB_le bits
  have hsz := szB_le (n := m1) (by omega) hk1.2
  refine p1 (x_assign (by conv => lhs; whnf)) ?_
  refine r_nil ?_
  refine t_n ?_
  refine c_seq ?_
  refine r_plain ?_
  refine p1 (x_move (by conv => lhs; whnf)) ?_
  refine p1 (x_len_slice u22 rfl) ?_
  refine p1 (x_move (by conv => lhs; whnf)) ?_
  refine p1 (x_move (by conv => lhs; whnf)) ?_
  refine p1 (x_min rfl rfl) ?_
  refine p1 ((x_max rfl rfl).cast (congrArg _ (kB_eq bits))) ?_
  refine p1 (x_build3 pl40 (by conv => lhs; whnf) (by conv => lhs; whnf) (by conv => lhs; whnf) rfl rfl rfl) ?_
  have hXs7 := hX.size
  refine o_alloc zr40 ?_
  intro w2 g7 hN7
  have hE2 := hN7.ext
  have hX := hX.ext hE2
  have hO0 := hO0.ext hE2
  have hB7 := hN7.blk
  refine o_storeAll rfl (by conv => lhs; whnf) (by simp [Value.oneCell']) (by exact sz40) hB7 (by rfl) ?_
  intro w3 hP3
  have hX := hX.put hP3 (by rw [hN7.g_eq]; exact hXs7)
  have hO0 := hO0.mod (hP3.mod 0 (Nat.zero_le _)) (Nat.zero_le _) (by decide)
  have hB7 := hP3.blk
  refine r_nil ?_
  refine t_n ?_
  refine c_seq ?_
  refine r_plain ?_
  refine p1 (x_loadB ua40 rfl hB7 sz40) ?_
  refine o_call Try.func20 fn20 fb20 (shape_bytes m1 seed (kB bits) (by omega) hk1.2 _) rfl ?_
  rintro v4 w4 ⟨rfl, hE4⟩
  have hX := hX.ext hE4
  have hO0 := hO0.ext hE4
  have hB7 := hB7.ext hE4
  have hXs23 := hX.size
  refine o_make u26 inf5 rfl rfl (by omega) (by omega) (by omega) (by omega) ?_
  intro w5 g23 hN23
  have hE5 := hN23.ext
  have hX := hX.ext hE5
  have hO0 := hO0.ext hE5
  have hB7 := hB7.ext hE5
  have hO : Own kByte 5 0 w.heap.size w5 (some ⟨g23, 0, none⟩) (szB m1 (kB bits)) (szB m1 (kB bits)) (List.replicate (szB m1 (kB bits)) 0) := own_make (0 : UInt8) (szB m1 (kB bits)) (by decide) hN23 hXs23 (by omega)
  have hXs8 := hX.size
  refine o_alloc zr26 ?_
  intro w6 g8 hN8
  have hE6 := hN8.ext
  have hX := hX.ext hE6
  have hO0 := hO0.ext hE6
  have hB7 := hB7.ext hE6
  have hO := hO.ext hE6
  have hB8 := hN8.blk
  refine o_store1 rfl (by conv => lhs; whnf) rfl rfl sz26 hB8 (Nat.zero_lt_one) ?_
  intro w7 hP7
  have hX := hX.put hP7 (by rw [hN8.g_eq]; exact hXs8)
  have hO0 := hO0.mod (hP7.mod 0 (Nat.zero_le _)) (Nat.zero_le _) (by decide)
  have hB7 := hB7.mod (hP7.mod 0 (Nat.zero_le _)) (by decide)
  have hO := hO.mod (hP7.mod 0 (Nat.zero_le _)) (Nat.zero_le _) (by decide)
  have hB8 := hP7.blk
  try simp only [List.setIfInBounds_toArray, List.set_cons_zero, List.set_cons_succ] at hB8
  have hB8 : Blk w7 g8 #[.slice (some ⟨g23, 0, none⟩) (szB m1 (kB bits)) (szB m1 (kB bits))] 26 := hB8
  refine r_nil ?_
  refine t_n ?_
  refine c_seq ?_
  refine c_seq ?_
  refine r_plain ?_
  refine p1 (x_move (by conv => lhs; whnf)) ?_
  refine p1 (x_len_slice u22 rfl) ?_
  refine p1 (x_move (by conv => lhs; whnf)) ?_
  refine r_nil ?_
  refine t_n ?_
  refine c_block ?_
  refine c_loop (ι := Nat × List Nat) [10, 11, 26, 27, 28, 29, 30, 31, 32, 33, 34, 35, 36, 38, 39, 40, 41, 42, 43, 44, 45, 46, 47, 48, 1000000007] (fun (k, Ds) => [(26, .int .i64 (k : Int)), (sp, encDs Ds)]) (fun (k, Ds) w' => Ext w w' ∧ (Own kHash 29 0 w.heap.size w' q m1 c1 (srt xs) ∧ Own kByte 5 0 w.heap.size w' (some ⟨g23, 0, none⟩) (szB m1 (kB bits)) (szB m1 (kB bits)) (bodyTo seed (szB m1 (kB bits)) ((srt xs).take k) (List.replicate (szB m1 (kB bits)) 0)) ∧ Blk w' g7 #[.int .i64 (m1 : Int), .int .u32 (seed : Int), .int .i64 ((kB bits : Nat) : Int)] 40 ∧ Blk w' g8 #[.slice (some ⟨g23, 0, none⟩) (szB m1 (kB bits)) (szB m1 (kB bits))] 26 ∧ Dfs w.heap.size w' Ds ∧ k ≤ m1)) (fun (k, Ds) => m1 - k) ((0, [])) ⟨rfl, rfl, trivial⟩ ⟨hX, ⟨hO0, hO, hB7, hB8, Dfs.nil _ _, by omega⟩⟩ ?_
  rintro ⟨k, Ds⟩ GL0 w8 ⟨hE8, hO0, hO, hB7, hB8, hDs, hk⟩
  have hX := hE8
  refine c_seq ?_
  refine r_plain ?_
  refine p1 (x_lss rfl rfl) ?_
  refine r_nil ?_
  refine t_n ?_
  refine c_seq ?_
  first | refine c_dec rfl (fun hc27 => ?_) (fun hc27 => ?_) | refine c_if rfl (fun hc27 => ?_) (fun hc27 => ?_)
  · try simp only [decide_eq_true_eq, decide_eq_false_iff_not, Bool.not_eq_true, Bool.not_eq_false, Bool.not_eq_eq_eq_not, Bool.not_true, Bool.not_false, Int.not_lt, Int.not_le] at hc27
    refine c_skip ?_
    refine t_n ?_
    refine c_seq ?_
    refine c_block ?_
    refine c_seq ?_
    refine r_plain ?_
    refine p1 (x_ixs u22 sz29 rfl rfl (hO0.sl.adr kHash_pos (by omega)) (by omega) (by omega)) ?_
    refine p1 (x_loadN ua29 rfl (hcs_sz sz29 _) (hO0.sl.hashAt _ (by omega) (by omega))) ?_
    have hXs10 := hX.size
    have hOlt := hO0.below
    have hpos : 0 < (szB m1 (kB bits)) := szB_pos (by omega) hk1.1
    refine o_alloc zr29 ?_
    intro w9 g10 hN10
    have hE9 := hN10.ext
    have hX := hX.ext hE9
    have hO0 := hO0.ext hE9
    have hO := hO.ext hE9
    have hB7 := hB7.ext hE9
    have hB8 := hB8.ext hE9
    have hDs := hDs.ext hE9
    have hB10 := hN10.blk
    refine o_storeAll rfl rfl (kHash_one _) (hv_sz sz29 _) hB10 (hv_size _) ?_
    intro w10 hP10
    have hX := hX.put hP10 (by rw [hN10.g_eq]; exact hXs10)
    have hO0 := hO0.modB (hP10.mod g10 (Nat.le_refl _)) (Nat.zero_le _) (by decide) (by rw [hN10.g_eq]; exact hOlt)
    have hO := hO.mod (hP10.mod 0 (Nat.zero_le _)) (Nat.zero_le _) (by decide)
    have hB7 := hB7.mod (hP10.mod 0 (Nat.zero_le _)) (by decide)
    have hB8 := hB8.mod (hP10.mod 0 (Nat.zero_le _)) (by decide)
    have hDs := hDs.mod (hP10.mod 0 (Nat.zero_le _)) (Nat.zero_le _) trivial
    have hB10 := hP10.blk
    refine r_nil ?_
    refine t_n ?_
    refine c_seq ?_
    refine r_plain ?_
    refine p1 (x_loadB ua29 rfl hB10 (hv_sz sz29 _)) ?_
    refine p1 (x_move (by conv => lhs; whnf)) ?_
    refine p1 (x_load1 un26 rfl (hB8.cell (rfl))) ?_
    refine p1 (x_len_slice u26 rfl) ?_
    refine p1 (x_mul rfl rfl (fits_i64 (by omega) (by omega))) ?_
    refine p1 ((x_convf u44 us3 rfl (fits_u64 (by omega) (by omega))).cast (congrArg (Value.int .u64) (by omega : _ = ((8 * (szB m1 (kB bits)) : Nat) : Int)))) ?_
    refine o_call Try.func21 fn21 fb21 (bloom_places ((srt xs).getD k default) seed (8 * (szB m1 (kB bits))) hse (by omega) (by omega) _) rfl ?_
    rintro v11 w11 ⟨⟨lb, rfl, hSeq⟩, hE11⟩
    have hX := hX.ext hE11
    have hO0 := hO0.ext hE11
    have hO := hO.ext hE11
    have hB7 := hB7.ext hE11
    have hB8 := hB8.ext hE11
    have hDs := hDs.ext hE11
    have hB10 := hB10.ext hE11
    refine r_nil ?_
    refine t_n ?_
    refine c_block ?_
    have hXr := hX.size
    have hDlt : ∀ D ∈ Ds, D < w11.heap.size := fun D hD => dfr_lt (hDs.all D hD).2
    refine c_rf (ps := [37]) (Ds) (fun pre W => Ext w W ∧ Own kHash 29 0 w.heap.size W q m1 c1 (srt xs) ∧ Own kByte 5 0 w.heap.size W (some ⟨g23, 0, none⟩) (szB m1 (kB bits)) (szB m1 (kB bits)) (setAll (bodyTo seed (szB m1 (kB bits)) ((srt xs).take k) (List.replicate (szB m1 (kB bits)) 0)) (pre.map (·.1))) ∧ Blk W g7 #[.int .i64 (m1 : Int), .int .u32 (seed : Int), .int .i64 ((kB bits : Nat) : Int)] 40 ∧ Blk W g8 #[.slice (some ⟨g23, 0, none⟩) (szB m1 (kB bits)) (szB m1 (kB bits))] 26 ∧ Dfs w.heap.size W Ds) (fun _ _ _ => False) rfl rfl Try.func34 fn34 fb34 (hSeq [5] (by simp)) (fun _ _ _ _ h _ => h) (fun _ _ h => h) (ext_rl) (fun _ => rfl) (by rintro s A B ⟨h1, h2, h3, h4, h5, h6⟩ x; exact ⟨h1.ext x, h2.ext x, h3.ext x, h4.ext x, h5.ext x, h6.ext x⟩) (by rintro s A B ⟨h1, h2, h3, h4, h5, h6⟩ x; exact ⟨h1.lp x hXr, h2.lp x (Nat.zero_le _), h3.lp x (Nat.zero_le _), h4.lp x, h5.lp x, h6.lpB x hDlt⟩) (fun _ _ _ _ h _ => h) (fun _ _ _ _ h _ => h) (⟨hX, hO0, hO, hB7, hB8, hDs⟩) ?_ ?_ ?_
    · intro x
      apply Exists.intro
      refine ⟨fun l W => ?ha, fun l pre W hsz hI hXx => ?hb⟩
      case ha =>
        refine f_plain rfl ?_
        refine p1 (x_assign (by conv => lhs; whnf)) ?_
        refine r_nil ?_
        refine t_n ?_
        refine t_n ?_
        exact ⟨rfl, rfl⟩
      case hb =>
        obtain ⟨hX, hO0, hO, hB7, hB8, hDs⟩ := hI
        have hp9 : x.1 < 8 * (szB m1 (kB bits)) := x.2
        have hWr := Mod.refl w.heap.size 5 W
        have hOl := hO.len
        refine f_block ?_
        refine f_plain rfl ?_
        refine p1 (x_load1 un26 rfl (hB8.cell (rfl))) ?_
        refine p1 (x_move (by conv => lhs; whnf)) ?_
        refine p1 ((x_shr rfl rfl (by omega)).cast (congrArg _ (shr3 x.1))) ?_
        refine p1 (x_ixs0 u26 sz5 rfl rfl (hO.sl.adr kByte_pos (by omega)) (by omega)) ?_
        refine p1 (x_load1 un5 rfl (hO.sl.byteAt _ (by omega))) ?_
        refine p1 (x_move (by conv => lhs; whnf)) ?_
        refine p1 ((x_and rfl rfl).cast (congrArg _ (and7 x.1 (by omega)))) ?_
        refine p1 ((x_shl rfl rfl (by omega)).cast (congrArg _ (shl1 (k := x.1 % 8) (by omega)))) ?_
        refine p1 ((x_or rfl rfl).cast (congrArg _ (or_u8 _ (k := x.1 % 8) (by omega)))) ?_
        refine p1 (x_ixs0 u26 sz5 rfl rfl (hO.sl.adr kByte_pos (by omega)) (by omega)) ?_
        refine o_storeSl1 (d := kByte) (i := x.1 / 8) (UInt8.ofNat (((setAll (bodyTo seed (szB m1 (kB bits)) ((srt xs).take k) (List.replicate (szB m1 (kB bits)) 0)) (pre.map (·.1))).getD (x.1 / 8) 0).toNat ||| 2 ^ (x.1 % 8))) rfl (by conv => lhs; whnf) rfl rfl hO (by omega) (by rfl) sz5 (Nat.zero_le _) (by decide) ?_
        intro w13 hO hM13
        have hX := hX.mod hM13 (Nat.le_refl _)
        have hO0 := hO0.mod hM13 (Nat.zero_le _) (by decide)
        have hB7 := hB7.mod hM13 (by decide)
        have hB8 := hB8.mod hM13 (by decide)
        have hDs := hDs.mod hM13 (Nat.zero_le _) trivial
        have hWr := hWr.mod hM13 (by first | exact Nat.le_refl _ | exact trivial | omega)
        refine r_nil ?_
        refine t_n ?_
        refine b_n ?_
        exact ⟨.ofMod hWr (by simp), fun k hk hlt => hWr.old k hlt (.inr (by rw [hk]; simp)), hX, hO0, (by rw [List.map_append, List.map_singleton, setAll_snoc]; exact hO), hB7, hB8, hDs⟩
    · rintro D zs_ w12 hsz hS ⟨hX, hO0, hO, hB7, hB8, hDs⟩ hDf
      have hDs := hDs.cons hDf (Nat.le_trans hXr hsz) (fun hm => by have := hDlt D hm; omega)
      rw [hS, ← bodyTo_take (by omega : k < (srt xs).length)] at hO
      refine b_n ?_
      refine b_n ?_
      refine t_n ?_
      refine r_plain ?_
      refine p1 (x_add rfl rfl (fits_i64 (by omega) (by omega))) ?_
      refine p1 (x_move (by conv => lhs; whnf)) ?_
      refine r_nil ?_
      refine t_n (At.mk ((k + 1, D :: Ds)) (by repeat (first | exact Agr.refl _ _ | exact Agr.hav _ _ _ | refine Agr.upd rfl ?_ | refine Agr.updR rfl ?_ | refine Agr.updL ?_ _ rfl | refine Agr.hav' rfl ?_)) ⟨rfl, rfl, trivial⟩ ?_)
      exact ⟨⟨hX, ⟨hO0, hO, hB7, hB8, hDs, by omega⟩⟩, by first | (dsimp only; omega) | ((show _ < _); omega)⟩
    · intro D c pre W hsz hSp hx hDf
      exact hx.elim
  · try simp only [decide_eq_true_eq, decide_eq_false_iff_not, Bool.not_eq_true, Bool.not_eq_false, Bool.not_eq_eq_eq_not, Bool.not_true, Bool.not_false, Int.not_lt, Int.not_le] at hc27
    have hkm : k = m1 := by omega
    rw [hkm, List.take_of_length_le (by omega)] at hO
    have hXs11 := hX.size
    refine c_exit ?_
    refine t_e ?_
    refine t_e ?_
    refine b_hit ?_
    refine t_n ?_
    refine c_seq ?_
    refine r_held (fun w1 w2 => Ext w1 w2) mixed ?_
    intro w14 hE14
    have hX := hX.ext hE14
    have hO0 := hO0.ext hE14
    have hO := hO.ext hE14
    have hB7 := hB7.ext hE14
    have hB8 := hB8.ext hE14
    have hDs := hDs.ext hE14
    have hSr11 : (fun w1 w2 => Ext w1 w2) w14 w14 := Ext.refl w14
    refine h_take 0 rfl (by kernel_rfl) (by kernel_rfl) (by kernel_rfl) hSr11 (fun wS hSS => by (have hX := hX.ext hSS; have hO0 := hO0.ext hSS; have hO := hO.ext hSS; have hB7 := hB7.ext hSS; have hB8 := hB8.ext hSS; have hDs := hDs.ext hSS; exact (x_fieldAddr fo40_0 sz3 rfl))) ?_
    refine h_take 1 rfl (by kernel_rfl) (by kernel_rfl) (by kernel_rfl) hSr11 (fun wS hSS => by (have hX := hX.ext hSS; have hO0 := hO0.ext hSS; have hO := hO.ext hSS; have hB7 := hB7.ext hSS; have hB8 := hB8.ext hSS; have hDs := hDs.ext hSS; exact (x_load1 un3 rfl (hB7.cell (rfl))))) ?_
    refine h_take 2 rfl (by kernel_rfl) (by kernel_rfl) (by kernel_rfl) hSr11 (fun wS hSS => by (have hX := hX.ext hSS; have hO0 := hO0.ext hSS; have hO := hO.ext hSS; have hB7 := hB7.ext hSS; have hB8 := hB8.ext hSS; have hDs := hDs.ext hSS; exact (x_convf u44 us3 rfl (fits_u64 (by omega) (by omega))))) ?_
    refine h_take 4 rfl (by kernel_rfl) (by kernel_rfl) (by kernel_rfl) hSr11 (fun wS hSS => by (have hX := hX.ext hSS; have hO0 := hO0.ext hSS; have hO := hO.ext hSS; have hB7 := hB7.ext hSS; have hB8 := hB8.ext hSS; have hDs := hDs.ext hSS; exact (x_move (by conv => lhs; whnf)))) ?_
    refine h_take 5 rfl (by kernel_rfl) (by kernel_rfl) (by kernel_rfl) hSr11 (fun wS hSS => by (have hX := hX.ext hSS; have hO0 := hO0.ext hSS; have hO := hO.ext hSS; have hB7 := hB7.ext hSS; have hB8 := hB8.ext hSS; have hDs := hDs.ext hSS; exact (x_convf u44 us23 rfl (fits_u64 (by omega) (by omega))))) ?_
    refine h_take 7 rfl (by kernel_rfl) (by kernel_rfl) (by kernel_rfl) hSr11 (fun wS hSS => by (have hX := hX.ext hSS; have hO0 := hO0.ext hSS; have hO := hO.ext hSS; have hB7 := hB7.ext hSS; have hB8 := hB8.ext hSS; have hDs := hDs.ext hSS; exact (x_fieldAddr fo40_2 sz3 rfl))) ?_
    refine h_take 8 rfl (by kernel_rfl) (by kernel_rfl) (by kernel_rfl) hSr11 (fun wS hSS => by (have hX := hX.ext hSS; have hO0 := hO0.ext hSS; have hO := hO.ext hSS; have hB7 := hB7.ext hSS; have hB8 := hB8.ext hSS; have hDs := hDs.ext hSS; exact (x_load1 un3 rfl (hB7.cell (rfl))))) ?_
    refine h_take 9 rfl (by kernel_rfl) (by kernel_rfl) (by kernel_rfl) hSr11 (fun wS hSS => by (have hX := hX.ext hSS; have hO0 := hO0.ext hSS; have hO := hO.ext hSS; have hB7 := hB7.ext hSS; have hB8 := hB8.ext hSS; have hDs := hDs.ext hSS; exact (x_convf u44 us3 rfl (fits_u64 (by omega) (by omega))))) ?_
    refine h_take 11 rfl (by kernel_rfl) (by kernel_rfl) (by kernel_rfl) hSr11 (fun wS hSS => by (have hX := hX.ext hSS; have hO0 := hO0.ext hSS; have hO := hO.ext hSS; have hB7 := hB7.ext hSS; have hB8 := hB8.ext hSS; have hDs := hDs.ext hSS; exact (x_load1 un26 rfl (hB8.cell (rfl))))) ?_
    refine h_one 3 _ rfl (by kernel_rfl) (hop_of_list (fun Q3 hQ3 => ?_))
    refine o_call Try.func23 fn23 fb23 (leb_Uint m1 (by omega) _) rfl ?_
    rintro v15 w15 ⟨⟨qa, la, ca, rfl, hA⟩, hE15⟩
    have hX := hX.ext hE15
    have hO0 := hO0.ext hE15
    have hO := hO.ext hE15
    have hB7 := hB7.ext hE15
    have hB8 := hB8.ext hE15
    have hDs := hDs.ext hE15
    have hSr11 := hSr11.ext hE15
    refine hop_end hQ3 ⟨hSr11, ?_⟩
    refine h_one 6 _ rfl (by kernel_rfl) (hop_of_list (fun Q6 hQ6 => ?_))
    refine o_call Try.func23 fn23 fb23 (leb_Uint seed (by omega) _) rfl ?_
    rintro v16 w16 ⟨⟨qb, lb, cb, rfl, hB⟩, hE16⟩
    have hX := hX.ext hE16
    have hO0 := hO0.ext hE16
    have hO := hO.ext hE16
    have hB7 := hB7.ext hE16
    have hB8 := hB8.ext hE16
    have hDs := hDs.ext hE16
    have hSr11 := hSr11.ext hE16
    have hA := hA.ext hE16
    refine hop_end hQ6 ⟨hSr11, ?_⟩
    refine h_one 10 _ rfl (by kernel_rfl) (hop_of_list (fun Q10 hQ10 => ?_))
    refine o_call Try.func23 fn23 fb23 (leb_Uint (kB bits) (by omega) _) rfl ?_
    rintro v17 w17 ⟨⟨qc, lc, cc, rfl, hC⟩, hE17⟩
    have hX := hX.ext hE17
    have hO0 := hO0.ext hE17
    have hO := hO.ext hE17
    have hB7 := hB7.ext hE17
    have hB8 := hB8.ext hE17
    have hDs := hDs.ext hE17
    have hSr11 := hSr11.ext hE17
    have hA := hA.ext hE17
    have hB := hB.ext hE17
    refine hop_end hQ10 ⟨hSr11, ?_⟩
    refine h_one 12 _ rfl (by kernel_rfl) (hop_of_list (fun Q12 hQ12 => ?_))
    refine o_buildSlice u58 inf26 rfl (by decide) (fun base hb => fill_kn [.slice qa la ca, .slice qb lb cb, .slice qc lc cc, .slice (some ⟨g23, 0, none⟩) (szB m1 (kB bits)) (szB m1 (kB bits))] (by intro v hv'; simp only [List.mem_cons, List.not_mem_nil, or_false] at hv'; rcases hv' with rfl | rfl | rfl | rfl <;> rfl) base hb) ?_
    intro w18 g61 hN61
    have hE18 := hN61.ext
    have hX := hX.ext hE18
    have hO0 := hO0.ext hE18
    have hO := hO.ext hE18
    have hB7 := hB7.ext hE18
    have hB8 := hB8.ext hE18
    have hDs := hDs.ext hE18
    have hSr11 := hSr11.ext hE18
    have hA := hA.ext hE18
    have hB := hB.ext hE18
    have hC := hC.ext hE18
    have hI : Own (kSl kByte 5) 26 0 0 w18 (some ⟨g61, 0, none⟩) 4 4 [_, _, _, _] := Own.made (kSl kByte 5) 26 0 0 hN61 [_, _, _, _] [[.slice qa la ca], [.slice qb lb cb], [.slice qc lc cc], [.slice (some ⟨g23, 0, none⟩) (szB m1 (kB bits)) (szB m1 (kB bits))]] 4 4 rfl ⟨⟨_, _, _, rfl, hA.sl⟩, ⟨_, _, _, rfl, hB.sl⟩, ⟨_, _, _, rfl, hC.sl⟩, ⟨_, _, _, rfl, hO.sl⟩, trivial⟩ (Nat.zero_le _) (by omega) (by omega) rfl rfl
    refine hop_end hQ12 ⟨hSr11, ?_⟩
    refine h_one 13 _ rfl (by kernel_rfl) (hop_of_list (fun Q13 hQ13 => ?_))
    have hXs13 := hX.size
    refine o_call Try.func22 fn22 fb22 (slices_Concat_byte _ _ _ _ _ hI.sl (by first | (have h9 := mkB_len xs seed bits hse (by omega); rw [← mkB_cat, hlm] at h9; exact Nat.le_trans h9 (by decide)) | skip)) rfl ?_
    rintro v19 w19 ⟨⟨qz, lz, cz, rfl, hZ⟩, hE19⟩
    have hX := hX.ext hE19
    have hO0 := hO0.ext hE19
    have hO := hO.ext hE19
    have hB7 := hB7.ext hE19
    have hB8 := hB8.ext hE19
    have hDs := hDs.ext hE19
    have hSr11 := hSr11.ext hE19
    have hA := hA.ext hE19
    have hB := hB.ext hE19
    have hC := hC.ext hE19
    have hI := hI.ext hE19
    have hZ := hZ.lower hXs13
    refine hop_end hQ13 ⟨hSr11, ?_⟩
    refine h_take 14 rfl (by kernel_rfl) (by kernel_rfl) (by kernel_rfl) hSr11 (fun wS hSS => by ( exact (x_assign (by conv => lhs; whnf)))) ?_
    refine h_done (by kernel_rfl) ?_
    refine t_n ?_
    refine c_ret ?_
    refine end1M Ds rfl (by conv => lhs; whnf) rfl hDs fun wz hLz => ⟨⟨_, _, _, rfl, ?_⟩, hX.lp hLz (Nat.le_refl _)⟩
    have hZ2 := hZ.lp hLz (Nat.zero_le _)
    rw [← mkB_cat xs seed bits, hlm]
    exact hZ2
end Go.Proofs.Eng
end
section
set_option linter.unusedVariables false
set_option linter.unusedSimpArgs false
set_option maxRecDepth 100000
set_option maxHeartbeats 4000000
namespace Go.Proofs.Eng
open Go.RowKit
open Extern.Stop (cell)
theorem fb24 : Try.f24.body.isNone = false := by kernel_rfl
theorem fn24 : (Try.f24.name == "runtime.NumGoroutine") = false := by kernel_rfl
end Go.Proofs.Eng
end
section
set_option linter.unusedVariables false
set_option linter.unusedSimpArgs false
set_option maxRecDepth 100000
set_option maxHeartbeats 4000000
namespace Go.Proofs.Eng
open Go.RowKit
open Extern.Stop (cell)
theorem ref09_Make (xs : List Hash) (seed : Nat) (bits : Int) (B : Nat) (p : Option Addr) (n c : Nat) (w : World) (hl : Sl kHash 29 B w p n c xs) (hs : n ≤ 65536) (hse : seed < 4294967296) (hBw : B ≤ w.heap.size) :
    Ret Try.prog 12 [.slice p n c, .int .u32 (seed : Int), .int .i64 bits] w (fun v w' => (∃ q l c', v = .slice q l c' ∧ Own kByte 5 0 w.heap.size w' q l c' (mkB xs seed bits)) ∧ Ext w w') := by
  have hX := Ext.refl w
  refine enter 86 _ Try.func12 rfl rfl (Nat.le_of_ble_eq_true rfl) rfl ?_
  refine c_seq ?_
  refine r_plain ?_
  refine p1 (x_assign (by conv => lhs; whnf)) ?_
  refine r_nil ?_
  refine t_n ?_
  refine c_seq ?_
  refine r_plain ?_
  refine p1 (x_move (by conv => lhs; whnf)) ?_
  refine p1 (x_min rfl rfl) ?_
  refine p1 ((x_max rfl rfl).cast (congrArg _ (kB_eq bits))) ?_
  refine p1 (x_assign (by conv => lhs; whnf)) ?_
  refine r_nil ?_
  refine t_n ?_
  refine c_seq ?_
  refine r_plain ?_
  refine p1 (x_move (by conv => lhs; whnf)) ?_
  refine o_call Try.func24 fn24 fb24 (ref06_Sort xs _ _ _ _ _ (hl.ext hX) (by omega)) rfl ?_
  rintro v1 w1 ⟨⟨q, m1, c1, rfl, hR, hm1⟩, hE1⟩
  have hX := hX.ext hE1
  have hlm := hR.len
  have hk1 := kB_le bits
  have hsz := szB_le (n := m1) (by omega) hk1.2
  have hfit := hR.fit
  have hcap := hR.cap
  have hnk2 : (m1 : Int) * ((kB bits : Nat) : Int) = ((m1 * kB bits : Nat) : Int) := (Int.natCast_mul _ _).symm
  have hnk : m1 * kB bits ≤ 65536 * 64 := Nat.mul_le_mul (by omega) hk1.2
  refine p1 (x_assign (by conv => lhs; whnf)) ?_
  refine r_nil ?_
  refine t_n ?_
  refine c_seq ?_
  refine r_plain ?_
  refine p1 (x_move (by conv => lhs; whnf)) ?_
  refine p1 (x_len_slice u22 rfl) ?_
  refine p1 (x_move (by conv => lhs; whnf)) ?_
  refine p1 ((x_mul rfl rfl (fits_i64 (by rw [hnk2]; omega) (by rw [hnk2]; omega))).cast (congrArg (Value.int .i64) hnk2)) ?_
  refine p1 (x_add rfl rfl (fits_i64 (by omega) (by omega))) ?_
  refine p1 ((x_quo rfl rfl (by omega) (by omega) (fits_i64 (by omega) (by omega))).cast (congrArg (Value.int .i64) (by unfold szB; omega : _ = (((szB m1 (kB bits)) : Nat) : Int)))) ?_
  refine p1 (x_assign (by conv => lhs; whnf)) ?_
  refine r_nil ?_
  refine t_n ?_
  refine c_seq ?_
  refine r_plain ?_
  refine p1 (x_move (by conv => lhs; whnf)) ?_
  have hXs26 := hX.size
  refine o_make u26 inf5 rfl rfl (by omega) (by omega) (by omega) (by omega) ?_
  intro w2 g26 hN26
  have hE2 := hN26.ext
  have hX := hX.ext hE2
  have hR := hR.ext hE2
  have hO : Own kByte 5 0 w.heap.size w2 (some ⟨g26, 0, none⟩) (szB m1 (kB bits)) (szB m1 (kB bits)) (List.replicate (szB m1 (kB bits)) 0) := own_make (0 : UInt8) (szB m1 (kB bits)) (by decide) hN26 hXs26 (by omega)
  refine p1 (x_assign (by conv => lhs; whnf)) ?_
  refine r_nil ?_
  refine t_n ?_
  refine c_seq ?_
  refine c_seq ?_
  refine r_plain ?_
  refine p1 (x_assign (by conv => lhs; whnf)) ?_
  refine r_nil ?_
  refine t_n ?_
  refine c_block ?_
  refine c_loop (ι := Nat) [10, 11, 12, 27, 28, 29, 30, 31, 32, 33, 34, 35, 36, 37, 38, 39, 40, 41, 42, 43, 44, 45, 46, 47, 48, 49, 50, 51, 52, 53, 54, 55, 56, 57, 58, 59, 60, 61, 62, 63, 64, 65, 66, 67, 68, 69, 70] (fun k => [(10, .int .i64 (k : Int))]) (fun k w' => Ext w w' ∧ (Sl kHash 29 B w' q m1 c1 (srt xs) ∧ Own kByte 5 0 w.heap.size w' (some ⟨g26, 0, none⟩) (szB m1 (kB bits)) (szB m1 (kB bits)) (bodyTo seed (szB m1 (kB bits)) ((srt xs).take k) (List.replicate (szB m1 (kB bits)) 0)) ∧ k ≤ m1)) (fun k => m1 - k) (0) ⟨rfl, trivial⟩ ⟨hX, ⟨hR, hO, by omega⟩⟩ ?_
  rintro k GL0 w3 ⟨hE3, hR, hO, hk⟩
  have hX := hE3
  refine c_seq ?_
  refine c_seq ?_
  refine r_plain ?_
  refine p1 (x_move (by conv => lhs; whnf)) ?_
  refine p1 (x_move (by conv => lhs; whnf)) ?_
  refine p1 (x_len_slice u22 rfl) ?_
  refine p1 (x_lss rfl rfl) ?_
  refine r_nil ?_
  refine t_n ?_
  first | refine c_dec rfl (fun hc30 => ?_) (fun hc30 => ?_) | refine c_if rfl (fun hc30 => ?_) (fun hc30 => ?_)
  · try simp only [decide_eq_true_eq, decide_eq_false_iff_not, Bool.not_eq_true, Bool.not_eq_false, Bool.not_eq_eq_eq_not, Bool.not_true, Bool.not_false, Int.not_lt, Int.not_le] at hc30
    refine c_skip ?_
    refine t_n ?_
    refine c_seq ?_
    refine c_block ?_
    refine c_seq ?_
    have hpos : 0 < (szB m1 (kB bits)) := szB_pos (by omega) hk1.1
    refine r_plain ?_
    refine p1 (x_move (by conv => lhs; whnf)) ?_
    refine p1 (x_move (by conv => lhs; whnf)) ?_
    refine p1 (x_ixs u22 sz29 rfl rfl (hR.adr kHash_pos (by omega)) (by omega) (by omega)) ?_
    refine p1 (x_loadN ua29 rfl (hcs_sz sz29 _) (hR.hashAt _ (by omega) (by omega))) ?_
    refine p1 (x_move (by conv => lhs; whnf)) ?_
    refine p1 (x_convf u44 us23 rfl (fits_u64 (by omega) (by omega))) ?_
    refine p1 (x_move (by conv => lhs; whnf)) ?_
    refine p1 (x_mul rfl rfl (fits_i64 (by omega) (by omega))) ?_
    refine p1 ((x_convf u44 us3 rfl (fits_u64 (by omega) (by omega))).cast (congrArg (Value.int .u64) (by omega : _ = ((8 * (szB m1 (kB bits)) : Nat) : Int)))) ?_
    refine o_call Try.func25 fn25 fb25 (ref09_Places ((srt xs).getD k default) seed (8 * (szB m1 (kB bits))) hse (by omega) (by omega) _) rfl ?_
    rintro v4 w4 ⟨⟨qp, lp, cp, rfl, hP⟩, hE4⟩
    have hX := hX.ext hE4
    have hR := hR.ext hE4
    have hO := hO.ext hE4
    have hl7 : lp = 7 := by rw [← hP.len]; exact plcTo_len _ _ _ _
    refine p1 (x_assign (by conv => lhs; whnf)) ?_
    refine r_nil ?_
    refine t_n ?_
    refine c_seq ?_
    refine r_plain ?_
    refine p1 (x_assign (by conv => lhs; whnf)) ?_
    refine r_nil ?_
    refine t_n ?_
    refine c_block ?_
    obtain ⟨Bp, hBp⟩ : ∃ x, x = w.heap.size := ⟨_, rfl⟩
    refine c_loop (ι := Nat) [12, 43, 44, 45, 46, 47, 48, 49, 50, 51, 52, 53, 54, 55, 56, 57, 58, 59, 60, 61, 62, 63, 64, 65, 66, 67, 68, 69, 70] (fun j => [(12, .int .i64 (j : Int))]) (fun j w' => Ext w w' ∧ (Sl kHash 29 B w' q m1 c1 (srt xs) ∧ Own kByte 5 0 w.heap.size w' (some ⟨g26, 0, none⟩) (szB m1 (kB bits)) (szB m1 (kB bits)) (setAll (bodyTo seed (szB m1 (kB bits)) ((srt xs).take k) (List.replicate (szB m1 (kB bits)) 0)) ((places ((srt xs).getD k default) seed (8 * (szB m1 (kB bits)))).take j)) ∧ Sl kNum 44 0 w' qp lp cp (places ((srt xs).getD k default) seed (8 * (szB m1 (kB bits)))) ∧ j ≤ 7)) (fun j => 7 - j) (0) ⟨rfl, trivial⟩ ⟨hX, ⟨hR, hO, hP.sl, by omega⟩⟩ ?_
    rintro j GL2 w5 ⟨hE5, hR, hO, hP, hj⟩
    have hX := hE5
    refine c_seq ?_
    refine c_seq ?_
    refine r_plain ?_
    refine p1 (x_move (by conv => lhs; whnf)) ?_
    refine p1 (x_move (by conv => lhs; whnf)) ?_
    refine p1 (x_len_slice u48 rfl) ?_
    refine p1 (x_lss rfl rfl) ?_
    refine r_nil ?_
    refine t_n ?_
    first | refine c_dec rfl (fun hc46 => ?_) (fun hc46 => ?_) | refine c_if rfl (fun hc46 => ?_) (fun hc46 => ?_)
    · try simp only [decide_eq_true_eq, decide_eq_false_iff_not, Bool.not_eq_true, Bool.not_eq_false, Bool.not_eq_eq_eq_not, Bool.not_true, Bool.not_false, Int.not_lt, Int.not_le] at hc46
      refine c_skip ?_
      refine t_n ?_
      refine c_seq ?_
      refine c_block ?_
      have hpl : ((places ((srt xs).getD k default) seed (8 * (szB m1 (kB bits)))).getD j 0) < 8 * (szB m1 (kB bits)) := places_lt (by omega) (plc_mem7 _ _ _ (by omega))
      have hOl := hO.len
      refine r_tail 22 mixed (by kernel_rfl) ?_
      intro w6 hE6
      have hX := hX.ext hE6
      have hR := hR.ext hE6
      have hO := hO.ext hE6
      have hP := hP.ext hE6
      refine s1 (x_move (by conv => lhs; whnf)) ?_
      refine s1 (x_move (by conv => lhs; whnf)) ?_
      refine s1 (x_move (by conv => lhs; whnf)) ?_
      refine s1 (x_ixs0 u48 sz44 rfl rfl (hP.adr kNum_pos (by omega)) (by omega)) ?_
      refine s1 (x_load1 un44 rfl (hP.numAt _ (by omega))) ?_
      refine s1 ((x_quo rfl rfl (by omega) (by omega) (fits_u64 (by omega) (by omega))).cast (congrArg (Value.int .u64) (by omega : _ = ((((places ((srt xs).getD k default) seed (8 * (szB m1 (kB bits)))).getD j 0) / 8 : Nat) : Int)))) ?_
      refine s1 (x_move (by conv => lhs; whnf)) ?_
      refine s1 (x_move (by conv => lhs; whnf)) ?_
      refine s1 (x_move (by conv => lhs; whnf)) ?_
      refine s1 (x_ixs0 u48 sz44 rfl rfl (hP.adr kNum_pos (by omega)) (by omega)) ?_
      refine s1 (x_load1 un44 rfl (hP.numAt _ (by omega))) ?_
      refine s1 ((x_quo rfl rfl (by omega) (by omega) (fits_u64 (by omega) (by omega))).cast (congrArg (Value.int .u64) (by omega : _ = ((((places ((srt xs).getD k default) seed (8 * (szB m1 (kB bits)))).getD j 0) / 8 : Nat) : Int)))) ?_
      refine s1 (x_ixs0 u26 sz5 rfl rfl (hO.sl.adr kByte_pos (by omega)) (by omega)) ?_
      refine s1 (x_load1 un5 rfl (hO.sl.byteAt _ (by omega))) ?_
      refine s1 (x_move (by conv => lhs; whnf)) ?_
      refine s1 (x_move (by conv => lhs; whnf)) ?_
      refine s1 (x_ixs0 u48 sz44 rfl rfl (hP.adr kNum_pos (by omega)) (by omega)) ?_
      refine s1 (x_load1 un44 rfl (hP.numAt _ (by omega))) ?_
      refine s1 ((x_rem rfl rfl (by omega) (by omega)).cast (congrArg (Value.int .u64) (by omega : _ = ((((places ((srt xs).getD k default) seed (8 * (szB m1 (kB bits)))).getD j 0) % 8 : Nat) : Int)))) ?_
      refine s1 ((x_shl rfl rfl (by omega)).cast (congrArg _ (shl1 (k := ((places ((srt xs).getD k default) seed (8 * (szB m1 (kB bits)))).getD j 0) % 8) (by omega)))) ?_
      refine s1 ((x_or rfl rfl).cast (congrArg _ (or_u8 _ (k := ((places ((srt xs).getD k default) seed (8 * (szB m1 (kB bits)))).getD j 0) % 8) (by omega)))) ?_
      refine s1 (x_ixs0 u26 sz5 rfl rfl (hO.sl.adr kByte_pos (by omega)) (by omega)) ?_
      refine s_nil ?_
      refine o_storeSl1 (d := kByte) (i := ((places ((srt xs).getD k default) seed (8 * (szB m1 (kB bits)))).getD j 0) / 8) (UInt8.ofNat (((setAll (bodyTo seed (szB m1 (kB bits)) ((srt xs).take k) (List.replicate (szB m1 (kB bits)) 0)) ((places ((srt xs).getD k default) seed (8 * (szB m1 (kB bits)))).take j)).getD (((places ((srt xs).getD k default) seed (8 * (szB m1 (kB bits)))).getD j 0) / 8) 0).toNat ||| 2 ^ (((places ((srt xs).getD k default) seed (8 * (szB m1 (kB bits)))).getD j 0) % 8))) rfl (by conv => lhs; whnf) rfl rfl hO (by omega) (by rfl) sz5 (Nat.zero_le _) (by decide) ?_
      intro w7 hO hM7
      have hX := hX.mod hM7 (Nat.le_refl _)
      have hR := hR.mod hM7 hBw (by decide)
      have hP := hP.mod hM7 (Nat.zero_le _) (by decide)
      refine r_nil ?_
      refine b_n ?_
      refine t_n ?_
      refine r_plain ?_
      refine p1 (x_move (by conv => lhs; whnf)) ?_
      refine p1 (x_add rfl rfl (fits_i64 (by omega) (by omega))) ?_
      refine p1 (x_assign (by conv => lhs; whnf)) ?_
      refine r_nil ?_
      refine t_n (At.mk (j + 1) (by repeat (first | exact Agr.refl _ _ | exact Agr.hav _ _ _ | refine Agr.upd rfl ?_ | refine Agr.updR rfl ?_ | refine Agr.updL ?_ _ rfl | refine Agr.hav' rfl ?_)) ⟨rfl, trivial⟩ ?_)
      exact ⟨⟨hX, ⟨hR, (by rw [take_snoc 0 (by rw [places, plcTo_len]; omega), setAll_snoc]; exact hO), hP, by omega⟩⟩, by first | (dsimp only; omega) | ((show _ < _); omega)⟩
    · try simp only [decide_eq_true_eq, decide_eq_false_iff_not, Bool.not_eq_true, Bool.not_eq_false, Bool.not_eq_eq_eq_not, Bool.not_true, Bool.not_false, Int.not_lt, Int.not_le] at hc46
      have hj7 : j = 7 := by omega
      rw [hj7, List.take_of_length_le (show (places ((srt xs).getD k default) seed (8 * (szB m1 (kB bits)))).length ≤ 7 from Nat.le_of_eq (plcTo_len _ _ _ _)), ← bodyTo_take (by omega : k < (srt xs).length)] at hO
      refine c_exit ?_
      refine t_e ?_
      refine t_e ?_
      refine b_hit ?_
      refine b_n ?_
      refine t_n ?_
      refine r_plain ?_
      refine p1 (x_move (by conv => lhs; whnf)) ?_
      refine p1 (x_add rfl rfl (fits_i64 (by omega) (by omega))) ?_
      refine p1 (x_assign (by conv => lhs; whnf)) ?_
      refine r_nil ?_
      refine t_n (At.mk (k + 1) (by repeat (first | exact Agr.refl _ _ | exact Agr.hav _ _ _ | refine Agr.upd rfl ?_ | refine Agr.updR rfl ?_ | refine Agr.updL ?_ _ rfl | refine Agr.hav' rfl ?_)) ⟨rfl, trivial⟩ ?_)
      exact ⟨⟨hX, ⟨hR, hO, by omega⟩⟩, by first | (dsimp only; omega) | ((show _ < _); omega)⟩
  · try simp only [decide_eq_true_eq, decide_eq_false_iff_not, Bool.not_eq_true, Bool.not_eq_false, Bool.not_eq_eq_eq_not, Bool.not_true, Bool.not_false, Int.not_lt, Int.not_le] at hc30
    have hkm : k = m1 := by omega
    rw [hkm, List.take_of_length_le (by omega)] at hO
    refine c_exit ?_
    refine t_e ?_
    refine t_e ?_
    refine b_hit ?_
    refine t_n ?_
    refine c_seq ?_
    refine r_plain ?_
    refine p1 (x_move (by conv => lhs; whnf)) ?_
    refine p1 (x_len_slice u22 rfl) ?_
    refine p1 (x_convf u44 us3 rfl (fits_u64 (by omega) (by omega))) ?_
    obtain ⟨Bz, hBz⟩ : ∃ x, x = w3.heap.size := ⟨_, rfl⟩
    have hOlt := hO.below
    have hXz : w.heap.size ≤ Bz := by rw [hBz]; exact hX.size
    rw [← hBz] at hOlt
    refine o_call Try.func26 fn26 fb26 (ref02_Uint m1 (by omega) _) rfl ?_
    rintro v8 w8 ⟨⟨qa, la, ca, rfl, hA⟩, hE8⟩
    have hX := hX.ext hE8
    have hR := hR.ext hE8
    have hO := hO.ext hE8
    have hWz := hE8
    rw [← hBz] at hA
    refine p1 (x_move (by conv => lhs; whnf)) ?_
    refine p1 (x_convf u44 us23 rfl (fits_u64 (by omega) (by omega))) ?_
    refine o_call Try.func26 fn26 fb26 (ref02_Uint seed (by omega) _) rfl ?_
    rintro v9 w9 ⟨⟨qb, lb, cb, rfl, hC⟩, hE9⟩
    have hX := hX.ext hE9
    have hR := hR.ext hE9
    have hO := hO.ext hE9
    have hA := hA.ext hE9
    have hWz := hWz.ext hE9
    have hCl := hC.len
    have hC10 := lebU_len10 (n := seed) (by omega)
    have hAl := hA.len
    have hA10 := lebU_len10 (n := m1) (by omega)
    have hq1 := hWz.size
    rw [← hBz] at hq1
    refine o_append (d := kByte) (lebU seed) u26 inf5 rfl kByte_pos rfl rfl hA (src_pure u26 hC.sl (by decide)) hC.len (byte_all _ _ _) (rfl) (by omega) (by omega) (by omega) (by omega) (by decide) ?_
    intro p78 c78 w10 hA hM10
    have hX := hX.mod hM10 (hXz)
    have hO := hO.modB hM10 (Nat.zero_le _) (by decide) hOlt
    have hWz := hWz.mod hM10 (Nat.le_of_eq hBz.symm)
    refine p1 (x_assign (by conv => lhs; whnf)) ?_
    refine r_nil ?_
    refine t_n ?_
    refine c_seq ?_
    refine r_plain ?_
    refine p1 (x_move (by conv => lhs; whnf)) ?_
    refine p1 (x_move (by conv => lhs; whnf)) ?_
    refine p1 (x_convf u44 us3 rfl (fits_u64 (by omega) (by omega))) ?_
    refine o_call Try.func26 fn26 fb26 (ref02_Uint (kB bits) (by omega) _) rfl ?_
    rintro v11 w11 ⟨⟨qc, lc, cc, rfl, hC⟩, hE11⟩
    have hX := hX.ext hE11
    have hO := hO.ext hE11
    have hWz := hWz.ext hE11
    have hA := hA.ext hE11
    have hDl := hC.len
    have hD10 := lebU_len10 (n := kB bits) (by omega)
    have hq1 := hWz.size
    rw [← hBz] at hq1
    refine o_append (d := kByte) (lebU (kB bits)) u26 inf5 rfl kByte_pos rfl rfl hA (src_pure u26 hC.sl (by decide)) hC.len (byte_all _ _ _) (rfl) (by omega) (by omega) (by omega) (by omega) (by decide) ?_
    intro p83 c83 w12 hA hM12
    have hX := hX.mod hM12 (hXz)
    have hO := hO.modB hM12 (Nat.zero_le _) (by decide) hOlt
    have hWz := hWz.mod hM12 (Nat.le_of_eq hBz.symm)
    refine p1 (x_move (by conv => lhs; whnf)) ?_
    have hq1 := hWz.size
    rw [← hBz] at hq1
    refine o_append (d := kByte) (body (srt xs) seed (szB m1 (kB bits))) u26 inf5 rfl kByte_pos rfl rfl hA (src_pure u26 hO.sl (by decide)) (body_len _ _ _) (byte_all _ _ _) (rfl) (by omega) (by omega) (by omega) (by omega) (by decide) ?_
    intro p85 c85 w13 hA hM13
    have hX := hX.mod hM13 (hXz)
    have hWz := hWz.mod hM13 (Nat.le_of_eq hBz.symm)
    refine p1 (x_assign (by conv => lhs; whnf)) ?_
    refine r_nil ?_
    refine t_n ?_
    refine c_ret ?_
    refine end1 rfl (by conv => lhs; whnf) ?_
    have hA := hA.lower hXz
    exact ⟨⟨_, _, _, rfl, (by rw [← mkB_cat xs seed bits, hlm]; simpa using hA)⟩, hX⟩
end Go.Proofs.Eng
end
section
set_option linter.unusedVariables false
set_option linter.unusedSimpArgs false
set_option maxRecDepth 100000
set_option maxHeartbeats 4000000
namespace Go.Proofs.Eng
open Go.RowKit
open Extern.Stop (cell)
theorem fb10 : Try.f10.body.isNone = false := by kernel_rfl
theorem fb11 : Try.f11.body.isNone = false := by kernel_rfl
theorem fb12 : Try.f12.body.isNone = false := by kernel_rfl
theorem fb13 : Try.f13.body.isNone = false := by kernel_rfl
theorem fb14 : Try.f14.body.isNone = false := by kernel_rfl
theorem fb15 : Try.f15.body.isNone = false := by kernel_rfl
theorem fb16 : Try.f16.body.isNone = false := by kernel_rfl
theorem fb17 : Try.f17.body.isNone = false := by kernel_rfl
theorem fb18 : Try.f18.body.isNone = false := by kernel_rfl
theorem fb9 : Try.f9.body.isNone = false := by kernel_rfl
theorem fn10 : (Try.f10.name == "runtime.NumGoroutine") = false := by kernel_rfl
theorem fn11 : (Try.f11.name == "runtime.NumGoroutine") = false := by kernel_rfl
theorem fn12 : (Try.f12.name == "runtime.NumGoroutine") = false := by kernel_rfl
theorem fn13 : (Try.f13.name == "runtime.NumGoroutine") = false := by kernel_rfl
theorem fn14 : (Try.f14.name == "runtime.NumGoroutine") = false := by kernel_rfl
theorem fn15 : (Try.f15.name == "runtime.NumGoroutine") = false := by kernel_rfl
theorem fn16 : (Try.f16.name == "runtime.NumGoroutine") = false := by kernel_rfl
theorem fn17 : (Try.f17.name == "runtime.NumGoroutine") = false := by kernel_rfl
theorem fn18 : (Try.f18.name == "runtime.NumGoroutine") = false := by kernel_rfl
theorem fn9 : (Try.f9.name == "runtime.NumGoroutine") = false := by kernel_rfl
theorem u4 : Try.prog.underlying 4 = some (.bool) := by kernel_rfl
end Go.Proofs.Eng
end
section
set_option linter.unusedVariables false
set_option linter.unusedSimpArgs false
set_option maxRecDepth 100000
set_option maxHeartbeats 4000000
namespace Go.Proofs.Eng
open Go.RowKit
open Extern.Stop (cell)
theorem bdZero : Try.prog.built 29 [] = some (hv hZero) := by kernel_rfl
theorem mk_awake : mkB [hZero] 0 8 = [1, 0, 8, 1] := by
  have h1 : srt [hZero] = [hZero] := by decide +kernel
  have h2 : body [hZero] 0 (szB 1 (kB 8)) = [1] := by decide +kernel
  have h3 : kB 8 = 8 := by decide
  unfold mkB
  rw [h1]
  show lebU 1 ++ lebU 0 ++ lebU (kB 8) ++ body [hZero] 0 (szB 1 (kB 8)) = _
  rw [h2, h3, lebU_lt (by omega), lebU_lt (by omega), lebU_lt (by omega)]
  rfl
theorem check_nil : checkB [] = 4 := by decide +kernel
theorem drop_getD {α : Type} (z : α) {xs : List α} {i : Nat} (h : i < xs.length) : xs.drop i = xs.getD i z :: xs.drop (i + 1) := by
  rw [List.drop_eq_getElem_cons h, List.getD_eq_getElem?_getD, List.getElem?_eq_getElem h]; rfl
theorem law09_few (xs : List Hash) (B : Nat) (p : Option Addr) (n c : Nat) (w : World) (hl : Sl kHash 29 B w p n c xs) :
    Ret Try.prog 9 [.slice p n c] w (fun v w' => v = .bool (decide ((n : Int) ≤ 1000)) ∧ Ext w w') := by
  have hX := Ext.refl w
  refine enter 6 _ Try.func9 rfl rfl (Nat.le_of_ble_eq_true rfl) rfl ?_
  refine c_seq ?_
  refine r_plain ?_
  refine p1 (x_assign (by conv => lhs; whnf)) ?_
  refine r_nil ?_
  refine t_n ?_
  refine c_seq ?_
  refine r_plain ?_
  refine p1 (x_move (by conv => lhs; whnf)) ?_
  refine p1 (x_len_slice u22 rfl) ?_
  refine p1 (x_leq rfl rfl) ?_
  refine p1 (x_assign (by conv => lhs; whnf)) ?_
  refine r_nil ?_
  refine t_n ?_
  refine c_ret ?_
  refine end1 rfl (by conv => lhs; whnf) ?_
  exact ⟨rfl, hX⟩
theorem law09_awake (w : World) :
    Ret Try.prog 10 [] w (fun v w' => v = .bool true ∧ Ext w w') := by
  have hX := Ext.refl w
  refine enter 24 _ Try.func10 rfl rfl (Nat.le_of_ble_eq_true rfl) rfl ?_
  refine c_seq ?_
  refine r_plain ?_
  refine p1 (x_assign (by conv => lhs; whnf)) ?_
  refine r_nil ?_
  refine t_n ?_
  refine c_seq ?_
  refine r_plain ?_
  refine p1 (x_buildC bdZero rfl) ?_
  have hXs := hX.size
  refine o_buildSlice u22 inf29 rfl (by decide) (fun base hb => fill_kn [.agg (hv hZero)] (by intro v hv'; simp only [List.mem_singleton] at hv'; subst hv'; rfl) base hb) ?_
  intro w1 g3 hN3
  have hE1 := hN3.ext
  have hX := hX.ext hE1
  have hI : Own kHash 29 0 w.heap.size w1 (some ⟨g3, 0, none⟩) 1 1 [hZero] := own_lit [hZero] hN3 hXs (by decide)
  refine o_call Try.func11 fn11 fb11 (bloom_Make [hZero] 0 8 _ _ _ _ _ hI.sl (by decide) (by decide)) rfl ?_
  rintro v2 w2 ⟨⟨q, l, c1, rfl, hO⟩, hE2⟩
  have hX := hX.ext hE2
  have hI := hI.ext hE2
  obtain ⟨ha1, ha2, ha3⟩ := mk_never [hZero] 0 8 (by decide) (by decide +kernel)
  have hOs := hO.len
  rw [mk_awake] at hOs
  have hle : l ≤ 140737490000000 := by rw [← hOs]; decide
  refine p1 (x_assign (by conv => lhs; whnf)) ?_
  refine r_nil ?_
  refine t_n ?_
  refine c_seq ?_
  refine r_plain ?_
  refine p1 (x_move (by conv => lhs; whnf)) ?_
  refine p1 (x_bytes_str u26 u5 u9 rfl hO.sl) ?_
  refine p1 ((x_eql_str rfl rfl).cast (congrArg _ (decide_eq_true (congrArg toStr mk_awake)))) ?_
  refine p1 (x_move (by conv => lhs; whnf)) ?_
  refine g1 8 rfl rfl (x_move (by conv => lhs; whnf)) ?_
  refine g1 8 rfl rfl (x_buildC bdZero rfl) ?_
  refine g_drop 8 rfl rfl ?_
  refine o_call Try.func17 fn17 fb17 ((bloom_Has hZero _ _ _ _ _ _ hO.sl hle (Nat.zero_le _)).known (c := .bool true) (congrArg Value.bool (ha3 hZero (by simp)))) rfl ?_
  rintro v3 w3 ⟨rfl, hE3⟩
  have hX := hX.ext hE3
  have hI := hI.ext hE3
  have hO := hO.ext hE3
  refine p1 (x_pick_t rfl (by conv => lhs; whnf)) ?_
  refine p1 (x_move (by conv => lhs; whnf)) ?_
  refine g1 13 rfl rfl (x_move (by conv => lhs; whnf)) ?_
  refine g_drop 13 rfl rfl ?_
  refine o_call Try.func15 fn15 fb15 (bloom_Many _ _ _ _ _ _ hO.sl hle) rfl ?_
  rintro v4 w4 ⟨rfl, hE4⟩
  have hX := hX.ext hE4
  have hI := hI.ext hE4
  have hO := hO.ext hE4
  refine g1 13 rfl rfl ((x_eql rfl rfl).cast (congrArg _ (decide_eq_true (by rw [ha2]; decide +kernel)))) ?_
  refine p1 (x_pick_t rfl (by conv => lhs; whnf)) ?_
  refine p1 (x_move (by conv => lhs; whnf)) ?_
  refine g_drop 18 rfl rfl ?_
  refine o_call Try.func13 fn13 fb13 (bloom_Check [] 0 none 0 0 _ (Sl.nil _ _ _ _ _ _ (by decide)) (by decide)) rfl ?_
  rintro v5 w5 ⟨rfl, hE5⟩
  have hX := hX.ext hE5
  have hI := hI.ext hE5
  have hO := hO.ext hE5
  refine g1 18 rfl rfl ((x_eql rfl rfl).cast (congrArg _ (decide_eq_true check_nil))) ?_
  refine p1 (x_pick_t rfl (by conv => lhs; whnf)) ?_
  refine p1 (x_move (by conv => lhs; whnf)) ?_
  refine p1 (x_pick_t rfl (by conv => lhs; whnf)) ?_
  refine p1 (x_assign (by conv => lhs; whnf)) ?_
  refine r_nil ?_
  refine t_n ?_
  refine c_ret ?_
  refine end1 rfl (by conv => lhs; whnf) ?_
  exact ⟨rfl, hX⟩
theorem law_BloomChecks (xs : List UInt8) (p : Option Addr) (n c : Nat) (w : World) (hl : Sl kByte 5 w.heap.size w p n c xs) (hs : n ≤ 140737490000000) :
    Ret Try.prog 4 [.slice p n c] w (fun v w' => v = .bool true ∧ Ext w w') := by
  have hX := Ext.refl w
  refine enter 18 _ Try.func4 rfl rfl (Nat.le_of_ble_eq_true rfl) rfl ?_
  refine c_seq ?_
  refine r_plain ?_
  refine p1 (x_assign (by conv => lhs; whnf)) ?_
  refine r_nil ?_
  refine t_n ?_
  refine c_seq ?_
  refine r_plain ?_
  refine p1 (x_move (by conv => lhs; whnf)) ?_
  refine o_call Try.func13 fn13 fb13 (bloom_Check xs _ _ _ _ _ (hl.ext hX) hs) rfl ?_
  rintro v1 w1 ⟨rfl, hE1⟩
  have hX := hX.ext hE1
  refine p1 (x_move (by conv => lhs; whnf)) ?_
  refine o_call Try.func14 fn14 fb14 (ref09_Check xs _ _ _ _ _ (hl.ext hX) hs hX.size) rfl ?_
  rintro v2 w2 ⟨rfl, hE2⟩
  have hX := hX.ext hE2
  refine p1 ((x_eql rfl rfl).cast (congrArg _ (decide_eq_true rfl))) ?_
  refine p1 (x_move (by conv => lhs; whnf)) ?_
  refine g1 8 rfl rfl (x_move (by conv => lhs; whnf)) ?_
  refine g_drop 8 rfl rfl ?_
  refine o_call Try.func15 fn15 fb15 (bloom_Many xs _ _ _ _ _ (hl.ext hX) hs) rfl ?_
  rintro v3 w3 ⟨rfl, hE3⟩
  have hX := hX.ext hE3
  refine g1 8 rfl rfl (x_move (by conv => lhs; whnf)) ?_
  refine g_drop 8 rfl rfl ?_
  refine o_call Try.func16 fn16 fb16 (ref09_Many xs _ _ _ _ _ (hl.ext hX) hs hX.size) rfl ?_
  rintro v4 w4 ⟨rfl, hE4⟩
  have hX := hX.ext hE4
  refine g1 8 rfl rfl ((x_eql rfl rfl).cast (congrArg _ (decide_eq_true rfl))) ?_
  refine p1 (x_pick_t rfl (by conv => lhs; whnf)) ?_
  refine p1 (x_move (by conv => lhs; whnf)) ?_
  refine g_drop 15 rfl rfl ?_
  refine o_call Try.func10 fn10 fb10 (law09_awake _) rfl ?_
  rintro v5 w5 ⟨rfl, hE5⟩
  have hX := hX.ext hE5
  refine p1 (x_pick_t rfl (by conv => lhs; whnf)) ?_
  refine p1 (x_assign (by conv => lhs; whnf)) ?_
  refine r_nil ?_
  refine t_n ?_
  refine c_ret ?_
  refine end1 rfl (by conv => lhs; whnf) ?_
  exact ⟨rfl, hX⟩
theorem law_BloomMakes (xs : List Hash) (p : Option Addr) (n c : Nat) (seed : Nat) (bits : Int) (w : World) (hse : seed < 4294967296) (ha : Sl kHash 29 w.heap.size w p n c xs) :
    Ret Try.prog 3 [.slice p n c, .int .u32 (seed : Int), .int .i64 bits] w (fun v w' => v = .bool true ∧ Ext w w') := by
  have hX := Ext.refl w
  refine enter 47 _ Try.func3 rfl rfl (Nat.le_of_ble_eq_true rfl) rfl ?_
  refine c_seq ?_
  refine r_plain ?_
  refine p1 (x_assign (by conv => lhs; whnf)) ?_
  refine r_nil ?_
  refine t_n ?_
  refine c_seq ?_
  refine c_seq ?_
  refine r_plain ?_
  refine p1 (x_move (by conv => lhs; whnf)) ?_
  refine o_call Try.func9 fn9 fb9 (law09_few xs _ _ _ _ _ (ha.ext hX)) rfl ?_
  rintro v1 w1 ⟨rfl, hE1⟩
  have hX := hX.ext hE1
  first | refine p1 (x_notd rfl) ?_ | refine p1 (x_not rfl) ?_
  refine r_nil ?_
  refine t_n ?_
  first | refine c_dec rfl (fun hc12 => ?_) (fun hc12 => ?_) | refine c_if rfl (fun hc12 => ?_) (fun hc12 => ?_)
  · try simp only [decide_eq_true_eq, decide_eq_false_iff_not, Bool.not_eq_true, Bool.not_eq_false, Bool.not_eq_eq_eq_not, Bool.not_true, Bool.not_false, Int.not_lt, Int.not_le] at hc12
    refine c_seq ?_
    refine r_plain ?_
    refine o_call Try.func10 fn10 fb10 (law09_awake _) rfl ?_
    rintro v2 w2 ⟨rfl, hE2⟩
    have hX := hX.ext hE2
    refine p1 (x_assign (by conv => lhs; whnf)) ?_
    refine r_nil ?_
    refine t_n ?_
    refine c_ret ?_
    refine t_r ?_
    refine end1 rfl (by conv => lhs; whnf) ?_
    exact ⟨rfl, hX⟩
  · try simp only [decide_eq_true_eq, decide_eq_false_iff_not, Bool.not_eq_true, Bool.not_eq_false, Bool.not_eq_eq_eq_not, Bool.not_true, Bool.not_false, Int.not_lt, Int.not_le] at hc12
    refine c_skip ?_
    refine t_n ?_
    refine c_seq ?_
    refine r_plain ?_
    have hXs := hX.size
    have hlen := ha.len
    have hfit := ha.fit
    have hcap := ha.cap
    refine o_buildSlice u22 inf29 rfl (by decide) (fun base hb => by have h0 : base = #[] := Array.eq_empty_of_size_eq_zero (by simpa using hb); subst h0; rfl) ?_
    intro w3 g14 hN14
    have hE3 := hN14.ext
    have hX := hX.ext hE3
    have hO : Own kHash 29 0 w.heap.size w3 (some ⟨g14, 0, none⟩) 0 0 [] := Own.made kHash 29 0 _ hN14 [] [] 0 0 rfl trivial hXs (by omega) (by omega) (by rfl) (by simp)
    refine p1 (x_move (by conv => lhs; whnf)) ?_
    have hB0 := hX.size
    have hl2 := ha.ext hX
    refine o_append (d := kHash) (xs) u22 inf29 rfl kHash_pos rfl rfl hO (src_pure u22 hl2 (by decide)) ha.len (hash_all _ _ _) (rfl) (by omega) (by omega) (by omega) (by omega) (by decide) ?_
    intro p16 c16 w4 hO hM4
    have hX := hX.mod hM4 (Nat.le_refl _)
    rw [List.nil_append] at hO
    refine p1 (x_assign (by conv => lhs; whnf)) ?_
    refine r_nil ?_
    refine t_n ?_
    refine c_seq ?_
    refine r_plain ?_
    refine p1 (x_move (by conv => lhs; whnf)) ?_
    refine p1 (x_move (by conv => lhs; whnf)) ?_
    refine p1 (x_move (by conv => lhs; whnf)) ?_
    refine o_call Try.func11 fn11 fb11 (bloom_Make xs seed bits _ _ _ _ _ hO.sl (by omega) hse) rfl ?_
    rintro v5 w5 ⟨⟨qz, lz, cz, rfl, hZ⟩, hE5⟩
    have hX := hX.ext hE5
    have hO := hO.ext hE5
    refine p1 (x_assign (by conv => lhs; whnf)) ?_
    refine r_nil ?_
    refine t_n ?_
    refine c_seq ?_
    refine c_seq ?_
    refine r_plain ?_
    refine p1 (x_assign (by conv => lhs; whnf)) ?_
    refine r_nil ?_
    refine t_n ?_
    refine c_block ?_
    have hWL0 := Ext.refl w5
    refine c_loop (ι := Nat) [6, 9, 21, 22, 23, 24, 25, 26, 27, 28, 29, 30, 31, 32, 33, 34, 35] (fun k => [(9, .int .i64 (k : Int))]) (fun k w' => Ext w5 w' ∧ (k ≤ n)) (fun k => n - k) (0) ⟨rfl, trivial⟩ ⟨Ext.refl _, by omega⟩ ?_
    rintro k GL0 w6 ⟨hE6, hk⟩
    have hX := hX.ext hE6
    have hO := hO.ext hE6
    have hZ := hZ.ext hE6
    have hWL0 := hE6
    refine c_seq ?_
    refine c_seq ?_
    refine r_plain ?_
    refine p1 (x_move (by conv => lhs; whnf)) ?_
    refine p1 (x_move (by conv => lhs; whnf)) ?_
    refine p1 (x_len_slice u22 rfl) ?_
    refine p1 (x_lss rfl rfl) ?_
    refine r_nil ?_
    refine t_n ?_
    first | refine c_dec rfl (fun hc24 => ?_) (fun hc24 => ?_) | refine c_if rfl (fun hc24 => ?_) (fun hc24 => ?_)
    · try simp only [decide_eq_true_eq, decide_eq_false_iff_not, Bool.not_eq_true, Bool.not_eq_false, Bool.not_eq_eq_eq_not, Bool.not_true, Bool.not_false, Int.not_lt, Int.not_le] at hc24
      refine c_skip ?_
      refine t_n ?_
      refine c_seq ?_
      refine c_block ?_
      refine c_seq ?_
      refine r_still mixed (by kernel_rfl) ?_
      intro w7 hE7
      have hX := hX.ext hE7
      have hO := hO.ext hE7
      have hZ := hZ.ext hE7
      have hWL0 := hWL0.ext hE7
      refine s1 (x_move (by conv => lhs; whnf)) ?_
      refine s1 (x_move (by conv => lhs; whnf)) ?_
      refine s1 (x_ixs u22 sz29 rfl rfl (hO.sl.adr kHash_pos (by omega)) (by omega) (by omega)) ?_
      refine s1 (x_loadN ua29 rfl (hcs_sz sz29 _) (hO.sl.hashAt _ (by omega) (by omega))) ?_
      refine s1 (x_move (by conv => lhs; whnf)) ?_
      refine s1 (x_move (by conv => lhs; whnf)) ?_
      refine s1 (x_ixs u22 sz29 rfl rfl ((ha.ext hX).adr kHash_pos (by omega)) (by omega) (by omega)) ?_
      refine s1 (x_loadN ua29 rfl (hcs_sz sz29 _) ((ha.ext hX).hashAt _ (by omega) (by omega))) ?_
      refine s1 ((x_neq_bytes u29 u5 sz5 eg29 rfl rfl (xs.getD _ default).2 (xs.getD _ default).2).cast (congrArg _ (decide_eq_false (fun h => h rfl)))) ?_
      refine s_nil ?_
      refine t_n ?_
      refine c_f rfl ?_
      refine c_skip ?_
      refine b_n ?_
      refine t_n ?_
      refine r_plain ?_
      refine p1 (x_move (by conv => lhs; whnf)) ?_
      refine p1 (x_add rfl rfl (fits_i64 (by omega) (by omega))) ?_
      refine p1 (x_assign (by conv => lhs; whnf)) ?_
      refine r_nil ?_
      refine t_n (At.mk (k + 1) (by repeat (first | exact Agr.refl _ _ | exact Agr.hav _ _ _ | refine Agr.upd rfl ?_ | refine Agr.updR rfl ?_ | refine Agr.updL ?_ _ rfl | refine Agr.hav' rfl ?_)) ⟨rfl, trivial⟩ ?_)
      exact ⟨⟨hWL0, by omega⟩, by first | (dsimp only; omega) | ((show _ < _); omega)⟩
    · try simp only [decide_eq_true_eq, decide_eq_false_iff_not, Bool.not_eq_true, Bool.not_eq_false, Bool.not_eq_eq_eq_not, Bool.not_true, Bool.not_false, Int.not_lt, Int.not_le] at hc24
      refine c_exit ?_
      refine t_e ?_
      refine t_e ?_
      refine b_hit ?_
      refine t_n ?_
      refine c_seq ?_
      refine r_held (fun w1 w2 => Ext w1 w2) mixed ?_
      intro w8 hE8
      have hX := hX.ext hE8
      have hO := hO.ext hE8
      have hZ := hZ.ext hE8
      have hSr10 : (fun w1 w2 => Ext w1 w2) w8 w8 := Ext.refl w8
      refine h_take 0 rfl (by kernel_rfl) (by kernel_rfl) (by kernel_rfl) hSr10 (fun wS hSS => by (have hX := hX.ext hSS; have hO := hO.ext hSS; have hZ := hZ.ext hSS; exact (x_move (by conv => lhs; whnf)))) ?_
      refine h_take 1 rfl (by kernel_rfl) (by kernel_rfl) (by kernel_rfl) hSr10 (fun wS hSS => by (have hX := hX.ext hSS; have hO := hO.ext hSS; have hZ := hZ.ext hSS; exact (x_bytes_str u26 u5 u9 rfl hZ.sl))) ?_
      refine h_take 2 rfl (by kernel_rfl) (by kernel_rfl) (by kernel_rfl) hSr10 (fun wS hSS => by (have hX := hX.ext hSS; have hO := hO.ext hSS; have hZ := hZ.ext hSS; exact (x_move (by conv => lhs; whnf)))) ?_
      refine h_take 3 rfl (by kernel_rfl) (by kernel_rfl) (by kernel_rfl) hSr10 (fun wS hSS => by (have hX := hX.ext hSS; have hO := hO.ext hSS; have hZ := hZ.ext hSS; exact (x_move (by conv => lhs; whnf)))) ?_
      refine h_take 4 rfl (by kernel_rfl) (by kernel_rfl) (by kernel_rfl) hSr10 (fun wS hSS => by (have hX := hX.ext hSS; have hO := hO.ext hSS; have hZ := hZ.ext hSS; exact (x_move (by conv => lhs; whnf)))) ?_
      refine h_one 5 _ rfl (by kernel_rfl) (hop_of_list (fun Q5 hQ5 => ?_))
      refine o_call Try.func12 fn12 fb12 (ref09_Make xs seed bits _ _ _ _ _ (ha.ext hX) (by omega) hse hX.size) rfl ?_
      rintro v9 w9 ⟨⟨qy, ly, cy, rfl, hY⟩, hE9⟩
      have hX := hX.ext hE9
      have hO := hO.ext hE9
      have hZ := hZ.ext hE9
      have hSr10 := hSr10.ext hE9
      refine hop_end hQ5 ⟨hSr10, ?_⟩
      refine h_one 6 _ rfl (by kernel_rfl) (hop_of_list (fun Q6 hQ6 => ?_))
      refine p1 (x_bytes_str u26 u5 u9 rfl hY.sl) ?_
      refine hop_end hQ6 ⟨hSr10, ?_⟩
      refine h_take 7 rfl (by kernel_rfl) (by kernel_rfl) (by kernel_rfl) hSr10 (fun wS hSS => by ( exact ((x_eql_str rfl rfl).cast (congrArg _ (decide_eq_true rfl))))) ?_
      refine h_take 8 rfl (by kernel_rfl) (by kernel_rfl) (by kernel_rfl) hSr10 (fun wS hSS => by ( exact (x_move (by conv => lhs; whnf)))) ?_
      refine h_one 9 _ rfl (by kernel_rfl) (hop_of_list (fun Q9 hQ9 => ?_))
      refine g_drop 44 rfl rfl ?_
      refine o_call Try.func10 fn10 fb10 (law09_awake _) rfl ?_
      rintro v10 w10 ⟨rfl, hE10⟩
      have hX := hX.ext hE10
      have hO := hO.ext hE10
      have hZ := hZ.ext hE10
      have hSr10 := hSr10.ext hE10
      have hY := hY.ext hE10
      refine hop_end hQ9 ⟨hSr10, ?_⟩
      refine h_take 10 rfl (by kernel_rfl) (by kernel_rfl) (by kernel_rfl) hSr10 (fun wS hSS => by ( exact (x_pick_t rfl (by conv => lhs; whnf)))) ?_
      refine h_take 11 rfl (by kernel_rfl) (by kernel_rfl) (by kernel_rfl) hSr10 (fun wS hSS => by ( exact (x_assign (by conv => lhs; whnf)))) ?_
      refine h_done (by kernel_rfl) ?_
      refine t_n ?_
      refine c_ret ?_
      refine end1 rfl (by conv => lhs; whnf) ?_
      exact ⟨rfl, hX⟩
theorem law_BloomHas (ys : List UInt8) (p2 : Option Addr) (n2 c2 : Nat) (h : Hash) (xs : List Hash) (p : Option Addr) (n c : Nat) (w : World) (ha : Sl kHash 29 w.heap.size w p n c xs) (hb : Sl kByte 5 w.heap.size w p2 n2 c2 ys) (hs2 : n2 ≤ 140737490000000) :
    Ret Try.prog 5 [.slice p2 n2 c2, .slice p n c, .agg (hv h)] w (fun v w' => v = .bool true ∧ Ext w w') := by
  have hX := Ext.refl w
  refine enter 33 _ Try.func5 rfl rfl (Nat.le_of_ble_eq_true rfl) rfl ?_
  refine c_seq ?_
  refine r_plain ?_
  refine o_boxA (by conv => lhs; whnf) ?_
  intro w1 g5 hN5
  have hE1 := hN5.ext
  have hX := hX.ext hE1
  have hB5 := hN5.blk
  refine p1 (x_assign (by conv => lhs; whnf)) ?_
  refine r_nil ?_
  refine t_n ?_
  refine c_seq ?_
  refine c_seq ?_
  refine r_plain ?_
  refine p1 (x_move (by conv => lhs; whnf)) ?_
  refine o_call Try.func9 fn9 fb9 (law09_few xs _ _ _ _ _ (ha.ext hX)) rfl ?_
  rintro v2 w2 ⟨rfl, hE2⟩
  have hX := hX.ext hE2
  have hB5 := hB5.ext hE2
  first | refine p1 (x_notd rfl) ?_ | refine p1 (x_not rfl) ?_
  refine r_nil ?_
  refine t_n ?_
  first | refine c_dec rfl (fun hc10 => ?_) (fun hc10 => ?_) | refine c_if rfl (fun hc10 => ?_) (fun hc10 => ?_)
  · try simp only [decide_eq_true_eq, decide_eq_false_iff_not, Bool.not_eq_true, Bool.not_eq_false, Bool.not_eq_eq_eq_not, Bool.not_true, Bool.not_false, Int.not_lt, Int.not_le] at hc10
    refine c_seq ?_
    refine r_plain ?_
    refine o_call Try.func10 fn10 fb10 (law09_awake _) rfl ?_
    rintro v3 w3 ⟨rfl, hE3⟩
    have hX := hX.ext hE3
    have hB5 := hB5.ext hE3
    refine p1 (x_assign (by conv => lhs; whnf)) ?_
    refine r_nil ?_
    refine t_n ?_
    refine c_ret ?_
    refine t_r ?_
    refine end1 rfl (by conv => lhs; whnf) ?_
    exact ⟨rfl, hX⟩
  · try simp only [decide_eq_true_eq, decide_eq_false_iff_not, Bool.not_eq_true, Bool.not_eq_false, Bool.not_eq_eq_eq_not, Bool.not_true, Bool.not_false, Int.not_lt, Int.not_le] at hc10
    refine c_skip ?_
    refine t_n ?_
    refine c_seq ?_
    refine r_plain ?_
    refine p1 (x_move (by conv => lhs; whnf)) ?_
    refine o_call Try.func12 fn12 fb12 (ref09_Make xs 7 6 _ _ _ _ _ (ha.ext hX) (by omega) (by decide) hX.size) rfl ?_
    rintro v4 w4 ⟨⟨qz, lz, cz, rfl, hZ⟩, hE4⟩
    have hX := hX.ext hE4
    have hB5 := hB5.ext hE4
    have hZl := hZ.len
    have hsl := srt_len xs
    have hxl := ha.len
    have hmk := mkB_len xs 7 6 (by decide) (by omega)
    refine p1 (x_assign (by conv => lhs; whnf)) ?_
    refine r_nil ?_
    refine t_n ?_
    refine c_seq ?_
    refine r_held (fun w1 w2 => Ext w1 w2) mixed ?_
    intro w5 hE5
    have hX := hX.ext hE5
    have hB5 := hB5.ext hE5
    have hZ := hZ.ext hE5
    have hSr4 : (fun w1 w2 => Ext w1 w2) w5 w5 := Ext.refl w5
    refine h_take 0 rfl (by kernel_rfl) (by kernel_rfl) (by kernel_rfl) hSr4 (fun wS hSS => by (have hX := hX.ext hSS; have hB5 := hB5.ext hSS; have hZ := hZ.ext hSS; exact (x_move (by conv => lhs; whnf)))) ?_
    refine h_take 1 rfl (by kernel_rfl) (by kernel_rfl) (by kernel_rfl) hSr4 (fun wS hSS => by (have hX := hX.ext hSS; have hB5 := hB5.ext hSS; have hZ := hZ.ext hSS; exact (x_loadB ua29 rfl hB5 (hv_sz sz29 h)))) ?_
    refine h_take 3 rfl (by kernel_rfl) (by kernel_rfl) (by kernel_rfl) hSr4 (fun wS hSS => by (have hX := hX.ext hSS; have hB5 := hB5.ext hSS; have hZ := hZ.ext hSS; exact (x_move (by conv => lhs; whnf)))) ?_
    refine h_take 4 rfl (by kernel_rfl) (by kernel_rfl) (by kernel_rfl) hSr4 (fun wS hSS => by (have hX := hX.ext hSS; have hB5 := hB5.ext hSS; have hZ := hZ.ext hSS; exact (x_loadB ua29 rfl hB5 (hv_sz sz29 h)))) ?_
    refine h_one 2 _ rfl (by kernel_rfl) (hop_of_list (fun Q2 hQ2 => ?_))
    refine o_call Try.func17 fn17 fb17 (bloom_Has h ys _ _ _ _ _ (hb.ext hX) hs2 hX.size) rfl ?_
    rintro v6 w6 ⟨rfl, hE6⟩
    have hX := hX.ext hE6
    have hB5 := hB5.ext hE6
    have hZ := hZ.ext hE6
    have hSr4 := hSr4.ext hE6
    refine hop_end hQ2 ⟨hSr4, ?_⟩
    refine h_one 5 _ rfl (by kernel_rfl) (hop_of_list (fun Q5 hQ5 => ?_))
    refine o_call Try.func18 fn18 fb18 (ref09_Has h ys _ _ _ _ _ (hb.ext hX) hs2 hX.size) rfl ?_
    rintro v7 w7 ⟨rfl, hE7⟩
    have hX := hX.ext hE7
    have hB5 := hB5.ext hE7
    have hZ := hZ.ext hE7
    have hSr4 := hSr4.ext hE7
    refine hop_end hQ5 ⟨hSr4, ?_⟩
    refine h_take 6 rfl (by kernel_rfl) (by kernel_rfl) (by kernel_rfl) hSr4 (fun wS hSS => by ( exact ((x_eql_bool u4 rfl rfl).cast (congrArg _ (decide_eq_true rfl))))) ?_
    refine h_take 7 rfl (by kernel_rfl) (by kernel_rfl) (by kernel_rfl) hSr4 (fun wS hSS => by ( exact (x_move (by conv => lhs; whnf)))) ?_
    refine h_takeg 8 21 rfl rfl rfl (by kernel_rfl) (by kernel_rfl) (by kernel_rfl) hSr4 (fun wS hSS => by ( exact (x_move (by conv => lhs; whnf)))) ?_
    refine h_takeg 11 21 rfl rfl rfl (by kernel_rfl) (by kernel_rfl) (by kernel_rfl) hSr4 (fun wS hSS => by ( exact (x_move (by conv => lhs; whnf)))) ?_
    refine h_two 9 12 _ _ rfl rfl (by kernel_rfl) (hop_of_list (fun Q9 hQ9 => ?_)) (hop_of_list (fun Q12 hQ12 => ?_))
    · skip
      refine g1 21 rfl rfl (x_loadB ua29 rfl hB5 (hv_sz sz29 h)) ?_
      refine hop_end hQ9 ⟨hSr4, ?_⟩
      refine h_two 10 12 _ _ rfl rfl (by kernel_rfl) (hop_of_list (fun Q10 hQ10 => ?_)) (hop_of_list (fun Q12 hQ12 => ?_))
      · skip
        refine g_drop 21 rfl rfl ?_
        refine o_call Try.func17 fn17 fb17 (bloom_Has h _ _ _ _ _ _ hZ.sl (by omega) (Nat.zero_le _)) rfl ?_
        rintro v8 w8 ⟨rfl, hE8⟩
        have hX := hX.ext hE8
        have hB5 := hB5.ext hE8
        have hZ := hZ.ext hE8
        have hSr4 := hSr4.ext hE8
        refine hop_end hQ10 ⟨hSr4, ?_⟩
        refine h_one 12 _ rfl (by kernel_rfl) (hop_of_list (fun Q12 hQ12 => ?_))
        refine g1 21 rfl rfl (x_loadB ua29 rfl hB5 (hv_sz sz29 h)) ?_
        refine hop_end hQ12 ⟨hSr4, ?_⟩
        refine h_one 13 _ rfl (by kernel_rfl) (hop_of_list (fun Q13 hQ13 => ?_))
        refine g_drop 21 rfl rfl ?_
        refine o_call Try.func18 fn18 fb18 (ref09_Has h _ _ _ _ _ _ hZ.sl (by omega) (Nat.zero_le _)) rfl ?_
        rintro v9 w9 ⟨rfl, hE9⟩
        have hX := hX.ext hE9
        have hB5 := hB5.ext hE9
        have hZ := hZ.ext hE9
        have hSr4 := hSr4.ext hE9
        refine hop_end hQ13 ⟨hSr4, ?_⟩
        refine h_takeg 14 21 rfl rfl rfl (by kernel_rfl) (by kernel_rfl) (by kernel_rfl) hSr4 (fun wS hSS => by ( exact ((x_eql_bool u4 rfl rfl).cast (congrArg _ (decide_eq_true rfl))))) ?_
        refine h_take 15 rfl (by kernel_rfl) (by kernel_rfl) (by kernel_rfl) hSr4 (fun wS hSS => by ( exact (x_pick_t rfl (by conv => lhs; whnf)))) ?_
        refine h_take 16 rfl (by kernel_rfl) (by kernel_rfl) (by kernel_rfl) hSr4 (fun wS hSS => by ( exact (x_move (by conv => lhs; whnf)))) ?_
        refine h_one 17 _ rfl (by kernel_rfl) (hop_of_list (fun Q17 hQ17 => ?_))
        refine g_drop 30 rfl rfl ?_
        refine o_call Try.func10 fn10 fb10 (law09_awake _) rfl ?_
        rintro v10 w10 ⟨rfl, hE10⟩
        have hX := hX.ext hE10
        have hB5 := hB5.ext hE10
        have hZ := hZ.ext hE10
        have hSr4 := hSr4.ext hE10
        refine hop_end hQ17 ⟨hSr4, ?_⟩
        refine h_take 18 rfl (by kernel_rfl) (by kernel_rfl) (by kernel_rfl) hSr4 (fun wS hSS => by ( exact (x_pick_t rfl (by conv => lhs; whnf)))) ?_
        refine h_take 19 rfl (by kernel_rfl) (by kernel_rfl) (by kernel_rfl) hSr4 (fun wS hSS => by ( exact (x_assign (by conv => lhs; whnf)))) ?_
        refine h_done (by kernel_rfl) ?_
        refine t_n ?_
        refine c_ret ?_
        refine end1 rfl (by conv => lhs; whnf) ?_
        exact ⟨rfl, hX⟩
      · skip
        refine g1 21 rfl rfl (x_loadB ua29 rfl hB5 (hv_sz sz29 h)) ?_
        refine hop_end hQ12 ⟨hSr4, ?_⟩
        refine h_one 10 _ rfl (by kernel_rfl) (hop_of_list (fun Q10 hQ10 => ?_))
        refine g_drop 21 rfl rfl ?_
        refine o_call Try.func17 fn17 fb17 (bloom_Has h _ _ _ _ _ _ hZ.sl (by omega) (Nat.zero_le _)) rfl ?_
        rintro v11 w11 ⟨rfl, hE11⟩
        have hX := hX.ext hE11
        have hB5 := hB5.ext hE11
        have hZ := hZ.ext hE11
        have hSr4 := hSr4.ext hE11
        refine hop_end hQ10 ⟨hSr4, ?_⟩
        refine h_one 13 _ rfl (by kernel_rfl) (hop_of_list (fun Q13 hQ13 => ?_))
        refine g_drop 21 rfl rfl ?_
        refine o_call Try.func18 fn18 fb18 (ref09_Has h _ _ _ _ _ _ hZ.sl (by omega) (Nat.zero_le _)) rfl ?_
        rintro v12 w12 ⟨rfl, hE12⟩
        have hX := hX.ext hE12
        have hB5 := hB5.ext hE12
        have hZ := hZ.ext hE12
        have hSr4 := hSr4.ext hE12
        refine hop_end hQ13 ⟨hSr4, ?_⟩
        refine h_takeg 14 21 rfl rfl rfl (by kernel_rfl) (by kernel_rfl) (by kernel_rfl) hSr4 (fun wS hSS => by ( exact ((x_eql_bool u4 rfl rfl).cast (congrArg _ (decide_eq_true rfl))))) ?_
        refine h_take 15 rfl (by kernel_rfl) (by kernel_rfl) (by kernel_rfl) hSr4 (fun wS hSS => by ( exact (x_pick_t rfl (by conv => lhs; whnf)))) ?_
        refine h_take 16 rfl (by kernel_rfl) (by kernel_rfl) (by kernel_rfl) hSr4 (fun wS hSS => by ( exact (x_move (by conv => lhs; whnf)))) ?_
        refine h_one 17 _ rfl (by kernel_rfl) (hop_of_list (fun Q17 hQ17 => ?_))
        refine g_drop 30 rfl rfl ?_
        refine o_call Try.func10 fn10 fb10 (law09_awake _) rfl ?_
        rintro v13 w13 ⟨rfl, hE13⟩
        have hX := hX.ext hE13
        have hB5 := hB5.ext hE13
        have hZ := hZ.ext hE13
        have hSr4 := hSr4.ext hE13
        refine hop_end hQ17 ⟨hSr4, ?_⟩
        refine h_take 18 rfl (by kernel_rfl) (by kernel_rfl) (by kernel_rfl) hSr4 (fun wS hSS => by ( exact (x_pick_t rfl (by conv => lhs; whnf)))) ?_
        refine h_take 19 rfl (by kernel_rfl) (by kernel_rfl) (by kernel_rfl) hSr4 (fun wS hSS => by ( exact (x_assign (by conv => lhs; whnf)))) ?_
        refine h_done (by kernel_rfl) ?_
        refine t_n ?_
        refine c_ret ?_
        refine end1 rfl (by conv => lhs; whnf) ?_
        exact ⟨rfl, hX⟩
    · skip
      refine g1 21 rfl rfl (x_loadB ua29 rfl hB5 (hv_sz sz29 h)) ?_
      refine hop_end hQ12 ⟨hSr4, ?_⟩
      refine h_one 9 _ rfl (by kernel_rfl) (hop_of_list (fun Q9 hQ9 => ?_))
      refine g1 21 rfl rfl (x_loadB ua29 rfl hB5 (hv_sz sz29 h)) ?_
      refine hop_end hQ9 ⟨hSr4, ?_⟩
      refine h_one 10 _ rfl (by kernel_rfl) (hop_of_list (fun Q10 hQ10 => ?_))
      refine g_drop 21 rfl rfl ?_
      refine o_call Try.func17 fn17 fb17 (bloom_Has h _ _ _ _ _ _ hZ.sl (by omega) (Nat.zero_le _)) rfl ?_
      rintro v14 w14 ⟨rfl, hE14⟩
      have hX := hX.ext hE14
      have hB5 := hB5.ext hE14
      have hZ := hZ.ext hE14
      have hSr4 := hSr4.ext hE14
      refine hop_end hQ10 ⟨hSr4, ?_⟩
      refine h_one 13 _ rfl (by kernel_rfl) (hop_of_list (fun Q13 hQ13 => ?_))
      refine g_drop 21 rfl rfl ?_
      refine o_call Try.func18 fn18 fb18 (ref09_Has h _ _ _ _ _ _ hZ.sl (by omega) (Nat.zero_le _)) rfl ?_
      rintro v15 w15 ⟨rfl, hE15⟩
      have hX := hX.ext hE15
      have hB5 := hB5.ext hE15
      have hZ := hZ.ext hE15
      have hSr4 := hSr4.ext hE15
      refine hop_end hQ13 ⟨hSr4, ?_⟩
      refine h_takeg 14 21 rfl rfl rfl (by kernel_rfl) (by kernel_rfl) (by kernel_rfl) hSr4 (fun wS hSS => by ( exact ((x_eql_bool u4 rfl rfl).cast (congrArg _ (decide_eq_true rfl))))) ?_
      refine h_take 15 rfl (by kernel_rfl) (by kernel_rfl) (by kernel_rfl) hSr4 (fun wS hSS => by ( exact (x_pick_t rfl (by conv => lhs; whnf)))) ?_
      refine h_take 16 rfl (by kernel_rfl) (by kernel_rfl) (by kernel_rfl) hSr4 (fun wS hSS => by ( exact (x_move (by conv => lhs; whnf)))) ?_
      refine h_one 17 _ rfl (by kernel_rfl) (hop_of_list (fun Q17 hQ17 => ?_))
      refine g_drop 30 rfl rfl ?_
      refine o_call Try.func10 fn10 fb10 (law09_awake _) rfl ?_
      rintro v16 w16 ⟨rfl, hE16⟩
      have hX := hX.ext hE16
      have hB5 := hB5.ext hE16
      have hZ := hZ.ext hE16
      have hSr4 := hSr4.ext hE16
      refine hop_end hQ17 ⟨hSr4, ?_⟩
      refine h_take 18 rfl (by kernel_rfl) (by kernel_rfl) (by kernel_rfl) hSr4 (fun wS hSS => by ( exact (x_pick_t rfl (by conv => lhs; whnf)))) ?_
      refine h_take 19 rfl (by kernel_rfl) (by kernel_rfl) (by kernel_rfl) hSr4 (fun wS hSS => by ( exact (x_assign (by conv => lhs; whnf)))) ?_
      refine h_done (by kernel_rfl) ?_
      refine t_n ?_
      refine c_ret ?_
      refine end1 rfl (by conv => lhs; whnf) ?_
      exact ⟨rfl, hX⟩
theorem law_BloomNever (xs : List Hash) (p : Option Addr) (n c : Nat) (seed : Nat) (bits : Int) (w : World) (hse : seed < 4294967296) (ha : Sl kHash 29 w.heap.size w p n c xs) :
    Ret Try.prog 6 [.slice p n c, .int .u32 (seed : Int), .int .i64 bits] w (fun v w' => v = .bool true ∧ Ext w w') := by
  have hX := Ext.refl w
  refine enter 52 _ Try.func6 rfl rfl (Nat.le_of_ble_eq_true rfl) rfl ?_
  refine c_seq ?_
  refine r_plain ?_
  refine p1 (x_assign (by conv => lhs; whnf)) ?_
  refine r_nil ?_
  refine t_n ?_
  refine c_seq ?_
  refine c_seq ?_
  refine r_plain ?_
  refine p1 (x_move (by conv => lhs; whnf)) ?_
  refine o_call Try.func9 fn9 fb9 (law09_few xs _ _ _ _ _ (ha.ext hX)) rfl ?_
  rintro v1 w1 ⟨rfl, hE1⟩
  have hX := hX.ext hE1
  first | refine p1 (x_notd rfl) ?_ | refine p1 (x_not rfl) ?_
  refine r_nil ?_
  refine t_n ?_
  first | refine c_dec rfl (fun hc11 => ?_) (fun hc11 => ?_) | refine c_if rfl (fun hc11 => ?_) (fun hc11 => ?_)
  · try simp only [decide_eq_true_eq, decide_eq_false_iff_not, Bool.not_eq_true, Bool.not_eq_false, Bool.not_eq_eq_eq_not, Bool.not_true, Bool.not_false, Int.not_lt, Int.not_le] at hc11
    refine c_seq ?_
    refine r_plain ?_
    refine o_call Try.func10 fn10 fb10 (law09_awake _) rfl ?_
    rintro v2 w2 ⟨rfl, hE2⟩
    have hX := hX.ext hE2
    refine p1 (x_assign (by conv => lhs; whnf)) ?_
    refine r_nil ?_
    refine t_n ?_
    refine c_ret ?_
    refine t_r ?_
    refine end1 rfl (by conv => lhs; whnf) ?_
    exact ⟨rfl, hX⟩
  · try simp only [decide_eq_true_eq, decide_eq_false_iff_not, Bool.not_eq_true, Bool.not_eq_false, Bool.not_eq_eq_eq_not, Bool.not_true, Bool.not_false, Int.not_lt, Int.not_le] at hc11
    refine c_skip ?_
    refine t_n ?_
    refine c_seq ?_
    have hlen := ha.len
    have hfit := ha.fit
    have hcap := ha.cap
    have hsl := srt_len xs
    refine r_plain ?_
    refine p1 (x_move (by conv => lhs; whnf)) ?_
    refine p1 (x_move (by conv => lhs; whnf)) ?_
    refine p1 (x_move (by conv => lhs; whnf)) ?_
    refine o_call Try.func11 fn11 fb11 (bloom_Make xs seed bits _ _ _ _ _ (ha.ext hX) (by omega) hse) rfl ?_
    rintro v3 w3 ⟨⟨qz, lz, cz, rfl, hZ⟩, hE3⟩
    have hX := hX.ext hE3
    obtain ⟨hn1, hn2, hn3⟩ := mk_never xs seed bits (by omega) (by omega)
    have hZl := hZ.len
    have hmk := mkB_len xs seed bits hse (by omega)
    have hpos : (srt xs).length = 0 ↔ n = 0 := by
      constructor
      · intro h0
        have hx0 : xs = [] := List.eq_nil_iff_forall_not_mem.2 fun z hz => by have := mem_srt.2 hz; rw [List.eq_nil_of_length_eq_zero h0] at this; simp at this
        rw [← hlen, hx0]; rfl
      · intro h0; omega
    refine p1 (x_assign (by conv => lhs; whnf)) ?_
    refine r_nil ?_
    refine t_n ?_
    refine c_seq ?_
    refine c_seq ?_
    refine r_plain ?_
    refine p1 (x_assign (by conv => lhs; whnf)) ?_
    refine r_nil ?_
    refine t_n ?_
    refine c_block ?_
    have hWL0 := Ext.refl w3
    refine c_loop (ι := Nat) [6, 8, 17, 18, 19, 20, 21, 22, 23, 24, 25, 26, 27, 28, 29] (fun k => [(8, .int .i64 (k : Int))]) (fun k w' => Ext w3 w' ∧ (k ≤ n)) (fun k => n - k) (0) ⟨rfl, trivial⟩ ⟨Ext.refl _, by omega⟩ ?_
    rintro k GL0 w4 ⟨hE4, hk⟩
    have hX := hX.ext hE4
    have hZ := hZ.ext hE4
    have hWL0 := hE4
    refine c_seq ?_
    refine c_seq ?_
    refine r_plain ?_
    refine p1 (x_move (by conv => lhs; whnf)) ?_
    refine p1 (x_move (by conv => lhs; whnf)) ?_
    refine p1 (x_len_slice u22 rfl) ?_
    refine p1 (x_lss rfl rfl) ?_
    refine r_nil ?_
    refine t_n ?_
    first | refine c_dec rfl (fun hc20 => ?_) (fun hc20 => ?_) | refine c_if rfl (fun hc20 => ?_) (fun hc20 => ?_)
    · try simp only [decide_eq_true_eq, decide_eq_false_iff_not, Bool.not_eq_true, Bool.not_eq_false, Bool.not_eq_eq_eq_not, Bool.not_true, Bool.not_false, Int.not_lt, Int.not_le] at hc20
      refine c_skip ?_
      refine t_n ?_
      refine c_seq ?_
      refine c_block ?_
      refine c_seq ?_
      refine r_plain ?_
      refine p1 (x_move (by conv => lhs; whnf)) ?_
      refine p1 (x_move (by conv => lhs; whnf)) ?_
      refine p1 (x_move (by conv => lhs; whnf)) ?_
      refine p1 (x_ixs u22 sz29 rfl rfl ((ha.ext hX).adr kHash_pos (by omega)) (by omega) (by omega)) ?_
      refine p1 (x_loadN ua29 rfl (hcs_sz sz29 _) ((ha.ext hX).hashAt _ (by omega) (by omega))) ?_
      refine o_call Try.func17 fn17 fb17 ((bloom_Has (xs.getD ((k : Int)).toNat default) _ _ _ _ _ _ hZ.sl (by omega) (Nat.zero_le _)).known (c := .bool true) (congrArg Value.bool (hn3 _ (mem_of_getD (i := k) (by omega) rfl)))) rfl ?_
      rintro v5 w5 ⟨rfl, hE5⟩
      have hX := hX.ext hE5
      have hZ := hZ.ext hE5
      have hWL0 := hWL0.ext hE5
      refine p1 (x_not rfl) ?_
      refine r_nil ?_
      refine t_n ?_
      refine c_f rfl ?_
      refine c_skip ?_
      refine b_n ?_
      refine t_n ?_
      refine r_plain ?_
      refine p1 (x_move (by conv => lhs; whnf)) ?_
      refine p1 (x_add rfl rfl (fits_i64 (by omega) (by omega))) ?_
      refine p1 (x_assign (by conv => lhs; whnf)) ?_
      refine r_nil ?_
      refine t_n (At.mk (k + 1) (by repeat (first | exact Agr.refl _ _ | exact Agr.hav _ _ _ | refine Agr.upd rfl ?_ | refine Agr.updR rfl ?_ | refine Agr.updL ?_ _ rfl | refine Agr.hav' rfl ?_)) ⟨rfl, trivial⟩ ?_)
      exact ⟨⟨hWL0, by omega⟩, by first | (dsimp only; omega) | ((show _ < _); omega)⟩
    · try simp only [decide_eq_true_eq, decide_eq_false_iff_not, Bool.not_eq_true, Bool.not_eq_false, Bool.not_eq_eq_eq_not, Bool.not_true, Bool.not_false, Int.not_lt, Int.not_le] at hc20
      refine c_exit ?_
      refine t_e ?_
      refine t_e ?_
      refine b_hit ?_
      refine t_n ?_
      refine c_seq ?_
      refine r_plain ?_
      refine p1 (x_move (by conv => lhs; whnf)) ?_
      refine o_call Try.func13 fn13 fb13 ((bloom_Check _ _ _ _ _ _ hZ.sl (by omega)).known (congrArg (Value.int .i64) hn1)) rfl ?_
      rintro v6 w6 ⟨rfl, hE6⟩
      have hX := hX.ext hE6
      have hZ := hZ.ext hE6
      refine p1 ((x_eql rfl rfl).cast (congrArg _ (decide_eq_true rfl))) ?_
      refine p1 (x_move (by conv => lhs; whnf)) ?_
      refine g1 33 rfl rfl (x_move (by conv => lhs; whnf)) ?_
      refine g_drop 33 rfl rfl ?_
      refine o_call Try.func15 fn15 fb15 ((bloom_Many _ _ _ _ _ _ hZ.sl (by omega)).known (congrArg (fun m : Nat => Value.int .i64 (m : Int)) hn2)) rfl ?_
      rintro v7 w7 ⟨rfl, hE7⟩
      have hX := hX.ext hE7
      have hZ := hZ.ext hE7
      refine g1 33 rfl rfl (x_move (by conv => lhs; whnf)) ?_
      refine g1 33 rfl rfl (x_len_slice u22 rfl) ?_
      refine g1 33 rfl rfl ((x_leq rfl rfl).cast (congrArg _ (decide_eq_true (by omega)))) ?_
      refine p1 (x_pick_t rfl (by conv => lhs; whnf)) ?_
      refine p1 (x_move (by conv => lhs; whnf)) ?_
      refine g1 40 rfl rfl (x_move (by conv => lhs; whnf)) ?_
      refine g_drop 40 rfl rfl ?_
      refine o_call Try.func15 fn15 fb15 ((bloom_Many _ _ _ _ _ _ hZ.sl (by omega)).known (congrArg (fun m : Nat => Value.int .i64 (m : Int)) hn2)) rfl ?_
      rintro v8 w8 ⟨rfl, hE8⟩
      have hX := hX.ext hE8
      have hZ := hZ.ext hE8
      refine g1 40 rfl rfl (x_gtr rfl rfl) ?_
      refine g1 40 rfl rfl (x_move (by conv => lhs; whnf)) ?_
      refine g1 40 rfl rfl (x_len_slice u22 rfl) ?_
      refine g1 40 rfl rfl (x_gtr rfl rfl) ?_
      refine g1 40 rfl rfl ((x_eql_bool u4 rfl rfl).cast (congrArg _ (decide_eq_true (decide_eq_decide.2 (by omega))))) ?_
      refine p1 (x_pick_t rfl (by conv => lhs; whnf)) ?_
      refine p1 (x_move (by conv => lhs; whnf)) ?_
      refine g_drop 49 rfl rfl ?_
      refine o_call Try.func10 fn10 fb10 (law09_awake _) rfl ?_
      rintro v9 w9 ⟨rfl, hE9⟩
      have hX := hX.ext hE9
      have hZ := hZ.ext hE9
      refine p1 (x_pick_t rfl (by conv => lhs; whnf)) ?_
      refine p1 (x_assign (by conv => lhs; whnf)) ?_
      refine r_nil ?_
      refine t_n ?_
      refine c_ret ?_
      refine end1 rfl (by conv => lhs; whnf) ?_
      exact ⟨rfl, hX⟩
theorem law_BloomOrder (xs : List Hash) (p : Option Addr) (n c : Nat) (seed : Nat) (bits : Int) (w : World) (hse : seed < 4294967296) (ha : Sl kHash 29 w.heap.size w p n c xs) :
    Ret Try.prog 7 [.slice p n c, .int .u32 (seed : Int), .int .i64 bits] w (fun v w' => v = .bool true ∧ Ext w w') := by
  have hX := Ext.refl w
  refine enter 44 _ Try.func7 rfl rfl (Nat.le_of_ble_eq_true rfl) rfl ?_
  refine c_seq ?_
  refine r_plain ?_
  refine p1 (x_assign (by conv => lhs; whnf)) ?_
  refine r_nil ?_
  refine t_n ?_
  refine c_seq ?_
  refine c_seq ?_
  refine r_plain ?_
  refine p1 (x_move (by conv => lhs; whnf)) ?_
  refine o_call Try.func9 fn9 fb9 (law09_few xs _ _ _ _ _ (ha.ext hX)) rfl ?_
  rintro v1 w1 ⟨rfl, hE1⟩
  have hX := hX.ext hE1
  first | refine p1 (x_notd rfl) ?_ | refine p1 (x_not rfl) ?_
  refine r_nil ?_
  refine t_n ?_
  first | refine c_dec rfl (fun hc11 => ?_) (fun hc11 => ?_) | refine c_if rfl (fun hc11 => ?_) (fun hc11 => ?_)
  · try simp only [decide_eq_true_eq, decide_eq_false_iff_not, Bool.not_eq_true, Bool.not_eq_false, Bool.not_eq_eq_eq_not, Bool.not_true, Bool.not_false, Int.not_lt, Int.not_le] at hc11
    refine c_seq ?_
    refine r_plain ?_
    refine o_call Try.func10 fn10 fb10 (law09_awake _) rfl ?_
    rintro v2 w2 ⟨rfl, hE2⟩
    have hX := hX.ext hE2
    refine p1 (x_assign (by conv => lhs; whnf)) ?_
    refine r_nil ?_
    refine t_n ?_
    refine c_ret ?_
    refine t_r ?_
    refine end1 rfl (by conv => lhs; whnf) ?_
    exact ⟨rfl, hX⟩
  · try simp only [decide_eq_true_eq, decide_eq_false_iff_not, Bool.not_eq_true, Bool.not_eq_false, Bool.not_eq_eq_eq_not, Bool.not_true, Bool.not_false, Int.not_lt, Int.not_le] at hc11
    refine c_skip ?_
    refine t_n ?_
    refine c_seq ?_
    have hlen := ha.len
    have hfit := ha.fit
    have hcap := ha.cap
    refine r_plain ?_
    refine p1 (x_assign (by conv => lhs; whnf)) ?_
    refine r_nil ?_
    refine t_n ?_
    refine c_seq ?_
    refine c_seq ?_
    refine r_plain ?_
    refine p1 (x_move (by conv => lhs; whnf)) ?_
    refine p1 (x_len_slice u22 rfl) ?_
    refine p1 (x_sub rfl rfl (fits_i64 (by omega) (by omega))) ?_
    refine p1 (x_assign (by conv => lhs; whnf)) ?_
    refine r_nil ?_
    refine t_n ?_
    refine c_block ?_
    refine c_loop (ι := Nat × Option Addr × Nat × Nat) [7, 8, 16, 17, 18, 19, 20, 21, 22, 23, 24, 25, 26] (fun (j, q, m, c1) => [(7, .slice q m c1), (8, .int .i64 ((j : Int) - 1))]) (fun (j, q, m, c1) w' => Ext w w' ∧ (Own kHash 29 0 w.heap.size w' q m c1 (xs.drop j).reverse ∧ j ≤ n ∧ m + j = n)) (fun (j, q, m, c1) => j) ((n, none, 0, 0)) ⟨rfl, rfl, trivial⟩ ⟨hX, ⟨by rw [List.drop_of_length_le (by omega)]; exact Own.nil _ _ _ _ _, by omega, by omega⟩⟩ ?_
    rintro ⟨j, q, m, c1⟩ GL0 w3 ⟨hE3, hO, hj, hm⟩
    have hX := hE3
    refine c_seq ?_
    refine c_seq ?_
    refine r_plain ?_
    refine p1 (x_move (by conv => lhs; whnf)) ?_
    refine p1 (x_geq rfl rfl) ?_
    refine r_nil ?_
    refine t_n ?_
    first | refine c_dec rfl (fun hc17 => ?_) (fun hc17 => ?_) | refine c_if rfl (fun hc17 => ?_) (fun hc17 => ?_)
    · try simp only [decide_eq_true_eq, decide_eq_false_iff_not, Bool.not_eq_true, Bool.not_eq_false, Bool.not_eq_eq_eq_not, Bool.not_true, Bool.not_false, Int.not_lt, Int.not_le] at hc17
      obtain ⟨i, rfl⟩ : ∃ i, j = i + 1 := ⟨j - 1, by omega⟩
      have hti : (((i + 1 : Nat) : Int) - 1).toNat = i := by omega
      refine c_skip ?_
      refine t_n ?_
      refine c_seq ?_
      refine c_block ?_
      refine r_plain ?_
      refine p1 (x_move (by conv => lhs; whnf)) ?_
      refine p1 (x_move (by conv => lhs; whnf)) ?_
      refine p1 (x_move (by conv => lhs; whnf)) ?_
      refine p1 (x_ixs u22 sz29 rfl rfl ((ha.ext hX).adr kHash_pos (by omega)) (by omega) (by omega)) ?_
      refine p1 ((x_loadN ua29 rfl (hcs_sz sz29 _) ((ha.ext hX).hashAt _ (by omega) (by omega))).cast (congrArg (fun t => Value.agg (hv (xs.getD t default))) hti)) ?_
      refine o_buildSlice u22 inf29 rfl (by decide) (fun base hb => fill_kn [.agg (hv (xs.getD i default))] (by intro v hv'; simp only [List.mem_singleton] at hv'; subst hv'; simp [Value.cells, hv, hcs_len]) base hb) ?_
      intro w4 g25 hN25
      have hE4 := hN25.ext
      have hX := hX.ext hE4
      have hO := hO.ext hE4
      have hJ : Own kHash 29 0 0 w4 (some ⟨g25, 0, none⟩) 1 1 [xs.getD i default] := own_lit [xs.getD i default] hN25 (Nat.zero_le _) (by simp)
      have hq1 := hX.size
      refine o_append (d := kHash) ([xs.getD i default]) u22 inf29 rfl kHash_pos rfl rfl hO (src_pure u22 hJ.sl (by decide)) rfl (hash_all _ _ _) (rfl) (by omega) (by omega) (by omega) (by omega) (by decide) ?_
      intro p26 c26 w5 hO hM5
      have hX := hX.mod hM5 (Nat.le_refl _)
      refine p1 (x_assign (by conv => lhs; whnf)) ?_
      refine r_nil ?_
      refine b_n ?_
      refine t_n ?_
      refine r_plain ?_
      refine p1 (x_move (by conv => lhs; whnf)) ?_
      refine p1 ((x_sub rfl rfl (fits_i64 (by omega) (by omega))).cast (congrArg (Value.int .i64) (by omega : _ = ((i : Nat) : Int) - 1))) ?_
      refine p1 (x_assign (by conv => lhs; whnf)) ?_
      refine r_nil ?_
      refine t_n (At.mk ((i, p26, m + 1, c26)) (by repeat (first | exact Agr.refl _ _ | exact Agr.hav _ _ _ | refine Agr.upd rfl ?_ | refine Agr.updR rfl ?_ | refine Agr.updL ?_ _ rfl | refine Agr.hav' rfl ?_)) ⟨rfl, rfl, trivial⟩ ?_)
      exact ⟨⟨hX, ⟨by rw [drop_getD default (by omega : i < xs.length), List.reverse_cons]; exact hO, by omega, by omega⟩⟩, by first | (dsimp only; omega) | ((show _ < _); omega)⟩
    · try simp only [decide_eq_true_eq, decide_eq_false_iff_not, Bool.not_eq_true, Bool.not_eq_false, Bool.not_eq_eq_eq_not, Bool.not_true, Bool.not_false, Int.not_lt, Int.not_le] at hc17
      have hj0 : j = 0 := by omega
      subst hj0
      rw [List.drop_zero] at hO
      refine c_exit ?_
      refine t_e ?_
      refine t_e ?_
      refine b_hit ?_
      refine t_n ?_
      refine c_seq ?_
      refine r_plain ?_
      refine p1 (x_move (by conv => lhs; whnf)) ?_
      refine p1 (x_move (by conv => lhs; whnf)) ?_
      have hq1 := hX.size
      have hl2 := ha.ext hX
      refine o_append (d := kHash) (xs) u22 inf29 rfl kHash_pos rfl rfl hO (src_pure u22 hl2 (by decide)) ha.len (hash_all _ _ _) (rfl) (by omega) (by omega) (by omega) (by omega) (by decide) ?_
      intro p29 c29 w6 hO hM6
      have hX := hX.mod hM6 (Nat.le_refl _)
      refine p1 (x_assign (by conv => lhs; whnf)) ?_
      refine r_nil ?_
      refine t_n ?_
      refine c_seq ?_
      refine r_held (fun w1 w2 => Ext w1 w2) mixed ?_
      intro w7 hE7
      have hX := hX.ext hE7
      have hO := hO.ext hE7
      have hSr9 : (fun w1 w2 => Ext w1 w2) w7 w7 := Ext.refl w7
      refine h_take 0 rfl (by kernel_rfl) (by kernel_rfl) (by kernel_rfl) hSr9 (fun wS hSS => by (have hX := hX.ext hSS; have hO := hO.ext hSS; exact (x_move (by conv => lhs; whnf)))) ?_
      refine h_take 1 rfl (by kernel_rfl) (by kernel_rfl) (by kernel_rfl) hSr9 (fun wS hSS => by (have hX := hX.ext hSS; have hO := hO.ext hSS; exact (x_move (by conv => lhs; whnf)))) ?_
      refine h_take 2 rfl (by kernel_rfl) (by kernel_rfl) (by kernel_rfl) hSr9 (fun wS hSS => by (have hX := hX.ext hSS; have hO := hO.ext hSS; exact (x_move (by conv => lhs; whnf)))) ?_
      refine h_take 5 rfl (by kernel_rfl) (by kernel_rfl) (by kernel_rfl) hSr9 (fun wS hSS => by (have hX := hX.ext hSS; have hO := hO.ext hSS; exact (x_move (by conv => lhs; whnf)))) ?_
      refine h_take 6 rfl (by kernel_rfl) (by kernel_rfl) (by kernel_rfl) hSr9 (fun wS hSS => by (have hX := hX.ext hSS; have hO := hO.ext hSS; exact (x_move (by conv => lhs; whnf)))) ?_
      refine h_take 7 rfl (by kernel_rfl) (by kernel_rfl) (by kernel_rfl) hSr9 (fun wS hSS => by (have hX := hX.ext hSS; have hO := hO.ext hSS; exact (x_move (by conv => lhs; whnf)))) ?_
      refine h_one 3 _ rfl (by kernel_rfl) (hop_of_list (fun Q3 hQ3 => ?_))
      refine o_call Try.func11 fn11 fb11 (bloom_Make xs seed bits _ _ _ _ _ (ha.ext hX) (by omega) hse) rfl ?_
      rintro v8 w8 ⟨⟨qy, ly, cy, rfl, hY⟩, hE8⟩
      have hX := hX.ext hE8
      have hO := hO.ext hE8
      have hSr9 := hSr9.ext hE8
      refine hop_end hQ3 ⟨hSr9, ?_⟩
      refine h_two 4 8 _ _ rfl rfl (by kernel_rfl) (hop_of_list (fun Q4 hQ4 => ?_)) (hop_of_list (fun Q8 hQ8 => ?_))
      · skip
        refine p1 (x_bytes_str u26 u5 u9 rfl hY.sl) ?_
        refine hop_end hQ4 ⟨hSr9, ?_⟩
        refine h_one 8 _ rfl (by kernel_rfl) (hop_of_list (fun Q8 hQ8 => ?_))
        refine o_call Try.func11 fn11 fb11 (bloom_Make (xs.reverse ++ xs) seed bits _ _ _ _ _ hO.sl (by omega) hse) rfl ?_
        rintro v9 w9 ⟨⟨qz, lz, cz, rfl, hZ⟩, hE9⟩
        have hX := hX.ext hE9
        have hO := hO.ext hE9
        have hSr9 := hSr9.ext hE9
        have hY := hY.ext hE9
        refine hop_end hQ8 ⟨hSr9, ?_⟩
        refine h_one 9 _ rfl (by kernel_rfl) (hop_of_list (fun Q9 hQ9 => ?_))
        refine p1 (x_bytes_str u26 u5 u9 rfl hZ.sl) ?_
        refine hop_end hQ9 ⟨hSr9, ?_⟩
        refine h_take 10 rfl (by kernel_rfl) (by kernel_rfl) (by kernel_rfl) hSr9 (fun wS hSS => by ( exact ((x_eql_str rfl rfl).cast (congrArg _ (decide_eq_true (congrArg toStr (mk_order xs seed bits).symm)))))) ?_
        refine h_take 11 rfl (by kernel_rfl) (by kernel_rfl) (by kernel_rfl) hSr9 (fun wS hSS => by ( exact (x_move (by conv => lhs; whnf)))) ?_
        refine h_one 12 _ rfl (by kernel_rfl) (hop_of_list (fun Q12 hQ12 => ?_))
        refine g_drop 41 rfl rfl ?_
        refine o_call Try.func10 fn10 fb10 (law09_awake _) rfl ?_
        rintro v10 w10 ⟨rfl, hE10⟩
        have hX := hX.ext hE10
        have hO := hO.ext hE10
        have hSr9 := hSr9.ext hE10
        have hY := hY.ext hE10
        have hZ := hZ.ext hE10
        refine hop_end hQ12 ⟨hSr9, ?_⟩
        refine h_take 13 rfl (by kernel_rfl) (by kernel_rfl) (by kernel_rfl) hSr9 (fun wS hSS => by ( exact (x_pick_t rfl (by conv => lhs; whnf)))) ?_
        refine h_take 14 rfl (by kernel_rfl) (by kernel_rfl) (by kernel_rfl) hSr9 (fun wS hSS => by ( exact (x_assign (by conv => lhs; whnf)))) ?_
        refine h_done (by kernel_rfl) ?_
        refine t_n ?_
        refine c_ret ?_
        refine end1 rfl (by conv => lhs; whnf) ?_
        exact ⟨rfl, hX⟩
      · skip
        refine o_call Try.func11 fn11 fb11 (bloom_Make (xs.reverse ++ xs) seed bits _ _ _ _ _ hO.sl (by omega) hse) rfl ?_
        rintro v11 w11 ⟨⟨qz, lz, cz, rfl, hZ⟩, hE11⟩
        have hX := hX.ext hE11
        have hO := hO.ext hE11
        have hSr9 := hSr9.ext hE11
        have hY := hY.ext hE11
        refine hop_end hQ8 ⟨hSr9, ?_⟩
        refine h_two 4 9 _ _ rfl rfl (by kernel_rfl) (hop_of_list (fun Q4 hQ4 => ?_)) (hop_of_list (fun Q9 hQ9 => ?_))
        · skip
          refine p1 (x_bytes_str u26 u5 u9 rfl hY.sl) ?_
          refine hop_end hQ4 ⟨hSr9, ?_⟩
          refine h_one 9 _ rfl (by kernel_rfl) (hop_of_list (fun Q9 hQ9 => ?_))
          refine p1 (x_bytes_str u26 u5 u9 rfl hZ.sl) ?_
          refine hop_end hQ9 ⟨hSr9, ?_⟩
          refine h_take 10 rfl (by kernel_rfl) (by kernel_rfl) (by kernel_rfl) hSr9 (fun wS hSS => by ( exact ((x_eql_str rfl rfl).cast (congrArg _ (decide_eq_true (congrArg toStr (mk_order xs seed bits).symm)))))) ?_
          refine h_take 11 rfl (by kernel_rfl) (by kernel_rfl) (by kernel_rfl) hSr9 (fun wS hSS => by ( exact (x_move (by conv => lhs; whnf)))) ?_
          refine h_one 12 _ rfl (by kernel_rfl) (hop_of_list (fun Q12 hQ12 => ?_))
          refine g_drop 41 rfl rfl ?_
          refine o_call Try.func10 fn10 fb10 (law09_awake _) rfl ?_
          rintro v12 w12 ⟨rfl, hE12⟩
          have hX := hX.ext hE12
          have hO := hO.ext hE12
          have hSr9 := hSr9.ext hE12
          have hY := hY.ext hE12
          have hZ := hZ.ext hE12
          refine hop_end hQ12 ⟨hSr9, ?_⟩
          refine h_take 13 rfl (by kernel_rfl) (by kernel_rfl) (by kernel_rfl) hSr9 (fun wS hSS => by ( exact (x_pick_t rfl (by conv => lhs; whnf)))) ?_
          refine h_take 14 rfl (by kernel_rfl) (by kernel_rfl) (by kernel_rfl) hSr9 (fun wS hSS => by ( exact (x_assign (by conv => lhs; whnf)))) ?_
          refine h_done (by kernel_rfl) ?_
          refine t_n ?_
          refine c_ret ?_
          refine end1 rfl (by conv => lhs; whnf) ?_
          exact ⟨rfl, hX⟩
        · skip
          refine p1 (x_bytes_str u26 u5 u9 rfl hZ.sl) ?_
          refine hop_end hQ9 ⟨hSr9, ?_⟩
          refine h_one 4 _ rfl (by kernel_rfl) (hop_of_list (fun Q4 hQ4 => ?_))
          refine p1 (x_bytes_str u26 u5 u9 rfl hY.sl) ?_
          refine hop_end hQ4 ⟨hSr9, ?_⟩
          refine h_take 10 rfl (by kernel_rfl) (by kernel_rfl) (by kernel_rfl) hSr9 (fun wS hSS => by ( exact ((x_eql_str rfl rfl).cast (congrArg _ (decide_eq_true (congrArg toStr (mk_order xs seed bits).symm)))))) ?_
          refine h_take 11 rfl (by kernel_rfl) (by kernel_rfl) (by kernel_rfl) hSr9 (fun wS hSS => by ( exact (x_move (by conv => lhs; whnf)))) ?_
          refine h_one 12 _ rfl (by kernel_rfl) (hop_of_list (fun Q12 hQ12 => ?_))
          refine g_drop 41 rfl rfl ?_
          refine o_call Try.func10 fn10 fb10 (law09_awake _) rfl ?_
          rintro v13 w13 ⟨rfl, hE13⟩
          have hX := hX.ext hE13
          have hO := hO.ext hE13
          have hSr9 := hSr9.ext hE13
          have hY := hY.ext hE13
          have hZ := hZ.ext hE13
          refine hop_end hQ12 ⟨hSr9, ?_⟩
          refine h_take 13 rfl (by kernel_rfl) (by kernel_rfl) (by kernel_rfl) hSr9 (fun wS hSS => by ( exact (x_pick_t rfl (by conv => lhs; whnf)))) ?_
          refine h_take 14 rfl (by kernel_rfl) (by kernel_rfl) (by kernel_rfl) hSr9 (fun wS hSS => by ( exact (x_assign (by conv => lhs; whnf)))) ?_
          refine h_done (by kernel_rfl) ?_
          refine t_n ?_
          refine c_ret ?_
          refine end1 rfl (by conv => lhs; whnf) ?_
          exact ⟨rfl, hX⟩
end Go.Proofs.Eng
end
section
set_option linter.unusedVariables false
set_option linter.unusedSimpArgs false
namespace Go.Proofs.Eng
open Go.RowKit
section append
variable {P : Program} {ops : Array Oper} {Q : Exit → Act → World → Prop} {rest : List Oper} {N : Nat} {f : Nat → Value} {w : World} {α : Type}
variable {t0 : TypeId} {pos : String} {aft : Array Edge} {dst : Nat} {x y : Operand} {T tx : TypeId}
/-- .. and what else of the memory turns: the row's block alone. -/
theorem run_append_one {d : Kind α} {e : TypeId} {B B0 : Nat} {p : Option Addr} {n c m : Nat} {xs ys : List α} {v z : Value} {news : List Value} {bytes : Nat}
    (hT : P.underlying T = some (.slice e)) (hi : (P.info? e).map (fun i => (i.zero, i.size, i.bytes)) = some (some z, d.sz, bytes)) (hz : z.cells.size = d.sz) (hsz : 0 < d.sz)
    (hO : Own d e B B0 w p n c xs) (hs : Src P d.sz tx v m news w) (hl : ys.length = m) {dss : List (List Value)} (ha : d.All B w ys dss) (hn : dss.flatten = news) (hb : ((n + m) + (n + m) / 4 + 192) * bytes ≤ 281474976710656) (hm : n + m ≤ 4611686018427387904)
    (hB0 : B0 ≤ w.heap.size) (hBB : B ≤ B0) (hE : e ∉ d.E) :
    ∃ p' c' w', (Builtin.append_ #[T, tx] t0 #[.slice p n c, v]).run P w = .ok (.slice p' (n + m) c') w' ∧ Own d e B B0 w' p' (n + m) c' (xs ++ ys) ∧ Mod B0 e w w' ∧ (p' = p ∨ ∃ g, p' = some ⟨g, 0, none⟩ ∧ w.heap.size ≤ g) ∧ ∀ k, k < w.heap.size → p ≠ some ⟨k, 0, none⟩ → w'.heap[k]? = w.heap[k]? := by
  obtain ⟨i, hi0, hi1⟩ := Option.map_eq_some_iff.1 hi
  simp only [Prod.mk.injEq] at hi1
  obtain ⟨hiz, his, hib⟩ := hi1
  obtain ⟨css, hxs, ho⟩ := hO.row
  have hlen : (css.flatten ++ news).length = (n + m) * d.sz := by rw [List.length_append, ho.1, hs.newsLen, Nat.add_mul]
  have hbl : ∀ b, b < 9223372036854775808 → True := fun _ _ => trivial
  -- a new row
  have grow : ∀ (base : Option Addr) (sCap : Nat), sCap < n + m → (Builtin.firstCells i.size n (.slice base n sCap)).run P w.drew = .ok css.flatten.toArray w.drew →
      ∃ p' c' w', (Builtin.append_ #[T, tx] t0 #[.slice base n sCap, v]).run P w = .ok (.slice p' (n + m) c') w' ∧ Own d e B B0 w' p' (n + m) c' (xs ++ ys) ∧ Mod B0 e w w' ∧ (∃ g, p' = some ⟨g, 0, none⟩ ∧ w.heap.size ≤ g) ∧ ∀ k, k < w.heap.size → w'.heap[k]? = w.heap[k]? := by
    intro base sCap hg hold
    have hr := run_append_grow_src (P := P) w T tx t0 e i z hT hi0 hiz base n sCap css.flatten hold v m news (by rw [his]; exact hs) hg (by omega) (growslice_fits_wide hg (by rw [hib]; exact hb))
    refine ⟨_, _, _, hr, ?_, ?_, ⟨_, rfl, Nat.le_refl _⟩, fun k hk => ((Ext.drew w).trans (Ext.alloc _ _)).old k hk⟩
    · have hN : New w.drew (w.drew.alloc (.cells ((css.flatten ++ news).toArray ++ Builtin.zeroCells z.cells (grownCap w (n + m) sCap e - (n + m))) e)) w.drew.heap.size _ e := New.alloc _ _ _
      have hx : Ext w (w.drew.alloc (.cells ((css.flatten ++ news).toArray ++ Builtin.zeroCells z.cells (grownCap w (n + m) sCap e - (n + m))) e)) := (Ext.drew w).trans hN.ext
      have hge := grownCap_ge w (n + m) sCap e
      have hcm : grownCap w (n + m) sCap e ≤ maxLen := grownCap_le_maxLen w (n + m) sCap e (by unfold maxLen; omega)
      refine Own.made d e B B0 hN (xs ++ ys) (css ++ dss) (n + m) _ (by rw [List.length_append, hO.len, hl]) ((hxs.keep (hx.same _ _)).append (ha.keep (hx.same _ _))) hB0 hge (by unfold maxLen at hcm; omega) ?_ ?_
      · simp only [Array.size_append, List.size_toArray, size_zeroCells, hz, hlen, ← Nat.add_mul]
        congr 1; omega
      · rw [Array.toList_append, ← hlen, List.take_left', List.flatten_append, hn]
        simp
    · exact .ofExt ((Ext.drew w).trans (Ext.alloc _ _))
  have wide : ∀ {p0 : Option Addr} {R : World → Option Addr → Nat → Prop}, (∃ p' c' w', R w' p' c' ∧ Own d e B B0 w' p' (n + m) c' (xs ++ ys) ∧ Mod B0 e w w' ∧ (∃ g, p' = some ⟨g, 0, none⟩ ∧ w.heap.size ≤ g) ∧ ∀ k, k < w.heap.size → w'.heap[k]? = w.heap[k]?) →
      ∃ p' c' w', R w' p' c' ∧ Own d e B B0 w' p' (n + m) c' (xs ++ ys) ∧ Mod B0 e w w' ∧ (p' = p0 ∨ ∃ g, p' = some ⟨g, 0, none⟩ ∧ w.heap.size ≤ g) ∧ ∀ k, k < w.heap.size → p0 ≠ some ⟨k, 0, none⟩ → w'.heap[k]? = w.heap[k]? :=
    fun ⟨p', c', w', h1, h2, h3, h4, h5⟩ => ⟨p', c', w', h1, h2, h3, .inr h4, fun k hk _ => h5 k hk⟩
  rcases ho.2 with ⟨h1, h2⟩ | ⟨g, cap, cur, h1, h2, h3, h4, h5, h6, h7⟩
  · injection h1 with e1 e2 e3
    subst e1 e3
    have hcf : css.flatten = [] := List.eq_nil_of_length_eq_zero (by rw [ho.1, h2, Nat.zero_mul])
    by_cases hm0 : m = 0
    · have hy : ys = [] := List.eq_nil_of_length_eq_zero (by rw [hl, hm0])
      have hnews : news = [] := List.eq_nil_of_length_eq_zero (by rw [hs.newsLen, hm0, Nat.zero_mul])
      subst h2 hm0
      refine ⟨none, 0, w, ?_, by rw [hy, List.append_nil]; exact hO, .refl _ _ _, .inl rfl, fun _ _ _ => rfl⟩
      have hc := hs.cells
      rcases hs.kind with ⟨e', hk⟩ | hk <;> simp [Builtin.append_, run_underlying hT, run_underlying hk, sizeOf, typeInfo, hi0, hs.len, his, hc]
    · refine wide (grow none 0 (by omega) ?_)
      rw [hcf]
      have : n = 0 := h2
      subst this
      exact run_firstCells_none w.drew i.size 0 0 0
  · injection h1 with e1 e2 e3
    subst e1 e3
    by_cases hroom : n + m ≤ c
    · have hfit : n * d.sz + news.length ≤ cur.size := by rw [hs.newsLen, h6, ← Nat.add_mul]; exact Nat.mul_le_mul_right _ hroom
      have hB : Blk w g cur e := h3
      have hr := run_append_room_src (P := P) w T tx t0 e i hT hi0 g 0 n c v m news (by rw [his]; exact hs) hroom
        (fun j hj => by
          have hlt : 0 + n * i.size + j < cur.size := by rw [his]; omega
          rw [hB.cell (v := cur[0 + n * i.size + j]) (Array.getElem?_eq_getElem hlt)]; rfl)
        (fun j _ => frozen_of_row w g _ cur e hB)
      rw [his, Nat.zero_add] at hr
      have hnew := blk_setCells news (n * d.sz) w cur hB hfit
      have hmod : Mod B0 e w (w.setCells g (n * d.sz) news) := by
        obtain ⟨r1, r2, r3, r4⟩ := rest_setCells g news (n * d.sz) w
        refine ⟨Nat.le_of_eq (size_setCells g news _ w).symm, fun k hk ho' => other_setCells g news _ w k (fun ek => ?_), fun k hk => ?_, by rw [r1]; exact Nat.le_refl _, r2, r3, r4⟩
        · subst ek
          rcases ho' with ho' | ho'
          · omega
          · exact ho' hB.ty
        · by_cases ek : k = g
          · subst ek; rw [hnew.ty, hB.ty]
          · exact ty_of_heap (other_setCells g news _ w k ek)
      refine ⟨_, _, _, hr, ⟨by rw [List.length_append, hO.len, hl], css ++ dss, (hxs.keep (hmod.same hBB hE)).append (ha.keep (hmod.same hBB hE)), ?_, ?_⟩, hmod, .inl rfl, fun k hk hne => other_setCells g news _ w k (fun ek => hne (by rw [ek]))⟩
      · rw [List.flatten_append, hn, hlen]
      · refine .inr ⟨g, c, _, rfl, h2, hnew, hroom, h5, ?_, ?_⟩
        · simp only [List.size_toArray, List.length_append, List.length_take, List.length_drop, Array.length_toList]; omega
        · simp only [List.flatten_append, hn]
          rw [h7, ← hlen]
          exact List.take_left
    · refine wide (grow _ _ (by omega) ?_)
      rw [his]
      refine run_firstCells_some w.drew d.sz n ⟨g, 0, none⟩ n c css.flatten ho.1 (fun j u hu => ?_)
      have := ho.cells (g := g) rfl j u hu
      simpa using this

theorem o_append1 {d : Kind α} {e : TypeId} {B B0 : Nat} {p : Option Addr} {n c m : Nat} {xs : List α} {v z : Value} {news : List Value} {bytes : Nat} (ys : List α)
    (hT : P.underlying T = some (.slice e)) (hi : (P.info? e).map (fun i => (i.zero, i.size, i.bytes)) = some (some z, d.sz, bytes)) (hz : z.cells.size = d.sz) (hsz : 0 < d.sz)
    (hx : ev N f x = .slice p n c) (hy : ev N f y = v) (hO : Own d e B B0 w p n c xs) (hs : Src P d.sz tx v m news w) (hl : ys.length = m) {dss : List (List Value)} (ha : d.All B w ys dss) (hn : dss.flatten = news)
    (hb : ((n + m) + (n + m) / 4 + 192) * bytes ≤ 281474976710656) (hm : n + m ≤ 4611686018427387904) (hB0 : B0 ≤ w.heap.size) (hBB : B ≤ B0) (hE : e ∉ d.E)
    (k : ∀ p' c' w', Own d e B B0 w' p' (n + m) c' (xs ++ ys) → Mod B0 e w w' → (p' = p ∨ ∃ g, p' = some ⟨g, 0, none⟩ ∧ w.heap.size ≤ g) → (∀ k, k < w.heap.size → p ≠ some ⟨k, 0, none⟩ → w'.heap[k]? = w.heap[k]?) → Lst P ops Q rest (fr N (upd f dst (.slice p' (n + m) c'))) w') :
    Lst P ops Q (⟨some dst, .call ⟨.builtin .append, #[x, y], #[T, tx]⟩, t0, pos, aft, none⟩ :: rest) (fr N f) w := by
  obtain ⟨p', c', w', hr, h1, h2, h3, h4⟩ := run_append_one (t0 := t0) hT hi hz hsz hO hs hl ha hn hb hm hB0 hBB hE
  refine l1 (w' := w') (v := .slice p' (n + m) c') ?_ (k p' c' w' h1 h2 h3 h4)
  simp only [execOp, resolve, invoke, builtin, Sem.run_bind, Sem.run_pure, Result.andThen_ok, List.map_toArray, List.map_cons, List.map_nil, hx, hy, hr]
end append
/-- Two slices of the call's own do not meet. -/
def Apart (p q : Option Addr) : Prop := p = none ∨ q = none ∨ p ≠ q
theorem Own.one {α : Type} {d : Kind α} {e : TypeId} {B B0 : Nat} {w w' : World} {p q : Option Addr} {n c : Nat} {xs : List α} (h : Own d e B B0 w q n c xs) {B' : Nat} {t : TypeId} (m : Mod B' t w w') (hB : B ≤ B') (ht : t ∉ d.E) (ho : ∀ k, k < w.heap.size → p ≠ some ⟨k, 0, none⟩ → w'.heap[k]? = w.heap[k]?) (ha : Apart p q) : Own d e B B0 w' q n c xs :=
  h.of_heap (m.same hB ht) fun k hk hlt => ho k hlt (by
    rcases ha with ha | ha | ha
    · rw [ha]; simp
    · rw [hk] at ha; cases ha
    · rw [← hk]; exact ha)
theorem Apart.step {α : Type} {d : Kind α} {e : TypeId} {B B0 : Nat} {w : World} {p p' q : Option Addr} {n c : Nat} {xs : List α} (h : Apart p q) (hq : Own d e B B0 w q n c xs) (hp : p' = p ∨ ∃ g, p' = some ⟨g, 0, none⟩ ∧ w.heap.size ≤ g) : Apart p' q := by
  rcases hp with rfl | ⟨g, rfl, hg⟩
  · exact h
  · rcases hq.form with ⟨h1, _⟩ | ⟨g', cur, h1, _, h3, _⟩
    · exact .inr (.inl h1)
    · refine .inr (.inr fun e => ?_)
      rw [h1] at e
      injection e with e; injection e with e
      have := h3.lt
      omega
theorem Apart.symm {p q : Option Addr} (h : Apart p q) : Apart q p := h.elim (fun h => .inr (.inl h)) fun h => h.elim .inl fun h => .inr (.inr fun e => h e.symm)
end Go.Proofs.Eng
end
section
set_option linter.unusedVariables false
set_option linter.unusedSimpArgs false
set_option maxRecDepth 100000
set_option maxHeartbeats 4000000
namespace Go.Proofs.Eng
open Go.RowKit
open Extern.Stop (cell)
theorem headB_len (n k : Nat) (hn : n < 256) (hk : k < 128) : (headB n k).length ≤ 4 := by
  by_cases h : n < 128
  · rw [headB_lt h hk]; simp
  · rw [headB_ge (by omega) (by omega) hk]; simp
theorem full_check {n k : Nat} (c : UInt8) (hn : n ≤ 255) (hk : 1 ≤ k) (hk2 : k ≤ 64) : checkB (headB n k ++ List.replicate (szB n k) c) = 0 ∧ manyB (headB n k ++ List.replicate (szB n k) c) = n := by
  have hp := partsB_full (List.replicate (szB n k) c) hn hk hk2
  rw [if_pos (by simp)] at hp
  unfold checkB manyB shpB
  rw [hp]
  exact ⟨rfl, rfl⟩
theorem full_more {n k : Nat} (c : UInt8) (hn : n ≤ 255) (hk : 1 ≤ k) (hk2 : k ≤ 64) : checkB (headB n k ++ List.replicate (szB n k) c ++ [c]) = 4 := by
  unfold checkB
  rw [List.append_assoc, partsB_full _ hn hk hk2, if_neg (by simp)]
theorem rep_snoc {α : Type} (n : Nat) (x : α) : List.replicate (n + 1) x = List.replicate n x ++ [x] := List.replicate_succ'
theorem law_BloomFull (a b : UInt8) (h : Hash) (w : World) :
    Ret Try.prog 8 [.int .u8 (a.toNat : Int), .int .u8 (b.toNat : Int), .agg (hv h)] w (fun v w' => v = .bool true ∧ Ext w w') := by
  have hX := Ext.refl w
  refine enter 84 _ Try.func8 rfl rfl (Nat.le_of_ble_eq_true rfl) rfl ?_
  refine c_seq ?_
  refine r_plain ?_
  refine o_boxA (by conv => lhs; whnf) ?_
  intro w1 g5 hN5
  have hE1 := hN5.ext
  have hX := hX.ext hE1
  have hB5 := hN5.blk
  refine p1 (x_assign (by conv => lhs; whnf)) ?_
  refine r_nil ?_
  refine t_n ?_
  refine c_seq ?_
  have ha8 := a.toNat_lt
  have hb8 := b.toNat_lt
  obtain ⟨K, hK⟩ : ∃ K, K = b.toNat % 64 + 1 := ⟨_, rfl⟩
  have hK1 : 1 ≤ K ∧ K ≤ 64 := by omega
  have hnk : a.toNat * K ≤ 255 * 64 := Nat.mul_le_mul (by omega) hK1.2
  have hnk2 : (a.toNat : Int) * (K : Int) = ((a.toNat * K : Nat) : Int) := (Int.natCast_mul _ _).symm
  have hHl := headB_len a.toNat K (by omega) (by omega)
  have hsz := szB_le (n := a.toNat) (k := K) (by omega) hK1.2
  refine r_plain ?_
  refine p1 (x_move (by conv => lhs; whnf)) ?_
  refine p1 (x_convf u3 us5 rfl (fits_i64 (by omega) (by omega))) ?_
  refine p1 (x_rem rfl rfl (by omega) (by omega)) ?_
  refine p1 ((x_add rfl rfl (fits_i64 (by omega) (by omega))).cast (congrArg (Value.int .i64) (by omega : _ = (K : Int)))) ?_
  refine p1 (x_assign (by conv => lhs; whnf)) ?_
  refine r_nil ?_
  refine t_n ?_
  refine c_seq ?_
  refine r_plain ?_
  refine p1 (x_move (by conv => lhs; whnf)) ?_
  refine p1 (x_convf u3 us5 rfl (fits_i64 (by omega) (by omega))) ?_
  refine p1 (x_move (by conv => lhs; whnf)) ?_
  refine p1 ((x_mul rfl rfl (fits_i64 (by rw [hnk2]; omega) (by rw [hnk2]; omega))).cast (congrArg (Value.int .i64) hnk2)) ?_
  refine p1 (x_add rfl rfl (fits_i64 (by omega) (by omega))) ?_
  refine p1 ((x_quo rfl rfl (by omega) (by omega) (fits_i64 (by omega) (by omega))).cast (congrArg (Value.int .i64) (by unfold szB; omega : _ = ((szB a.toNat K : Nat) : Int)))) ?_
  refine p1 (x_assign (by conv => lhs; whnf)) ?_
  refine r_nil ?_
  refine t_n ?_
  refine c_seq ?_
  refine r_plain ?_
  refine p1 (x_move (by conv => lhs; whnf)) ?_
  refine p1 (x_move (by conv => lhs; whnf)) ?_
  refine p1 ((x_convf u5 us3 rfl (fits_u8 (by omega) (by omega))).cast (congrArg (Value.int .u8) (ofNat_toNat (by omega)).symm)) ?_
  have hXs := hX.size
  refine o_buildSlice u26 inf5 rfl (by decide) (fun base hb => fill_kn [.int .u8 (a.toNat : Int), .int .u8 0, .int .u8 ((UInt8.ofNat K).toNat : Int)] (by intro v hv'; simp only [List.mem_cons, List.not_mem_nil, or_false] at hv'; rcases hv' with rfl | rfl | rfl <;> rfl) base hb) ?_
  intro w2 g26 hN26
  have hE2 := hN26.ext
  have hX := hX.ext hE2
  have hB5 := hB5.ext hE2
  have hH : Own kByte 5 0 w.heap.size w2 (some ⟨g26, 0, none⟩) 3 3 [a, 0, UInt8.ofNat K] := own_lit [a, 0, UInt8.ofNat K] hN26 hXs (by simp)
  refine p1 (x_assign (by conv => lhs; whnf)) ?_
  refine r_nil ?_
  refine t_n ?_
  refine c_seq ?_
  refine c_seq ?_
  refine r_plain ?_
  refine p1 (x_move (by conv => lhs; whnf)) ?_
  refine p1 (x_geq rfl rfl) ?_
  refine r_nil ?_
  refine t_n ?_
  first | refine c_dec rfl (fun hc28 => ?_) (fun hc28 => ?_) | refine c_if rfl (fun hc28 => ?_) (fun hc28 => ?_)
  · try simp only [decide_eq_true_eq, decide_eq_false_iff_not, Bool.not_eq_true, Bool.not_eq_false, Bool.not_eq_eq_eq_not, Bool.not_true, Bool.not_false, Int.not_lt, Int.not_le] at hc28
    have hh : headB a.toNat K = [a, 1, 0, UInt8.ofNat K] := by rw [headB_ge (by omega) (by omega) (by omega), UInt8.ofNat_toNat]
    refine r_plain ?_
    refine p1 (x_move (by conv => lhs; whnf)) ?_
    refine p1 (x_move (by conv => lhs; whnf)) ?_
    refine p1 ((x_convf u5 us3 rfl (fits_u8 (by omega) (by omega))).cast (congrArg (Value.int .u8) (ofNat_toNat (by omega)).symm)) ?_
    have hXs := hX.size
    refine o_buildSlice u26 inf5 rfl (by decide) (fun base hb => fill_kn [.int .u8 (a.toNat : Int), .int .u8 1, .int .u8 0, .int .u8 ((UInt8.ofNat K).toNat : Int)] (by intro v hv'; simp only [List.mem_cons, List.not_mem_nil, or_false] at hv'; rcases hv' with rfl | rfl | rfl | rfl <;> rfl) base hb) ?_
    intro w3 g32 hN32
    have hE3 := hN32.ext
    have hX := hX.ext hE3
    have hB5 := hB5.ext hE3
    have hH := hH.ext hE3
    have hH2 : Own kByte 5 0 w.heap.size w3 (some ⟨g32, 0, none⟩) 4 4 [a, 1, 0, UInt8.ofNat K] := own_lit [a, 1, 0, UInt8.ofNat K] hN32 hXs (by simp)
    refine p1 (x_assign (by conv => lhs; whnf)) ?_
    refine r_nil ?_
    refine t_n ?_
    refine c_seq ?_
    refine r_plain ?_
    have hXs := hX.size
    first
      | (rw [← hh] at hH2
         have hH := hH2
         skip)
      | rw [← hh] at hH
    have hHb := hH
    refine o_buildSlice u26 inf5 rfl (by decide) (fun base hb => by have h0 : base = #[] := Array.eq_empty_of_size_eq_zero (by simpa using hb); subst h0; rfl) ?_
    intro w4 g33 hN33
    have hE4 := hN33.ext
    have hX := hX.ext hE4
    have hB5 := hB5.ext hE4
    have hH := hH.ext hE4
    have hH2 := hH2.ext hE4
    have hA : Own kByte 5 0 w.heap.size w4 (some ⟨g33, 0, none⟩) 0 0 [] := Own.made kByte 5 0 _ hN33 [] [] 0 0 rfl trivial hXs (by omega) (by omega) (by rfl) (by simp)
    have hAH : Apart (some ⟨g33, 0, none⟩) _ := Apart.step (p := none) (.inl rfl) hHb (.inr ⟨_, rfl, Nat.le_of_eq hN33.g_eq.symm⟩)
    refine p1 (x_move (by conv => lhs; whnf)) ?_
    have hB0 := hX.size
    refine o_append1 (d := kByte) (headB a.toNat K) u26 inf5 rfl kByte_pos rfl rfl hA (src_pure u26 hH.sl (by decide)) hH.len (byte_all _ _ _) (rfl) (by omega) (by omega) (by omega) (by omega) (by decide) ?_
    intro p35 c35 w5 hA hM5 hp35 hon35
    have hX := hX.mod hM5 (Nat.le_refl _)
    have hB5 := hB5.mod hM5 (by decide)
    have hH := hH.one hM5 (Nat.zero_le _) (by decide) hon35 hAH
    have hH2 := hH2.one hM5 (Nat.zero_le _) (by decide) hon35 hAH
    rw [List.nil_append] at hA
    have hXs := hX.size
    have hHb := hH
    have hAb := hA
    refine o_buildSlice u26 inf5 rfl (by decide) (fun base hb => by have h0 : base = #[] := Array.eq_empty_of_size_eq_zero (by simpa using hb); subst h0; rfl) ?_
    intro w6 g36 hN36
    have hE6 := hN36.ext
    have hX := hX.ext hE6
    have hB5 := hB5.ext hE6
    have hH := hH.ext hE6
    have hH2 := hH2.ext hE6
    have hA := hA.ext hE6
    have hC : Own kByte 5 0 w.heap.size w6 (some ⟨g36, 0, none⟩) 0 0 [] := Own.made kByte 5 0 _ hN36 [] [] 0 0 rfl trivial hXs (by omega) (by omega) (by rfl) (by simp)
    have hCH : Apart (some ⟨g36, 0, none⟩) _ := Apart.step (p := none) (.inl rfl) hHb (.inr ⟨_, rfl, Nat.le_of_eq hN36.g_eq.symm⟩)
    have hCA : Apart (some ⟨g36, 0, none⟩) _ := Apart.step (p := none) (.inl rfl) hAb (.inr ⟨_, rfl, Nat.le_of_eq hN36.g_eq.symm⟩)
    refine p1 (x_move (by conv => lhs; whnf)) ?_
    have hB0 := hX.size
    have hAb := hA
    refine o_append1 (d := kByte) (headB a.toNat K) u26 inf5 rfl kByte_pos rfl rfl hC (src_pure u26 hH.sl (by decide)) hH.len (byte_all _ _ _) (rfl) (by omega) (by omega) (by omega) (by omega) (by decide) ?_
    intro p38 c38 w7 hC hM7 hp38 hon38
    have hX := hX.mod hM7 (Nat.le_refl _)
    have hB5 := hB5.mod hM7 (by decide)
    have hA := hA.one hM7 (Nat.zero_le _) (by decide) hon38 hCA
    rw [List.nil_append] at hC
    have hCA := hCA.step hAb hp38
    refine p1 (x_assign (by conv => lhs; whnf)) ?_
    refine p1 (x_assign (by conv => lhs; whnf)) ?_
    refine r_nil ?_
    refine t_n ?_
    refine c_seq ?_
    refine c_seq ?_
    refine r_plain ?_
    refine p1 (x_assign (by conv => lhs; whnf)) ?_
    refine r_nil ?_
    refine t_n ?_
    refine c_block ?_
    refine c_loop (ι := Nat × Option Addr × Nat × Nat × Option Addr × Nat × Nat) [10, 11, 12, 39, 40, 41, 42, 43, 44, 45, 46, 47, 48, 49] (fun (i, pa, ma, ca, pc, mc, cc) => [(10, .slice pa ma ca), (11, .slice pc mc cc), (12, .int .i64 (i : Int))]) (fun (i, pa, ma, ca, pc, mc, cc) w' => Ext w w' ∧ (Own kByte 5 0 w.heap.size w' pa ma ca (headB a.toNat K ++ List.replicate i 0) ∧ Own kByte 5 0 w.heap.size w' pc mc cc (headB a.toNat K ++ List.replicate i 255) ∧ Apart pc pa ∧ Blk w' g5 (hv h) 29 ∧ i ≤ szB a.toNat K)) (fun (i, pa, ma, ca, pc, mc, cc) => szB a.toNat K - i) ((0, _, _, _, _, _, _)) ⟨rfl, rfl, rfl, trivial⟩ ⟨hX, ⟨by simpa using hA, by simpa using hC, hCA, hB5, by omega⟩⟩ ?_
    rintro ⟨i, pa, ma, ca, pc, mc, cc⟩ GL0 w8 ⟨hE8, hA, hC, hCA, hB5, hi⟩
    have hX := hE8
    have hAl := hA.len
    have hCl := hC.len
    rw [List.length_append, List.length_replicate] at hAl hCl
    refine c_seq ?_
    refine c_seq ?_
    refine r_plain ?_
    refine p1 (x_move (by conv => lhs; whnf)) ?_
    refine p1 (x_move (by conv => lhs; whnf)) ?_
    refine p1 (x_lss rfl rfl) ?_
    refine r_nil ?_
    refine t_n ?_
    first | refine c_dec rfl (fun hc41 => ?_) (fun hc41 => ?_) | refine c_if rfl (fun hc41 => ?_) (fun hc41 => ?_)
    · try simp only [decide_eq_true_eq, decide_eq_false_iff_not, Bool.not_eq_true, Bool.not_eq_false, Bool.not_eq_eq_eq_not, Bool.not_true, Bool.not_false, Int.not_lt, Int.not_le] at hc41
      refine c_skip ?_
      refine t_n ?_
      refine c_seq ?_
      refine c_block ?_
      refine c_seq ?_
      refine r_plain ?_
      refine p1 (x_move (by conv => lhs; whnf)) ?_
      refine o_buildSlice u26 inf5 rfl (by decide) (fun base hb => fill_kn [.int .u8 0] (by intro v hv'; simp only [List.mem_cons, List.not_mem_nil, or_false] at hv'; rcases hv' with rfl <;> rfl) base hb) ?_
      intro w9 g45 hN45
      have hE9 := hN45.ext
      have hX := hX.ext hE9
      have hA := hA.ext hE9
      have hC := hC.ext hE9
      have hB5 := hB5.ext hE9
      have hJ : Own kByte 5 0 0 w9 (some ⟨g45, 0, none⟩) 1 1 [0] := own_lit [0] hN45 (Nat.zero_le _) (by simp)
      have hB0 := hX.size
      have hCb := hC
      refine o_append1 (d := kByte) ([0]) u26 inf5 rfl kByte_pos rfl rfl hA (src_pure u26 hJ.sl (by decide)) rfl (byte_all _ _ _) (rfl) (by omega) (by omega) (by omega) (by omega) (by decide) ?_
      intro p46 c46 w10 hA hM10 hp46 hon46
      have hX := hX.mod hM10 (Nat.le_refl _)
      have hC := hC.one hM10 (Nat.zero_le _) (by decide) hon46 hCA.symm
      have hB5 := hB5.mod hM10 (by decide)
      have hAC := (hCA.symm).step hCb hp46
      refine p1 (x_assign (by conv => lhs; whnf)) ?_
      refine r_nil ?_
      refine t_n ?_
      refine r_plain ?_
      refine p1 (x_move (by conv => lhs; whnf)) ?_
      refine o_buildSlice u26 inf5 rfl (by decide) (fun base hb => fill_kn [.int .u8 255] (by intro v hv'; simp only [List.mem_cons, List.not_mem_nil, or_false] at hv'; rcases hv' with rfl <;> rfl) base hb) ?_
      intro w11 g48 hN48
      have hE11 := hN48.ext
      have hX := hX.ext hE11
      have hC := hC.ext hE11
      have hB5 := hB5.ext hE11
      have hA := hA.ext hE11
      have hJ : Own kByte 5 0 0 w11 (some ⟨g48, 0, none⟩) 1 1 [255] := own_lit [255] hN48 (Nat.zero_le _) (by simp)
      have hB0 := hX.size
      have hAb := hA
      refine o_append1 (d := kByte) ([255]) u26 inf5 rfl kByte_pos rfl rfl hC (src_pure u26 hJ.sl (by decide)) rfl (byte_all _ _ _) (rfl) (by omega) (by omega) (by omega) (by omega) (by decide) ?_
      intro p49 c49 w12 hC hM12 hp49 hon49
      have hX := hX.mod hM12 (Nat.le_refl _)
      have hB5 := hB5.mod hM12 (by decide)
      have hA := hA.one hM12 (Nat.zero_le _) (by decide) hon49 hAC.symm
      have hCA := (hAC.symm).step hAb hp49
      refine p1 (x_assign (by conv => lhs; whnf)) ?_
      refine r_nil ?_
      refine b_n ?_
      refine t_n ?_
      refine r_plain ?_
      refine p1 (x_move (by conv => lhs; whnf)) ?_
      refine p1 (x_add rfl rfl (fits_i64 (by omega) (by omega))) ?_
      refine p1 (x_assign (by conv => lhs; whnf)) ?_
      refine r_nil ?_
      refine t_n (At.mk ((i + 1, p46, ma + 1, c46, p49, mc + 1, c49)) (by repeat (first | exact Agr.refl _ _ | exact Agr.hav _ _ _ | refine Agr.upd rfl ?_ | refine Agr.updR rfl ?_ | refine Agr.updL ?_ _ rfl | refine Agr.hav' rfl ?_)) ⟨rfl, rfl, rfl, trivial⟩ ?_)
      exact ⟨⟨hX, ⟨by rw [rep_snoc, ← List.append_assoc]; exact hA, by rw [rep_snoc, ← List.append_assoc]; exact hC, hCA, hB5, by omega⟩⟩, by first | (dsimp only; omega) | ((show _ < _); omega)⟩
    · try simp only [decide_eq_true_eq, decide_eq_false_iff_not, Bool.not_eq_true, Bool.not_eq_false, Bool.not_eq_eq_eq_not, Bool.not_true, Bool.not_false, Int.not_lt, Int.not_le] at hc41
      have hi2 : i = szB a.toNat K := by omega
      rw [hi2] at hA hC
      obtain ⟨hf1, hf2⟩ := full_check (n := a.toNat) (k := K) 0 (by omega) hK1.1 hK1.2
      obtain ⟨hf3, hf4⟩ := full_check (n := a.toNat) (k := K) 255 (by omega) hK1.1 hK1.2
      refine c_exit ?_
      refine t_e ?_
      refine t_e ?_
      refine b_hit ?_
      refine t_n ?_
      refine c_seq ?_
      refine r_plain ?_
      refine p1 (x_move (by conv => lhs; whnf)) ?_
      refine o_call Try.func13 fn13 fb13 ((bloom_Check _ _ _ _ _ _ hA.sl (by omega)).known (congrArg (Value.int .i64) hf1)) rfl ?_
      rintro v13 w13 ⟨rfl, hE13⟩
      have hX := hX.ext hE13
      have hA := hA.ext hE13
      have hC := hC.ext hE13
      have hB5 := hB5.ext hE13
      refine p1 ((x_eql rfl rfl).cast (congrArg _ (decide_eq_true rfl))) ?_
      refine p1 (x_move (by conv => lhs; whnf)) ?_
      refine g1 53 rfl rfl (x_move (by conv => lhs; whnf)) ?_
      refine g_drop 53 rfl rfl ?_
      refine o_call Try.func15 fn15 fb15 ((bloom_Many _ _ _ _ _ _ hC.sl (by omega)).known (congrArg (fun m : Nat => Value.int .i64 (m : Int)) hf4)) rfl ?_
      rintro v14 w14 ⟨rfl, hE14⟩
      have hX := hX.ext hE14
      have hA := hA.ext hE14
      have hC := hC.ext hE14
      have hB5 := hB5.ext hE14
      refine g1 53 rfl rfl (x_move (by conv => lhs; whnf)) ?_
      refine g1 53 rfl rfl (x_convf u3 us5 rfl (fits_i64 (by omega) (by omega))) ?_
      refine g1 53 rfl rfl ((x_eql rfl rfl).cast (congrArg _ (decide_eq_true rfl))) ?_
      refine p1 (x_pick_t rfl (by conv => lhs; whnf)) ?_
      refine p1 (x_move (by conv => lhs; whnf)) ?_
      refine g1 60 rfl rfl (x_move (by conv => lhs; whnf)) ?_
      refine g1 60 rfl rfl (x_loadB ua29 rfl hB5 (hv_sz sz29 h)) ?_
      refine g_drop 60 rfl rfl ?_
      refine o_call Try.func17 fn17 fb17 ((bloom_Has h _ _ _ _ _ _ hA.sl (by omega) (Nat.zero_le _)).known (c := .bool false) (congrArg Value.bool (full_none h (by omega) hK1.1 hK1.2))) rfl ?_
      rintro v15 w15 ⟨rfl, hE15⟩
      have hX := hX.ext hE15
      have hA := hA.ext hE15
      have hC := hC.ext hE15
      have hB5 := hB5.ext hE15
      refine g1 60 rfl rfl (x_not rfl) ?_
      refine p1 (x_pick_t rfl (by conv => lhs; whnf)) ?_
      refine p1 (x_move (by conv => lhs; whnf)) ?_
      refine g1 66 rfl rfl (x_move (by conv => lhs; whnf)) ?_
      refine g1 66 rfl rfl (x_loadB ua29 rfl hB5 (hv_sz sz29 h)) ?_
      refine g_drop 66 rfl rfl ?_
      refine o_call Try.func17 fn17 fb17 ((bloom_Has h _ _ _ _ _ _ hC.sl (by omega) (Nat.zero_le _)).known (congrArg Value.bool (full_all h (by omega) hK1.1 hK1.2))) rfl ?_
      rintro v16 w16 ⟨rfl, hE16⟩
      have hX := hX.ext hE16
      have hA := hA.ext hE16
      have hC := hC.ext hE16
      have hB5 := hB5.ext hE16
      refine g1 66 rfl rfl (x_move (by conv => lhs; whnf)) ?_
      refine g1 66 rfl rfl (x_gtr rfl rfl) ?_
      refine g1 66 rfl rfl ((x_eql_bool u4 rfl rfl).cast (congrArg _ (decide_eq_true (decide_eq_decide.2 (by omega))))) ?_
      refine p1 (x_pick_t rfl (by conv => lhs; whnf)) ?_
      refine p1 (x_move (by conv => lhs; whnf)) ?_
      refine g1 74 rfl rfl (x_move (by conv => lhs; whnf)) ?_
      refine g_drop 74 rfl rfl ?_
      refine o_buildSlice u26 inf5 rfl (by decide) (fun base hb => fill_kn [.int .u8 255] (by intro v hv'; simp only [List.mem_cons, List.not_mem_nil, or_false] at hv'; rcases hv' with rfl <;> rfl) base hb) ?_
      intro w17 g76 hN76
      have hE17 := hN76.ext
      have hX := hX.ext hE17
      have hA := hA.ext hE17
      have hC := hC.ext hE17
      have hB5 := hB5.ext hE17
      have hJ : Own kByte 5 0 0 w17 (some ⟨g76, 0, none⟩) 1 1 [255] := own_lit [255] hN76 (Nat.zero_le _) (by simp)
      refine g_drop 74 rfl rfl ?_
      have hB0 := hX.size
      refine o_append (d := kByte) ([255]) u26 inf5 rfl kByte_pos rfl rfl hC (src_pure u26 hJ.sl (by decide)) rfl (byte_all _ _ _) (rfl) (by omega) (by omega) (by omega) (by omega) (by decide) ?_
      intro p77 c77 w18 hC hM18
      have hX := hX.mod hM18 (Nat.le_refl _)
      refine g_drop 74 rfl rfl ?_
      refine o_call Try.func13 fn13 fb13 ((bloom_Check _ _ _ _ _ _ hC.sl (by omega)).known (congrArg (Value.int .i64) (full_more 255 (by omega) hK1.1 hK1.2))) rfl ?_
      rintro v19 w19 ⟨rfl, hE19⟩
      have hX := hX.ext hE19
      have hC := hC.ext hE19
      refine g1 74 rfl rfl ((x_eql rfl rfl).cast (congrArg _ (decide_eq_true rfl))) ?_
      refine p1 (x_pick_t rfl (by conv => lhs; whnf)) ?_
      refine p1 (x_move (by conv => lhs; whnf)) ?_
      refine g_drop 81 rfl rfl ?_
      refine o_call Try.func10 fn10 fb10 (law09_awake _) rfl ?_
      rintro v20 w20 ⟨rfl, hE20⟩
      have hX := hX.ext hE20
      have hC := hC.ext hE20
      refine p1 (x_pick_t rfl (by conv => lhs; whnf)) ?_
      refine p1 (x_assign (by conv => lhs; whnf)) ?_
      refine r_nil ?_
      refine t_n ?_
      refine c_ret ?_
      refine end1 rfl (by conv => lhs; whnf) ?_
      exact ⟨rfl, hX⟩
  · try simp only [decide_eq_true_eq, decide_eq_false_iff_not, Bool.not_eq_true, Bool.not_eq_false, Bool.not_eq_eq_eq_not, Bool.not_true, Bool.not_false, Int.not_lt, Int.not_le] at hc28
    have hh : headB a.toNat K = [a, 0, UInt8.ofNat K] := by rw [headB_lt (by omega) (by omega), UInt8.ofNat_toNat]
    refine c_skip ?_
    refine t_n ?_
    refine c_seq ?_
    refine r_plain ?_
    have hXs := hX.size
    first
      | (rw [← hh] at hH2
         have hH := hH2
         skip)
      | rw [← hh] at hH
    have hHb := hH
    refine o_buildSlice u26 inf5 rfl (by decide) (fun base hb => by have h0 : base = #[] := Array.eq_empty_of_size_eq_zero (by simpa using hb); subst h0; rfl) ?_
    intro w21 g33 hN33
    have hE21 := hN33.ext
    have hX := hX.ext hE21
    have hB5 := hB5.ext hE21
    have hH := hH.ext hE21
    have hA : Own kByte 5 0 w.heap.size w21 (some ⟨g33, 0, none⟩) 0 0 [] := Own.made kByte 5 0 _ hN33 [] [] 0 0 rfl trivial hXs (by omega) (by omega) (by rfl) (by simp)
    have hAH : Apart (some ⟨g33, 0, none⟩) _ := Apart.step (p := none) (.inl rfl) hHb (.inr ⟨_, rfl, Nat.le_of_eq hN33.g_eq.symm⟩)
    refine p1 (x_move (by conv => lhs; whnf)) ?_
    have hB0 := hX.size
    refine o_append1 (d := kByte) (headB a.toNat K) u26 inf5 rfl kByte_pos rfl rfl hA (src_pure u26 hH.sl (by decide)) hH.len (byte_all _ _ _) (rfl) (by omega) (by omega) (by omega) (by omega) (by decide) ?_
    intro p35 c35 w22 hA hM22 hp35 hon35
    have hX := hX.mod hM22 (Nat.le_refl _)
    have hB5 := hB5.mod hM22 (by decide)
    have hH := hH.one hM22 (Nat.zero_le _) (by decide) hon35 hAH
    rw [List.nil_append] at hA
    have hXs := hX.size
    have hHb := hH
    have hAb := hA
    refine o_buildSlice u26 inf5 rfl (by decide) (fun base hb => by have h0 : base = #[] := Array.eq_empty_of_size_eq_zero (by simpa using hb); subst h0; rfl) ?_
    intro w23 g36 hN36
    have hE23 := hN36.ext
    have hX := hX.ext hE23
    have hB5 := hB5.ext hE23
    have hH := hH.ext hE23
    have hA := hA.ext hE23
    have hC : Own kByte 5 0 w.heap.size w23 (some ⟨g36, 0, none⟩) 0 0 [] := Own.made kByte 5 0 _ hN36 [] [] 0 0 rfl trivial hXs (by omega) (by omega) (by rfl) (by simp)
    have hCH : Apart (some ⟨g36, 0, none⟩) _ := Apart.step (p := none) (.inl rfl) hHb (.inr ⟨_, rfl, Nat.le_of_eq hN36.g_eq.symm⟩)
    have hCA : Apart (some ⟨g36, 0, none⟩) _ := Apart.step (p := none) (.inl rfl) hAb (.inr ⟨_, rfl, Nat.le_of_eq hN36.g_eq.symm⟩)
    refine p1 (x_move (by conv => lhs; whnf)) ?_
    have hB0 := hX.size
    have hAb := hA
    refine o_append1 (d := kByte) (headB a.toNat K) u26 inf5 rfl kByte_pos rfl rfl hC (src_pure u26 hH.sl (by decide)) hH.len (byte_all _ _ _) (rfl) (by omega) (by omega) (by omega) (by omega) (by decide) ?_
    intro p38 c38 w24 hC hM24 hp38 hon38
    have hX := hX.mod hM24 (Nat.le_refl _)
    have hB5 := hB5.mod hM24 (by decide)
    have hA := hA.one hM24 (Nat.zero_le _) (by decide) hon38 hCA
    rw [List.nil_append] at hC
    have hCA := hCA.step hAb hp38
    refine p1 (x_assign (by conv => lhs; whnf)) ?_
    refine p1 (x_assign (by conv => lhs; whnf)) ?_
    refine r_nil ?_
    refine t_n ?_
    refine c_seq ?_
    refine c_seq ?_
    refine r_plain ?_
    refine p1 (x_assign (by conv => lhs; whnf)) ?_
    refine r_nil ?_
    refine t_n ?_
    refine c_block ?_
    refine c_loop (ι := Nat × Option Addr × Nat × Nat × Option Addr × Nat × Nat) [10, 11, 12, 39, 40, 41, 42, 43, 44, 45, 46, 47, 48, 49] (fun (i, pa, ma, ca, pc, mc, cc) => [(10, .slice pa ma ca), (11, .slice pc mc cc), (12, .int .i64 (i : Int))]) (fun (i, pa, ma, ca, pc, mc, cc) w' => Ext w w' ∧ (Own kByte 5 0 w.heap.size w' pa ma ca (headB a.toNat K ++ List.replicate i 0) ∧ Own kByte 5 0 w.heap.size w' pc mc cc (headB a.toNat K ++ List.replicate i 255) ∧ Apart pc pa ∧ Blk w' g5 (hv h) 29 ∧ i ≤ szB a.toNat K)) (fun (i, pa, ma, ca, pc, mc, cc) => szB a.toNat K - i) ((0, _, _, _, _, _, _)) ⟨rfl, rfl, rfl, trivial⟩ ⟨hX, ⟨by simpa using hA, by simpa using hC, hCA, hB5, by omega⟩⟩ ?_
    rintro ⟨i, pa, ma, ca, pc, mc, cc⟩ GL0 w25 ⟨hE25, hA, hC, hCA, hB5, hi⟩
    have hX := hE25
    have hAl := hA.len
    have hCl := hC.len
    rw [List.length_append, List.length_replicate] at hAl hCl
    refine c_seq ?_
    refine c_seq ?_
    refine r_plain ?_
    refine p1 (x_move (by conv => lhs; whnf)) ?_
    refine p1 (x_move (by conv => lhs; whnf)) ?_
    refine p1 (x_lss rfl rfl) ?_
    refine r_nil ?_
    refine t_n ?_
    first | refine c_dec rfl (fun hc41 => ?_) (fun hc41 => ?_) | refine c_if rfl (fun hc41 => ?_) (fun hc41 => ?_)
    · try simp only [decide_eq_true_eq, decide_eq_false_iff_not, Bool.not_eq_true, Bool.not_eq_false, Bool.not_eq_eq_eq_not, Bool.not_true, Bool.not_false, Int.not_lt, Int.not_le] at hc41
      refine c_skip ?_
      refine t_n ?_
      refine c_seq ?_
      refine c_block ?_
      refine c_seq ?_
      refine r_plain ?_
      refine p1 (x_move (by conv => lhs; whnf)) ?_
      refine o_buildSlice u26 inf5 rfl (by decide) (fun base hb => fill_kn [.int .u8 0] (by intro v hv'; simp only [List.mem_cons, List.not_mem_nil, or_false] at hv'; rcases hv' with rfl <;> rfl) base hb) ?_
      intro w26 g45 hN45
      have hE26 := hN45.ext
      have hX := hX.ext hE26
      have hA := hA.ext hE26
      have hC := hC.ext hE26
      have hB5 := hB5.ext hE26
      have hJ : Own kByte 5 0 0 w26 (some ⟨g45, 0, none⟩) 1 1 [0] := own_lit [0] hN45 (Nat.zero_le _) (by simp)
      have hB0 := hX.size
      have hCb := hC
      refine o_append1 (d := kByte) ([0]) u26 inf5 rfl kByte_pos rfl rfl hA (src_pure u26 hJ.sl (by decide)) rfl (byte_all _ _ _) (rfl) (by omega) (by omega) (by omega) (by omega) (by decide) ?_
      intro p46 c46 w27 hA hM27 hp46 hon46
      have hX := hX.mod hM27 (Nat.le_refl _)
      have hC := hC.one hM27 (Nat.zero_le _) (by decide) hon46 hCA.symm
      have hB5 := hB5.mod hM27 (by decide)
      have hAC := (hCA.symm).step hCb hp46
      refine p1 (x_assign (by conv => lhs; whnf)) ?_
      refine r_nil ?_
      refine t_n ?_
      refine r_plain ?_
      refine p1 (x_move (by conv => lhs; whnf)) ?_
      refine o_buildSlice u26 inf5 rfl (by decide) (fun base hb => fill_kn [.int .u8 255] (by intro v hv'; simp only [List.mem_cons, List.not_mem_nil, or_false] at hv'; rcases hv' with rfl <;> rfl) base hb) ?_
      intro w28 g48 hN48
      have hE28 := hN48.ext
      have hX := hX.ext hE28
      have hC := hC.ext hE28
      have hB5 := hB5.ext hE28
      have hA := hA.ext hE28
      have hJ : Own kByte 5 0 0 w28 (some ⟨g48, 0, none⟩) 1 1 [255] := own_lit [255] hN48 (Nat.zero_le _) (by simp)
      have hB0 := hX.size
      have hAb := hA
      refine o_append1 (d := kByte) ([255]) u26 inf5 rfl kByte_pos rfl rfl hC (src_pure u26 hJ.sl (by decide)) rfl (byte_all _ _ _) (rfl) (by omega) (by omega) (by omega) (by omega) (by decide) ?_
      intro p49 c49 w29 hC hM29 hp49 hon49
      have hX := hX.mod hM29 (Nat.le_refl _)
      have hB5 := hB5.mod hM29 (by decide)
      have hA := hA.one hM29 (Nat.zero_le _) (by decide) hon49 hAC.symm
      have hCA := (hAC.symm).step hAb hp49
      refine p1 (x_assign (by conv => lhs; whnf)) ?_
      refine r_nil ?_
      refine b_n ?_
      refine t_n ?_
      refine r_plain ?_
      refine p1 (x_move (by conv => lhs; whnf)) ?_
      refine p1 (x_add rfl rfl (fits_i64 (by omega) (by omega))) ?_
      refine p1 (x_assign (by conv => lhs; whnf)) ?_
      refine r_nil ?_
      refine t_n (At.mk ((i + 1, p46, ma + 1, c46, p49, mc + 1, c49)) (by repeat (first | exact Agr.refl _ _ | exact Agr.hav _ _ _ | refine Agr.upd rfl ?_ | refine Agr.updR rfl ?_ | refine Agr.updL ?_ _ rfl | refine Agr.hav' rfl ?_)) ⟨rfl, rfl, rfl, trivial⟩ ?_)
      exact ⟨⟨hX, ⟨by rw [rep_snoc, ← List.append_assoc]; exact hA, by rw [rep_snoc, ← List.append_assoc]; exact hC, hCA, hB5, by omega⟩⟩, by first | (dsimp only; omega) | ((show _ < _); omega)⟩
    · try simp only [decide_eq_true_eq, decide_eq_false_iff_not, Bool.not_eq_true, Bool.not_eq_false, Bool.not_eq_eq_eq_not, Bool.not_true, Bool.not_false, Int.not_lt, Int.not_le] at hc41
      have hi2 : i = szB a.toNat K := by omega
      rw [hi2] at hA hC
      obtain ⟨hf1, hf2⟩ := full_check (n := a.toNat) (k := K) 0 (by omega) hK1.1 hK1.2
      obtain ⟨hf3, hf4⟩ := full_check (n := a.toNat) (k := K) 255 (by omega) hK1.1 hK1.2
      refine c_exit ?_
      refine t_e ?_
      refine t_e ?_
      refine b_hit ?_
      refine t_n ?_
      refine c_seq ?_
      refine r_plain ?_
      refine p1 (x_move (by conv => lhs; whnf)) ?_
      refine o_call Try.func13 fn13 fb13 ((bloom_Check _ _ _ _ _ _ hA.sl (by omega)).known (congrArg (Value.int .i64) hf1)) rfl ?_
      rintro v30 w30 ⟨rfl, hE30⟩
      have hX := hX.ext hE30
      have hA := hA.ext hE30
      have hC := hC.ext hE30
      have hB5 := hB5.ext hE30
      refine p1 ((x_eql rfl rfl).cast (congrArg _ (decide_eq_true rfl))) ?_
      refine p1 (x_move (by conv => lhs; whnf)) ?_
      refine g1 53 rfl rfl (x_move (by conv => lhs; whnf)) ?_
      refine g_drop 53 rfl rfl ?_
      refine o_call Try.func15 fn15 fb15 ((bloom_Many _ _ _ _ _ _ hC.sl (by omega)).known (congrArg (fun m : Nat => Value.int .i64 (m : Int)) hf4)) rfl ?_
      rintro v31 w31 ⟨rfl, hE31⟩
      have hX := hX.ext hE31
      have hA := hA.ext hE31
      have hC := hC.ext hE31
      have hB5 := hB5.ext hE31
      refine g1 53 rfl rfl (x_move (by conv => lhs; whnf)) ?_
      refine g1 53 rfl rfl (x_convf u3 us5 rfl (fits_i64 (by omega) (by omega))) ?_
      refine g1 53 rfl rfl ((x_eql rfl rfl).cast (congrArg _ (decide_eq_true rfl))) ?_
      refine p1 (x_pick_t rfl (by conv => lhs; whnf)) ?_
      refine p1 (x_move (by conv => lhs; whnf)) ?_
      refine g1 60 rfl rfl (x_move (by conv => lhs; whnf)) ?_
      refine g1 60 rfl rfl (x_loadB ua29 rfl hB5 (hv_sz sz29 h)) ?_
      refine g_drop 60 rfl rfl ?_
      refine o_call Try.func17 fn17 fb17 ((bloom_Has h _ _ _ _ _ _ hA.sl (by omega) (Nat.zero_le _)).known (c := .bool false) (congrArg Value.bool (full_none h (by omega) hK1.1 hK1.2))) rfl ?_
      rintro v32 w32 ⟨rfl, hE32⟩
      have hX := hX.ext hE32
      have hA := hA.ext hE32
      have hC := hC.ext hE32
      have hB5 := hB5.ext hE32
      refine g1 60 rfl rfl (x_not rfl) ?_
      refine p1 (x_pick_t rfl (by conv => lhs; whnf)) ?_
      refine p1 (x_move (by conv => lhs; whnf)) ?_
      refine g1 66 rfl rfl (x_move (by conv => lhs; whnf)) ?_
      refine g1 66 rfl rfl (x_loadB ua29 rfl hB5 (hv_sz sz29 h)) ?_
      refine g_drop 66 rfl rfl ?_
      refine o_call Try.func17 fn17 fb17 ((bloom_Has h _ _ _ _ _ _ hC.sl (by omega) (Nat.zero_le _)).known (congrArg Value.bool (full_all h (by omega) hK1.1 hK1.2))) rfl ?_
      rintro v33 w33 ⟨rfl, hE33⟩
      have hX := hX.ext hE33
      have hA := hA.ext hE33
      have hC := hC.ext hE33
      have hB5 := hB5.ext hE33
      refine g1 66 rfl rfl (x_move (by conv => lhs; whnf)) ?_
      refine g1 66 rfl rfl (x_gtr rfl rfl) ?_
      refine g1 66 rfl rfl ((x_eql_bool u4 rfl rfl).cast (congrArg _ (decide_eq_true (decide_eq_decide.2 (by omega))))) ?_
      refine p1 (x_pick_t rfl (by conv => lhs; whnf)) ?_
      refine p1 (x_move (by conv => lhs; whnf)) ?_
      refine g1 74 rfl rfl (x_move (by conv => lhs; whnf)) ?_
      refine g_drop 74 rfl rfl ?_
      refine o_buildSlice u26 inf5 rfl (by decide) (fun base hb => fill_kn [.int .u8 255] (by intro v hv'; simp only [List.mem_cons, List.not_mem_nil, or_false] at hv'; rcases hv' with rfl <;> rfl) base hb) ?_
      intro w34 g76 hN76
      have hE34 := hN76.ext
      have hX := hX.ext hE34
      have hA := hA.ext hE34
      have hC := hC.ext hE34
      have hB5 := hB5.ext hE34
      have hJ : Own kByte 5 0 0 w34 (some ⟨g76, 0, none⟩) 1 1 [255] := own_lit [255] hN76 (Nat.zero_le _) (by simp)
      refine g_drop 74 rfl rfl ?_
      have hB0 := hX.size
      refine o_append (d := kByte) ([255]) u26 inf5 rfl kByte_pos rfl rfl hC (src_pure u26 hJ.sl (by decide)) rfl (byte_all _ _ _) (rfl) (by omega) (by omega) (by omega) (by omega) (by decide) ?_
      intro p77 c77 w35 hC hM35
      have hX := hX.mod hM35 (Nat.le_refl _)
      refine g_drop 74 rfl rfl ?_
      refine o_call Try.func13 fn13 fb13 ((bloom_Check _ _ _ _ _ _ hC.sl (by omega)).known (congrArg (Value.int .i64) (full_more 255 (by omega) hK1.1 hK1.2))) rfl ?_
      rintro v36 w36 ⟨rfl, hE36⟩
      have hX := hX.ext hE36
      have hC := hC.ext hE36
      refine g1 74 rfl rfl ((x_eql rfl rfl).cast (congrArg _ (decide_eq_true rfl))) ?_
      refine p1 (x_pick_t rfl (by conv => lhs; whnf)) ?_
      refine p1 (x_move (by conv => lhs; whnf)) ?_
      refine g_drop 81 rfl rfl ?_
      refine o_call Try.func10 fn10 fb10 (law09_awake _) rfl ?_
      rintro v37 w37 ⟨rfl, hE37⟩
      have hX := hX.ext hE37
      have hC := hC.ext hE37
      refine p1 (x_pick_t rfl (by conv => lhs; whnf)) ?_
      refine p1 (x_assign (by conv => lhs; whnf)) ?_
      refine r_nil ?_
      refine t_n ?_
      refine c_ret ?_
      refine end1 rfl (by conv => lhs; whnf) ?_
      exact ⟨rfl, hX⟩
end Go.Proofs.Eng
end
