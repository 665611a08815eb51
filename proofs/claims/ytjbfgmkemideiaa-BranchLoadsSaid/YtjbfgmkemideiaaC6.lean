import Derived.Test.YtjbfgmkemideiaaC5
import Derived.Test.YtjbfgmkemideiaaT5
set_option linter.unusedVariables false
set_option linter.unusedSimpArgs false
set_option maxRecDepth 100000
set_option maxHeartbeats 4000000
namespace Go.Proofs.Eng
open Go.RowKit
open Extern.Stop (cell)
theorem branch_Heads_nil (k : ByteArray) (w : World) :
    Ret Try.prog 49 [.pointer none, .string k] w (fun v w' => v = .tuple #[.slice none 0 0, .int .i64 1] ∧ Ext w w') := by
  have hX := Ext.refl w
  refine enter 21 _ Try.func49 rfl rfl (Nat.le_of_ble_eq_true rfl) ?_
  refine c_seq ?_
  refine r_plain ?_
  refine p1 (x_assign (by conv => lhs; whnf)) ?_
  refine p1 (x_assign (by conv => lhs; whnf)) ?_
  refine r_nil ?_
  refine t_n ?_
  refine c_seq ?_
  refine c_block ?_
  refine c_seq ?_
  refine r_plain ?_
  refine p1 (x_move (by conv => lhs; whnf)) ?_
  refine p1 ((x_eql_ptrnil u59 rfl rfl).cast (congrArg Value.bool (decide_eq_true rfl))) ?_
  refine p1 (x_assign (by conv => lhs; whnf)) ?_
  refine r_nil ?_
  refine t_n ?_
  refine c_t rfl ?_
  refine c_seq ?_
  refine r_plain ?_
  refine p1 (x_assign (by conv => lhs; whnf)) ?_
  refine p1 (x_assign (by conv => lhs; whnf)) ?_
  refine r_nil ?_
  refine t_n ?_
  refine c_ret ?_
  refine b_r ?_
  refine t_r ?_
  refine end2 rfl (by conv => lhs; whnf) (by conv => lhs; whnf) ?_
  exact ⟨rfl, hX⟩
theorem branch_Create_nil (k : ByteArray) (p : Option Addr) (n c : Nat) (w : World) :
    Ret Try.prog 50 [.pointer none, .string k, .slice p n c] w (fun v w' => v = .int .i64 1 ∧ Ext w w') := by
  have hX := Ext.refl w
  refine enter 36 _ Try.func50 rfl rfl (Nat.le_of_ble_eq_true rfl) ?_
  refine c_seq ?_
  refine r_plain ?_
  refine p1 (x_assign (by conv => lhs; whnf)) ?_
  refine r_nil ?_
  refine t_n ?_
  refine c_seq ?_
  refine c_block ?_
  refine c_seq ?_
  refine r_plain ?_
  refine p1 (x_move (by conv => lhs; whnf)) ?_
  refine p1 ((x_eql_ptrnil u59 rfl rfl).cast (congrArg Value.bool (decide_eq_true rfl))) ?_
  refine p1 (x_assign (by conv => lhs; whnf)) ?_
  refine r_nil ?_
  refine t_n ?_
  refine c_t rfl ?_
  refine c_seq ?_
  refine r_plain ?_
  refine p1 (x_assign (by conv => lhs; whnf)) ?_
  refine r_nil ?_
  refine t_n ?_
  refine c_ret ?_
  refine b_r ?_
  refine t_r ?_
  refine end1 rfl (by conv => lhs; whnf) ?_
  exact ⟨rfl, hX⟩
theorem branch_Move_nil (k : ByteArray) (p : Option Addr) (n c : Nat) (w : World) :
    Ret Try.prog 51 [.pointer none, .string k, .slice p n c] w (fun v w' => v = .int .i64 1 ∧ Ext w w') := by
  have hX := Ext.refl w
  refine enter 26 _ Try.func51 rfl rfl (Nat.le_of_ble_eq_true rfl) ?_
  refine c_seq ?_
  refine r_plain ?_
  refine p1 (x_assign (by conv => lhs; whnf)) ?_
  refine r_nil ?_
  refine t_n ?_
  refine c_seq ?_
  refine c_block ?_
  refine c_seq ?_
  refine r_plain ?_
  refine p1 (x_move (by conv => lhs; whnf)) ?_
  refine p1 ((x_eql_ptrnil u59 rfl rfl).cast (congrArg Value.bool (decide_eq_true rfl))) ?_
  refine p1 (x_assign (by conv => lhs; whnf)) ?_
  refine r_nil ?_
  refine t_n ?_
  refine c_t rfl ?_
  refine c_seq ?_
  refine r_plain ?_
  refine p1 (x_assign (by conv => lhs; whnf)) ?_
  refine r_nil ?_
  refine t_n ?_
  refine c_ret ?_
  refine b_r ?_
  refine t_r ?_
  refine end1 rfl (by conv => lhs; whnf) ?_
  exact ⟨rfl, hX⟩
theorem branch_Delete_nil (k : ByteArray) (w : World) :
    Ret Try.prog 52 [.pointer none, .string k] w (fun v w' => v = .int .i64 1 ∧ Ext w w') := by
  have hX := Ext.refl w
  refine enter 18 _ Try.func52 rfl rfl (Nat.le_of_ble_eq_true rfl) ?_
  refine c_seq ?_
  refine r_plain ?_
  refine p1 (x_assign (by conv => lhs; whnf)) ?_
  refine r_nil ?_
  refine t_n ?_
  refine c_seq ?_
  refine c_block ?_
  refine c_seq ?_
  refine r_plain ?_
  refine p1 (x_move (by conv => lhs; whnf)) ?_
  refine p1 ((x_eql_ptrnil u59 rfl rfl).cast (congrArg Value.bool (decide_eq_true rfl))) ?_
  refine p1 (x_assign (by conv => lhs; whnf)) ?_
  refine r_nil ?_
  refine t_n ?_
  refine c_t rfl ?_
  refine c_seq ?_
  refine r_plain ?_
  refine p1 (x_assign (by conv => lhs; whnf)) ?_
  refine r_nil ?_
  refine t_n ?_
  refine c_ret ?_
  refine b_r ?_
  refine t_r ?_
  refine end1 rfl (by conv => lhs; whnf) ?_
  exact ⟨rfl, hX⟩
theorem branch_List_nil (w : World) :
    Ret Try.prog 53 [.pointer none] w (fun v w' => v = .slice none 0 0 ∧ Ext w w') := by
  have hX := Ext.refl w
  refine enter 34 _ Try.func53 rfl rfl (Nat.le_of_ble_eq_true rfl) ?_
  refine c_seq ?_
  refine r_plain ?_
  refine p1 (x_assign (by conv => lhs; whnf)) ?_
  refine r_nil ?_
  refine t_n ?_
  refine c_seq ?_
  refine c_seq ?_
  refine r_plain ?_
  refine p1 (x_move (by conv => lhs; whnf)) ?_
  refine p1 ((x_eql_ptrnil u59 rfl rfl).cast (congrArg Value.bool (decide_eq_true rfl))) ?_
  refine r_nil ?_
  refine t_n ?_
  refine c_t rfl ?_
  refine c_seq ?_
  refine r_plain ?_
  refine p1 (x_assign (by conv => lhs; whnf)) ?_
  refine r_nil ?_
  refine t_n ?_
  refine c_ret ?_
  refine t_r ?_
  refine end1 rfl (by conv => lhs; whnf) ?_
  exact ⟨rfl, hX⟩
theorem branch_Fork_nil (w : World) :
    Ret Try.prog 54 [.pointer none] w (fun v w' => v = .pointer none ∧ Ext w w') := by
  have hX := Ext.refl w
  refine enter 12 _ Try.func54 rfl rfl (Nat.le_of_ble_eq_true rfl) ?_
  refine c_seq ?_
  refine r_plain ?_
  refine p1 (x_assign (by conv => lhs; whnf)) ?_
  refine r_nil ?_
  refine t_n ?_
  refine c_seq ?_
  refine c_seq ?_
  refine r_plain ?_
  refine p1 (x_move (by conv => lhs; whnf)) ?_
  refine p1 ((x_eql_ptrnil u59 rfl rfl).cast (congrArg Value.bool (decide_eq_true rfl))) ?_
  refine r_nil ?_
  refine t_n ?_
  refine c_t rfl ?_
  refine c_seq ?_
  refine r_plain ?_
  refine p1 (x_assign (by conv => lhs; whnf)) ?_
  refine r_nil ?_
  refine t_n ?_
  refine c_ret ?_
  refine t_r ?_
  refine end1 rfl (by conv => lhs; whnf) ?_
  exact ⟨rfl, hX⟩
theorem aw1 : brCreate [] nmA [] = ([(nmA, [])], 0) := by decide +kernel
theorem aw2 : brMove [(nmA, [])] nmA [hOne] = ([(nmA, [hOne])], 0) := by decide +kernel
theorem aw3 : brHeads [(nmA, [hOne])] nmA = ([hOne], 0) := by decide +kernel
theorem law15_awake (w : World) :
    Ret Try.prog 55 [] w (fun v w' => v = .bool true ∧ Ext w w') := by
  have hX := Ext.refl w
  refine enter 48 _ Try.func55 rfl rfl (Nat.le_of_ble_eq_true rfl) ?_
  refine c_seq ?_
  refine r_plain ?_
  refine p1 (x_assign (by conv => lhs; whnf)) ?_
  refine r_nil ?_
  refine t_n ?_
  refine c_seq ?_
  refine r_plain ?_
  refine o_call Try.func62 fn62 fb62 (branch_New _) rfl ?_
  rintro v1 w1 ⟨⟨gT, rT, rfl, hgT, hT⟩, hE1⟩
  have hX := hX.ext hE1
  refine p1 (x_assign (by conv => lhs; whnf)) ?_
  refine r_nil ?_
  refine t_n ?_
  refine c_seq ?_
  refine c_seq ?_
  refine r_plain ?_
  refine p1 (x_move (by conv => lhs; whnf)) ?_
  refine p1 ((x_eql_ptrnil u59 rfl rfl).cast (congrArg Value.bool (decide_eq_false (by simp)))) ?_
  refine p1 (x_move (by conv => lhs; whnf)) ?_
  refine g1 7 rfl rfl (x_move (by conv => lhs; whnf)) ?_
  refine g_drop 7 rfl rfl ?_
  refine o_call Try.func50 fn50 fb50 (branch_Create nS _ gT rT [] nmA [] 0 none 0 0 _ hT (Sl.nil _ _ _ _ _ _ (by omega)) (by decide)) rfl ?_
  rintro v2 w2 ⟨rfl, hT, hM2⟩
  have hX := hX.mod hM2 (Nat.le_refl _)
  rw [aw1] at hT
  refine g1 7 rfl rfl ((x_neq rfl rfl).cast (congrArg Value.bool (decide_eq_false (by rw [aw1]; simp)))) ?_
  refine p1 (x_pick_f rfl (by conv => lhs; whnf)) ?_
  refine p1 (x_move (by conv => lhs; whnf)) ?_
  refine g1 12 rfl rfl (x_move (by conv => lhs; whnf)) ?_
  refine g1 12 rfl rfl (x_buildC bdOne rfl) ?_
  refine g_drop 12 rfl rfl ?_
  refine o_buildSlice u31 inf35 rfl (by decide) (fun base hb => fill_kn [.agg (hv hOne)] (by intro v hv'; simp only [List.mem_singleton] at hv'; subst hv'; rfl) base hb) ?_
  intro w3 g15 hN15
  have hE3 := hN15.ext
  have hX := hX.ext hE3
  have hT := hT.ext hE3
  have hI : Own kHash 35 0 0 w3 (some ⟨g15, 0, none⟩) 1 1 [hOne] := own_lit [hOne] hN15 (Nat.zero_le _) (by decide)
  refine g_drop 12 rfl rfl ?_
  refine o_call Try.func51 fn51 fb51 (branch_Move _ _ gT rT [(nmA, [])] nmA [hOne] 0 _ _ _ _ hT hI.sl (by decide)) rfl ?_
  rintro v4 w4 ⟨rfl, hT, hM4⟩
  have hX := hX.mod hM4 (Nat.le_refl _)
  have hI := hI.mod hM4 (Nat.zero_le _) (by decide)
  rw [aw2] at hT
  refine g1 12 rfl rfl ((x_neq rfl rfl).cast (congrArg Value.bool (decide_eq_false (by rw [aw2]; simp)))) ?_
  refine p1 (x_pick_f rfl (by conv => lhs; whnf)) ?_
  refine r_nil ?_
  refine t_n ?_
  refine c_f rfl ?_
  refine c_skip ?_
  refine t_n ?_
  refine c_seq ?_
  refine r_plain ?_
  refine p1 (x_move (by conv => lhs; whnf)) ?_
  refine o_call Try.func49 fn49 fb49 (branch_Heads _ _ gT rT [(nmA, [hOne])] nmA _ hT) rfl ?_
  rintro v5 w5 ⟨⟨q4, m4, c4, rfl, hH⟩, hE5⟩
  have hX := hX.ext hE5
  have hI := hI.ext hE5
  have hT := hT.ext hE5
  rw [aw3] at hH
  refine p1 (x_move (by conv => lhs; whnf)) ?_
  refine p1 (x_extract rfl rfl) ?_
  refine p1 (x_extract rfl rfl) ?_
  refine p1 (x_assign (by conv => lhs; whnf)) ?_
  refine p1 (x_assign (by conv => lhs; whnf)) ?_
  refine r_nil ?_
  refine t_n ?_
  refine c_seq ?_
  refine r_plain ?_
  refine p1 (x_move (by conv => lhs; whnf)) ?_
  refine p1 ((x_eql rfl rfl).cast (congrArg Value.bool (decide_eq_true (by rw [aw3])))) ?_
  refine p1 (x_move (by conv => lhs; whnf)) ?_
  refine g1 26 rfl rfl (x_move (by conv => lhs; whnf)) ?_
  refine g1 26 rfl rfl (x_buildC bdOne rfl) ?_
  refine g_drop 26 rfl rfl ?_
  refine o_buildSlice u31 inf35 rfl (by decide) (fun base hb => fill_kn [.agg (hv hOne)] (by intro v hv'; simp only [List.mem_singleton] at hv'; subst hv'; rfl) base hb) ?_
  intro w6 g29 hN29
  have hE6 := hN29.ext
  have hX := hX.ext hE6
  have hI := hI.ext hE6
  have hT := hT.ext hE6
  have hH := hH.ext hE6
  have hJ : Own kHash 35 0 0 w6 (some ⟨g29, 0, none⟩) 1 1 [hOne] := own_lit [hOne] hN29 (Nat.zero_le _) (by decide)
  refine g_drop 26 rfl rfl ?_
  refine o_call Try.func36 fn36 fb36 ((ref06_Same [hOne] [hOne] _ _ _ _ _ _ _ _ _ hH.sl hJ.sl).known (c := .bool true) (congrArg Value.bool (decide_eq_true rfl))) rfl ?_
  rintro v7 w7 ⟨rfl, hE7⟩
  have hX := hX.ext hE7
  have hI := hI.ext hE7
  have hT := hT.ext hE7
  have hH := hH.ext hE7
  have hJ := hJ.ext hE7
  refine p1 (x_pick_t rfl (by conv => lhs; whnf)) ?_
  refine p1 (x_move (by conv => lhs; whnf)) ?_
  refine p1 (x_pick_t rfl (by conv => lhs; whnf)) ?_
  refine p1 (x_move (by conv => lhs; whnf)) ?_
  refine p1 (x_pick_t rfl (by conv => lhs; whnf)) ?_
  refine p1 (x_move (by conv => lhs; whnf)) ?_
  refine p1 (x_pick_t rfl (by conv => lhs; whnf)) ?_
  refine p1 (x_move (by conv => lhs; whnf)) ?_
  refine p1 (x_pick_t rfl (by conv => lhs; whnf)) ?_
  refine p1 (x_move (by conv => lhs; whnf)) ?_
  refine p1 (x_pick_t rfl (by conv => lhs; whnf)) ?_
  refine p1 (x_move (by conv => lhs; whnf)) ?_
  refine p1 (x_pick_t rfl (by conv => lhs; whnf)) ?_
  refine p1 (x_move (by conv => lhs; whnf)) ?_
  refine p1 (x_pick_t rfl (by conv => lhs; whnf)) ?_
  refine p1 (x_move (by conv => lhs; whnf)) ?_
  refine p1 (x_pick_t rfl (by conv => lhs; whnf)) ?_
  refine p1 (x_assign (by conv => lhs; whnf)) ?_
  refine r_nil ?_
  refine t_n ?_
  refine c_ret ?_
  refine end1 rfl (by conv => lhs; whnf) ?_
  exact ⟨rfl, hX⟩
theorem law_BranchNobody (k : ByteArray) (p : Option Addr) (n c : Nat) (w : World) :
    Ret Try.prog 10 [.string k, .slice p n c] w (fun v w' => v = .bool true ∧ Ext w w') := by
  have hX := Ext.refl w
  refine enter 55 _ Try.func10 rfl rfl (Nat.le_of_ble_eq_true rfl) ?_
  refine c_seq ?_
  refine r_plain ?_
  refine p1 (x_assign (by conv => lhs; whnf)) ?_
  refine r_nil ?_
  refine t_n ?_
  refine c_seq ?_
  refine r_plain ?_
  refine p1 (x_assign (by conv => lhs; whnf)) ?_
  refine r_nil ?_
  refine t_n ?_
  refine c_seq ?_
  refine r_plain ?_
  refine p1 (x_move (by conv => lhs; whnf)) ?_
  refine p1 (x_move (by conv => lhs; whnf)) ?_
  refine o_call Try.func49 fn49 fb49 (branch_Heads_nil k _) rfl ?_
  rintro v1 w1 ⟨rfl, hE1⟩
  have hX := hX.ext hE1
  refine p1 (x_move (by conv => lhs; whnf)) ?_
  refine p1 (x_extract rfl rfl) ?_
  refine p1 (x_extract rfl rfl) ?_
  refine p1 (x_assign (by conv => lhs; whnf)) ?_
  refine p1 (x_assign (by conv => lhs; whnf)) ?_
  refine r_nil ?_
  refine t_n ?_
  refine c_seq ?_
  refine r_plain ?_
  refine p1 (x_move (by conv => lhs; whnf)) ?_
  refine p1 (x_move (by conv => lhs; whnf)) ?_
  refine p1 (x_move (by conv => lhs; whnf)) ?_
  refine o_call Try.func50 fn50 fb50 (branch_Create_nil k _ _ _ _) rfl ?_
  rintro v2 w2 ⟨rfl, hE2⟩
  have hX := hX.ext hE2
  refine p1 ((x_eql rfl rfl).cast (congrArg Value.bool (decide_eq_true rfl))) ?_
  refine p1 (x_move (by conv => lhs; whnf)) ?_
  refine g1 19 rfl rfl (x_move (by conv => lhs; whnf)) ?_
  refine g1 19 rfl rfl (x_move (by conv => lhs; whnf)) ?_
  refine g1 19 rfl rfl (x_move (by conv => lhs; whnf)) ?_
  refine g_drop 19 rfl rfl ?_
  refine o_call Try.func51 fn51 fb51 (branch_Move_nil k _ _ _ _) rfl ?_
  rintro v3 w3 ⟨rfl, hE3⟩
  have hX := hX.ext hE3
  refine g1 19 rfl rfl ((x_eql rfl rfl).cast (congrArg Value.bool (decide_eq_true rfl))) ?_
  refine p1 (x_pick_t rfl (by conv => lhs; whnf)) ?_
  refine p1 (x_move (by conv => lhs; whnf)) ?_
  refine g1 26 rfl rfl (x_move (by conv => lhs; whnf)) ?_
  refine g1 26 rfl rfl (x_move (by conv => lhs; whnf)) ?_
  refine g_drop 26 rfl rfl ?_
  refine o_call Try.func52 fn52 fb52 (branch_Delete_nil k _) rfl ?_
  rintro v4 w4 ⟨rfl, hE4⟩
  have hX := hX.ext hE4
  refine g1 26 rfl rfl ((x_eql rfl rfl).cast (congrArg Value.bool (decide_eq_true rfl))) ?_
  refine p1 (x_pick_t rfl (by conv => lhs; whnf)) ?_
  refine p1 (x_move (by conv => lhs; whnf)) ?_
  refine g1 32 rfl rfl (x_move (by conv => lhs; whnf)) ?_
  refine g1 32 rfl rfl (x_len_slice u31 rfl) ?_
  refine g1 32 rfl rfl ((x_eql rfl rfl).cast (congrArg Value.bool (decide_eq_true rfl))) ?_
  refine p1 (x_pick_t rfl (by conv => lhs; whnf)) ?_
  refine p1 (x_move (by conv => lhs; whnf)) ?_
  refine g1 37 rfl rfl (x_move (by conv => lhs; whnf)) ?_
  refine g1 37 rfl rfl ((x_eql rfl rfl).cast (congrArg Value.bool (decide_eq_true rfl))) ?_
  refine p1 (x_pick_t rfl (by conv => lhs; whnf)) ?_
  refine p1 (x_move (by conv => lhs; whnf)) ?_
  refine g1 41 rfl rfl (x_move (by conv => lhs; whnf)) ?_
  refine g_drop 41 rfl rfl ?_
  refine o_call Try.func53 fn53 fb53 (branch_List_nil _) rfl ?_
  rintro v5 w5 ⟨rfl, hE5⟩
  have hX := hX.ext hE5
  refine g1 41 rfl rfl (x_len_slice u30 rfl) ?_
  refine g1 41 rfl rfl ((x_eql rfl rfl).cast (congrArg Value.bool (decide_eq_true rfl))) ?_
  refine p1 (x_pick_t rfl (by conv => lhs; whnf)) ?_
  refine p1 (x_move (by conv => lhs; whnf)) ?_
  refine g1 47 rfl rfl (x_move (by conv => lhs; whnf)) ?_
  refine g_drop 47 rfl rfl ?_
  refine o_call Try.func54 fn54 fb54 (branch_Fork_nil _) rfl ?_
  rintro v6 w6 ⟨rfl, hE6⟩
  have hX := hX.ext hE6
  refine g1 47 rfl rfl ((x_eql_ptrnil u59 rfl rfl).cast (congrArg Value.bool (decide_eq_true rfl))) ?_
  refine p1 (x_pick_t rfl (by conv => lhs; whnf)) ?_
  refine p1 (x_move (by conv => lhs; whnf)) ?_
  refine g_drop 52 rfl rfl ?_
  refine o_call Try.func55 fn55 fb55 (law15_awake _) rfl ?_
  rintro v7 w7 ⟨rfl, hE7⟩
  have hX := hX.ext hE7
  refine p1 (x_pick_t rfl (by conv => lhs; whnf)) ?_
  refine p1 (x_assign (by conv => lhs; whnf)) ?_
  refine r_nil ?_
  refine t_n ?_
  refine c_ret ?_
  refine end1 rfl (by conv => lhs; whnf) ?_
  exact ⟨rfl, hX⟩
end Go.Proofs.Eng
