import Derived.Test.YtlmfpocifkpggaaDoorKSF2
/- Merged: V8 T9 V9 T10 VA T11 VB T12 VC T13 VD T14 VE T15 VF -/
section
set_option linter.unusedVariables false
set_option linter.unusedSimpArgs false
set_option maxRecDepth 100000
set_option maxHeartbeats 4000000
namespace Go.Proofs.Eng
open Go.RowKit
open Extern.Stop (cell)
theorem u51i : Tryd.prog.underlying 51 = some (.interface (Tryd.prog.methodsAt 51)) := by kernel_rfl
theorem segment_Name (n : Int) (w : World) (hg : Gl w) :
    Ret Tryd.prog 8 [.int .i64 n] w (fun v w' => v = .string (toStr (nameF n)) ∧ Ext w w') := by
  have hX := Ext.refl w
  refine enter 18 _ Tryd.func8 rfl rfl (Nat.le_of_ble_eq_true rfl) rfl ?_
  refine c_seq ?_
  refine r_plain ?_
  refine p1 (x_assign (by conv => lhs; whnf)) ?_
  refine r_nil ?_
  refine t_n ?_
  refine c_seq ?_
  refine c_seq ?_
  have hWr1 := Ext.refl w
  refine c_cut (ι := Unit) [4, 5, 6, 7, 8, 9] (fun _ => [(9, .bool (decide (n < 1 ∨ 999999 < n)))]) (fun _ w' => Ext w w') ?_ ?_
  · skip
    refine r_plain ?_
    refine p1 (x_move (by conv => lhs; whnf)) ?_
    refine p1 (x_lss rfl rfl) ?_
    refine p1b (x_move (by conv => lhs; whnf)) (fun hb1_2 => ?_) (fun hb1_2 => ?_)
    · try simp only [decide_eq_true_eq, decide_eq_false_iff_not, Bool.not_eq_true, Bool.not_eq_false, Bool.not_eq_eq_eq_not, Bool.not_true, Bool.not_false, Int.not_lt, Int.not_le] at hb1_2
      refine g0 6 rfl (by first | exact .inl rfl | exact .inr rfl) ?_
      refine g0 6 rfl (by first | exact .inl rfl | exact .inr rfl) ?_
      refine p1 (x_pick_t rfl (by conv => lhs; whnf)) ?_
      refine r_nil ?_
      refine t_n (At.mk () (by repeat (first | exact Agr.refl _ _ | exact Agr.hav _ _ _ | refine Agr.upd rfl ?_ | refine Agr.updR rfl ?_ | refine Agr.updL ?_ _ rfl | refine Agr.hav' rfl ?_)) ⟨congrArg Value.bool (by first | rfl | exact (decide_eq_true (by omega)).symm | exact (decide_eq_false (by omega)).symm | exact decide_eq_decide.2 (by omega) | (simp_all; done) | grind), trivial⟩ hWr1)
    · try simp only [decide_eq_true_eq, decide_eq_false_iff_not, Bool.not_eq_true, Bool.not_eq_false, Bool.not_eq_eq_eq_not, Bool.not_true, Bool.not_false, Int.not_lt, Int.not_le] at hb1_2
      refine g1 6 rfl rfl (x_move (by conv => lhs; whnf)) ?_
      refine g1 6 rfl rfl (x_gtr rfl rfl) ?_
      refine p1 (x_pick_f rfl (by conv => lhs; whnf)) ?_
      refine r_nil ?_
      refine t_n (At.mk () (by repeat (first | exact Agr.refl _ _ | exact Agr.hav _ _ _ | refine Agr.upd rfl ?_ | refine Agr.updR rfl ?_ | refine Agr.updL ?_ _ rfl | refine Agr.hav' rfl ?_)) ⟨congrArg Value.bool (by first | rfl | exact (decide_eq_true (by omega)).symm | exact (decide_eq_false (by omega)).symm | exact decide_eq_decide.2 (by omega) | (simp_all; done) | grind), trivial⟩ hWr1)
  · rintro _ Gr1 w1 hE1
    have hX := hX.ext hE1
    refine t_n ?_
    first | refine c_dec rfl (fun hc9 => ?_) (fun hc9 => ?_) | refine c_if rfl (fun hc9 => ?_) (fun hc9 => ?_)
    · try simp only [decide_eq_true_eq, decide_eq_false_iff_not, Bool.not_eq_true, Bool.not_eq_false, Bool.not_eq_eq_eq_not, Bool.not_true, Bool.not_false, Int.not_lt, Int.not_le] at hc9
      have hp : nameF n = [] := if_pos hc9
      refine c_seq ?_
      refine r_plain ?_
      refine p1 (x_assign (by conv => lhs; whnf)) ?_
      refine r_nil ?_
      refine t_n ?_
      refine c_ret ?_
      refine t_r ?_
      refine end1 rfl (by conv => lhs; whnf) ?_
      first
        | exact ⟨by rw [hp]; rfl, hX⟩
        | exact ⟨by rw [hp, ← hin.2, List.drop_replicate, List.append_assoc], hX⟩
    · try simp only [decide_eq_true_eq, decide_eq_false_iff_not, Bool.not_eq_true, Bool.not_eq_false, Bool.not_eq_eq_eq_not, Bool.not_true, Bool.not_false, Int.not_lt, Int.not_le] at hc9
      have hin := itoa_name (n := n) (by omega) (by omega)
      have hp : nameF n = nameL n.toNat := nameF_ok (by omega) (by omega)
      refine c_skip ?_
      refine t_n ?_
      refine c_seq ?_
      refine r_plain ?_
      refine p1 (x_move (by conv => lhs; whnf)) ?_
      refine o_call Tryd.func21 fn21 fb21 (itoa_ret n (by omega) (by omega) _ (hg.ext hX)) rfl ?_
      rintro v2 w2 ⟨rfl, hE2⟩
      have hX := hX.ext hE2
      refine p1 (x_assign (by conv => lhs; whnf)) ?_
      refine r_nil ?_
      refine t_n ?_
      refine c_seq ?_
      refine r_plain ?_
      refine p1 (x_move (by conv => lhs; whnf)) ?_
      refine p1 (x_len_strL u9 rfl) ?_
      refine p1 (x_slice_str_lL (xs := List.replicate 6 48) u9 rfl rfl (by rw [List.length_replicate]; exact hin.1)) ?_
      refine p1 (x_add_strL (xs := begF) rfl rfl (by rw [List.length_drop, List.length_replicate]; show 4 + _ ≤ _; omega)) ?_
      refine p1 (x_move (by conv => lhs; whnf)) ?_
      refine p1 (x_add_strL rfl rfl (by rw [List.length_append, List.length_drop, List.length_replicate]; show 4 + _ + _ ≤ _; omega)) ?_
      refine p1 (x_assign (by conv => lhs; whnf)) ?_
      refine r_nil ?_
      refine t_n ?_
      refine c_ret ?_
      refine end1 rfl (by conv => lhs; whnf) ?_
      first
        | exact ⟨by rw [hp]; rfl, hX⟩
        | exact ⟨by rw [hp, ← hin.2, List.drop_replicate, List.append_assoc], hX⟩
theorem segment_Number (xs : List UInt8) (w : World) (hg : Gl w) :
    Ret Tryd.prog 10 [.string (toStr xs)] w (fun v w' => (∃ r : Int, v = .int .i64 r ∧ IsNum xs r) ∧ Ext w w') := by
  have hX := Ext.refl w
  refine enter 33 _ Tryd.func10 rfl rfl (Nat.le_of_ble_eq_true rfl) rfl ?_
  refine c_seq ?_
  refine r_plain ?_
  refine p1 (x_assign (by conv => lhs; whnf)) ?_
  refine r_nil ?_
  refine t_n ?_
  refine c_seq ?_
  refine r_plain ?_
  refine p1 (x_move (by conv => lhs; whnf)) ?_
  refine o_call Tryd.func22 fn22 fb22 (cut_ret xs _) rfl ?_
  rintro v1 w1 ⟨⟨hp, s2, rfl, hh1, hh0⟩, hE1⟩
  have hX := hX.ext hE1
  refine p1 (x_move (by conv => lhs; whnf)) ?_
  refine p1 (x_extract rfl rfl) ?_
  refine p1 (x_extract rfl rfl) ?_
  refine p1 (x_assign (by conv => lhs; whnf)) ?_
  refine p1 (x_assign (by conv => lhs; whnf)) ?_
  refine r_nil ?_
  refine t_n ?_
  refine c_seq ?_
  refine c_seq ?_
  have hWr2 := Ext.refl w1
  refine c_cut (ι := Unit) [12, 13, 14, 15, 16, 17, 18] (fun _ => [(18, .bool (decide (hp = false ∨ s2.length ≠ 6)))]) (fun _ w' => Ext w1 w') ?_ ?_
  · skip
    refine r_plain ?_
    refine p1 (x_move (by conv => lhs; whnf)) ?_
    refine p1 (x_not rfl) ?_
    refine p1b (x_move (by conv => lhs; whnf)) (fun hb2_2 => ?_) (fun hb2_2 => ?_)
    · try simp only [decide_eq_true_eq, decide_eq_false_iff_not, Bool.not_eq_true, Bool.not_eq_false, Bool.not_eq_eq_eq_not, Bool.not_true, Bool.not_false, Int.not_lt, Int.not_le] at hb2_2
      refine g0 14 rfl (by first | exact .inl rfl | exact .inr rfl) ?_
      refine g0 14 rfl (by first | exact .inl rfl | exact .inr rfl) ?_
      refine g0 14 rfl (by first | exact .inl rfl | exact .inr rfl) ?_
      refine p1 (x_pick_t rfl (by conv => lhs; whnf)) ?_
      refine r_nil ?_
      refine t_n (At.mk () (by repeat (first | exact Agr.refl _ _ | exact Agr.hav _ _ _ | refine Agr.upd rfl ?_ | refine Agr.updR rfl ?_ | refine Agr.updL ?_ _ rfl | refine Agr.hav' rfl ?_)) ⟨congrArg Value.bool (by first | rfl | (simp_all; done) | grind), trivial⟩ hWr2)
    · try simp only [decide_eq_true_eq, decide_eq_false_iff_not, Bool.not_eq_true, Bool.not_eq_false, Bool.not_eq_eq_eq_not, Bool.not_true, Bool.not_false, Int.not_lt, Int.not_le] at hb2_2
      refine g1 14 rfl rfl (x_move (by conv => lhs; whnf)) ?_
      refine g1 14 rfl rfl (x_len_strL u9 rfl) ?_
      refine g1 14 rfl rfl (x_neq rfl rfl) ?_
      refine p1 (x_pick_f rfl (by conv => lhs; whnf)) ?_
      refine r_nil ?_
      refine t_n (At.mk () (by repeat (first | exact Agr.refl _ _ | exact Agr.hav _ _ _ | refine Agr.upd rfl ?_ | refine Agr.updR rfl ?_ | refine Agr.updL ?_ _ rfl | refine Agr.hav' rfl ?_)) ⟨congrArg Value.bool (by first | rfl | (simp_all; done) | grind), trivial⟩ hWr2)
  · rintro _ Gr2 w2 hE2
    have hX := hX.ext hE2
    refine t_n ?_
    first | refine c_dec rfl (fun hc18 => ?_) (fun hc18 => ?_) | refine c_if rfl (fun hc18 => ?_) (fun hc18 => ?_)
    · try simp only [decide_eq_true_eq, decide_eq_false_iff_not, Bool.not_eq_true, Bool.not_eq_false, Bool.not_eq_eq_eq_not, Bool.not_true, Bool.not_false, Int.not_lt, Int.not_le] at hc18
      have hpp : IsNum xs 0 := num_cut hh1 hh0 hc18
      refine c_seq ?_
      refine r_plain ?_
      refine p1 (x_assign (by conv => lhs; whnf)) ?_
      refine r_nil ?_
      refine t_n ?_
      refine c_ret ?_
      refine t_r ?_
      refine end1 rfl (by conv => lhs; whnf) ?_
      exact ⟨⟨_, rfl, hpp⟩, hX⟩
    · try simp only [decide_eq_true_eq, decide_eq_false_iff_not, Bool.not_eq_true, Bool.not_eq_false, Bool.not_eq_eq_eq_not, Bool.not_true, Bool.not_false, Int.not_lt, Int.not_le] at hc18
      have hpt : hp = true := by cases hp; (· exact absurd (.inl rfl) hc18); (· rfl)
      have hs6 : s2.length = 6 := Classical.byContradiction fun h => hc18 (.inr h)
      have hxs := hh1 hpt
      refine c_skip ?_
      refine t_n ?_
      refine c_seq ?_
      refine r_plain ?_
      refine p1 (x_move (by conv => lhs; whnf)) ?_
      refine o_call Tryd.func23 fn23 fb23 (atoi_ret s2 (by omega) _ (hg.ext hX)) rfl ?_
      rintro v3 w3 ⟨⟨r, ev, b, rfl, hA⟩, hE3⟩
      have hX := hX.ext hE3
      refine p1 (x_move (by conv => lhs; whnf)) ?_
      refine p1 (x_extract rfl rfl) ?_
      refine p1 (x_extract rfl rfl) ?_
      refine p1 (x_assign (by conv => lhs; whnf)) ?_
      refine p1 (x_assign (by conv => lhs; whnf)) ?_
      refine r_nil ?_
      refine t_n ?_
      refine c_seq ?_
      refine c_seq ?_
      have hWr5 := Ext.refl w3
      refine c_cut (ι := Unit) [24, 25, 26, 27, 28, 29, 30, 31] (fun _ => [(31, .bool (decide (b = true ∨ toStr (nameF r) ≠ toStr xs)))]) (fun _ w' => Ext w3 w') ?_ ?_
      · skip
        refine r_plain ?_
        refine p1 (x_move (by conv => lhs; whnf)) ?_
        refine p1 (x_neq_err u51i rfl rfl (hA.imp (fun h => ⟨h.1, h.2.2⟩) fun h => ⟨h.1, h.2.2⟩)) ?_
        refine p1b (x_move (by conv => lhs; whnf)) (fun hb5_2 => ?_) (fun hb5_2 => ?_)
        · try simp only [decide_eq_true_eq, decide_eq_false_iff_not, Bool.not_eq_true, Bool.not_eq_false, Bool.not_eq_eq_eq_not, Bool.not_true, Bool.not_false, Int.not_lt, Int.not_le] at hb5_2
          refine g0 26 rfl (by first | exact .inl rfl | exact .inr rfl) ?_
          refine g0 26 rfl (by first | exact .inl rfl | exact .inr rfl) ?_
          refine g0 26 rfl (by first | exact .inl rfl | exact .inr rfl) ?_
          refine g0 26 rfl (by first | exact .inl rfl | exact .inr rfl) ?_
          refine p1 (x_pick_t rfl (by conv => lhs; whnf)) ?_
          refine r_nil ?_
          refine t_n (At.mk () (by repeat (first | exact Agr.refl _ _ | exact Agr.hav _ _ _ | refine Agr.upd rfl ?_ | refine Agr.updR rfl ?_ | refine Agr.updL ?_ _ rfl | refine Agr.hav' rfl ?_)) ⟨congrArg Value.bool (by first | rfl | (simp_all; done) | grind), trivial⟩ hWr5)
        · try simp only [decide_eq_true_eq, decide_eq_false_iff_not, Bool.not_eq_true, Bool.not_eq_false, Bool.not_eq_eq_eq_not, Bool.not_true, Bool.not_false, Int.not_lt, Int.not_le] at hb5_2
          refine g1 26 rfl rfl (x_move (by conv => lhs; whnf)) ?_
          refine g_drop 26 rfl rfl ?_
          refine o_call Tryd.func8 fn8 fb8 (segment_Name r _ (hg.ext hX)) rfl ?_
          rintro v5 w5 ⟨rfl, hE5⟩
          have hX := hX.ext hE5
          have hWr5 := hWr5.ext hE5
          refine g1 26 rfl rfl (x_move (by conv => lhs; whnf)) ?_
          refine g1 26 rfl rfl (x_neq_str rfl rfl) ?_
          refine p1 (x_pick_f rfl (by conv => lhs; whnf)) ?_
          refine r_nil ?_
          refine t_n (At.mk () (by repeat (first | exact Agr.refl _ _ | exact Agr.hav _ _ _ | refine Agr.upd rfl ?_ | refine Agr.updR rfl ?_ | refine Agr.updL ?_ _ rfl | refine Agr.hav' rfl ?_)) ⟨congrArg Value.bool (by first | rfl | (simp_all; done) | grind), trivial⟩ hWr5)
      · rintro _ Gr5 w4 hE4
        have hX := hX.ext hE4
        refine t_n ?_
        first | refine c_dec rfl (fun hc31 => ?_) (fun hc31 => ?_) | refine c_if rfl (fun hc31 => ?_) (fun hc31 => ?_)
        · try simp only [decide_eq_true_eq, decide_eq_false_iff_not, Bool.not_eq_true, Bool.not_eq_false, Bool.not_eq_eq_eq_not, Bool.not_true, Bool.not_false, Int.not_lt, Int.not_le] at hc31
          have hpp : IsNum xs 0 := num_atoi hxs hA hc31
          refine c_seq ?_
          refine r_plain ?_
          refine p1 (x_assign (by conv => lhs; whnf)) ?_
          refine r_nil ?_
          refine t_n ?_
          refine c_ret ?_
          refine t_r ?_
          refine end1 rfl (by conv => lhs; whnf) ?_
          exact ⟨⟨_, rfl, hpp⟩, hX⟩
        · try simp only [decide_eq_true_eq, decide_eq_false_iff_not, Bool.not_eq_true, Bool.not_eq_false, Bool.not_eq_eq_eq_not, Bool.not_true, Bool.not_false, Int.not_lt, Int.not_le] at hc31
          have hpp : IsNum xs r := num_back (fun e => by have := congrArg List.length hxs; rw [e, List.length_append] at this; simp [begF] at this; omega) (toStr_inj (Classical.byContradiction fun h => hc31 (.inr h)))
          refine c_skip ?_
          refine t_n ?_
          refine c_seq ?_
          refine r_plain ?_
          refine p1 (x_move (by conv => lhs; whnf)) ?_
          refine p1 (x_assign (by conv => lhs; whnf)) ?_
          refine r_nil ?_
          refine t_n ?_
          refine c_ret ?_
          refine end1 rfl (by conv => lhs; whnf) ?_
          exact ⟨⟨_, rfl, hpp⟩, hX⟩
end Go.Proofs.Eng
end
section
set_option linter.unusedVariables false
set_option linter.unusedSimpArgs false
set_option maxRecDepth 100000
set_option maxHeartbeats 4000000
namespace Go.Proofs.Eng
open Go.RowKit
open Extern.Stop (cell)
theorem fb10 : Tryd.f10.body.isNone = false := by kernel_rfl
theorem fb12 : Tryd.f12.body.isNone = false := by kernel_rfl
theorem fb13 : Tryd.f13.body.isNone = false := by kernel_rfl
theorem fb15 : Tryd.f15.body.isNone = false := by kernel_rfl
theorem fn10 : (Tryd.f10.name == "runtime.NumGoroutine") = false := by kernel_rfl
theorem fn12 : (Tryd.f12.name == "runtime.NumGoroutine") = false := by kernel_rfl
theorem fn13 : (Tryd.f13.name == "runtime.NumGoroutine") = false := by kernel_rfl
theorem fn15 : (Tryd.f15.name == "runtime.NumGoroutine") = false := by kernel_rfl
end Go.Proofs.Eng
end
section
set_option linter.unusedVariables false
set_option linter.unusedSimpArgs false
set_option maxRecDepth 100000
set_option maxHeartbeats 4000000
namespace Go.Proofs.Eng
open Go.RowKit
open Extern.Stop (cell)
theorem law18_awake (w : World) (hg : Gl w) :
    Ret Tryd.prog 12 [] w (fun v w' => v = .bool true ∧ Ext w w') := by
  have hX := Ext.refl w
  refine enter 52 _ Tryd.func12 rfl rfl (Nat.le_of_ble_eq_true rfl) rfl ?_
  refine c_seq ?_
  refine r_plain ?_
  refine p1 (x_assign (by conv => lhs; whnf)) ?_
  refine r_nil ?_
  refine t_n ?_
  refine c_seq ?_
  refine r_plain ?_
  refine o_buildSlice u27 inf5 rfl (by decide) (fun base hb => fill_one (by rfl) base hb) ?_
  intro w1 g6 hN6
  have hE1 := hN6.ext
  have hX := hX.ext hE1
  have hJ := one_made (b := 97) hN6 (B0 := 0) (Nat.zero_le _)
  refine o_convBB u27 u5 rfl hN6.blk ?_
  intro w2 hO2 hR2
  have hX := hX.mod (hO2.mod (B := w.heap.size) (Nat.le_of_eq hN6.g_eq.symm)) (Nat.le_refl _)
  have hs := sl_mark hJ.sl hR2 hO2.now
  refine o_buildSlice u26 inf27 rfl (by decide) (fun base hb => fill_one (by rfl) base hb) ?_
  intro w3 g8 hN8
  have hE3 := hN8.ext
  have hX := hX.ext hE3
  have hL := sl1_made (a := [97]) hN8 (hs.ext hE3)
  refine o_call Tryd.func13 fn13 fb13 (segment_Put [[97]] _ _ _ _ _ hL (by rw [aw_flat, aw_seal]; decide) (hg.q.ext hX)) rfl ?_
  rintro v4 w4 ⟨⟨qp, mp, cp, rfl, hP⟩, hE4⟩
  have hX := hX.ext hE4
  have hL := hL.ext hE4
  rw [aw_put] at hP
  have hPl := hP.len
  have hPl7 : mp = 7 := hPl.symm.trans aw_seal
  refine p1 (x_move (by conv => lhs; whnf)) ?_
  refine p1 (x_extract rfl rfl) ?_
  refine p1 (x_extract rfl rfl) ?_
  refine p1 (x_assign (by conv => lhs; whnf)) ?_
  refine p1 (x_assign (by conv => lhs; whnf)) ?_
  refine r_nil ?_
  refine t_n ?_
  refine c_seq ?_
  refine r_plain ?_
  refine p1 (x_move (by conv => lhs; whnf)) ?_
  refine o_call Tryd.func15 fn15 fb15 (segment_Get _ _ _ _ _ _ hP.sl (hg.q.ext hX) (Nat.zero_le _) (by omega)) rfl ?_
  rintro v5 w5 ⟨⟨qg, mg, cg, rfl, hG⟩, hE5⟩
  have hX := hX.ext hE5
  have hL := hL.ext hE5
  have hP := hP.ext hE5
  have hg2 : (getF (sealF 1 [97])).2 = 0 := by rw [aw_get]
  have hG := aw_own hG
  have hGl : 1 = mg := hG.len
  refine p1 (x_move (by conv => lhs; whnf)) ?_
  refine p1 (x_extract rfl rfl) ?_
  refine p1 (x_extract rfl rfl) ?_
  refine p1 (x_assign (by conv => lhs; whnf)) ?_
  refine p1 (x_assign (by conv => lhs; whnf)) ?_
  refine r_nil ?_
  refine t_n ?_
  refine c_seq ?_
  refine r_plain ?_
  refine o_call Tryd.func8 fn8 fb8 (segment_Name 7 _ (hg.ext hX)) rfl ?_
  rintro v6 w6 ⟨rfl, hE6⟩
  have hX := hX.ext hE6
  have hL := hL.ext hE6
  have hP := hP.ext hE6
  have hG := hG.ext hE6
  refine p1 ((x_eql_str rfl rfl).cast (congrArg _ (decide_eq_true (by rw [aw_name]; rfl)))) ?_
  refine p1 (x_move (by conv => lhs; whnf)) ?_
  refine g_drop 19 rfl rfl ?_
  refine o_call Tryd.func10 fn10 fb10 (segment_Number aw7 _ (hg.ext hX)) rfl ?_
  rintro v7 w7 ⟨⟨rn, rfl, hNum⟩, hE7⟩
  have hX := hX.ext hE7
  have hL := hL.ext hE7
  have hP := hP.ext hE7
  have hG := hG.ext hE7
  have hn7 := aw_num hNum
  refine g1 19 rfl rfl ((x_eql rfl rfl).cast (congrArg _ (decide_eq_true (hn7)))) ?_
  refine p1 (x_pick_t rfl (by conv => lhs; whnf)) ?_
  refine p1 (x_move (by conv => lhs; whnf)) ?_
  refine g1 23 rfl rfl (x_move (by conv => lhs; whnf)) ?_
  refine g1 23 rfl rfl (x_len_slice u27 rfl) ?_
  refine g1 23 rfl rfl ((x_eql rfl rfl).cast (congrArg _ (decide_eq_true (by omega)))) ?_
  refine p1 (x_pick_t rfl (by conv => lhs; whnf)) ?_
  refine p1 (x_move (by conv => lhs; whnf)) ?_
  refine g1 28 rfl rfl (x_move (by conv => lhs; whnf)) ?_
  refine g1 28 rfl rfl ((x_eql rfl rfl).cast (congrArg _ (decide_eq_true (by rw [aw_put])))) ?_
  refine p1 (x_pick_t rfl (by conv => lhs; whnf)) ?_
  refine p1 (x_move (by conv => lhs; whnf)) ?_
  refine g1 32 rfl rfl (x_move (by conv => lhs; whnf)) ?_
  refine g1 32 rfl rfl ((x_eql rfl rfl).cast (congrArg _ (decide_eq_true (hg2)))) ?_
  refine p1 (x_pick_t rfl (by conv => lhs; whnf)) ?_
  refine p1 (x_move (by conv => lhs; whnf)) ?_
  refine g1 36 rfl rfl (x_move (by conv => lhs; whnf)) ?_
  refine g1 36 rfl rfl (x_len_slice u26 rfl) ?_
  refine g1 36 rfl rfl ((x_eql rfl rfl).cast (congrArg _ (decide_eq_true (by omega)))) ?_
  refine p1 (x_pick_t rfl (by conv => lhs; whnf)) ?_
  refine p1 (x_move (by conv => lhs; whnf)) ?_
  obtain ⟨q0, m0, c0, hc0, hrow⟩ := hG.sl.obAt 0 (by omega)
  refine g1 41 rfl rfl (x_move (by conv => lhs; whnf)) ?_
  refine g1 41 rfl rfl (x_ixs0 (i := 0) u26 sz27 rfl rfl (hG.sl.adr kOb_pos (by omega)) (by omega)) ?_
  refine g1 41 rfl rfl (x_load1 un27 rfl hc0) ?_
  refine g1 41 rfl rfl (x_bytes_str u27 u5 u9 rfl hrow.sl) ?_
  refine g1 41 rfl rfl ((x_eql_str rfl rfl).cast (congrArg _ (decide_eq_true (rfl)))) ?_
  refine p1 (x_pick_t rfl (by conv => lhs; whnf)) ?_
  refine p1 (x_move (by conv => lhs; whnf)) ?_
  refine p1 (x_pick_t rfl (by conv => lhs; whnf)) ?_
  refine p1 (x_move (by conv => lhs; whnf)) ?_
  refine p1 (x_pick_t rfl (by conv => lhs; whnf)) ?_
  refine p1 (x_assign (by conv => lhs; whnf)) ?_
  refine r_nil ?_
  refine t_n ?_
  refine c_ret ?_
  refine end1 rfl (by conv => lhs; whnf) ?_
  exact ⟨rfl, hX⟩
end Go.Proofs.Eng
end
section
set_option linter.unusedVariables false
set_option linter.unusedSimpArgs false
set_option maxRecDepth 100000
set_option maxHeartbeats 4000000
namespace Go.Proofs.Eng
open Go.RowKit
open Extern.Stop (cell)
theorem fb16 : Tryd.f16.body.isNone = false := by kernel_rfl
theorem fn16 : (Tryd.f16.name == "runtime.NumGoroutine") = false := by kernel_rfl
end Go.Proofs.Eng
end
section
set_option linter.unusedVariables false
set_option linter.unusedSimpArgs false
set_option maxRecDepth 100000
set_option maxHeartbeats 4000000
namespace Go.Proofs.Eng
open Go.RowKit
open Extern.Stop (cell)
end Go.Proofs.Eng
end
section
set_option linter.unusedVariables false
set_option linter.unusedSimpArgs false
set_option maxRecDepth 100000
set_option maxHeartbeats 4000000
namespace Go.Proofs.Eng
open Go.RowKit
open Extern.Stop (cell)
theorem fb46 : Tryd.f46.body.isNone = false := by kernel_rfl
theorem fb47 : Tryd.f47.body.isNone = false := by kernel_rfl
theorem fn46 : (Tryd.f46.name == "runtime.NumGoroutine") = false := by kernel_rfl
theorem fn47 : (Tryd.f47.name == "runtime.NumGoroutine") = false := by kernel_rfl
theorem sz64 : (Tryd.prog.info? 64).map (·.size) = some 8 := by kernel_rfl
theorem sz82 : (Tryd.prog.info? 82).map (·.size) = some 64 := by kernel_rfl
theorem u64 : Tryd.prog.underlying 64 = some (.array 8 63) := by kernel_rfl
theorem u82 : Tryd.prog.underlying 82 = some (.array 64 63) := by kernel_rfl
theorem ua64 : (Tryd.prog.underlying 64).map TypeDesc.isRow = some true := by kernel_rfl
theorem zr64 : (Tryd.prog.info? 64).map (·.zero) = some (some (.agg #[.int .u32 0, .int .u32 0, .int .u32 0, .int .u32 0, .int .u32 0, .int .u32 0, .int .u32 0, .int .u32 0])) := by kernel_rfl
theorem zr82 : (Tryd.prog.info? 82).map (·.zero) = some (some (.agg #[.int .u32 0, .int .u32 0, .int .u32 0, .int .u32 0, .int .u32 0, .int .u32 0, .int .u32 0, .int .u32 0, .int .u32 0, .int .u32 0, .int .u32 0, .int .u32 0, .int .u32 0, .int .u32 0, .int .u32 0, .int .u32 0, .int .u32 0, .int .u32 0, .int .u32 0, .int .u32 0, .int .u32 0, .int .u32 0, .int .u32 0, .int .u32 0, .int .u32 0, .int .u32 0, .int .u32 0, .int .u32 0, .int .u32 0, .int .u32 0, .int .u32 0, .int .u32 0, .int .u32 0, .int .u32 0, .int .u32 0, .int .u32 0, .int .u32 0, .int .u32 0, .int .u32 0, .int .u32 0, .int .u32 0, .int .u32 0, .int .u32 0, .int .u32 0, .int .u32 0, .int .u32 0, .int .u32 0, .int .u32 0, .int .u32 0, .int .u32 0, .int .u32 0, .int .u32 0, .int .u32 0, .int .u32 0, .int .u32 0, .int .u32 0, .int .u32 0, .int .u32 0, .int .u32 0, .int .u32 0, .int .u32 0, .int .u32 0, .int .u32 0, .int .u32 0])) := by kernel_rfl
end Go.Proofs.Eng
end
section
set_option linter.unusedVariables false
set_option linter.unusedSimpArgs false
set_option maxRecDepth 100000
set_option maxHeartbeats 4000000
namespace Go.Proofs.Eng
open Go.RowKit
open Extern.Stop (cell)
theorem sha_rotate (x n : Int) (w : World) (h0 : 0 ≤ n) (h1 : n ≤ 32) :
    Ret Tryd.prog 70 [.int .u32 x, .int .u64 n] w (fun v w' => v = .int .u32 (rotW x n) ∧ Ext w w') := by
  have hX := Ext.refl w
  refine enter 13 _ Tryd.func70 rfl rfl (Nat.le_of_ble_eq_true rfl) rfl ?_
  refine c_seq ?_
  refine r_plain ?_
  refine p1 (x_assign (by conv => lhs; whnf)) ?_
  refine r_nil ?_
  refine t_n ?_
  refine c_seq ?_
  refine r_plain ?_
  refine p1 (x_move (by conv => lhs; whnf)) ?_
  refine p1 (x_move (by conv => lhs; whnf)) ?_
  refine p1 (x_shr rfl rfl (by omega)) ?_
  refine p1 (x_move (by conv => lhs; whnf)) ?_
  refine p1 (x_move (by conv => lhs; whnf)) ?_
  refine p1 (x_sub rfl rfl (fits_u64 (by omega) (by omega))) ?_
  refine p1 (x_shl rfl rfl (by omega)) ?_
  refine p1 (x_or rfl rfl) ?_
  refine p1 (x_assign (by conv => lhs; whnf)) ?_
  refine r_nil ?_
  refine t_n ?_
  refine c_ret ?_
  refine end1 rfl (by conv => lhs; whnf) ?_
  exact ⟨rfl, hX⟩
theorem ref01_turned (x n : Int) (w : World) (h0 : 0 ≤ n) (h1 : n ≤ 32) :
    Ret Tryd.prog 46 [.int .u32 x, .int .u64 n] w (fun v w' => v = .int .u32 (rotW x n) ∧ Ext w w') := by
  have hX := Ext.refl w
  refine enter 13 _ Tryd.func46 rfl rfl (Nat.le_of_ble_eq_true rfl) rfl ?_
  refine c_seq ?_
  refine r_plain ?_
  refine p1 (x_assign (by conv => lhs; whnf)) ?_
  refine r_nil ?_
  refine t_n ?_
  refine c_seq ?_
  refine r_plain ?_
  refine p1 (x_move (by conv => lhs; whnf)) ?_
  refine p1 (x_move (by conv => lhs; whnf)) ?_
  refine p1 (x_shr rfl rfl (by omega)) ?_
  refine p1 (x_move (by conv => lhs; whnf)) ?_
  refine p1 (x_move (by conv => lhs; whnf)) ?_
  refine p1 (x_sub rfl rfl (fits_u64 (by omega) (by omega))) ?_
  refine p1 (x_shl rfl rfl (by omega)) ?_
  refine p1 (x_or rfl rfl) ?_
  refine p1 (x_assign (by conv => lhs; whnf)) ?_
  refine r_nil ?_
  refine t_n ?_
  refine c_ret ?_
  refine end1 rfl (by conv => lhs; whnf) ?_
  exact ⟨rfl, hX⟩
theorem bt82 : Tryd.prog.built 82 [(0, .int .u32 (kTab.getD 0 0)), (1, .int .u32 (kTab.getD 1 0)), (2, .int .u32 (kTab.getD 2 0)), (3, .int .u32 (kTab.getD 3 0)), (4, .int .u32 (kTab.getD 4 0)), (5, .int .u32 (kTab.getD 5 0)), (6, .int .u32 (kTab.getD 6 0)), (7, .int .u32 (kTab.getD 7 0)), (8, .int .u32 (kTab.getD 8 0)), (9, .int .u32 (kTab.getD 9 0)), (10, .int .u32 (kTab.getD 10 0)), (11, .int .u32 (kTab.getD 11 0)), (12, .int .u32 (kTab.getD 12 0)), (13, .int .u32 (kTab.getD 13 0)), (14, .int .u32 (kTab.getD 14 0)), (15, .int .u32 (kTab.getD 15 0)), (16, .int .u32 (kTab.getD 16 0)), (17, .int .u32 (kTab.getD 17 0)), (18, .int .u32 (kTab.getD 18 0)), (19, .int .u32 (kTab.getD 19 0)), (20, .int .u32 (kTab.getD 20 0)), (21, .int .u32 (kTab.getD 21 0)), (22, .int .u32 (kTab.getD 22 0)), (23, .int .u32 (kTab.getD 23 0)), (24, .int .u32 (kTab.getD 24 0)), (25, .int .u32 (kTab.getD 25 0)), (26, .int .u32 (kTab.getD 26 0)), (27, .int .u32 (kTab.getD 27 0)), (28, .int .u32 (kTab.getD 28 0)), (29, .int .u32 (kTab.getD 29 0)), (30, .int .u32 (kTab.getD 30 0)), (31, .int .u32 (kTab.getD 31 0)), (32, .int .u32 (kTab.getD 32 0)), (33, .int .u32 (kTab.getD 33 0)), (34, .int .u32 (kTab.getD 34 0)), (35, .int .u32 (kTab.getD 35 0)), (36, .int .u32 (kTab.getD 36 0)), (37, .int .u32 (kTab.getD 37 0)), (38, .int .u32 (kTab.getD 38 0)), (39, .int .u32 (kTab.getD 39 0)), (40, .int .u32 (kTab.getD 40 0)), (41, .int .u32 (kTab.getD 41 0)), (42, .int .u32 (kTab.getD 42 0)), (43, .int .u32 (kTab.getD 43 0)), (44, .int .u32 (kTab.getD 44 0)), (45, .int .u32 (kTab.getD 45 0)), (46, .int .u32 (kTab.getD 46 0)), (47, .int .u32 (kTab.getD 47 0)), (48, .int .u32 (kTab.getD 48 0)), (49, .int .u32 (kTab.getD 49 0)), (50, .int .u32 (kTab.getD 50 0)), (51, .int .u32 (kTab.getD 51 0)), (52, .int .u32 (kTab.getD 52 0)), (53, .int .u32 (kTab.getD 53 0)), (54, .int .u32 (kTab.getD 54 0)), (55, .int .u32 (kTab.getD 55 0)), (56, .int .u32 (kTab.getD 56 0)), (57, .int .u32 (kTab.getD 57 0)), (58, .int .u32 (kTab.getD 58 0)), (59, .int .u32 (kTab.getD 59 0)), (60, .int .u32 (kTab.getD 60 0)), (61, .int .u32 (kTab.getD 61 0)), (62, .int .u32 (kTab.getD 62 0)), (63, .int .u32 (kTab.getD 63 0))] = some (wds kTab) := by kernel_rfl
theorem pa64 : placed Tryd.prog 64 = some (.agg #[.int .u32 0, .int .u32 0, .int .u32 0, .int .u32 0, .int .u32 0, .int .u32 0, .int .u32 0, .int .u32 0], [(0, 1), (1, 1), (2, 1), (3, 1), (4, 1), (5, 1), (6, 1), (7, 1)]) := by kernel_rfl
theorem ref01_constant (i : Nat) (w : World) (hi : i < 64) :
    Ret Tryd.prog 47 [.int .i64 (i : Int)] w (fun v w' => v = .int .u32 (kTab.getD i 0) ∧ Ext w w') := by
  have hX := Ext.refl w
  refine enter 8 _ Tryd.func47 rfl rfl (Nat.le_of_ble_eq_true rfl) rfl ?_
  refine c_seq ?_
  refine r_plain ?_
  refine p1 (x_assign (by conv => lhs; whnf)) ?_
  refine r_nil ?_
  refine t_n ?_
  refine c_seq ?_
  refine r_plain ?_
  refine p1 (x_buildC bt82 rfl) ?_
  have sX := hX.size
  refine o_alloc zr82 ?_
  intro w1 g3 hN3
  have hE1 := hN3.ext
  have hX := hX.ext hE1
  have hB3 := hN3.blk
  have e3 := hN3.g_eq
  refine o_storeAll rfl (by conv => lhs; whnf) (wds_one _) (by rw [wds_size]; exact sz82) hB3 (by rfl) ?_
  intro w2 hP2
  have hX := hX.put hP2 (by omega)
  have hB3 := hP2.blk
  refine r_nil ?_
  refine t_n ?_
  refine c_seq ?_
  refine r_plain ?_
  refine p1 (x_move (by conv => lhs; whnf)) ?_
  refine p1 (x_ixa0 u82 sz63 rfl rfl (by omega)) ?_
  refine p1 (x_load1 un63 rfl (hB3.cell (wds_get (by rw [kTab_len]; exact hi)))) ?_
  refine p1 (x_assign (by conv => lhs; whnf)) ?_
  refine r_nil ?_
  refine t_n ?_
  refine c_ret ?_
  refine end1 rfl (by conv => lhs; whnf) ?_
  exact ⟨rfl, hX⟩
theorem fill8 (s : W8) : Instr.fill (fun i => ([(0, 1), (1, 1), (2, 1), (3, 1), (4, 1), (5, 1), (6, 1), (7, 1)] : List (Nat × Nat))[i]?) (Value.agg #[.int .u32 0, .int .u32 0, .int .u32 0, .int .u32 0, .int .u32 0, .int .u32 0, .int .u32 0, .int .u32 0]).cells [(0, .int .u32 s.a), (1, .int .u32 s.b), (2, .int .u32 s.c), (3, .int .u32 s.d), (4, .int .u32 s.e), (5, .int .u32 s.f), (6, .int .u32 s.g), (7, .int .u32 s.h)] = some (wds s.l) := by first | kernel_rfl | (simp [Instr.fill, Value.cells, wds, W8.l]; done)
theorem x_build8 {n : Nat} {f : Nat → Value} {w : World} {dst : Option Nat} {ty0 : TypeId} {pos : String} {aft : Array Edge} {gd : Option (Nat × Bool)} {parts : List (Nat × Operand)} (s : W8) (hp : evP n f parts = [(0, .int .u32 s.a), (1, .int .u32 s.b), (2, .int .u32 s.c), (3, .int .u32 s.d), (4, .int .u32 s.e), (5, .int .u32 s.f), (6, .int .u32 s.g), (7, .int .u32 s.h)]) : Ex Tryd.prog w n f ⟨dst, .build 64 parts.toArray, ty0, pos, aft, gd⟩ (.agg (wds s.l)) :=
  x_build pa64 hp (fill8 s)
theorem ref01_block (s : W8) (xs : List UInt8) (B : Nat) (p : Option Addr) (c : Nat) (w : World) (hl : Sl kByte 5 B w p 64 c xs) :
    Ret Tryd.prog 30 [.agg (wds s.l), .slice p 64 c] w (fun v w' => v = .agg (wds (mixF s xs).l) ∧ Ext w w') := by
  have hX := Ext.refl w
  refine enter 178 _ Tryd.func30 rfl rfl (Nat.le_of_ble_eq_true rfl) rfl ?_
  refine c_seq ?_
  refine r_plain ?_
  refine o_boxA (by conv => lhs; whnf) ?_
  intro w1 g2 hN2
  have hE1 := hN2.ext
  have hX := hX.ext hE1
  have hB2 := hN2.blk
  have l2 := hB2.lt
  refine o_alloc zr64 ?_
  intro w2 g4 hN4
  have hE2 := hN4.ext
  have hX := hX.ext hE2
  have hB2 := hB2.ext hE2
  have hB4 := hN4.blk
  refine r_nil ?_
  refine t_n ?_
  refine c_seq ?_
  refine r_plain ?_
  have l4 := hB4.lt
  refine o_alloc zr82 ?_
  intro w3 g5 hN5
  have hE3 := hN5.ext
  have hX := hX.ext hE3
  have hB2 := hB2.ext hE3
  have hB4 := hB4.ext hE3
  have hB5 := hN5.blk
  refine r_nil ?_
  refine t_n ?_
  refine c_seq ?_
  refine c_seq ?_
  have e2 := hN2.g_eq
  have e4 := hN4.g_eq
  have e5 := hN5.g_eq
  have hB4 : Blk _ g4 (wds (List.replicate 8 0)) 64 := hB4
  have hB5 : Blk _ g5 (wds (List.replicate 64 0)) 82 := hB5
  have hg2 : w.heap.size ≤ g2 := by omega
  have z1 := hE1.size
  have z2 := hE2.size
  have h24 : g2 < g4 := by omega
  have h45 : g4 < g5 := by omega
  have hlen := hl.len
  refine r_plain ?_
  refine p1 (x_assign (by conv => lhs; whnf)) ?_
  refine r_nil ?_
  refine t_n ?_
  refine c_block ?_
  refine c_loop (ι := Nat) [6, 7, 18, 19, 20, 21, 22, 23, 24, 25, 26, 27, 28, 29, 30, 31, 32, 33, 34, 35, 36, 37, 38, 39, 40] (fun i => [(6, .int .i64 (i : Int))]) (fun i w' => Ext w w' ∧ (i ≤ 16 ∧ Blk w' g2 (wds s.l) 64 ∧ Blk w' g4 (wds (List.replicate 8 0)) 64 ∧ Blk w' g5 (wds (ownW xs i)) 82)) (fun i => 16 - i) (0) ⟨rfl, trivial⟩ ⟨hX, ⟨by omega, hB2, hB4, hB5⟩⟩ ?_
  rintro i GL0 w4 ⟨hE4, hi, hB2, hB4, hB5⟩
  have hX := hE4
  refine c_seq ?_
  refine c_seq ?_
  refine r_plain ?_
  refine p1 (x_move (by conv => lhs; whnf)) ?_
  refine p1 (x_lss rfl rfl) ?_
  refine r_nil ?_
  refine t_n ?_
  first | refine c_dec rfl (fun hc19 => ?_) (fun hc19 => ?_) | refine c_if rfl (fun hc19 => ?_) (fun hc19 => ?_)
  · try simp only [decide_eq_true_eq, decide_eq_false_iff_not, Bool.not_eq_true, Bool.not_eq_false, Bool.not_eq_eq_eq_not, Bool.not_true, Bool.not_false, Int.not_lt, Int.not_le] at hc19
    refine c_skip ?_
    refine t_n ?_
    refine c_seq ?_
    refine c_block ?_
    refine c_seq ?_
    refine r_plain ?_
    refine p1 (x_assign (by conv => lhs; whnf)) ?_
    refine r_nil ?_
    refine t_n ?_
    refine c_block ?_
    refine c_loop (ι := Nat) [7, 22, 23, 24, 25, 26, 27, 28, 29, 30, 31, 32, 33, 34, 35, 36, 37, 38, 39, 40] (fun k => [(7, .int .i64 (k : Int))]) (fun k w' => Ext w w' ∧ (k ≤ 4 ∧ Blk w' g2 (wds s.l) 64 ∧ Blk w' g4 (wds (List.replicate 8 0)) 64 ∧ Blk w' g5 (wds ((ownW xs i).set i (accB xs (4 * i) k))) 82)) (fun k => 4 - k) (0) ⟨rfl, trivial⟩ ⟨hX, ⟨by omega, hB2, hB4, by rw [show accB xs (4 * i) 0 = 0 from rfl, set_same (ownW_zero xs i i (Nat.le_refl _)) (by rw [ownW_len]; omega)]; exact hB5⟩⟩ ?_
    rintro k GL2 w5 ⟨hE5, hk, hB2, hB4, hB5⟩
    have hX := hE5
    refine c_seq ?_
    refine c_seq ?_
    refine r_plain ?_
    refine p1 (x_move (by conv => lhs; whnf)) ?_
    refine p1 (x_lss rfl rfl) ?_
    refine r_nil ?_
    refine t_n ?_
    first | refine c_dec rfl (fun hc23 => ?_) (fun hc23 => ?_) | refine c_if rfl (fun hc23 => ?_) (fun hc23 => ?_)
    · try simp only [decide_eq_true_eq, decide_eq_false_iff_not, Bool.not_eq_true, Bool.not_eq_false, Bool.not_eq_eq_eq_not, Bool.not_true, Bool.not_false, Int.not_lt, Int.not_le] at hc23
      refine c_skip ?_
      refine t_n ?_
      refine c_seq ?_
      refine c_block ?_
      refine r_tail 15 mixed (by kernel_rfl) ?_
      intro w6 hE6
      have hX := hX.ext hE6
      have hB2 := hB2.ext hE6
      have hB4 := hB4.ext hE6
      have hB5 := hB5.ext hE6
      refine s1 (x_move (by conv => lhs; whnf)) ?_
      refine s1 (x_move (by conv => lhs; whnf)) ?_
      refine s1 (x_ixa0 u82 sz63 rfl rfl (by omega)) ?_
      refine s1 ((x_load1 un63 rfl (hB5.cell (wds_get (by rw [List.length_set, ownW_len]; omega)))).cast (congrArg _ (getD_set (by rw [ownW_len]; omega)))) ?_
      refine s1 (x_mulw rfl rfl) ?_
      refine s1 (x_move (by conv => lhs; whnf)) ?_
      refine s1 (x_move (by conv => lhs; whnf)) ?_
      refine s1 (x_mul rfl rfl (fits_i64 (by omega) (by omega))) ?_
      refine s1 (x_move (by conv => lhs; whnf)) ?_
      refine s1 ((x_add rfl rfl (fits_i64 (by omega) (by omega))).cast (congrArg _ (by omega : (4 : Int) * (i : Int) + (k : Int) = ((4 * i + k : Nat) : Int)))) ?_
      have hx8 := (xs.getD (4 * i + k) 0).toNat_lt
      refine s1 (x_ixs0 u27 sz5 rfl rfl ((hl.ext hX).adr kByte_pos (by omega)) (by omega)) ?_
      refine s1 (x_load1 un5 rfl ((hl.ext hX).byteAt (4 * i + k) (by omega))) ?_
      refine s1 (x_convf u63 us5 rfl (fits_u32 (by omega) (by omega))) ?_
      refine s1 (x_addw rfl rfl) ?_
      refine s1 (x_ixa0 u82 sz63 rfl rfl (by omega)) ?_
      refine s_nil ?_
      refine o_store1 rfl (by conv => lhs; whnf) rfl rfl sz63 hB5 (by rw [wds_size, List.length_set, ownW_len]; omega) ?_
      intro w7 hP7
      have hX := hX.put hP7 (by omega)
      have hB2 := hP7.keep hB2 (by omega)
      have hB4 := hP7.keep hB4 (by omega)
      have hB5 := hP7.blk
      rw [wds_set, List.set_set] at hB5
      refine r_nil ?_
      refine b_n ?_
      refine t_n ?_
      refine r_plain ?_
      refine p1 (x_move (by conv => lhs; whnf)) ?_
      refine p1 (x_add rfl rfl (fits_i64 (by omega) (by omega))) ?_
      refine p1 (x_assign (by conv => lhs; whnf)) ?_
      refine r_nil ?_
      refine t_n (At.mk (k + 1) (by repeat (first | exact Agr.refl _ _ | exact Agr.hav _ _ _ | refine Agr.upd rfl ?_ | refine Agr.updR rfl ?_ | refine Agr.updL ?_ _ rfl | refine Agr.hav' rfl ?_)) ⟨rfl, trivial⟩ ?_)
      exact ⟨⟨hX, ⟨by omega, hB2, hB4, hB5⟩⟩, by first | (dsimp only; omega) | ((show _ < _); omega)⟩
    · try simp only [decide_eq_true_eq, decide_eq_false_iff_not, Bool.not_eq_true, Bool.not_eq_false, Bool.not_eq_eq_eq_not, Bool.not_true, Bool.not_false, Int.not_lt, Int.not_le] at hc23
      have h4 : k = 4 := by omega
      subst h4
      rw [accB_4] at hB5
      refine c_exit ?_
      refine t_e ?_
      refine t_e ?_
      refine b_hit ?_
      refine b_n ?_
      refine t_n ?_
      refine r_plain ?_
      refine p1 (x_move (by conv => lhs; whnf)) ?_
      refine p1 (x_add rfl rfl (fits_i64 (by omega) (by omega))) ?_
      refine p1 (x_assign (by conv => lhs; whnf)) ?_
      refine r_nil ?_
      refine t_n (At.mk (i + 1) (by repeat (first | exact Agr.refl _ _ | exact Agr.hav _ _ _ | refine Agr.upd rfl ?_ | refine Agr.updR rfl ?_ | refine Agr.updL ?_ _ rfl | refine Agr.hav' rfl ?_)) ⟨rfl, trivial⟩ ?_)
      exact ⟨⟨hX, ⟨by omega, hB2, hB4, hB5⟩⟩, by first | (dsimp only; omega) | ((show _ < _); omega)⟩
  · try simp only [decide_eq_true_eq, decide_eq_false_iff_not, Bool.not_eq_true, Bool.not_eq_false, Bool.not_eq_eq_eq_not, Bool.not_true, Bool.not_false, Int.not_lt, Int.not_le] at hc19
    have h16 : i = 16 := by omega
    subst h16
    refine c_exit ?_
    refine t_e ?_
    refine t_e ?_
    refine b_hit ?_
    refine t_n ?_
    refine c_seq ?_
    refine c_seq ?_
    refine r_plain ?_
    refine p1 (x_assign (by conv => lhs; whnf)) ?_
    refine r_nil ?_
    refine t_n ?_
    refine c_block ?_
    refine c_loop (ι := Nat) [8, 9, 10, 41, 42, 43, 44, 45, 46, 47, 48, 49, 50, 51, 52, 53, 54, 55, 56, 57, 58, 59, 60, 61, 62, 63, 64, 65, 66, 67, 68, 69, 70, 71, 72, 73, 74, 75, 76, 77, 78, 79, 80, 81] (fun m => [(8, .int .i64 ((16 + m : Nat) : Int))]) (fun m w' => Ext w w' ∧ (m ≤ 48 ∧ Blk w' g2 (wds s.l) 64 ∧ Blk w' g4 (wds (List.replicate 8 0)) 64 ∧ Blk w' g5 (wds (extW (ownW xs 16) m)) 82)) (fun m => 48 - m) (0) ⟨rfl, trivial⟩ ⟨hX, ⟨by omega, hB2, hB4, hB5⟩⟩ ?_
    rintro m GL4 w8 ⟨hE8, hm, hB2, hB4, hB5⟩
    have hX := hE8
    refine c_seq ?_
    refine c_seq ?_
    refine r_plain ?_
    refine p1 (x_move (by conv => lhs; whnf)) ?_
    refine p1 (x_lss rfl rfl) ?_
    refine r_nil ?_
    refine t_n ?_
    first | refine c_dec rfl (fun hc42 => ?_) (fun hc42 => ?_) | refine c_if rfl (fun hc42 => ?_) (fun hc42 => ?_)
    · try simp only [decide_eq_true_eq, decide_eq_false_iff_not, Bool.not_eq_true, Bool.not_eq_false, Bool.not_eq_eq_eq_not, Bool.not_true, Bool.not_false, Int.not_lt, Int.not_le] at hc42
      refine c_skip ?_
      refine t_n ?_
      refine c_seq ?_
      refine c_block ?_
      refine c_seq ?_
      refine r_still mixed (by kernel_rfl) ?_
      intro w9 hE9
      have hX := hX.ext hE9
      have hB2 := hB2.ext hE9
      have hB4 := hB4.ext hE9
      have hB5 := hB5.ext hE9
      refine s1 (x_move (by conv => lhs; whnf)) ?_
      refine s1 ((x_sub rfl rfl (fits_i64 (by omega) (by omega))).cast (congrArg _ (by omega : ((16 + m : Nat) : Int) - 15 = ((16 + m - 15 : Nat) : Int)))) ?_
      refine s1 (x_ixa0 u82 sz63 rfl rfl (by omega)) ?_
      refine s1 (x_load1 un63 rfl (hB5.cell (wds_get (by rw [extW_len, ownW_len]; omega)))) ?_
      refine s1 (x_move (by conv => lhs; whnf)) ?_
      refine s1 ((x_sub rfl rfl (fits_i64 (by omega) (by omega))).cast (congrArg _ (by omega : ((16 + m : Nat) : Int) - 2 = ((16 + m - 2 : Nat) : Int)))) ?_
      refine s1 (x_ixa0 u82 sz63 rfl rfl (by omega)) ?_
      refine s1 (x_load1 un63 rfl (hB5.cell (wds_get (by rw [extW_len, ownW_len]; omega)))) ?_
      refine s1 (x_assign (by conv => lhs; whnf)) ?_
      refine s1 (x_assign (by conv => lhs; whnf)) ?_
      refine s_nil ?_
      refine t_n ?_
      refine r_held (fun _ w2 => Rd w2 g5 (16 + m) (extW (ownW xs 16) m)) mixed ?_
      intro w10 hE10
      have hX := hX.ext hE10
      have hB2 := hB2.ext hE10
      have hB4 := hB4.ext hE10
      have hB5 := hB5.ext hE10
      have hSr13 : (fun _ w2 => Rd w2 g5 (16 + m) (extW (ownW xs 16) m)) w10 w10 := rd_of hB5 (by rw [extW_len, ownW_len]; omega)
      have hRd := rd_of (n := 16 + m) hB5 (by rw [extW_len, ownW_len]; omega)
      refine h_take 0 rfl (by kernel_rfl) (by kernel_rfl) (by kernel_rfl) hSr13 (fun wS hSS => by ( exact (x_move (by conv => lhs; whnf)))) ?_
      refine h_take 1 rfl (by kernel_rfl) (by kernel_rfl) (by kernel_rfl) hSr13 (fun wS hSS => by ( exact (x_move (by conv => lhs; whnf)))) ?_
      refine h_take 2 rfl (by kernel_rfl) (by kernel_rfl) (by kernel_rfl) hSr13 (fun wS hSS => by ( exact ((x_sub rfl rfl (fits_i64 (by omega) (by omega))).cast (congrArg _ (by omega : ((16 + m : Nat) : Int) - 16 = ((16 + m - 16 : Nat) : Int)))))) ?_
      refine h_take 3 rfl (by kernel_rfl) (by kernel_rfl) (by kernel_rfl) hSr13 (fun wS hSS => by ( exact (x_ixa0 u82 sz63 rfl rfl (by omega)))) ?_
      refine h_take 4 rfl (by kernel_rfl) (by kernel_rfl) (by kernel_rfl) hSr13 (fun wS hSS => by (have hRd := hSS; exact (x_load1 un63 rfl (hRd _ (by omega))))) ?_
      refine h_take 5 rfl (by kernel_rfl) (by kernel_rfl) (by kernel_rfl) hSr13 (fun wS hSS => by ( exact (x_move (by conv => lhs; whnf)))) ?_
      refine h_take 7 rfl (by kernel_rfl) (by kernel_rfl) (by kernel_rfl) hSr13 (fun wS hSS => by ( exact (x_move (by conv => lhs; whnf)))) ?_
      refine h_take 10 rfl (by kernel_rfl) (by kernel_rfl) (by kernel_rfl) hSr13 (fun wS hSS => by ( exact (x_move (by conv => lhs; whnf)))) ?_
      refine h_take 11 rfl (by kernel_rfl) (by kernel_rfl) (by kernel_rfl) hSr13 (fun wS hSS => by ( exact (x_shr rfl rfl (by omega)))) ?_
      refine h_take 14 rfl (by kernel_rfl) (by kernel_rfl) (by kernel_rfl) hSr13 (fun wS hSS => by ( exact (x_move (by conv => lhs; whnf)))) ?_
      refine h_take 15 rfl (by kernel_rfl) (by kernel_rfl) (by kernel_rfl) hSr13 (fun wS hSS => by ( exact ((x_sub rfl rfl (fits_i64 (by omega) (by omega))).cast (congrArg _ (by omega : ((16 + m : Nat) : Int) - 7 = ((16 + m - 7 : Nat) : Int)))))) ?_
      refine h_take 16 rfl (by kernel_rfl) (by kernel_rfl) (by kernel_rfl) hSr13 (fun wS hSS => by ( exact (x_ixa0 u82 sz63 rfl rfl (by omega)))) ?_
      refine h_take 17 rfl (by kernel_rfl) (by kernel_rfl) (by kernel_rfl) hSr13 (fun wS hSS => by (have hRd := hSS; exact (x_load1 un63 rfl (hRd _ (by omega))))) ?_
      refine h_take 19 rfl (by kernel_rfl) (by kernel_rfl) (by kernel_rfl) hSr13 (fun wS hSS => by ( exact (x_move (by conv => lhs; whnf)))) ?_
      refine h_take 21 rfl (by kernel_rfl) (by kernel_rfl) (by kernel_rfl) hSr13 (fun wS hSS => by ( exact (x_move (by conv => lhs; whnf)))) ?_
      refine h_take 24 rfl (by kernel_rfl) (by kernel_rfl) (by kernel_rfl) hSr13 (fun wS hSS => by ( exact (x_move (by conv => lhs; whnf)))) ?_
      refine h_take 25 rfl (by kernel_rfl) (by kernel_rfl) (by kernel_rfl) hSr13 (fun wS hSS => by ( exact (x_shr rfl rfl (by omega)))) ?_
      refine h_one 6 _ rfl (by kernel_rfl) (hop_of_list (fun Q6 hQ6 => ?_))
      refine o_call Tryd.func46 fn46 fb46 (ref01_turned _ 7 _ (by decide) (by decide)) rfl ?_
      rintro v11 w11 ⟨rfl, hE11⟩
      have hX := hX.ext hE11
      have hB2 := hB2.ext hE11
      have hB4 := hB4.ext hE11
      have hB5 := hB5.ext hE11
      have hSr13 := hSr13.ext hE11
      have hRd := hRd.ext hE11
      refine hop_end hQ6 ⟨hSr13, ?_⟩
      refine h_one 8 _ rfl (by kernel_rfl) (hop_of_list (fun Q8 hQ8 => ?_))
      refine o_call Tryd.func46 fn46 fb46 (ref01_turned _ 18 _ (by decide) (by decide)) rfl ?_
      rintro v12 w12 ⟨rfl, hE12⟩
      have hX := hX.ext hE12
      have hB2 := hB2.ext hE12
      have hB4 := hB4.ext hE12
      have hB5 := hB5.ext hE12
      have hSr13 := hSr13.ext hE12
      have hRd := hRd.ext hE12
      refine hop_end hQ8 ⟨hSr13, ?_⟩
      refine h_take 9 rfl (by kernel_rfl) (by kernel_rfl) (by kernel_rfl) hSr13 (fun wS hSS => by ( exact (x_xor rfl rfl))) ?_
      refine h_take 12 rfl (by kernel_rfl) (by kernel_rfl) (by kernel_rfl) hSr13 (fun wS hSS => by ( exact (x_xor rfl rfl))) ?_
      refine h_take 13 rfl (by kernel_rfl) (by kernel_rfl) (by kernel_rfl) hSr13 (fun wS hSS => by ( exact (x_addw rfl rfl))) ?_
      refine h_take 18 rfl (by kernel_rfl) (by kernel_rfl) (by kernel_rfl) hSr13 (fun wS hSS => by ( exact (x_addw rfl rfl))) ?_
      refine h_one 20 _ rfl (by kernel_rfl) (hop_of_list (fun Q20 hQ20 => ?_))
      refine o_call Tryd.func46 fn46 fb46 (ref01_turned _ 17 _ (by decide) (by decide)) rfl ?_
      rintro v13 w13 ⟨rfl, hE13⟩
      have hX := hX.ext hE13
      have hB2 := hB2.ext hE13
      have hB4 := hB4.ext hE13
      have hB5 := hB5.ext hE13
      have hSr13 := hSr13.ext hE13
      have hRd := hRd.ext hE13
      refine hop_end hQ20 ⟨hSr13, ?_⟩
      refine h_one 22 _ rfl (by kernel_rfl) (hop_of_list (fun Q22 hQ22 => ?_))
      refine o_call Tryd.func46 fn46 fb46 (ref01_turned _ 19 _ (by decide) (by decide)) rfl ?_
      rintro v14 w14 ⟨rfl, hE14⟩
      have hX := hX.ext hE14
      have hB2 := hB2.ext hE14
      have hB4 := hB4.ext hE14
      have hB5 := hB5.ext hE14
      have hSr13 := hSr13.ext hE14
      have hRd := hRd.ext hE14
      refine hop_end hQ22 ⟨hSr13, ?_⟩
      refine h_take 23 rfl (by kernel_rfl) (by kernel_rfl) (by kernel_rfl) hSr13 (fun wS hSS => by ( exact (x_xor rfl rfl))) ?_
      refine h_take 26 rfl (by kernel_rfl) (by kernel_rfl) (by kernel_rfl) hSr13 (fun wS hSS => by ( exact (x_xor rfl rfl))) ?_
      refine h_take 27 rfl (by kernel_rfl) (by kernel_rfl) (by kernel_rfl) hSr13 (fun wS hSS => by ( exact (x_addw rfl rfl))) ?_
      refine h_take 28 rfl (by kernel_rfl) (by kernel_rfl) (by kernel_rfl) hSr13 (fun wS hSS => by ( exact (x_ixa0 u82 sz63 rfl rfl (by omega)))) ?_
      refine h_one 29 _ rfl (by kernel_rfl) (hop_of_list (fun Q29 hQ29 => ?_))
      refine o_store1 rfl (by conv => lhs; whnf) rfl rfl sz63 hB5 (by rw [wds_size, extW_len, ownW_len]; omega) ?_
      intro w15 hP15
      have hX := hX.put hP15 (by omega)
      have hB2 := hP15.keep hB2 (by omega)
      have hB4 := hP15.keep hB4 (by omega)
      have hB5 := hP15.blk
      rw [wds_set] at hB5
      have hSr13 := rd_set hB5 (by rw [extW_len, ownW_len]; omega)
      refine hop_end hQ29 ⟨hSr13, ?_⟩
      refine h_done (by kernel_rfl) ?_
      refine b_n ?_
      refine t_n ?_
      refine r_plain ?_
      refine p1 (x_move (by conv => lhs; whnf)) ?_
      refine p1 ((x_add rfl rfl (fits_i64 (by omega) (by omega))).cast (congrArg _ (by omega : ((16 + m : Nat) : Int) + 1 = ((16 + (m + 1) : Nat) : Int)))) ?_
      refine p1 (x_assign (by conv => lhs; whnf)) ?_
      refine r_nil ?_
      refine t_n (At.mk (m + 1) (by repeat (first | exact Agr.refl _ _ | exact Agr.hav _ _ _ | refine Agr.upd rfl ?_ | refine Agr.updR rfl ?_ | refine Agr.updL ?_ _ rfl | refine Agr.hav' rfl ?_)) ⟨rfl, trivial⟩ ?_)
      exact ⟨⟨hX, ⟨by omega, hB2, hB4, hB5⟩⟩, by show 48 - (m + 1) < 48 - m; omega⟩
    · try simp only [decide_eq_true_eq, decide_eq_false_iff_not, Bool.not_eq_true, Bool.not_eq_false, Bool.not_eq_eq_eq_not, Bool.not_true, Bool.not_false, Int.not_lt, Int.not_le] at hc42
      have h48 : m = 48 := by omega
      subst h48
      obtain ⟨WW, hWW⟩ : ∃ WW, WW = extW (ownW xs 16) 48 := ⟨_, rfl⟩
      rw [← hWW] at hB5
      have hWl : WW.length = 64 := by rw [hWW, extW_len, ownW_len]
      refine c_exit ?_
      refine t_e ?_
      refine t_e ?_
      refine b_hit ?_
      refine t_n ?_
      refine c_seq ?_
      refine r_plain ?_
      refine p1 (x_loadB ua64 rfl hB2 (by rw [wds_size]; exact sz64)) ?_
      have sX := hX.size
      have l5 := hB5.lt
      refine o_alloc zr64 ?_
      intro w16 g11 hN11
      have hE16 := hN11.ext
      have hX := hX.ext hE16
      have hB2 := hB2.ext hE16
      have hB4 := hB4.ext hE16
      have hB5 := hB5.ext hE16
      have hB11 := hN11.blk
      have e11 := hN11.g_eq
      have h511 : g5 < g11 := by omega
      refine o_storeAll rfl (by conv => lhs; whnf) (wds_one _) (by rw [wds_size]; exact sz64) hB11 (by rfl) ?_
      intro w17 hP17
      have hX := hX.put hP17 (by omega)
      have hB2 := hP17.keep hB2 (by omega)
      have hB4 := hP17.keep hB4 (by omega)
      have hB5 := hP17.keep hB5 (by omega)
      have hB11 := hP17.blk
      refine r_nil ?_
      refine t_n ?_
      refine c_seq ?_
      refine c_seq ?_
      refine r_plain ?_
      refine p1 (x_assign (by conv => lhs; whnf)) ?_
      refine r_nil ?_
      refine t_n ?_
      refine c_block ?_
      refine c_loop (ι := Nat) [12, 13, 14, 15, 16, 83, 84, 85, 86, 87, 88, 89, 90, 91, 92, 93, 94, 95, 96, 97, 98, 99, 100, 101, 102, 103, 104, 105, 106, 107, 108, 109, 110, 111, 112, 113, 114, 115, 116, 117, 118, 119, 120, 121, 122, 123, 124, 125, 126, 127, 128, 129, 130, 131, 132, 133, 134, 135, 136, 137, 138, 139, 140, 141, 142, 143, 144, 145, 146, 147, 148, 149, 150, 151, 152, 153, 154, 155, 156, 157, 158, 159, 160, 161, 162, 163] (fun i => [(12, .int .i64 (i : Int))]) (fun i w' => Ext w w' ∧ (i ≤ 64 ∧ Blk w' g2 (wds s.l) 64 ∧ Blk w' g4 (wds (List.replicate 8 0)) 64 ∧ Blk w' g5 (wds (WW)) 82 ∧ Blk w' g11 (wds (runW WW s i).l) 64)) (fun i => 64 - i) (0) ⟨rfl, trivial⟩ ⟨hX, ⟨by omega, hB2, hB4, hB5, hB11⟩⟩ ?_
      rintro i GL6 w18 ⟨hE18, hi, hB2, hB4, hB5, hB11⟩
      have hX := hE18
      refine c_seq ?_
      refine c_seq ?_
      refine r_plain ?_
      refine p1 (x_move (by conv => lhs; whnf)) ?_
      refine p1 (x_lss rfl rfl) ?_
      refine r_nil ?_
      refine t_n ?_
      first | refine c_dec rfl (fun hc84 => ?_) (fun hc84 => ?_) | refine c_if rfl (fun hc84 => ?_) (fun hc84 => ?_)
      · try simp only [decide_eq_true_eq, decide_eq_false_iff_not, Bool.not_eq_true, Bool.not_eq_false, Bool.not_eq_eq_eq_not, Bool.not_true, Bool.not_false, Int.not_lt, Int.not_le] at hc84
        obtain ⟨S, hS⟩ : ∃ S, S = runW WW s i := ⟨_, rfl⟩
        rw [← hS] at hB11
        refine c_skip ?_
        refine t_n ?_
        refine c_seq ?_
        refine c_block ?_
        refine c_seq ?_
        refine r_plain ?_
        refine p1 (x_ixa0 (i := 4) u64 sz63 rfl rfl (by decide)) ?_
        refine p1 (x_load1 un63 rfl (hB11.cell (w8_4 _))) ?_
        refine p1 (x_assign (by conv => lhs; whnf)) ?_
        refine r_nil ?_
        refine t_n ?_
        refine c_seq ?_
        refine r_held (fun w1 w2 => Ext w1 w2) mixed ?_
        intro w19 hE19
        have hX := hX.ext hE19
        have hB2 := hB2.ext hE19
        have hB4 := hB4.ext hE19
        have hB5 := hB5.ext hE19
        have hB11 := hB11.ext hE19
        have hSr19 : (fun w1 w2 => Ext w1 w2) w19 w19 := Ext.refl w19
        refine h_take 0 rfl (by kernel_rfl) (by kernel_rfl) (by kernel_rfl) hSr19 (fun wS hSS => by (have hX := hX.ext hSS; have hB2 := hB2.ext hSS; have hB4 := hB4.ext hSS; have hB5 := hB5.ext hSS; have hB11 := hB11.ext hSS; exact (x_ixa0 (i := 7) u64 sz63 rfl rfl (by decide)))) ?_
        refine h_take 1 rfl (by kernel_rfl) (by kernel_rfl) (by kernel_rfl) hSr19 (fun wS hSS => by (have hX := hX.ext hSS; have hB2 := hB2.ext hSS; have hB4 := hB4.ext hSS; have hB5 := hB5.ext hSS; have hB11 := hB11.ext hSS; exact (x_load1 un63 rfl (hB11.cell (w8_7 _))))) ?_
        refine h_take 2 rfl (by kernel_rfl) (by kernel_rfl) (by kernel_rfl) hSr19 (fun wS hSS => by (have hX := hX.ext hSS; have hB2 := hB2.ext hSS; have hB4 := hB4.ext hSS; have hB5 := hB5.ext hSS; have hB11 := hB11.ext hSS; exact (x_move (by conv => lhs; whnf)))) ?_
        refine h_take 4 rfl (by kernel_rfl) (by kernel_rfl) (by kernel_rfl) hSr19 (fun wS hSS => by (have hX := hX.ext hSS; have hB2 := hB2.ext hSS; have hB4 := hB4.ext hSS; have hB5 := hB5.ext hSS; have hB11 := hB11.ext hSS; exact (x_move (by conv => lhs; whnf)))) ?_
        refine h_take 7 rfl (by kernel_rfl) (by kernel_rfl) (by kernel_rfl) hSr19 (fun wS hSS => by (have hX := hX.ext hSS; have hB2 := hB2.ext hSS; have hB4 := hB4.ext hSS; have hB5 := hB5.ext hSS; have hB11 := hB11.ext hSS; exact (x_move (by conv => lhs; whnf)))) ?_
        refine h_take 11 rfl (by kernel_rfl) (by kernel_rfl) (by kernel_rfl) hSr19 (fun wS hSS => by (have hX := hX.ext hSS; have hB2 := hB2.ext hSS; have hB4 := hB4.ext hSS; have hB5 := hB5.ext hSS; have hB11 := hB11.ext hSS; exact (x_move (by conv => lhs; whnf)))) ?_
        refine h_take 12 rfl (by kernel_rfl) (by kernel_rfl) (by kernel_rfl) hSr19 (fun wS hSS => by (have hX := hX.ext hSS; have hB2 := hB2.ext hSS; have hB4 := hB4.ext hSS; have hB5 := hB5.ext hSS; have hB11 := hB11.ext hSS; exact (x_ixa0 (i := 5) u64 sz63 rfl rfl (by decide)))) ?_
        refine h_take 13 rfl (by kernel_rfl) (by kernel_rfl) (by kernel_rfl) hSr19 (fun wS hSS => by (have hX := hX.ext hSS; have hB2 := hB2.ext hSS; have hB4 := hB4.ext hSS; have hB5 := hB5.ext hSS; have hB11 := hB11.ext hSS; exact (x_load1 un63 rfl (hB11.cell (w8_5 _))))) ?_
        refine h_take 14 rfl (by kernel_rfl) (by kernel_rfl) (by kernel_rfl) hSr19 (fun wS hSS => by (have hX := hX.ext hSS; have hB2 := hB2.ext hSS; have hB4 := hB4.ext hSS; have hB5 := hB5.ext hSS; have hB11 := hB11.ext hSS; exact (x_and rfl rfl))) ?_
        refine h_take 15 rfl (by kernel_rfl) (by kernel_rfl) (by kernel_rfl) hSr19 (fun wS hSS => by (have hX := hX.ext hSS; have hB2 := hB2.ext hSS; have hB4 := hB4.ext hSS; have hB5 := hB5.ext hSS; have hB11 := hB11.ext hSS; exact (x_move (by conv => lhs; whnf)))) ?_
        refine h_take 16 rfl (by kernel_rfl) (by kernel_rfl) (by kernel_rfl) hSr19 (fun wS hSS => by (have hX := hX.ext hSS; have hB2 := hB2.ext hSS; have hB4 := hB4.ext hSS; have hB5 := hB5.ext hSS; have hB11 := hB11.ext hSS; exact (x_cpl32 rfl))) ?_
        refine h_take 17 rfl (by kernel_rfl) (by kernel_rfl) (by kernel_rfl) hSr19 (fun wS hSS => by (have hX := hX.ext hSS; have hB2 := hB2.ext hSS; have hB4 := hB4.ext hSS; have hB5 := hB5.ext hSS; have hB11 := hB11.ext hSS; exact (x_ixa0 (i := 6) u64 sz63 rfl rfl (by decide)))) ?_
        refine h_take 18 rfl (by kernel_rfl) (by kernel_rfl) (by kernel_rfl) hSr19 (fun wS hSS => by (have hX := hX.ext hSS; have hB2 := hB2.ext hSS; have hB4 := hB4.ext hSS; have hB5 := hB5.ext hSS; have hB11 := hB11.ext hSS; exact (x_load1 un63 rfl (hB11.cell (w8_6 _))))) ?_
        refine h_take 19 rfl (by kernel_rfl) (by kernel_rfl) (by kernel_rfl) hSr19 (fun wS hSS => by (have hX := hX.ext hSS; have hB2 := hB2.ext hSS; have hB4 := hB4.ext hSS; have hB5 := hB5.ext hSS; have hB11 := hB11.ext hSS; exact (x_and rfl rfl))) ?_
        refine h_take 20 rfl (by kernel_rfl) (by kernel_rfl) (by kernel_rfl) hSr19 (fun wS hSS => by (have hX := hX.ext hSS; have hB2 := hB2.ext hSS; have hB4 := hB4.ext hSS; have hB5 := hB5.ext hSS; have hB11 := hB11.ext hSS; exact (x_xor rfl rfl))) ?_
        refine h_take 22 rfl (by kernel_rfl) (by kernel_rfl) (by kernel_rfl) hSr19 (fun wS hSS => by (have hX := hX.ext hSS; have hB2 := hB2.ext hSS; have hB4 := hB4.ext hSS; have hB5 := hB5.ext hSS; have hB11 := hB11.ext hSS; exact (x_move (by conv => lhs; whnf)))) ?_
        refine h_take 25 rfl (by kernel_rfl) (by kernel_rfl) (by kernel_rfl) hSr19 (fun wS hSS => by (have hX := hX.ext hSS; have hB2 := hB2.ext hSS; have hB4 := hB4.ext hSS; have hB5 := hB5.ext hSS; have hB11 := hB11.ext hSS; exact (x_move (by conv => lhs; whnf)))) ?_
        refine h_take 26 rfl (by kernel_rfl) (by kernel_rfl) (by kernel_rfl) hSr19 (fun wS hSS => by (have hX := hX.ext hSS; have hB2 := hB2.ext hSS; have hB4 := hB4.ext hSS; have hB5 := hB5.ext hSS; have hB11 := hB11.ext hSS; exact (x_ixa0 u82 sz63 rfl rfl (by omega)))) ?_
        refine h_take 27 rfl (by kernel_rfl) (by kernel_rfl) (by kernel_rfl) hSr19 (fun wS hSS => by (have hX := hX.ext hSS; have hB2 := hB2.ext hSS; have hB4 := hB4.ext hSS; have hB5 := hB5.ext hSS; have hB11 := hB11.ext hSS; exact (x_load1 un63 rfl (hB5.cell (wds_get (by omega)))))) ?_
        refine h_one 3 _ rfl (by kernel_rfl) (hop_of_list (fun Q3 hQ3 => ?_))
        refine o_call Tryd.func46 fn46 fb46 (ref01_turned _ 6 _ (by decide) (by decide)) rfl ?_
        rintro v20 w20 ⟨rfl, hE20⟩
        have hX := hX.ext hE20
        have hB2 := hB2.ext hE20
        have hB4 := hB4.ext hE20
        have hB5 := hB5.ext hE20
        have hB11 := hB11.ext hE20
        have hSr19 := hSr19.ext hE20
        refine hop_end hQ3 ⟨hSr19, ?_⟩
        refine h_one 5 _ rfl (by kernel_rfl) (hop_of_list (fun Q5 hQ5 => ?_))
        refine o_call Tryd.func46 fn46 fb46 (ref01_turned _ 11 _ (by decide) (by decide)) rfl ?_
        rintro v21 w21 ⟨rfl, hE21⟩
        have hX := hX.ext hE21
        have hB2 := hB2.ext hE21
        have hB4 := hB4.ext hE21
        have hB5 := hB5.ext hE21
        have hB11 := hB11.ext hE21
        have hSr19 := hSr19.ext hE21
        refine hop_end hQ5 ⟨hSr19, ?_⟩
        refine h_take 6 rfl (by kernel_rfl) (by kernel_rfl) (by kernel_rfl) hSr19 (fun wS hSS => by ( exact (x_xor rfl rfl))) ?_
        refine h_one 8 _ rfl (by kernel_rfl) (hop_of_list (fun Q8 hQ8 => ?_))
        refine o_call Tryd.func46 fn46 fb46 (ref01_turned _ 25 _ (by decide) (by decide)) rfl ?_
        rintro v22 w22 ⟨rfl, hE22⟩
        have hX := hX.ext hE22
        have hB2 := hB2.ext hE22
        have hB4 := hB4.ext hE22
        have hB5 := hB5.ext hE22
        have hB11 := hB11.ext hE22
        have hSr19 := hSr19.ext hE22
        refine hop_end hQ8 ⟨hSr19, ?_⟩
        refine h_take 9 rfl (by kernel_rfl) (by kernel_rfl) (by kernel_rfl) hSr19 (fun wS hSS => by ( exact (x_xor rfl rfl))) ?_
        refine h_take 10 rfl (by kernel_rfl) (by kernel_rfl) (by kernel_rfl) hSr19 (fun wS hSS => by ( exact (x_addw rfl rfl))) ?_
        refine h_take 21 rfl (by kernel_rfl) (by kernel_rfl) (by kernel_rfl) hSr19 (fun wS hSS => by ( exact (x_addw rfl rfl))) ?_
        refine h_one 23 _ rfl (by kernel_rfl) (hop_of_list (fun Q23 hQ23 => ?_))
        refine o_call Tryd.func47 fn47 fb47 (ref01_constant i _ (by omega)) rfl ?_
        rintro v23 w23 ⟨rfl, hE23⟩
        have hX := hX.ext hE23
        have hB2 := hB2.ext hE23
        have hB4 := hB4.ext hE23
        have hB5 := hB5.ext hE23
        have hB11 := hB11.ext hE23
        have hSr19 := hSr19.ext hE23
        refine hop_end hQ23 ⟨hSr19, ?_⟩
        refine h_take 24 rfl (by kernel_rfl) (by kernel_rfl) (by kernel_rfl) hSr19 (fun wS hSS => by ( exact (x_addw rfl rfl))) ?_
        refine h_take 28 rfl (by kernel_rfl) (by kernel_rfl) (by kernel_rfl) hSr19 (fun wS hSS => by ( exact (x_addw rfl rfl))) ?_
        refine h_take 29 rfl (by kernel_rfl) (by kernel_rfl) (by kernel_rfl) hSr19 (fun wS hSS => by ( exact (x_assign (by conv => lhs; whnf)))) ?_
        refine h_done (by kernel_rfl) ?_
        refine t_n ?_
        refine c_seq ?_
        refine r_plain ?_
        refine p1 (x_ixa0 (i := 0) u64 sz63 rfl rfl (by decide)) ?_
        refine p1 (x_load1 un63 rfl (hB11.cell (w8_0 _))) ?_
        refine p1 (x_assign (by conv => lhs; whnf)) ?_
        refine r_nil ?_
        refine t_n ?_
        refine c_seq ?_
        refine r_held (fun w1 w2 => Ext w1 w2) mixed ?_
        intro w24 hE24
        have hX := hX.ext hE24
        have hB2 := hB2.ext hE24
        have hB4 := hB4.ext hE24
        have hB5 := hB5.ext hE24
        have hB11 := hB11.ext hE24
        have hSr21 : (fun w1 w2 => Ext w1 w2) w24 w24 := Ext.refl w24
        refine h_take 0 rfl (by kernel_rfl) (by kernel_rfl) (by kernel_rfl) hSr21 (fun wS hSS => by (have hX := hX.ext hSS; have hB2 := hB2.ext hSS; have hB4 := hB4.ext hSS; have hB5 := hB5.ext hSS; have hB11 := hB11.ext hSS; exact (x_move (by conv => lhs; whnf)))) ?_
        refine h_take 2 rfl (by kernel_rfl) (by kernel_rfl) (by kernel_rfl) hSr21 (fun wS hSS => by (have hX := hX.ext hSS; have hB2 := hB2.ext hSS; have hB4 := hB4.ext hSS; have hB5 := hB5.ext hSS; have hB11 := hB11.ext hSS; exact (x_move (by conv => lhs; whnf)))) ?_
        refine h_take 5 rfl (by kernel_rfl) (by kernel_rfl) (by kernel_rfl) hSr21 (fun wS hSS => by (have hX := hX.ext hSS; have hB2 := hB2.ext hSS; have hB4 := hB4.ext hSS; have hB5 := hB5.ext hSS; have hB11 := hB11.ext hSS; exact (x_move (by conv => lhs; whnf)))) ?_
        refine h_take 8 rfl (by kernel_rfl) (by kernel_rfl) (by kernel_rfl) hSr21 (fun wS hSS => by (have hX := hX.ext hSS; have hB2 := hB2.ext hSS; have hB4 := hB4.ext hSS; have hB5 := hB5.ext hSS; have hB11 := hB11.ext hSS; exact (x_move (by conv => lhs; whnf)))) ?_
        refine h_take 9 rfl (by kernel_rfl) (by kernel_rfl) (by kernel_rfl) hSr21 (fun wS hSS => by (have hX := hX.ext hSS; have hB2 := hB2.ext hSS; have hB4 := hB4.ext hSS; have hB5 := hB5.ext hSS; have hB11 := hB11.ext hSS; exact (x_ixa0 (i := 1) u64 sz63 rfl rfl (by decide)))) ?_
        refine h_take 10 rfl (by kernel_rfl) (by kernel_rfl) (by kernel_rfl) hSr21 (fun wS hSS => by (have hX := hX.ext hSS; have hB2 := hB2.ext hSS; have hB4 := hB4.ext hSS; have hB5 := hB5.ext hSS; have hB11 := hB11.ext hSS; exact (x_load1 un63 rfl (hB11.cell (w8_1 _))))) ?_
        refine h_take 11 rfl (by kernel_rfl) (by kernel_rfl) (by kernel_rfl) hSr21 (fun wS hSS => by (have hX := hX.ext hSS; have hB2 := hB2.ext hSS; have hB4 := hB4.ext hSS; have hB5 := hB5.ext hSS; have hB11 := hB11.ext hSS; exact (x_and rfl rfl))) ?_
        refine h_take 12 rfl (by kernel_rfl) (by kernel_rfl) (by kernel_rfl) hSr21 (fun wS hSS => by (have hX := hX.ext hSS; have hB2 := hB2.ext hSS; have hB4 := hB4.ext hSS; have hB5 := hB5.ext hSS; have hB11 := hB11.ext hSS; exact (x_move (by conv => lhs; whnf)))) ?_
        refine h_take 13 rfl (by kernel_rfl) (by kernel_rfl) (by kernel_rfl) hSr21 (fun wS hSS => by (have hX := hX.ext hSS; have hB2 := hB2.ext hSS; have hB4 := hB4.ext hSS; have hB5 := hB5.ext hSS; have hB11 := hB11.ext hSS; exact (x_ixa0 (i := 2) u64 sz63 rfl rfl (by decide)))) ?_
        refine h_take 14 rfl (by kernel_rfl) (by kernel_rfl) (by kernel_rfl) hSr21 (fun wS hSS => by (have hX := hX.ext hSS; have hB2 := hB2.ext hSS; have hB4 := hB4.ext hSS; have hB5 := hB5.ext hSS; have hB11 := hB11.ext hSS; exact (x_load1 un63 rfl (hB11.cell (w8_2 _))))) ?_
        refine h_take 15 rfl (by kernel_rfl) (by kernel_rfl) (by kernel_rfl) hSr21 (fun wS hSS => by (have hX := hX.ext hSS; have hB2 := hB2.ext hSS; have hB4 := hB4.ext hSS; have hB5 := hB5.ext hSS; have hB11 := hB11.ext hSS; exact (x_and rfl rfl))) ?_
        refine h_take 16 rfl (by kernel_rfl) (by kernel_rfl) (by kernel_rfl) hSr21 (fun wS hSS => by (have hX := hX.ext hSS; have hB2 := hB2.ext hSS; have hB4 := hB4.ext hSS; have hB5 := hB5.ext hSS; have hB11 := hB11.ext hSS; exact (x_xor rfl rfl))) ?_
        refine h_take 17 rfl (by kernel_rfl) (by kernel_rfl) (by kernel_rfl) hSr21 (fun wS hSS => by (have hX := hX.ext hSS; have hB2 := hB2.ext hSS; have hB4 := hB4.ext hSS; have hB5 := hB5.ext hSS; have hB11 := hB11.ext hSS; exact (x_ixa0 (i := 1) u64 sz63 rfl rfl (by decide)))) ?_
        refine h_take 18 rfl (by kernel_rfl) (by kernel_rfl) (by kernel_rfl) hSr21 (fun wS hSS => by (have hX := hX.ext hSS; have hB2 := hB2.ext hSS; have hB4 := hB4.ext hSS; have hB5 := hB5.ext hSS; have hB11 := hB11.ext hSS; exact (x_load1 un63 rfl (hB11.cell (w8_1 _))))) ?_
        refine h_take 19 rfl (by kernel_rfl) (by kernel_rfl) (by kernel_rfl) hSr21 (fun wS hSS => by (have hX := hX.ext hSS; have hB2 := hB2.ext hSS; have hB4 := hB4.ext hSS; have hB5 := hB5.ext hSS; have hB11 := hB11.ext hSS; exact (x_ixa0 (i := 2) u64 sz63 rfl rfl (by decide)))) ?_
        refine h_take 20 rfl (by kernel_rfl) (by kernel_rfl) (by kernel_rfl) hSr21 (fun wS hSS => by (have hX := hX.ext hSS; have hB2 := hB2.ext hSS; have hB4 := hB4.ext hSS; have hB5 := hB5.ext hSS; have hB11 := hB11.ext hSS; exact (x_load1 un63 rfl (hB11.cell (w8_2 _))))) ?_
        refine h_take 21 rfl (by kernel_rfl) (by kernel_rfl) (by kernel_rfl) hSr21 (fun wS hSS => by (have hX := hX.ext hSS; have hB2 := hB2.ext hSS; have hB4 := hB4.ext hSS; have hB5 := hB5.ext hSS; have hB11 := hB11.ext hSS; exact (x_and rfl rfl))) ?_
        refine h_take 22 rfl (by kernel_rfl) (by kernel_rfl) (by kernel_rfl) hSr21 (fun wS hSS => by (have hX := hX.ext hSS; have hB2 := hB2.ext hSS; have hB4 := hB4.ext hSS; have hB5 := hB5.ext hSS; have hB11 := hB11.ext hSS; exact (x_xor rfl rfl))) ?_
        refine h_one 1 _ rfl (by kernel_rfl) (hop_of_list (fun Q1 hQ1 => ?_))
        refine o_call Tryd.func46 fn46 fb46 (ref01_turned _ 2 _ (by decide) (by decide)) rfl ?_
        rintro v25 w25 ⟨rfl, hE25⟩
        have hX := hX.ext hE25
        have hB2 := hB2.ext hE25
        have hB4 := hB4.ext hE25
        have hB5 := hB5.ext hE25
        have hB11 := hB11.ext hE25
        have hSr21 := hSr21.ext hE25
        refine hop_end hQ1 ⟨hSr21, ?_⟩
        refine h_one 3 _ rfl (by kernel_rfl) (hop_of_list (fun Q3 hQ3 => ?_))
        refine o_call Tryd.func46 fn46 fb46 (ref01_turned _ 13 _ (by decide) (by decide)) rfl ?_
        rintro v26 w26 ⟨rfl, hE26⟩
        have hX := hX.ext hE26
        have hB2 := hB2.ext hE26
        have hB4 := hB4.ext hE26
        have hB5 := hB5.ext hE26
        have hB11 := hB11.ext hE26
        have hSr21 := hSr21.ext hE26
        refine hop_end hQ3 ⟨hSr21, ?_⟩
        refine h_take 4 rfl (by kernel_rfl) (by kernel_rfl) (by kernel_rfl) hSr21 (fun wS hSS => by ( exact (x_xor rfl rfl))) ?_
        refine h_one 6 _ rfl (by kernel_rfl) (hop_of_list (fun Q6 hQ6 => ?_))
        refine o_call Tryd.func46 fn46 fb46 (ref01_turned _ 22 _ (by decide) (by decide)) rfl ?_
        rintro v27 w27 ⟨rfl, hE27⟩
        have hX := hX.ext hE27
        have hB2 := hB2.ext hE27
        have hB4 := hB4.ext hE27
        have hB5 := hB5.ext hE27
        have hB11 := hB11.ext hE27
        have hSr21 := hSr21.ext hE27
        refine hop_end hQ6 ⟨hSr21, ?_⟩
        refine h_take 7 rfl (by kernel_rfl) (by kernel_rfl) (by kernel_rfl) hSr21 (fun wS hSS => by ( exact (x_xor rfl rfl))) ?_
        refine h_take 23 rfl (by kernel_rfl) (by kernel_rfl) (by kernel_rfl) hSr21 (fun wS hSS => by ( exact (x_addw rfl rfl))) ?_
        refine h_take 24 rfl (by kernel_rfl) (by kernel_rfl) (by kernel_rfl) hSr21 (fun wS hSS => by ( exact (x_assign (by conv => lhs; whnf)))) ?_
        refine h_done (by kernel_rfl) ?_
        refine t_n ?_
        refine r_plain ?_
        refine p1 (x_move (by conv => lhs; whnf)) ?_
        refine p1 (x_move (by conv => lhs; whnf)) ?_
        refine p1 (x_addw rfl rfl) ?_
        refine p1 (x_ixa0 (i := 0) u64 sz63 rfl rfl (by decide)) ?_
        refine p1 (x_load1 un63 rfl (hB11.cell (w8_0 _))) ?_
        refine p1 (x_ixa0 (i := 1) u64 sz63 rfl rfl (by decide)) ?_
        refine p1 (x_load1 un63 rfl (hB11.cell (w8_1 _))) ?_
        refine p1 (x_ixa0 (i := 2) u64 sz63 rfl rfl (by decide)) ?_
        refine p1 (x_load1 un63 rfl (hB11.cell (w8_2 _))) ?_
        refine p1 (x_ixa0 (i := 3) u64 sz63 rfl rfl (by decide)) ?_
        refine p1 (x_load1 un63 rfl (hB11.cell (w8_3 _))) ?_
        refine p1 (x_move (by conv => lhs; whnf)) ?_
        refine p1 (x_addw rfl rfl) ?_
        refine p1 (x_ixa0 (i := 4) u64 sz63 rfl rfl (by decide)) ?_
        refine p1 (x_load1 un63 rfl (hB11.cell (w8_4 _))) ?_
        refine p1 (x_ixa0 (i := 5) u64 sz63 rfl rfl (by decide)) ?_
        refine p1 (x_load1 un63 rfl (hB11.cell (w8_5 _))) ?_
        refine p1 (x_ixa0 (i := 6) u64 sz63 rfl rfl (by decide)) ?_
        refine p1 (x_load1 un63 rfl (hB11.cell (w8_6 _))) ?_
        refine p1 (x_build8 (rndW (kTab.getD i 0) (WW.getD i 0) S) rfl) ?_
        refine o_storeAll rfl (by conv => lhs; whnf) (wds_one _) (by rw [wds_size]; exact sz64) hB11 (by rfl) ?_
        intro w28 hP28
        have hX := hX.put hP28 (by omega)
        have hB2 := hP28.keep hB2 (by omega)
        have hB4 := hP28.keep hB4 (by omega)
        have hB5 := hP28.keep hB5 (by omega)
        have hB11 := hP28.blk
        refine r_nil ?_
        refine b_n ?_
        refine t_n ?_
        refine r_plain ?_
        refine p1 (x_move (by conv => lhs; whnf)) ?_
        refine p1 (x_add rfl rfl (fits_i64 (by omega) (by omega))) ?_
        refine p1 (x_assign (by conv => lhs; whnf)) ?_
        refine r_nil ?_
        refine t_n (At.mk (i + 1) (by repeat (first | exact Agr.refl _ _ | exact Agr.hav _ _ _ | refine Agr.upd rfl ?_ | refine Agr.updR rfl ?_ | refine Agr.updL ?_ _ rfl | refine Agr.hav' rfl ?_)) ⟨rfl, trivial⟩ ?_)
        exact ⟨⟨hX, ⟨by omega, hB2, hB4, hB5, by rw [hS] at hB11; exact hB11⟩⟩, by first | (dsimp only; omega) | ((show _ < _); omega)⟩
      · try simp only [decide_eq_true_eq, decide_eq_false_iff_not, Bool.not_eq_true, Bool.not_eq_false, Bool.not_eq_eq_eq_not, Bool.not_true, Bool.not_false, Int.not_lt, Int.not_le] at hc84
        have h64 : i = 64 := by omega
        subst h64
        obtain ⟨X, hXX⟩ : ∃ X, X = runW WW s 64 := ⟨_, rfl⟩
        rw [← hXX] at hB11
        refine c_exit ?_
        refine t_e ?_
        refine t_e ?_
        refine b_hit ?_
        refine t_n ?_
        refine c_seq ?_
        refine c_seq ?_
        refine r_plain ?_
        refine p1 (x_assign (by conv => lhs; whnf)) ?_
        refine r_nil ?_
        refine t_n ?_
        refine c_block ?_
        refine c_loop (ι := Nat) [17, 164, 165, 166, 167, 168, 169, 170, 171, 172, 173, 174, 175, 176] (fun j => [(17, .int .i64 (j : Int))]) (fun j w' => Ext w w' ∧ (j ≤ 8 ∧ Blk w' g2 (wds (addW X.l s.l j)) 64 ∧ Blk w' g4 (wds (List.replicate 8 0)) 64 ∧ Blk w' g11 (wds X.l) 64)) (fun j => 8 - j) (0) ⟨rfl, trivial⟩ ⟨hX, ⟨by omega, hB2, hB4, hB11⟩⟩ ?_
        rintro j GL8 w29 ⟨hE29, hj, hB2, hB4, hB11⟩
        have hX := hE29
        refine c_seq ?_
        refine c_seq ?_
        refine r_plain ?_
        refine p1 (x_move (by conv => lhs; whnf)) ?_
        refine p1 (x_lss rfl rfl) ?_
        refine r_nil ?_
        refine t_n ?_
        first | refine c_dec rfl (fun hc165 => ?_) (fun hc165 => ?_) | refine c_if rfl (fun hc165 => ?_) (fun hc165 => ?_)
        · try simp only [decide_eq_true_eq, decide_eq_false_iff_not, Bool.not_eq_true, Bool.not_eq_false, Bool.not_eq_eq_eq_not, Bool.not_true, Bool.not_false, Int.not_lt, Int.not_le] at hc165
          refine c_skip ?_
          refine t_n ?_
          refine c_seq ?_
          refine c_block ?_
          refine r_tail 9 mixed (by kernel_rfl) ?_
          intro w30 hE30
          have hX := hX.ext hE30
          have hB2 := hB2.ext hE30
          have hB4 := hB4.ext hE30
          have hB11 := hB11.ext hE30
          refine s1 (x_move (by conv => lhs; whnf)) ?_
          refine s1 (x_move (by conv => lhs; whnf)) ?_
          refine s1 (x_ixa0 u64 sz63 rfl rfl (by omega)) ?_
          refine s1 (x_load1 un63 rfl (hB2.cell (wds_get (by rw [addW_len, W8.len]; omega)))) ?_
          refine s1 (x_move (by conv => lhs; whnf)) ?_
          refine s1 (x_ixa0 u64 sz63 rfl rfl (by omega)) ?_
          refine s1 (x_load1 un63 rfl (hB11.cell (wds_get (by rw [W8.len]; omega)))) ?_
          refine s1 (x_addw rfl rfl) ?_
          refine s1 (x_ixa0 u64 sz63 rfl rfl (by omega)) ?_
          refine s_nil ?_
          refine o_store1 rfl (by conv => lhs; whnf) rfl rfl sz63 hB2 (by rw [wds_size, addW_len, W8.len]; omega) ?_
          intro w31 hP31
          have hX := hX.put hP31 (by omega)
          have hB2 := hP31.blk
          rw [wds_set] at hB2
          have hB4 := hP31.keep hB4 (by omega)
          have hB11 := hP31.keep hB11 (by omega)
          refine r_nil ?_
          refine b_n ?_
          refine t_n ?_
          refine r_plain ?_
          refine p1 (x_move (by conv => lhs; whnf)) ?_
          refine p1 (x_add rfl rfl (fits_i64 (by omega) (by omega))) ?_
          refine p1 (x_assign (by conv => lhs; whnf)) ?_
          refine r_nil ?_
          refine t_n (At.mk (j + 1) (by repeat (first | exact Agr.refl _ _ | exact Agr.hav _ _ _ | refine Agr.upd rfl ?_ | refine Agr.updR rfl ?_ | refine Agr.updL ?_ _ rfl | refine Agr.hav' rfl ?_)) ⟨rfl, trivial⟩ ?_)
          exact ⟨⟨hX, ⟨by omega, hB2, hB4, hB11⟩⟩, by first | (dsimp only; omega) | ((show _ < _); omega)⟩
        · try simp only [decide_eq_true_eq, decide_eq_false_iff_not, Bool.not_eq_true, Bool.not_eq_false, Bool.not_eq_eq_eq_not, Bool.not_true, Bool.not_false, Int.not_lt, Int.not_le] at hc165
          have h8 : j = 8 := by omega
          subst h8
          rw [addW_8] at hB2
          refine c_exit ?_
          refine t_e ?_
          refine t_e ?_
          refine b_hit ?_
          refine t_n ?_
          refine c_seq ?_
          refine r_plain ?_
          refine p1 (x_loadB ua64 rfl hB2 (by rw [wds_size]; exact sz64)) ?_
          refine o_storeAll rfl (by conv => lhs; whnf) (wds_one _) (by rw [wds_size]; exact sz64) hB4 (by rfl) ?_
          intro w32 hP32
          have hX := hX.put hP32 (by omega)
          have hB2 := hP32.keep hB2 (by omega)
          have hB4 := hP32.blk
          have hB11 := hP32.keep hB11 (by omega)
          refine r_nil ?_
          refine t_n ?_
          refine c_ret ?_
          refine end1c rfl ua64 rfl hB4 (by rw [wds_size]; exact sz64) ?_
          exact ⟨by rw [hXX, hWW]; rfl, hX⟩
end Go.Proofs.Eng
end
section
set_option linter.unusedVariables false
set_option linter.unusedSimpArgs false
set_option maxRecDepth 100000
set_option maxHeartbeats 4000000
namespace Go.Proofs.Eng
open Go.RowKit
open Extern.Stop (cell)
theorem fb70 : Tryd.f70.body.isNone = false := by kernel_rfl
theorem fn70 : (Tryd.f70.name == "runtime.NumGoroutine") = false := by kernel_rfl
theorem u102 : Tryd.prog.underlying 102 = some (.array 64 5) := by kernel_rfl
end Go.Proofs.Eng
end
section
set_option linter.unusedVariables false
set_option linter.unusedSimpArgs false
set_option maxRecDepth 100000
set_option maxHeartbeats 4000000
namespace Go.Proofs.Eng
open Go.RowKit
open Extern.Stop (cell)
theorem sha_mix (s : W8) (bs : List UInt8) (w : World) (hb : bs.length = 64) (hrt : Rt w) :
    Ret Tryd.prog 61 [.agg (wds s.l), .agg (bcs bs)] w (fun v w' => v = .agg (wds (mixF s bs).l) ∧ Ext w w') := by
  have hX := Ext.refl w
  refine enter 211 _ Tryd.func61 rfl rfl (Nat.le_of_ble_eq_true rfl) rfl ?_
  refine c_seq ?_
  refine r_plain ?_
  refine o_boxA (by conv => lhs; whnf) ?_
  intro w1 g2 hN2
  have hE1 := hN2.ext
  have hX := hX.ext hE1
  have hB2 := hN2.blk
  have l2 := hB2.lt
  refine o_boxA (by conv => lhs; whnf) ?_
  intro w2 g3 hN3
  have hE2 := hN3.ext
  have hX := hX.ext hE2
  have hB2 := hB2.ext hE2
  have hB3 := hN3.blk
  have l3 := hB3.lt
  refine o_alloc zr64 ?_
  intro w3 g4 hN4
  have hE3 := hN4.ext
  have hX := hX.ext hE3
  have hB2 := hB2.ext hE3
  have hB3 := hB3.ext hE3
  have hB4 := hN4.blk
  refine r_nil ?_
  refine t_n ?_
  refine c_seq ?_
  refine r_plain ?_
  have l4 := hB4.lt
  refine o_alloc zr82 ?_
  intro w4 g5 hN5
  have hE4 := hN5.ext
  have hX := hX.ext hE4
  have hB2 := hB2.ext hE4
  have hB3 := hB3.ext hE4
  have hB4 := hB4.ext hE4
  have hB5 := hN5.blk
  refine r_nil ?_
  refine t_n ?_
  refine c_seq ?_
  refine c_seq ?_
  have e2 := hN2.g_eq
  have e3 := hN3.g_eq
  have e4 := hN4.g_eq
  have e5 := hN5.g_eq
  have hB3 : Blk _ g3 (bcs bs) 102 := hB3
  have hB4 : Blk _ g4 (wds (List.replicate 8 0)) 64 := hB4
  have hB5 : Blk _ g5 (wds (List.replicate 64 0)) 82 := hB5
  have hg2 : w.heap.size ≤ g2 := by omega
  have h23 : g2 < g3 := by omega
  have h34 : g3 < g4 := by omega
  have h45 : g4 < g5 := by omega
  refine r_plain ?_
  refine p1 (x_move (by conv => lhs; whnf)) ?_
  refine r_nil ?_
  refine t_n ?_
  refine c_block ?_
  refine c_loop (ι := Nat) [6, 23, 24, 25, 26, 27, 28, 29, 30, 31, 32, 33, 34, 35, 36, 37, 38, 39, 40, 41, 42, 43, 44, 45, 46, 47, 48, 49, 50, 51, 52, 53, 54, 55, 56, 57] (fun i => [(23, .int .i64 (i : Int))]) (fun i w' => Ext w w' ∧ (i ≤ 16 ∧ Blk w' g2 (wds s.l) 64 ∧ Blk w' g3 (bcs bs) 102 ∧ Blk w' g4 (wds (List.replicate 8 0)) 64 ∧ Blk w' g5 (wds (ownW bs i)) 82)) (fun i => 16 - i) (0) ⟨rfl, trivial⟩ ⟨hX, ⟨by omega, hB2, hB3, hB4, hB5⟩⟩ ?_
  rintro i GL0 w5 ⟨hE5, hi, hB2, hB3, hB4, hB5⟩
  have hX := hE5
  refine c_seq ?_
  refine r_plain ?_
  refine p1 (x_lss rfl rfl) ?_
  refine r_nil ?_
  refine t_n ?_
  refine c_seq ?_
  first | refine c_dec rfl (fun hc24 => ?_) (fun hc24 => ?_) | refine c_if rfl (fun hc24 => ?_) (fun hc24 => ?_)
  · try simp only [decide_eq_true_eq, decide_eq_false_iff_not, Bool.not_eq_true, Bool.not_eq_false, Bool.not_eq_eq_eq_not, Bool.not_true, Bool.not_false, Int.not_lt, Int.not_le] at hc24
    refine c_skip ?_
    refine t_n ?_
    refine c_seq ?_
    refine c_block ?_
    refine c_seq ?_
    refine r_plain ?_
    refine p1 (x_move (by conv => lhs; whnf)) ?_
    refine p1 (x_assign (by conv => lhs; whnf)) ?_
    refine r_nil ?_
    refine t_n ?_
    refine r_tail 31 mixed (by kernel_rfl) ?_
    intro w6 hE6
    have hX := hX.ext hE6
    have hB2 := hB2.ext hE6
    have hB3 := hB3.ext hE6
    have hB4 := hB4.ext hE6
    have hB5 := hB5.ext hE6
    refine s1 (x_move (by conv => lhs; whnf)) ?_
    refine s1 (x_move (by conv => lhs; whnf)) ?_
    refine s1 ((x_mul rfl rfl (fits_i64 (by omega) (by omega))).cast (congrArg _ (by omega : (4 : Int) * (i : Int) = ((4 * i : Nat) : Int)))) ?_
    refine s1 (x_ixa0 (i := 4 * i) u102 sz5 rfl rfl (by omega)) ?_
    have hx0 := (bs.getD (4 * i) 0).toNat_lt
    refine s1 (x_load1 un5 rfl (hB3.cell (bcs_get (by omega)))) ?_
    refine s1 (x_convf u63 us5 rfl (fits_u32 (by omega) (by omega))) ?_
    refine s1 (x_shl rfl rfl (by omega)) ?_
    refine s1 (x_move (by conv => lhs; whnf)) ?_
    refine s1 (x_mul rfl rfl (fits_i64 (by omega) (by omega))) ?_
    refine s1 ((x_add rfl rfl (fits_i64 (by omega) (by omega))).cast (congrArg _ (by omega : (4 : Int) * (i : Int) + 1 = ((4 * i + 1 : Nat) : Int)))) ?_
    refine s1 (x_ixa0 (i := 4 * i + 1) u102 sz5 rfl rfl (by omega)) ?_
    have hx1 := (bs.getD (4 * i + 1) 0).toNat_lt
    refine s1 (x_load1 un5 rfl (hB3.cell (bcs_get (by omega)))) ?_
    refine s1 (x_convf u63 us5 rfl (fits_u32 (by omega) (by omega))) ?_
    refine s1 (x_shl rfl rfl (by omega)) ?_
    refine s1 (x_or rfl rfl) ?_
    refine s1 (x_move (by conv => lhs; whnf)) ?_
    refine s1 (x_mul rfl rfl (fits_i64 (by omega) (by omega))) ?_
    refine s1 ((x_add rfl rfl (fits_i64 (by omega) (by omega))).cast (congrArg _ (by omega : (4 : Int) * (i : Int) + 2 = ((4 * i + 2 : Nat) : Int)))) ?_
    refine s1 (x_ixa0 (i := 4 * i + 2) u102 sz5 rfl rfl (by omega)) ?_
    have hx2 := (bs.getD (4 * i + 2) 0).toNat_lt
    refine s1 (x_load1 un5 rfl (hB3.cell (bcs_get (by omega)))) ?_
    refine s1 (x_convf u63 us5 rfl (fits_u32 (by omega) (by omega))) ?_
    refine s1 (x_shl rfl rfl (by omega)) ?_
    refine s1 (x_or rfl rfl) ?_
    refine s1 (x_move (by conv => lhs; whnf)) ?_
    refine s1 (x_mul rfl rfl (fits_i64 (by omega) (by omega))) ?_
    refine s1 ((x_add rfl rfl (fits_i64 (by omega) (by omega))).cast (congrArg _ (by omega : (4 : Int) * (i : Int) + 3 = ((4 * i + 3 : Nat) : Int)))) ?_
    refine s1 (x_ixa0 (i := 4 * i + 3) u102 sz5 rfl rfl (by omega)) ?_
    have hx3 := (bs.getD (4 * i + 3) 0).toNat_lt
    refine s1 (x_load1 un5 rfl (hB3.cell (bcs_get (by omega)))) ?_
    refine s1 (x_convf u63 us5 rfl (fits_u32 (by omega) (by omega))) ?_
    refine s1 ((x_or rfl rfl).cast (congrArg _ (or4 bs (4 * i)))) ?_
    refine s1 (x_ixa0 u82 sz63 rfl rfl (by omega)) ?_
    refine s_nil ?_
    refine o_store1 rfl (by conv => lhs; whnf) rfl rfl sz63 hB5 (by rw [wds_size, ownW_len]; omega) ?_
    intro w7 hP7
    have hX := hX.put hP7 (by omega)
    have hB2 := hP7.keep hB2 (by omega)
    have hB3 := hP7.keep hB3 (by omega)
    have hB4 := hP7.keep hB4 (by omega)
    have hB5 := hP7.blk
    rw [wds_set] at hB5
    refine r_nil ?_
    refine b_n ?_
    refine t_n ?_
    refine r_plain ?_
    refine p1 (x_add rfl rfl (fits_i64 (by omega) (by omega))) ?_
    refine p1 (x_move (by conv => lhs; whnf)) ?_
    refine r_nil ?_
    refine t_n (At.mk (i + 1) (by repeat (first | exact Agr.refl _ _ | exact Agr.hav _ _ _ | refine Agr.upd rfl ?_ | refine Agr.updR rfl ?_ | refine Agr.updL ?_ _ rfl | refine Agr.hav' rfl ?_)) ⟨rfl, trivial⟩ ?_)
    exact ⟨⟨hX, ⟨by omega, hB2, hB3, hB4, hB5⟩⟩, by first | (dsimp only; omega) | ((show _ < _); omega)⟩
  · try simp only [decide_eq_true_eq, decide_eq_false_iff_not, Bool.not_eq_true, Bool.not_eq_false, Bool.not_eq_eq_eq_not, Bool.not_true, Bool.not_false, Int.not_lt, Int.not_le] at hc24
    have h16 : i = 16 := by omega
    subst h16
    refine c_exit ?_
    refine t_e ?_
    refine t_e ?_
    refine b_hit ?_
    refine t_n ?_
    refine c_seq ?_
    refine c_seq ?_
    refine r_plain ?_
    refine p1 (x_assign (by conv => lhs; whnf)) ?_
    refine r_nil ?_
    refine t_n ?_
    refine c_block ?_
    refine c_loop (ι := Nat) [7, 8, 9, 58, 59, 60, 61, 62, 63, 64, 65, 66, 67, 68, 69, 70, 71, 72, 73, 74, 75, 76, 77, 78, 79, 80, 81, 82, 83, 84, 85, 86, 87, 88, 89, 90, 91, 92, 93, 94, 95, 96, 97, 98, 99, 100, 101, 102, 103, 104, 105, 106, 107, 108, 109, 110] (fun m => [(7, .int .i64 ((16 + m : Nat) : Int))]) (fun m w' => Ext w w' ∧ (m ≤ 48 ∧ Blk w' g2 (wds s.l) 64 ∧ Blk w' g3 (bcs bs) 102 ∧ Blk w' g4 (wds (List.replicate 8 0)) 64 ∧ Blk w' g5 (wds (extW (ownW bs 16) m)) 82)) (fun m => 48 - m) (0) ⟨rfl, trivial⟩ ⟨hX, ⟨by omega, hB2, hB3, hB4, hB5⟩⟩ ?_
    rintro m GL2 w8 ⟨hE8, hm, hB2, hB3, hB4, hB5⟩
    have hX := hE8
    refine c_seq ?_
    refine c_seq ?_
    refine r_plain ?_
    refine p1 (x_move (by conv => lhs; whnf)) ?_
    refine p1 (x_lss rfl rfl) ?_
    refine r_nil ?_
    refine t_n ?_
    first | refine c_dec rfl (fun hc59 => ?_) (fun hc59 => ?_) | refine c_if rfl (fun hc59 => ?_) (fun hc59 => ?_)
    · try simp only [decide_eq_true_eq, decide_eq_false_iff_not, Bool.not_eq_true, Bool.not_eq_false, Bool.not_eq_eq_eq_not, Bool.not_true, Bool.not_false, Int.not_lt, Int.not_le] at hc59
      refine c_skip ?_
      refine t_n ?_
      refine c_seq ?_
      refine c_block ?_
      refine c_seq ?_
      refine r_held (fun w1 w2 => Ext w1 w2) mixed ?_
      intro w9 hE9
      have hX := hX.ext hE9
      have hB2 := hB2.ext hE9
      have hB3 := hB3.ext hE9
      have hB4 := hB4.ext hE9
      have hB5 := hB5.ext hE9
      have hSr10 : (fun w1 w2 => Ext w1 w2) w9 w9 := Ext.refl w9
      refine h_take 0 rfl (by kernel_rfl) (by kernel_rfl) (by kernel_rfl) hSr10 (fun wS hSS => by (have hX := hX.ext hSS; have hB2 := hB2.ext hSS; have hB3 := hB3.ext hSS; have hB4 := hB4.ext hSS; have hB5 := hB5.ext hSS; exact (x_move (by conv => lhs; whnf)))) ?_
      refine h_take 1 rfl (by kernel_rfl) (by kernel_rfl) (by kernel_rfl) hSr10 (fun wS hSS => by (have hX := hX.ext hSS; have hB2 := hB2.ext hSS; have hB3 := hB3.ext hSS; have hB4 := hB4.ext hSS; have hB5 := hB5.ext hSS; exact ((x_sub rfl rfl (fits_i64 (by omega) (by omega))).cast (congrArg _ (by omega : ((16 + m : Nat) : Int) - 15 = ((16 + m - 15 : Nat) : Int)))))) ?_
      refine h_take 2 rfl (by kernel_rfl) (by kernel_rfl) (by kernel_rfl) hSr10 (fun wS hSS => by (have hX := hX.ext hSS; have hB2 := hB2.ext hSS; have hB3 := hB3.ext hSS; have hB4 := hB4.ext hSS; have hB5 := hB5.ext hSS; exact (x_ixa0 u82 sz63 rfl rfl (by omega)))) ?_
      refine h_take 3 rfl (by kernel_rfl) (by kernel_rfl) (by kernel_rfl) hSr10 (fun wS hSS => by (have hX := hX.ext hSS; have hB2 := hB2.ext hSS; have hB3 := hB3.ext hSS; have hB4 := hB4.ext hSS; have hB5 := hB5.ext hSS; exact (x_load1 un63 rfl (hB5.cell (wds_get (by rw [extW_len, ownW_len]; omega)))))) ?_
      refine h_take 5 rfl (by kernel_rfl) (by kernel_rfl) (by kernel_rfl) hSr10 (fun wS hSS => by (have hX := hX.ext hSS; have hB2 := hB2.ext hSS; have hB3 := hB3.ext hSS; have hB4 := hB4.ext hSS; have hB5 := hB5.ext hSS; exact (x_move (by conv => lhs; whnf)))) ?_
      refine h_take 6 rfl (by kernel_rfl) (by kernel_rfl) (by kernel_rfl) hSr10 (fun wS hSS => by (have hX := hX.ext hSS; have hB2 := hB2.ext hSS; have hB3 := hB3.ext hSS; have hB4 := hB4.ext hSS; have hB5 := hB5.ext hSS; exact ((x_sub rfl rfl (fits_i64 (by omega) (by omega))).cast (congrArg _ (by omega : ((16 + m : Nat) : Int) - 15 = ((16 + m - 15 : Nat) : Int)))))) ?_
      refine h_take 7 rfl (by kernel_rfl) (by kernel_rfl) (by kernel_rfl) hSr10 (fun wS hSS => by (have hX := hX.ext hSS; have hB2 := hB2.ext hSS; have hB3 := hB3.ext hSS; have hB4 := hB4.ext hSS; have hB5 := hB5.ext hSS; exact (x_ixa0 u82 sz63 rfl rfl (by omega)))) ?_
      refine h_take 8 rfl (by kernel_rfl) (by kernel_rfl) (by kernel_rfl) hSr10 (fun wS hSS => by (have hX := hX.ext hSS; have hB2 := hB2.ext hSS; have hB3 := hB3.ext hSS; have hB4 := hB4.ext hSS; have hB5 := hB5.ext hSS; exact (x_load1 un63 rfl (hB5.cell (wds_get (by rw [extW_len, ownW_len]; omega)))))) ?_
      refine h_take 11 rfl (by kernel_rfl) (by kernel_rfl) (by kernel_rfl) hSr10 (fun wS hSS => by (have hX := hX.ext hSS; have hB2 := hB2.ext hSS; have hB3 := hB3.ext hSS; have hB4 := hB4.ext hSS; have hB5 := hB5.ext hSS; exact (x_move (by conv => lhs; whnf)))) ?_
      refine h_take 12 rfl (by kernel_rfl) (by kernel_rfl) (by kernel_rfl) hSr10 (fun wS hSS => by (have hX := hX.ext hSS; have hB2 := hB2.ext hSS; have hB3 := hB3.ext hSS; have hB4 := hB4.ext hSS; have hB5 := hB5.ext hSS; exact ((x_sub rfl rfl (fits_i64 (by omega) (by omega))).cast (congrArg _ (by omega : ((16 + m : Nat) : Int) - 15 = ((16 + m - 15 : Nat) : Int)))))) ?_
      refine h_take 13 rfl (by kernel_rfl) (by kernel_rfl) (by kernel_rfl) hSr10 (fun wS hSS => by (have hX := hX.ext hSS; have hB2 := hB2.ext hSS; have hB3 := hB3.ext hSS; have hB4 := hB4.ext hSS; have hB5 := hB5.ext hSS; exact (x_ixa0 u82 sz63 rfl rfl (by omega)))) ?_
      refine h_take 14 rfl (by kernel_rfl) (by kernel_rfl) (by kernel_rfl) hSr10 (fun wS hSS => by (have hX := hX.ext hSS; have hB2 := hB2.ext hSS; have hB3 := hB3.ext hSS; have hB4 := hB4.ext hSS; have hB5 := hB5.ext hSS; exact (x_load1 un63 rfl (hB5.cell (wds_get (by rw [extW_len, ownW_len]; omega)))))) ?_
      refine h_take 15 rfl (by kernel_rfl) (by kernel_rfl) (by kernel_rfl) hSr10 (fun wS hSS => by (have hX := hX.ext hSS; have hB2 := hB2.ext hSS; have hB3 := hB3.ext hSS; have hB4 := hB4.ext hSS; have hB5 := hB5.ext hSS; exact (x_shr rfl rfl (by omega)))) ?_
      refine h_one 4 _ rfl (by kernel_rfl) (hop_of_list (fun Q4 hQ4 => ?_))
      refine o_call Tryd.func70 fn70 fb70 (sha_rotate _ 7 _ (by decide) (by decide)) rfl ?_
      rintro v10 w10 ⟨rfl, hE10⟩
      have hX := hX.ext hE10
      have hB2 := hB2.ext hE10
      have hB3 := hB3.ext hE10
      have hB4 := hB4.ext hE10
      have hB5 := hB5.ext hE10
      have hSr10 := hSr10.ext hE10
      refine hop_end hQ4 ⟨hSr10, ?_⟩
      refine h_one 9 _ rfl (by kernel_rfl) (hop_of_list (fun Q9 hQ9 => ?_))
      refine o_call Tryd.func70 fn70 fb70 (sha_rotate _ 18 _ (by decide) (by decide)) rfl ?_
      rintro v11 w11 ⟨rfl, hE11⟩
      have hX := hX.ext hE11
      have hB2 := hB2.ext hE11
      have hB3 := hB3.ext hE11
      have hB4 := hB4.ext hE11
      have hB5 := hB5.ext hE11
      have hSr10 := hSr10.ext hE11
      refine hop_end hQ9 ⟨hSr10, ?_⟩
      refine h_take 10 rfl (by kernel_rfl) (by kernel_rfl) (by kernel_rfl) hSr10 (fun wS hSS => by ( exact (x_xor rfl rfl))) ?_
      refine h_take 16 rfl (by kernel_rfl) (by kernel_rfl) (by kernel_rfl) hSr10 (fun wS hSS => by ( exact (x_xor rfl rfl))) ?_
      refine h_take 17 rfl (by kernel_rfl) (by kernel_rfl) (by kernel_rfl) hSr10 (fun wS hSS => by ( exact (x_assign (by conv => lhs; whnf)))) ?_
      refine h_done (by kernel_rfl) ?_
      refine t_n ?_
      refine c_seq ?_
      refine r_held (fun w1 w2 => Ext w1 w2) mixed ?_
      intro w12 hE12
      have hX := hX.ext hE12
      have hB2 := hB2.ext hE12
      have hB3 := hB3.ext hE12
      have hB4 := hB4.ext hE12
      have hB5 := hB5.ext hE12
      have hSr11 : (fun w1 w2 => Ext w1 w2) w12 w12 := Ext.refl w12
      refine h_take 0 rfl (by kernel_rfl) (by kernel_rfl) (by kernel_rfl) hSr11 (fun wS hSS => by (have hX := hX.ext hSS; have hB2 := hB2.ext hSS; have hB3 := hB3.ext hSS; have hB4 := hB4.ext hSS; have hB5 := hB5.ext hSS; exact (x_move (by conv => lhs; whnf)))) ?_
      refine h_take 1 rfl (by kernel_rfl) (by kernel_rfl) (by kernel_rfl) hSr11 (fun wS hSS => by (have hX := hX.ext hSS; have hB2 := hB2.ext hSS; have hB3 := hB3.ext hSS; have hB4 := hB4.ext hSS; have hB5 := hB5.ext hSS; exact ((x_sub rfl rfl (fits_i64 (by omega) (by omega))).cast (congrArg _ (by omega : ((16 + m : Nat) : Int) - 2 = ((16 + m - 2 : Nat) : Int)))))) ?_
      refine h_take 2 rfl (by kernel_rfl) (by kernel_rfl) (by kernel_rfl) hSr11 (fun wS hSS => by (have hX := hX.ext hSS; have hB2 := hB2.ext hSS; have hB3 := hB3.ext hSS; have hB4 := hB4.ext hSS; have hB5 := hB5.ext hSS; exact (x_ixa0 u82 sz63 rfl rfl (by omega)))) ?_
      refine h_take 3 rfl (by kernel_rfl) (by kernel_rfl) (by kernel_rfl) hSr11 (fun wS hSS => by (have hX := hX.ext hSS; have hB2 := hB2.ext hSS; have hB3 := hB3.ext hSS; have hB4 := hB4.ext hSS; have hB5 := hB5.ext hSS; exact (x_load1 un63 rfl (hB5.cell (wds_get (by rw [extW_len, ownW_len]; omega)))))) ?_
      refine h_take 5 rfl (by kernel_rfl) (by kernel_rfl) (by kernel_rfl) hSr11 (fun wS hSS => by (have hX := hX.ext hSS; have hB2 := hB2.ext hSS; have hB3 := hB3.ext hSS; have hB4 := hB4.ext hSS; have hB5 := hB5.ext hSS; exact (x_move (by conv => lhs; whnf)))) ?_
      refine h_take 6 rfl (by kernel_rfl) (by kernel_rfl) (by kernel_rfl) hSr11 (fun wS hSS => by (have hX := hX.ext hSS; have hB2 := hB2.ext hSS; have hB3 := hB3.ext hSS; have hB4 := hB4.ext hSS; have hB5 := hB5.ext hSS; exact ((x_sub rfl rfl (fits_i64 (by omega) (by omega))).cast (congrArg _ (by omega : ((16 + m : Nat) : Int) - 2 = ((16 + m - 2 : Nat) : Int)))))) ?_
      refine h_take 7 rfl (by kernel_rfl) (by kernel_rfl) (by kernel_rfl) hSr11 (fun wS hSS => by (have hX := hX.ext hSS; have hB2 := hB2.ext hSS; have hB3 := hB3.ext hSS; have hB4 := hB4.ext hSS; have hB5 := hB5.ext hSS; exact (x_ixa0 u82 sz63 rfl rfl (by omega)))) ?_
      refine h_take 8 rfl (by kernel_rfl) (by kernel_rfl) (by kernel_rfl) hSr11 (fun wS hSS => by (have hX := hX.ext hSS; have hB2 := hB2.ext hSS; have hB3 := hB3.ext hSS; have hB4 := hB4.ext hSS; have hB5 := hB5.ext hSS; exact (x_load1 un63 rfl (hB5.cell (wds_get (by rw [extW_len, ownW_len]; omega)))))) ?_
      refine h_take 11 rfl (by kernel_rfl) (by kernel_rfl) (by kernel_rfl) hSr11 (fun wS hSS => by (have hX := hX.ext hSS; have hB2 := hB2.ext hSS; have hB3 := hB3.ext hSS; have hB4 := hB4.ext hSS; have hB5 := hB5.ext hSS; exact (x_move (by conv => lhs; whnf)))) ?_
      refine h_take 12 rfl (by kernel_rfl) (by kernel_rfl) (by kernel_rfl) hSr11 (fun wS hSS => by (have hX := hX.ext hSS; have hB2 := hB2.ext hSS; have hB3 := hB3.ext hSS; have hB4 := hB4.ext hSS; have hB5 := hB5.ext hSS; exact ((x_sub rfl rfl (fits_i64 (by omega) (by omega))).cast (congrArg _ (by omega : ((16 + m : Nat) : Int) - 2 = ((16 + m - 2 : Nat) : Int)))))) ?_
      refine h_take 13 rfl (by kernel_rfl) (by kernel_rfl) (by kernel_rfl) hSr11 (fun wS hSS => by (have hX := hX.ext hSS; have hB2 := hB2.ext hSS; have hB3 := hB3.ext hSS; have hB4 := hB4.ext hSS; have hB5 := hB5.ext hSS; exact (x_ixa0 u82 sz63 rfl rfl (by omega)))) ?_
      refine h_take 14 rfl (by kernel_rfl) (by kernel_rfl) (by kernel_rfl) hSr11 (fun wS hSS => by (have hX := hX.ext hSS; have hB2 := hB2.ext hSS; have hB3 := hB3.ext hSS; have hB4 := hB4.ext hSS; have hB5 := hB5.ext hSS; exact (x_load1 un63 rfl (hB5.cell (wds_get (by rw [extW_len, ownW_len]; omega)))))) ?_
      refine h_take 15 rfl (by kernel_rfl) (by kernel_rfl) (by kernel_rfl) hSr11 (fun wS hSS => by (have hX := hX.ext hSS; have hB2 := hB2.ext hSS; have hB3 := hB3.ext hSS; have hB4 := hB4.ext hSS; have hB5 := hB5.ext hSS; exact (x_shr rfl rfl (by omega)))) ?_
      refine h_one 4 _ rfl (by kernel_rfl) (hop_of_list (fun Q4 hQ4 => ?_))
      refine o_call Tryd.func70 fn70 fb70 (sha_rotate _ 17 _ (by decide) (by decide)) rfl ?_
      rintro v13 w13 ⟨rfl, hE13⟩
      have hX := hX.ext hE13
      have hB2 := hB2.ext hE13
      have hB3 := hB3.ext hE13
      have hB4 := hB4.ext hE13
      have hB5 := hB5.ext hE13
      have hSr11 := hSr11.ext hE13
      refine hop_end hQ4 ⟨hSr11, ?_⟩
      refine h_one 9 _ rfl (by kernel_rfl) (hop_of_list (fun Q9 hQ9 => ?_))
      refine o_call Tryd.func70 fn70 fb70 (sha_rotate _ 19 _ (by decide) (by decide)) rfl ?_
      rintro v14 w14 ⟨rfl, hE14⟩
      have hX := hX.ext hE14
      have hB2 := hB2.ext hE14
      have hB3 := hB3.ext hE14
      have hB4 := hB4.ext hE14
      have hB5 := hB5.ext hE14
      have hSr11 := hSr11.ext hE14
      refine hop_end hQ9 ⟨hSr11, ?_⟩
      refine h_take 10 rfl (by kernel_rfl) (by kernel_rfl) (by kernel_rfl) hSr11 (fun wS hSS => by ( exact (x_xor rfl rfl))) ?_
      refine h_take 16 rfl (by kernel_rfl) (by kernel_rfl) (by kernel_rfl) hSr11 (fun wS hSS => by ( exact (x_xor rfl rfl))) ?_
      refine h_take 17 rfl (by kernel_rfl) (by kernel_rfl) (by kernel_rfl) hSr11 (fun wS hSS => by ( exact (x_assign (by conv => lhs; whnf)))) ?_
      refine h_done (by kernel_rfl) ?_
      refine t_n ?_
      refine r_tail 15 mixed (by kernel_rfl) ?_
      intro w15 hE15
      have hX := hX.ext hE15
      have hB2 := hB2.ext hE15
      have hB3 := hB3.ext hE15
      have hB4 := hB4.ext hE15
      have hB5 := hB5.ext hE15
      refine s1 (x_move (by conv => lhs; whnf)) ?_
      refine s1 (x_move (by conv => lhs; whnf)) ?_
      refine s1 ((x_sub rfl rfl (fits_i64 (by omega) (by omega))).cast (congrArg _ (by omega : ((16 + m : Nat) : Int) - 16 = ((16 + m - 16 : Nat) : Int)))) ?_
      refine s1 (x_ixa0 u82 sz63 rfl rfl (by omega)) ?_
      refine s1 (x_load1 un63 rfl (hB5.cell (wds_get (by rw [extW_len, ownW_len]; omega)))) ?_
      refine s1 (x_move (by conv => lhs; whnf)) ?_
      refine s1 (x_addw rfl rfl) ?_
      refine s1 (x_move (by conv => lhs; whnf)) ?_
      refine s1 ((x_sub rfl rfl (fits_i64 (by omega) (by omega))).cast (congrArg _ (by omega : ((16 + m : Nat) : Int) - 7 = ((16 + m - 7 : Nat) : Int)))) ?_
      refine s1 (x_ixa0 u82 sz63 rfl rfl (by omega)) ?_
      refine s1 (x_load1 un63 rfl (hB5.cell (wds_get (by rw [extW_len, ownW_len]; omega)))) ?_
      refine s1 (x_addw rfl rfl) ?_
      refine s1 (x_move (by conv => lhs; whnf)) ?_
      refine s1 (x_addw rfl rfl) ?_
      refine s1 (x_ixa0 u82 sz63 rfl rfl (by omega)) ?_
      refine s_nil ?_
      refine o_store1 rfl (by conv => lhs; whnf) rfl rfl sz63 hB5 (by rw [wds_size, extW_len, ownW_len]; omega) ?_
      intro w16 hP16
      have hX := hX.put hP16 (by omega)
      have hB2 := hP16.keep hB2 (by omega)
      have hB3 := hP16.keep hB3 (by omega)
      have hB4 := hP16.keep hB4 (by omega)
      have hB5 := hP16.blk
      rw [wds_set] at hB5
      refine r_nil ?_
      refine b_n ?_
      refine t_n ?_
      refine r_plain ?_
      refine p1 (x_move (by conv => lhs; whnf)) ?_
      refine p1 ((x_add rfl rfl (fits_i64 (by omega) (by omega))).cast (congrArg _ (by omega : ((16 + m : Nat) : Int) + 1 = ((16 + (m + 1) : Nat) : Int)))) ?_
      refine p1 (x_assign (by conv => lhs; whnf)) ?_
      refine r_nil ?_
      refine t_n (At.mk (m + 1) (by repeat (first | exact Agr.refl _ _ | exact Agr.hav _ _ _ | refine Agr.upd rfl ?_ | refine Agr.updR rfl ?_ | refine Agr.updL ?_ _ rfl | refine Agr.hav' rfl ?_)) ⟨rfl, trivial⟩ ?_)
      exact ⟨⟨hX, ⟨by omega, hB2, hB3, hB4, hB5⟩⟩, by show 48 - (m + 1) < 48 - m; omega⟩
    · try simp only [decide_eq_true_eq, decide_eq_false_iff_not, Bool.not_eq_true, Bool.not_eq_false, Bool.not_eq_eq_eq_not, Bool.not_true, Bool.not_false, Int.not_lt, Int.not_le] at hc59
      have h48 : m = 48 := by omega
      subst h48
      obtain ⟨WW, hWW⟩ : ∃ WW, WW = extW (ownW bs 16) 48 := ⟨_, rfl⟩
      rw [← hWW] at hB5
      have hWl : WW.length = 64 := by rw [hWW, extW_len, ownW_len]
      refine c_exit ?_
      refine t_e ?_
      refine t_e ?_
      refine b_hit ?_
      refine t_n ?_
      refine c_seq ?_
      refine r_still mixed (by kernel_rfl) ?_
      intro w17 hE17
      have hX := hX.ext hE17
      have hB2 := hB2.ext hE17
      have hB3 := hB3.ext hE17
      have hB4 := hB4.ext hE17
      have hB5 := hB5.ext hE17
      refine s1 (x_ixa0 (i := 0) u64 sz63 rfl rfl (by decide)) ?_
      refine s1 (x_load1 un63 rfl (hB2.cell (w8_0 _))) ?_
      refine s1 (x_ixa0 (i := 1) u64 sz63 rfl rfl (by decide)) ?_
      refine s1 (x_load1 un63 rfl (hB2.cell (w8_1 _))) ?_
      refine s1 (x_ixa0 (i := 2) u64 sz63 rfl rfl (by decide)) ?_
      refine s1 (x_load1 un63 rfl (hB2.cell (w8_2 _))) ?_
      refine s1 (x_ixa0 (i := 3) u64 sz63 rfl rfl (by decide)) ?_
      refine s1 (x_load1 un63 rfl (hB2.cell (w8_3 _))) ?_
      refine s1 (x_ixa0 (i := 4) u64 sz63 rfl rfl (by decide)) ?_
      refine s1 (x_load1 un63 rfl (hB2.cell (w8_4 _))) ?_
      refine s1 (x_ixa0 (i := 5) u64 sz63 rfl rfl (by decide)) ?_
      refine s1 (x_load1 un63 rfl (hB2.cell (w8_5 _))) ?_
      refine s1 (x_ixa0 (i := 6) u64 sz63 rfl rfl (by decide)) ?_
      refine s1 (x_load1 un63 rfl (hB2.cell (w8_6 _))) ?_
      refine s1 (x_ixa0 (i := 7) u64 sz63 rfl rfl (by decide)) ?_
      refine s1 (x_load1 un63 rfl (hB2.cell (w8_7 _))) ?_
      refine s1 (x_assign (by conv => lhs; whnf)) ?_
      refine s1 (x_assign (by conv => lhs; whnf)) ?_
      refine s1 (x_assign (by conv => lhs; whnf)) ?_
      refine s1 (x_assign (by conv => lhs; whnf)) ?_
      refine s1 (x_assign (by conv => lhs; whnf)) ?_
      refine s1 (x_assign (by conv => lhs; whnf)) ?_
      refine s1 (x_assign (by conv => lhs; whnf)) ?_
      refine s1 (x_assign (by conv => lhs; whnf)) ?_
      refine s_nil ?_
      refine t_n ?_
      refine c_seq ?_
      refine c_seq ?_
      refine r_plain ?_
      refine p1 (x_move (by conv => lhs; whnf)) ?_
      refine r_nil ?_
      refine t_n ?_
      refine c_block ?_
      have hWL4 := Ext.refl w17
      refine c_loop (ι := Nat) [10, 11, 12, 13, 14, 15, 16, 17, 18, 19, 20, 127, 128, 129, 130, 131, 132, 133, 134, 135, 136, 137, 138, 139, 140, 141, 142, 143, 144, 145, 146, 147, 148, 149, 150, 151, 152, 153, 154, 155, 156, 157, 158, 159, 160, 161, 162, 163, 164, 165, 166, 167, 168, 169, 170, 171, 172, 173, 174, 175, 176, 177, 178, 179, 180, 181, 182, 183, 184, 185, 186, 187, 188, 189] (fun i => [(10, .int .u32 (runW WW s i).a), (11, .int .u32 (runW WW s i).b), (12, .int .u32 (runW WW s i).c), (13, .int .u32 (runW WW s i).d), (14, .int .u32 (runW WW s i).e), (15, .int .u32 (runW WW s i).f), (16, .int .u32 (runW WW s i).g), (17, .int .u32 (runW WW s i).h), (127, .int .i64 (i : Int))]) (fun i w' => Ext w17 w' ∧ (i ≤ 64)) (fun i => 64 - i) (0) ⟨rfl, rfl, rfl, rfl, rfl, rfl, rfl, rfl, rfl, trivial⟩ ⟨Ext.refl _, (by omega)⟩ ?_
      rintro i GL4 w18 ⟨hE18, hi⟩
      have hX := hX.ext hE18
      have hB2 := hB2.ext hE18
      have hB3 := hB3.ext hE18
      have hB4 := hB4.ext hE18
      have hB5 := hB5.ext hE18
      have hWL4 := hE18
      refine c_seq ?_
      refine r_plain ?_
      refine p1 (x_lss rfl rfl) ?_
      refine r_nil ?_
      refine t_n ?_
      refine c_seq ?_
      first | refine c_dec rfl (fun hc128 => ?_) (fun hc128 => ?_) | refine c_if rfl (fun hc128 => ?_) (fun hc128 => ?_)
      · try simp only [decide_eq_true_eq, decide_eq_false_iff_not, Bool.not_eq_true, Bool.not_eq_false, Bool.not_eq_eq_eq_not, Bool.not_true, Bool.not_false, Int.not_lt, Int.not_le] at hc128
        refine c_skip ?_
        refine t_n ?_
        refine c_seq ?_
        refine c_block ?_
        refine c_seq ?_
        refine r_plain ?_
        refine p1 (x_move (by conv => lhs; whnf)) ?_
        refine p1 (x_assign (by conv => lhs; whnf)) ?_
        refine r_nil ?_
        refine t_n ?_
        refine c_seq ?_
        refine r_held (fun w1 w2 => Ext w1 w2) mixed ?_
        intro w19 hE19
        have hX := hX.ext hE19
        have hB2 := hB2.ext hE19
        have hB3 := hB3.ext hE19
        have hB4 := hB4.ext hE19
        have hB5 := hB5.ext hE19
        have hWL4 := hWL4.ext hE19
        have hSr17 : (fun w1 w2 => Ext w1 w2) w19 w19 := Ext.refl w19
        refine h_take 0 rfl (by kernel_rfl) (by kernel_rfl) (by kernel_rfl) hSr17 (fun wS hSS => by (have hX := hX.ext hSS; have hB2 := hB2.ext hSS; have hB3 := hB3.ext hSS; have hB4 := hB4.ext hSS; have hB5 := hB5.ext hSS; have hWL4 := hWL4.ext hSS; exact (x_move (by conv => lhs; whnf)))) ?_
        refine h_take 1 rfl (by kernel_rfl) (by kernel_rfl) (by kernel_rfl) hSr17 (fun wS hSS => by (have hX := hX.ext hSS; have hB2 := hB2.ext hSS; have hB3 := hB3.ext hSS; have hB4 := hB4.ext hSS; have hB5 := hB5.ext hSS; have hWL4 := hWL4.ext hSS; exact (x_move (by conv => lhs; whnf)))) ?_
        refine h_take 3 rfl (by kernel_rfl) (by kernel_rfl) (by kernel_rfl) hSr17 (fun wS hSS => by (have hX := hX.ext hSS; have hB2 := hB2.ext hSS; have hB3 := hB3.ext hSS; have hB4 := hB4.ext hSS; have hB5 := hB5.ext hSS; have hWL4 := hWL4.ext hSS; exact (x_move (by conv => lhs; whnf)))) ?_
        refine h_take 6 rfl (by kernel_rfl) (by kernel_rfl) (by kernel_rfl) hSr17 (fun wS hSS => by (have hX := hX.ext hSS; have hB2 := hB2.ext hSS; have hB3 := hB3.ext hSS; have hB4 := hB4.ext hSS; have hB5 := hB5.ext hSS; have hWL4 := hWL4.ext hSS; exact (x_move (by conv => lhs; whnf)))) ?_
        refine h_take 10 rfl (by kernel_rfl) (by kernel_rfl) (by kernel_rfl) hSr17 (fun wS hSS => by (have hX := hX.ext hSS; have hB2 := hB2.ext hSS; have hB3 := hB3.ext hSS; have hB4 := hB4.ext hSS; have hB5 := hB5.ext hSS; have hWL4 := hWL4.ext hSS; exact (x_move (by conv => lhs; whnf)))) ?_
        refine h_take 11 rfl (by kernel_rfl) (by kernel_rfl) (by kernel_rfl) hSr17 (fun wS hSS => by (have hX := hX.ext hSS; have hB2 := hB2.ext hSS; have hB3 := hB3.ext hSS; have hB4 := hB4.ext hSS; have hB5 := hB5.ext hSS; have hWL4 := hWL4.ext hSS; exact (x_move (by conv => lhs; whnf)))) ?_
        refine h_take 12 rfl (by kernel_rfl) (by kernel_rfl) (by kernel_rfl) hSr17 (fun wS hSS => by (have hX := hX.ext hSS; have hB2 := hB2.ext hSS; have hB3 := hB3.ext hSS; have hB4 := hB4.ext hSS; have hB5 := hB5.ext hSS; have hWL4 := hWL4.ext hSS; exact (x_and rfl rfl))) ?_
        refine h_take 13 rfl (by kernel_rfl) (by kernel_rfl) (by kernel_rfl) hSr17 (fun wS hSS => by (have hX := hX.ext hSS; have hB2 := hB2.ext hSS; have hB3 := hB3.ext hSS; have hB4 := hB4.ext hSS; have hB5 := hB5.ext hSS; have hWL4 := hWL4.ext hSS; exact (x_move (by conv => lhs; whnf)))) ?_
        refine h_take 14 rfl (by kernel_rfl) (by kernel_rfl) (by kernel_rfl) hSr17 (fun wS hSS => by (have hX := hX.ext hSS; have hB2 := hB2.ext hSS; have hB3 := hB3.ext hSS; have hB4 := hB4.ext hSS; have hB5 := hB5.ext hSS; have hWL4 := hWL4.ext hSS; exact (x_cpl32 rfl))) ?_
        refine h_take 15 rfl (by kernel_rfl) (by kernel_rfl) (by kernel_rfl) hSr17 (fun wS hSS => by (have hX := hX.ext hSS; have hB2 := hB2.ext hSS; have hB3 := hB3.ext hSS; have hB4 := hB4.ext hSS; have hB5 := hB5.ext hSS; have hWL4 := hWL4.ext hSS; exact (x_move (by conv => lhs; whnf)))) ?_
        refine h_take 16 rfl (by kernel_rfl) (by kernel_rfl) (by kernel_rfl) hSr17 (fun wS hSS => by (have hX := hX.ext hSS; have hB2 := hB2.ext hSS; have hB3 := hB3.ext hSS; have hB4 := hB4.ext hSS; have hB5 := hB5.ext hSS; have hWL4 := hWL4.ext hSS; exact (x_and rfl rfl))) ?_
        refine h_take 17 rfl (by kernel_rfl) (by kernel_rfl) (by kernel_rfl) hSr17 (fun wS hSS => by (have hX := hX.ext hSS; have hB2 := hB2.ext hSS; have hB3 := hB3.ext hSS; have hB4 := hB4.ext hSS; have hB5 := hB5.ext hSS; have hWL4 := hWL4.ext hSS; exact (x_xor rfl rfl))) ?_
        refine h_take 19 rfl (by kernel_rfl) (by kernel_rfl) (by kernel_rfl) hSr17 (fun wS hSS => by (have hX := hX.ext hSS; have hB2 := hB2.ext hSS; have hB3 := hB3.ext hSS; have hB4 := hB4.ext hSS; have hB5 := hB5.ext hSS; have hWL4 := hWL4.ext hSS; exact (x_move (by conv => lhs; whnf)))) ?_
        refine h_take 20 rfl (by kernel_rfl) (by kernel_rfl) (by kernel_rfl) hSr17 (fun wS hSS => by (have hX := hX.ext hSS; have hB2 := hB2.ext hSS; have hB3 := hB3.ext hSS; have hB4 := hB4.ext hSS; have hB5 := hB5.ext hSS; have hWL4 := hWL4.ext hSS; exact (x_ixa0 u82 sz63 rfl rfl (by omega)))) ?_
        refine h_take 21 rfl (by kernel_rfl) (by kernel_rfl) (by kernel_rfl) hSr17 (fun wS hSS => by (have hX := hX.ext hSS; have hB2 := hB2.ext hSS; have hB3 := hB3.ext hSS; have hB4 := hB4.ext hSS; have hB5 := hB5.ext hSS; have hWL4 := hWL4.ext hSS; exact (x_load1 un63 rfl (hrt.ext hX i (by omega))))) ?_
        refine h_take 23 rfl (by kernel_rfl) (by kernel_rfl) (by kernel_rfl) hSr17 (fun wS hSS => by (have hX := hX.ext hSS; have hB2 := hB2.ext hSS; have hB3 := hB3.ext hSS; have hB4 := hB4.ext hSS; have hB5 := hB5.ext hSS; have hWL4 := hWL4.ext hSS; exact (x_move (by conv => lhs; whnf)))) ?_
        refine h_take 24 rfl (by kernel_rfl) (by kernel_rfl) (by kernel_rfl) hSr17 (fun wS hSS => by (have hX := hX.ext hSS; have hB2 := hB2.ext hSS; have hB3 := hB3.ext hSS; have hB4 := hB4.ext hSS; have hB5 := hB5.ext hSS; have hWL4 := hWL4.ext hSS; exact (x_ixa0 u82 sz63 rfl rfl (by omega)))) ?_
        refine h_take 25 rfl (by kernel_rfl) (by kernel_rfl) (by kernel_rfl) hSr17 (fun wS hSS => by (have hX := hX.ext hSS; have hB2 := hB2.ext hSS; have hB3 := hB3.ext hSS; have hB4 := hB4.ext hSS; have hB5 := hB5.ext hSS; have hWL4 := hWL4.ext hSS; exact (x_load1 un63 rfl (hB5.cell (wds_get (by omega)))))) ?_
        refine h_one 2 _ rfl (by kernel_rfl) (hop_of_list (fun Q2 hQ2 => ?_))
        refine o_call Tryd.func70 fn70 fb70 (sha_rotate _ 6 _ (by decide) (by decide)) rfl ?_
        rintro v20 w20 ⟨rfl, hE20⟩
        have hX := hX.ext hE20
        have hB2 := hB2.ext hE20
        have hB3 := hB3.ext hE20
        have hB4 := hB4.ext hE20
        have hB5 := hB5.ext hE20
        have hWL4 := hWL4.ext hE20
        have hSr17 := hSr17.ext hE20
        refine hop_end hQ2 ⟨hSr17, ?_⟩
        refine h_one 4 _ rfl (by kernel_rfl) (hop_of_list (fun Q4 hQ4 => ?_))
        refine o_call Tryd.func70 fn70 fb70 (sha_rotate _ 11 _ (by decide) (by decide)) rfl ?_
        rintro v21 w21 ⟨rfl, hE21⟩
        have hX := hX.ext hE21
        have hB2 := hB2.ext hE21
        have hB3 := hB3.ext hE21
        have hB4 := hB4.ext hE21
        have hB5 := hB5.ext hE21
        have hWL4 := hWL4.ext hE21
        have hSr17 := hSr17.ext hE21
        refine hop_end hQ4 ⟨hSr17, ?_⟩
        refine h_take 5 rfl (by kernel_rfl) (by kernel_rfl) (by kernel_rfl) hSr17 (fun wS hSS => by ( exact (x_xor rfl rfl))) ?_
        refine h_one 7 _ rfl (by kernel_rfl) (hop_of_list (fun Q7 hQ7 => ?_))
        refine o_call Tryd.func70 fn70 fb70 (sha_rotate _ 25 _ (by decide) (by decide)) rfl ?_
        rintro v22 w22 ⟨rfl, hE22⟩
        have hX := hX.ext hE22
        have hB2 := hB2.ext hE22
        have hB3 := hB3.ext hE22
        have hB4 := hB4.ext hE22
        have hB5 := hB5.ext hE22
        have hWL4 := hWL4.ext hE22
        have hSr17 := hSr17.ext hE22
        refine hop_end hQ7 ⟨hSr17, ?_⟩
        refine h_take 8 rfl (by kernel_rfl) (by kernel_rfl) (by kernel_rfl) hSr17 (fun wS hSS => by ( exact (x_xor rfl rfl))) ?_
        refine h_take 9 rfl (by kernel_rfl) (by kernel_rfl) (by kernel_rfl) hSr17 (fun wS hSS => by ( exact (x_addw rfl rfl))) ?_
        refine h_take 18 rfl (by kernel_rfl) (by kernel_rfl) (by kernel_rfl) hSr17 (fun wS hSS => by ( exact (x_addw rfl rfl))) ?_
        refine h_take 22 rfl (by kernel_rfl) (by kernel_rfl) (by kernel_rfl) hSr17 (fun wS hSS => by ( exact (x_addw rfl rfl))) ?_
        refine h_take 26 rfl (by kernel_rfl) (by kernel_rfl) (by kernel_rfl) hSr17 (fun wS hSS => by ( exact (x_addw rfl rfl))) ?_
        refine h_take 27 rfl (by kernel_rfl) (by kernel_rfl) (by kernel_rfl) hSr17 (fun wS hSS => by ( exact (x_assign (by conv => lhs; whnf)))) ?_
        refine h_done (by kernel_rfl) ?_
        refine t_n ?_
        refine c_seq ?_
        refine r_plain ?_
        refine p1 (x_move (by conv => lhs; whnf)) ?_
        refine o_call Tryd.func70 fn70 fb70 (sha_rotate _ 2 _ (by decide) (by decide)) rfl ?_
        rintro v23 w23 ⟨rfl, hE23⟩
        have hX := hX.ext hE23
        have hB2 := hB2.ext hE23
        have hB3 := hB3.ext hE23
        have hB4 := hB4.ext hE23
        have hB5 := hB5.ext hE23
        have hWL4 := hWL4.ext hE23
        refine p1 (x_move (by conv => lhs; whnf)) ?_
        refine o_call Tryd.func70 fn70 fb70 (sha_rotate _ 13 _ (by decide) (by decide)) rfl ?_
        rintro v24 w24 ⟨rfl, hE24⟩
        have hX := hX.ext hE24
        have hB2 := hB2.ext hE24
        have hB3 := hB3.ext hE24
        have hB4 := hB4.ext hE24
        have hB5 := hB5.ext hE24
        have hWL4 := hWL4.ext hE24
        refine p1 (x_xor rfl rfl) ?_
        refine p1 (x_move (by conv => lhs; whnf)) ?_
        refine o_call Tryd.func70 fn70 fb70 (sha_rotate _ 22 _ (by decide) (by decide)) rfl ?_
        rintro v25 w25 ⟨rfl, hE25⟩
        have hX := hX.ext hE25
        have hB2 := hB2.ext hE25
        have hB3 := hB3.ext hE25
        have hB4 := hB4.ext hE25
        have hB5 := hB5.ext hE25
        have hWL4 := hWL4.ext hE25
        refine p1 (x_xor rfl rfl) ?_
        refine p1 (x_move (by conv => lhs; whnf)) ?_
        refine p1 (x_move (by conv => lhs; whnf)) ?_
        refine p1 (x_and rfl rfl) ?_
        refine p1 (x_move (by conv => lhs; whnf)) ?_
        refine p1 (x_move (by conv => lhs; whnf)) ?_
        refine p1 (x_and rfl rfl) ?_
        refine p1 (x_xor rfl rfl) ?_
        refine p1 (x_move (by conv => lhs; whnf)) ?_
        refine p1 (x_move (by conv => lhs; whnf)) ?_
        refine p1 (x_and rfl rfl) ?_
        refine p1 (x_xor rfl rfl) ?_
        refine p1 (x_addw rfl rfl) ?_
        refine p1 (x_assign (by conv => lhs; whnf)) ?_
        refine r_nil ?_
        refine t_n ?_
        refine r_plain ?_
        refine p1 (x_move (by conv => lhs; whnf)) ?_
        refine p1 (x_move (by conv => lhs; whnf)) ?_
        refine p1 (x_move (by conv => lhs; whnf)) ?_
        refine p1 (x_move (by conv => lhs; whnf)) ?_
        refine p1 (x_move (by conv => lhs; whnf)) ?_
        refine p1 (x_addw rfl rfl) ?_
        refine p1 (x_move (by conv => lhs; whnf)) ?_
        refine p1 (x_move (by conv => lhs; whnf)) ?_
        refine p1 (x_move (by conv => lhs; whnf)) ?_
        refine p1 (x_move (by conv => lhs; whnf)) ?_
        refine p1 (x_move (by conv => lhs; whnf)) ?_
        refine p1 (x_addw rfl rfl) ?_
        refine p1 (x_assign (by conv => lhs; whnf)) ?_
        refine p1 (x_assign (by conv => lhs; whnf)) ?_
        refine p1 (x_assign (by conv => lhs; whnf)) ?_
        refine p1 (x_assign (by conv => lhs; whnf)) ?_
        refine p1 (x_assign (by conv => lhs; whnf)) ?_
        refine p1 (x_assign (by conv => lhs; whnf)) ?_
        refine p1 (x_assign (by conv => lhs; whnf)) ?_
        refine p1 (x_assign (by conv => lhs; whnf)) ?_
        refine r_nil ?_
        refine b_n ?_
        refine t_n ?_
        refine r_plain ?_
        refine p1 (x_add rfl rfl (fits_i64 (by omega) (by omega))) ?_
        refine p1 (x_move (by conv => lhs; whnf)) ?_
        refine r_nil ?_
        refine t_n (At.mk (i + 1) (by repeat (first | exact Agr.refl _ _ | exact Agr.hav _ _ _ | refine Agr.upd rfl ?_ | refine Agr.updR rfl ?_ | refine Agr.updL ?_ _ rfl | refine Agr.hav' rfl ?_)) ⟨rfl, rfl, rfl, rfl, rfl, rfl, rfl, rfl, rfl, trivial⟩ ?_)
        exact ⟨⟨hWL4, (by omega)⟩, by first | (dsimp only; omega) | ((show _ < _); omega)⟩
      · try simp only [decide_eq_true_eq, decide_eq_false_iff_not, Bool.not_eq_true, Bool.not_eq_false, Bool.not_eq_eq_eq_not, Bool.not_true, Bool.not_false, Int.not_lt, Int.not_le] at hc128
        have h64 : i = 64 := by omega
        subst h64
        refine c_exit ?_
        refine t_e ?_
        refine t_e ?_
        refine b_hit ?_
        refine t_n ?_
        refine c_seq ?_
        refine c_seq ?_
        refine r_plain ?_
        refine p1 (x_move (by conv => lhs; whnf)) ?_
        refine p1 (x_move (by conv => lhs; whnf)) ?_
        refine p1 (x_move (by conv => lhs; whnf)) ?_
        refine p1 (x_move (by conv => lhs; whnf)) ?_
        refine p1 (x_move (by conv => lhs; whnf)) ?_
        refine p1 (x_move (by conv => lhs; whnf)) ?_
        refine p1 (x_move (by conv => lhs; whnf)) ?_
        refine p1 (x_move (by conv => lhs; whnf)) ?_
        refine p1 (x_build8 (runW WW s 64) rfl) ?_
        refine p1 (x_move (by conv => lhs; whnf)) ?_
        refine r_nil ?_
        refine t_n ?_
        refine c_block ?_
        obtain ⟨X, hXX⟩ : ∃ X, X = runW WW s 64 := ⟨_, rfl⟩
        rw [← hXX]
        refine c_loop (ι := Nat) [21, 22, 199, 200, 201, 202, 203, 204, 205, 206, 207, 208, 209] (fun j => [(199, .int .i64 (j : Int))]) (fun j w' => Ext w w' ∧ (j ≤ 8 ∧ Blk w' g2 (wds (addW X.l s.l j)) 64 ∧ Blk w' g4 (wds (List.replicate 8 0)) 64)) (fun j => 8 - j) (0) ⟨rfl, trivial⟩ ⟨hX, ⟨by omega, hB2, hB4⟩⟩ ?_
        rintro j GL6 w26 ⟨hE26, hj, hB2, hB4⟩
        have hX := hE26
        refine c_seq ?_
        refine r_plain ?_
        refine p1 (x_lss rfl rfl) ?_
        refine r_nil ?_
        refine t_n ?_
        refine c_seq ?_
        first | refine c_dec rfl (fun hc200 => ?_) (fun hc200 => ?_) | refine c_if rfl (fun hc200 => ?_) (fun hc200 => ?_)
        · try simp only [decide_eq_true_eq, decide_eq_false_iff_not, Bool.not_eq_true, Bool.not_eq_false, Bool.not_eq_eq_eq_not, Bool.not_true, Bool.not_false, Int.not_lt, Int.not_le] at hc200
          refine c_skip ?_
          refine t_n ?_
          refine c_seq ?_
          refine c_block ?_
          refine c_seq ?_
          refine r_plain ?_
          refine p1 (x_move (by conv => lhs; whnf)) ?_
          refine p1 (x_ixval u64 sz63 (by kernel_rfl) rfl rfl (by omega) (wds_get (by rw [W8.len]; omega))) ?_
          refine p1 (x_assign (by conv => lhs; whnf)) ?_
          refine p1 (x_assign (by conv => lhs; whnf)) ?_
          refine r_nil ?_
          refine t_n ?_
          refine r_plain ?_
          refine p1 (x_move (by conv => lhs; whnf)) ?_
          refine p1 (x_ixa0 u64 sz63 rfl rfl (by omega)) ?_
          refine p1 (x_load1 un63 rfl (hB2.cell (wds_get (by rw [addW_len, W8.len]; omega)))) ?_
          refine p1 (x_move (by conv => lhs; whnf)) ?_
          refine p1 (x_addw rfl rfl) ?_
          refine p1 (x_ixa0 u64 sz63 rfl rfl (by omega)) ?_
          refine o_store1 rfl (by conv => lhs; whnf) rfl rfl sz63 hB2 (by rw [wds_size, addW_len, W8.len]; omega) ?_
          intro w27 hP27
          have hX := hX.put hP27 (by omega)
          have hB2 := hP27.blk
          rw [wds_set] at hB2
          have hB4 := hP27.keep hB4 (by omega)
          refine r_nil ?_
          refine b_n ?_
          refine t_n ?_
          refine r_plain ?_
          refine p1 (x_add rfl rfl (fits_i64 (by omega) (by omega))) ?_
          refine p1 (x_move (by conv => lhs; whnf)) ?_
          refine r_nil ?_
          refine t_n (At.mk (j + 1) (by repeat (first | exact Agr.refl _ _ | exact Agr.hav _ _ _ | refine Agr.upd rfl ?_ | refine Agr.updR rfl ?_ | refine Agr.updL ?_ _ rfl | refine Agr.hav' rfl ?_)) ⟨rfl, trivial⟩ ?_)
          exact ⟨⟨hX, ⟨by omega, hB2, hB4⟩⟩, by first | (dsimp only; omega) | ((show _ < _); omega)⟩
        · try simp only [decide_eq_true_eq, decide_eq_false_iff_not, Bool.not_eq_true, Bool.not_eq_false, Bool.not_eq_eq_eq_not, Bool.not_true, Bool.not_false, Int.not_lt, Int.not_le] at hc200
          have h8 : j = 8 := by omega
          subst h8
          rw [addW_8] at hB2
          refine c_exit ?_
          refine t_e ?_
          refine t_e ?_
          refine b_hit ?_
          refine t_n ?_
          refine c_seq ?_
          refine r_plain ?_
          refine p1 (x_loadB ua64 rfl hB2 (by rw [wds_size]; exact sz64)) ?_
          refine o_storeAll rfl (by conv => lhs; whnf) (wds_one _) (by rw [wds_size]; exact sz64) hB4 (by rfl) ?_
          intro w28 hP28
          have hX := hX.put hP28 (by omega)
          have hB2 := hP28.keep hB2 (by omega)
          have hB4 := hP28.blk
          refine r_nil ?_
          refine t_n ?_
          refine c_ret ?_
          refine end1c rfl ua64 rfl hB4 (by rw [wds_size]; exact sz64) ?_
          exact ⟨by rw [hXX, hWW]; rfl, hX⟩
end Go.Proofs.Eng
end
section
set_option linter.unusedVariables false
set_option linter.unusedSimpArgs false
set_option maxRecDepth 100000
set_option maxHeartbeats 4000000
namespace Go.Proofs.Eng
open Go.RowKit
open Extern.Stop (cell)
theorem fb43 : Tryd.f43.body.isNone = false := by kernel_rfl
theorem fb44 : Tryd.f44.body.isNone = false := by kernel_rfl
theorem fb45 : Tryd.f45.body.isNone = false := by kernel_rfl
theorem fb61 : Tryd.f61.body.isNone = false := by kernel_rfl
theorem fn43 : (Tryd.f43.name == "runtime.NumGoroutine") = false := by kernel_rfl
theorem fn44 : (Tryd.f44.name == "runtime.NumGoroutine") = false := by kernel_rfl
theorem fn45 : (Tryd.f45.name == "runtime.NumGoroutine") = false := by kernel_rfl
theorem fn61 : (Tryd.f61.name == "runtime.NumGoroutine") = false := by kernel_rfl
theorem fo104_0 : fieldOf Tryd.prog 104 0 = some (64, 0) := by kernel_rfl
theorem fo104_1 : fieldOf Tryd.prog 104 1 = some (102, 8) := by kernel_rfl
theorem fo104_2 : fieldOf Tryd.prog 104 2 = some (3, 72) := by kernel_rfl
theorem fo104_3 : fieldOf Tryd.prog 104 3 = some (3, 73) := by kernel_rfl
theorem pl104 : placed Tryd.prog 104 = some (.agg #[.int .u32 0, .int .u32 0, .int .u32 0, .int .u32 0, .int .u32 0, .int .u32 0, .int .u32 0, .int .u32 0, .int .u8 0, .int .u8 0, .int .u8 0, .int .u8 0, .int .u8 0, .int .u8 0, .int .u8 0, .int .u8 0, .int .u8 0, .int .u8 0, .int .u8 0, .int .u8 0, .int .u8 0, .int .u8 0, .int .u8 0, .int .u8 0, .int .u8 0, .int .u8 0, .int .u8 0, .int .u8 0, .int .u8 0, .int .u8 0, .int .u8 0, .int .u8 0, .int .u8 0, .int .u8 0, .int .u8 0, .int .u8 0, .int .u8 0, .int .u8 0, .int .u8 0, .int .u8 0, .int .u8 0, .int .u8 0, .int .u8 0, .int .u8 0, .int .u8 0, .int .u8 0, .int .u8 0, .int .u8 0, .int .u8 0, .int .u8 0, .int .u8 0, .int .u8 0, .int .u8 0, .int .u8 0, .int .u8 0, .int .u8 0, .int .u8 0, .int .u8 0, .int .u8 0, .int .u8 0, .int .u8 0, .int .u8 0, .int .u8 0, .int .u8 0, .int .u8 0, .int .u8 0, .int .u8 0, .int .u8 0, .int .u8 0, .int .u8 0, .int .u8 0, .int .u8 0, .int .i64 0, .int .i64 0], [(0, 8), (8, 64), (72, 1), (73, 1)]) := by kernel_rfl
theorem sz102 : (Tryd.prog.info? 102).map (·.size) = some 64 := by kernel_rfl
theorem sz104 : (Tryd.prog.info? 104).map (·.size) = some 74 := by kernel_rfl
theorem sz43 : (Tryd.prog.info? 43).map (·.size) = some 32 := by kernel_rfl
theorem u106 : Tryd.prog.underlying 106 = some (.array 8 5) := by kernel_rfl
theorem u43 : Tryd.prog.underlying 43 = some (.array 32 5) := by kernel_rfl
theorem u78 : Tryd.prog.underlying 78 = some (.pointer 104) := by kernel_rfl
theorem ua102 : (Tryd.prog.underlying 102).map TypeDesc.isRow = some true := by kernel_rfl
theorem ua104 : (Tryd.prog.underlying 104).map TypeDesc.isRow = some true := by kernel_rfl
theorem ua43 : (Tryd.prog.underlying 43).map TypeDesc.isRow = some true := by kernel_rfl
theorem zr104 : (Tryd.prog.info? 104).map (·.zero) = some (some (.agg #[.int .u32 0, .int .u32 0, .int .u32 0, .int .u32 0, .int .u32 0, .int .u32 0, .int .u32 0, .int .u32 0, .int .u8 0, .int .u8 0, .int .u8 0, .int .u8 0, .int .u8 0, .int .u8 0, .int .u8 0, .int .u8 0, .int .u8 0, .int .u8 0, .int .u8 0, .int .u8 0, .int .u8 0, .int .u8 0, .int .u8 0, .int .u8 0, .int .u8 0, .int .u8 0, .int .u8 0, .int .u8 0, .int .u8 0, .int .u8 0, .int .u8 0, .int .u8 0, .int .u8 0, .int .u8 0, .int .u8 0, .int .u8 0, .int .u8 0, .int .u8 0, .int .u8 0, .int .u8 0, .int .u8 0, .int .u8 0, .int .u8 0, .int .u8 0, .int .u8 0, .int .u8 0, .int .u8 0, .int .u8 0, .int .u8 0, .int .u8 0, .int .u8 0, .int .u8 0, .int .u8 0, .int .u8 0, .int .u8 0, .int .u8 0, .int .u8 0, .int .u8 0, .int .u8 0, .int .u8 0, .int .u8 0, .int .u8 0, .int .u8 0, .int .u8 0, .int .u8 0, .int .u8 0, .int .u8 0, .int .u8 0, .int .u8 0, .int .u8 0, .int .u8 0, .int .u8 0, .int .i64 0, .int .i64 0])) := by kernel_rfl
theorem zr106 : (Tryd.prog.info? 106).map (·.zero) = some (some (.agg #[.int .u8 0, .int .u8 0, .int .u8 0, .int .u8 0, .int .u8 0, .int .u8 0, .int .u8 0, .int .u8 0])) := by kernel_rfl
theorem zr43 : (Tryd.prog.info? 43).map (·.zero) = some (some (.agg #[.int .u8 0, .int .u8 0, .int .u8 0, .int .u8 0, .int .u8 0, .int .u8 0, .int .u8 0, .int .u8 0, .int .u8 0, .int .u8 0, .int .u8 0, .int .u8 0, .int .u8 0, .int .u8 0, .int .u8 0, .int .u8 0, .int .u8 0, .int .u8 0, .int .u8 0, .int .u8 0, .int .u8 0, .int .u8 0, .int .u8 0, .int .u8 0, .int .u8 0, .int .u8 0, .int .u8 0, .int .u8 0, .int .u8 0, .int .u8 0, .int .u8 0, .int .u8 0])) := by kernel_rfl
end Go.Proofs.Eng
end
section
set_option linter.unusedVariables false
set_option linter.unusedSimpArgs false
set_option maxRecDepth 100000
set_option maxHeartbeats 4000000
namespace Go.Proofs.Eng
open Go.RowKit
open Extern.Stop (cell)
theorem nb104 : Instr.fill (fun i => ([(0, 8), (8, 64), (72, 1), (73, 1)] : List (Nat × Nat))[i]?) (Value.agg #[.int .u32 0, .int .u32 0, .int .u32 0, .int .u32 0, .int .u32 0, .int .u32 0, .int .u32 0, .int .u32 0, .int .u8 0, .int .u8 0, .int .u8 0, .int .u8 0, .int .u8 0, .int .u8 0, .int .u8 0, .int .u8 0, .int .u8 0, .int .u8 0, .int .u8 0, .int .u8 0, .int .u8 0, .int .u8 0, .int .u8 0, .int .u8 0, .int .u8 0, .int .u8 0, .int .u8 0, .int .u8 0, .int .u8 0, .int .u8 0, .int .u8 0, .int .u8 0, .int .u8 0, .int .u8 0, .int .u8 0, .int .u8 0, .int .u8 0, .int .u8 0, .int .u8 0, .int .u8 0, .int .u8 0, .int .u8 0, .int .u8 0, .int .u8 0, .int .u8 0, .int .u8 0, .int .u8 0, .int .u8 0, .int .u8 0, .int .u8 0, .int .u8 0, .int .u8 0, .int .u8 0, .int .u8 0, .int .u8 0, .int .u8 0, .int .u8 0, .int .u8 0, .int .u8 0, .int .u8 0, .int .u8 0, .int .u8 0, .int .u8 0, .int .u8 0, .int .u8 0, .int .u8 0, .int .u8 0, .int .u8 0, .int .u8 0, .int .u8 0, .int .u8 0, .int .u8 0, .int .i64 0, .int .i64 0]).cells [(0, .agg (wds s0W.l))] = some (hst s0W (List.replicate 64 0) 0 0) := by kernel_rfl
theorem sha_New (w : World) (hbt : Bt w) :
    Ret Tryd.prog 43 [] w (fun v w' => (∃ g, v = .pointer (some ⟨g, 0, none⟩) ∧ g = w.heap.size ∧ Hs w' g []) ∧ Ext w w') := by
  have hX := Ext.refl w
  refine enter 4 _ Tryd.func43 rfl rfl (Nat.le_of_ble_eq_true rfl) rfl ?_
  refine c_seq ?_
  refine r_plain ?_
  refine p1 (x_assign (by conv => lhs; whnf)) ?_
  refine r_nil ?_
  refine t_n ?_
  refine c_seq ?_
  refine r_plain ?_
  refine p1 (x_loadN ua64 rfl (by rw [List.length_map]; exact sz64) (hbt.ext hX).range) ?_
  refine p1 (x_build (ps := [(0, .agg (wds s0W.l))]) (cs := hst s0W (List.replicate 64 0) 0 0) pl104 rfl nb104) ?_
  refine o_boxA (by conv => lhs; whnf) ?_
  intro w1 g3 hN3
  have hE1 := hN3.ext
  have hX := hX.ext hE1
  have hB3 := hN3.blk
  refine p1 (x_assign (by conv => lhs; whnf)) ?_
  refine r_nil ?_
  refine t_n ?_
  refine c_ret ?_
  refine end1 rfl (by conv => lhs; whnf) ?_
  exact ⟨⟨g3, rfl, hN3.g_eq, s0W, _, 0, HsP.new _ (by simp), hB3⟩, hX⟩
theorem sha_Write (all xs : List UInt8) (e : TypeId) (B g : Nat) (p : Option Addr) (n c : Nat) (w : World) (hs : Hs w g all) (hl : Sl kByte e B w p n c xs) (he : e ≠ 104) (hBg : B ≤ g) (hn : all.length + n ≤ 100000000000000) (hrt : Rt w) (h4 : 4 < g) :
    Ret Tryd.prog 44 [.pointer (some ⟨g, 0, none⟩), .slice p n c] w (fun v w' => Hs w' g (all ++ xs) ∧ But g 104 w w') := by
  obtain ⟨s, wt, k, hp, hH⟩ := hs
  have hE : ∀ u ∈ e :: kByte.E, u ≠ 104 := by intro u hu; simp [kByte, Kind.pure] at hu; exact hu ▸ he
  have hlen := hl.len
  have hlcap := hl.cap
  have hlfit := hl.fit
  have hX := But.refl g 104 w
  refine enter 60 _ Tryd.func44 rfl rfl (Nat.le_of_ble_eq_true rfl) rfl ?_
  refine c_seq ?_
  refine c_seq ?_
  refine r_plain ?_
  refine p1 (x_move (by conv => lhs; whnf)) ?_
  refine p1 (x_eql_ptrnil u78 rfl rfl) ?_
  refine r_nil ?_
  refine t_n ?_
  refine c_f (rfl) ?_
  refine c_skip ?_
  refine t_n ?_
  refine c_seq ?_
  refine r_plain ?_
  refine p1 (x_move (by conv => lhs; whnf)) ?_
  refine p1 (x_nilCheck rfl) ?_
  refine p1 (x_fieldAddr fo104_3 sz3 rfl) ?_
  refine p1 (x_load1 un3 rfl (hH.cell (hst_n hp.wl))) ?_
  refine p1 (x_move (by conv => lhs; whnf)) ?_
  refine p1 (x_len_slice u27 rfl) ?_
  refine p1 ((x_add rfl rfl (fits_i64 (by omega) (by omega))).cast (congrArg _ (by omega : ((all.length : Nat) : Int) + (n : Int) = ((all.length + n : Nat) : Int)))) ?_
  refine p1 (x_nilCheck rfl) ?_
  refine p1 (x_fieldAddr fo104_3 sz3 rfl) ?_
  refine o_store1 rfl (by conv => lhs; whnf) rfl rfl sz3 hH (by rw [hst_size hp.wl]; omega) ?_
  intro w1 hP1
  have hX := hX.trans (But.ofPut hP1)
  have hH := hP1.blk
  rw [hst_setn hp.wl] at hH
  refine r_nil ?_
  refine t_n ?_
  refine c_block ?_
  refine c_loop (ι := Option Addr × Nat × Nat × List UInt8 × List UInt8 × W8 × List UInt8 × Nat) [1, 4, 16, 17, 18, 19, 20, 21, 22, 23, 24, 25, 26, 27, 28, 29, 30, 31, 32, 33, 34, 35, 36, 37, 38, 39, 40, 41, 42, 43, 44, 45, 46, 47, 48, 49, 50, 51, 52, 53, 54, 55, 56, 57, 58, 59] (fun (q, r, d, rest, done, s, wt, k) => [(1, .slice q r d)]) (fun (q, r, d, rest, done, s, wt, k) w' => But g 104 w w' ∧ (HsP s wt k done ∧ Blk w' g (hst s wt k (all.length + n)) 104 ∧ Sl kByte e B w' q r d rest ∧ done ++ rest = all ++ xs)) (fun (q, r, d, rest, done, s, wt, k) => r) ((p, n, c, xs, all, s, wt, k)) ⟨rfl, trivial⟩ ⟨hX, ⟨hp, hH, hl.but hX hBg hE, rfl⟩⟩ ?_
  rintro ⟨q, r, d, rest, done, s, wt, k⟩ GL0 w2 ⟨hE2, hp, hH, hS, hD⟩
  have hX := hE2
  have hwl := hp.wl
  have hklt := hp.lt
  have hrl := hS.len
  have hrfit := hS.fit
  have hrcap := hS.cap
  refine c_seq ?_
  refine c_seq ?_
  refine r_plain ?_
  refine p1 (x_move (by conv => lhs; whnf)) ?_
  refine p1 (x_len_slice u27 rfl) ?_
  refine p1 (x_gtr rfl rfl) ?_
  refine r_nil ?_
  refine t_n ?_
  first | refine c_dec rfl (fun hc18 => ?_) (fun hc18 => ?_) | refine c_if rfl (fun hc18 => ?_) (fun hc18 => ?_)
  · try simp only [decide_eq_true_eq, decide_eq_false_iff_not, Bool.not_eq_true, Bool.not_eq_false, Bool.not_eq_eq_eq_not, Bool.not_true, Bool.not_false, Int.not_lt, Int.not_le] at hc18
    refine c_skip ?_
    refine t_n ?_
    refine c_block ?_
    refine c_seq ?_
    refine r_tail 9 mixed (by kernel_rfl) ?_
    intro w3 hE3
    have hX := hX.ext hE3
    have hH := hH.ext hE3
    have hS := hS.ext hE3
    refine s1 (x_move (by conv => lhs; whnf)) ?_
    refine s1 (x_nilCheck rfl) ?_
    refine s1 (x_fieldAddr fo104_1 sz102 rfl) ?_
    refine s1 (x_move (by conv => lhs; whnf)) ?_
    refine s1 (x_nilCheck rfl) ?_
    refine s1 (x_fieldAddr fo104_2 sz3 rfl) ?_
    refine s1 (x_load1 un3 rfl (hH.cell (hst_k hwl))) ?_
    refine s1 (x_slice_arr_l u102 sz5 rfl rfl (by omega)) ?_
    refine s1 (x_move (by conv => lhs; whnf)) ?_
    refine s_nil ?_
    refine o_copyB u27 sz5 rfl rfl hH (by rw [hst_size hwl]; omega) hS (by omega) ?_
    intro w4 hP4
    have hX := hX.trans (But.ofPut hP4)
    have hS := hS.but (But.ofPut hP4) hBg hE
    have hH := hP4.blk
    rw [hst_copy hwl rest k _ (by omega) (by omega)] at hH
    obtain ⟨j, hjj⟩ : ∃ j, j = min r (64 - k) := ⟨_, rfl⟩
    rw [← hjj] at hH ⊢
    obtain ⟨wt2, hwt2⟩ : ∃ x, x = wt.take k ++ rest.take j ++ wt.drop (k + j) := ⟨_, rfl⟩
    have hwl2 : wt2.length = 64 := by rw [hwt2]; simp; omega
    rw [← hwt2] at hH
    refine p1 (x_assign (by conv => lhs; whnf)) ?_
    refine r_nil ?_
    refine t_n ?_
    refine c_seq ?_
    refine r_plain ?_
    refine p1 (x_move (by conv => lhs; whnf)) ?_
    refine p1 (x_nilCheck rfl) ?_
    refine p1 (x_fieldAddr fo104_2 sz3 rfl) ?_
    refine p1 (x_load1 un3 rfl (hH.cell (hst_k hwl2))) ?_
    refine p1 (x_move (by conv => lhs; whnf)) ?_
    refine p1 ((x_add rfl rfl (fits_i64 (by omega) (by omega))).cast (congrArg _ (by omega : ((k : Nat) : Int) + ((j : Nat) : Int) = ((k + j : Nat) : Int)))) ?_
    refine p1 (x_nilCheck rfl) ?_
    refine p1 (x_fieldAddr fo104_2 sz3 rfl) ?_
    refine o_store1 rfl (by conv => lhs; whnf) rfl rfl sz3 hH (by rw [hst_size hwl2]; omega) ?_
    intro w5 hP5
    have hX := hX.trans (But.ofPut hP5)
    have hH := hP5.blk
    rw [hst_setk hwl2] at hH
    have hS := hS.but (But.ofPut hP5) hBg hE
    refine r_nil ?_
    refine t_n ?_
    refine c_seq ?_
    refine r_plain ?_
    refine p1 (x_move (by conv => lhs; whnf)) ?_
    refine p1 (x_move (by conv => lhs; whnf)) ?_
    refine p1 (x_slice_lN u27 sz5 rfl rfl (by omega)) ?_
    refine p1 (x_assign (by conv => lhs; whnf)) ?_
    refine r_nil ?_
    refine t_n ?_
    refine c_seq ?_
    refine r_plain ?_
    refine p1 (x_move (by conv => lhs; whnf)) ?_
    refine p1 (x_nilCheck rfl) ?_
    refine p1 (x_fieldAddr fo104_2 sz3 rfl) ?_
    refine p1 (x_load1 un3 rfl (hH.cell (hst_k hwl2))) ?_
    refine p1 (x_eql rfl rfl) ?_
    refine r_nil ?_
    refine t_n ?_
    first | refine c_dec rfl (fun hc44 => ?_) (fun hc44 => ?_) | refine c_if rfl (fun hc44 => ?_) (fun hc44 => ?_)
    · try simp only [decide_eq_true_eq, decide_eq_false_iff_not, Bool.not_eq_true, Bool.not_eq_false, Bool.not_eq_eq_eq_not, Bool.not_true, Bool.not_false, Int.not_lt, Int.not_le] at hc44
      have hkj : k + j = 64 := by omega
      have hp2 := hp.full rest (j := j) (by omega) hkj
      rw [← hwt2] at hp2
      refine c_seq ?_
      refine r_held (fun _ w2 => RwB w2 g wt2) mixed ?_
      intro w6 hE6
      have hX := hX.ext hE6
      have hH := hH.ext hE6
      have hS := hS.ext hE6
      have hSr7 : (fun _ w2 => RwB w2 g wt2) w6 w6 := hst_range_w hH
      have hRw : RwB _ g wt2 := hst_range_w hH
      refine h_take 0 rfl (by kernel_rfl) (by kernel_rfl) (by kernel_rfl) hSr7 (fun wS hSS => by ( exact (x_move (by conv => lhs; whnf)))) ?_
      refine h_take 1 rfl (by kernel_rfl) (by kernel_rfl) (by kernel_rfl) hSr7 (fun wS hSS => by ( exact (x_move (by conv => lhs; whnf)))) ?_
      refine h_take 2 rfl (by kernel_rfl) (by kernel_rfl) (by kernel_rfl) hSr7 (fun wS hSS => by ( exact (x_nilCheck rfl))) ?_
      refine h_take 3 rfl (by kernel_rfl) (by kernel_rfl) (by kernel_rfl) hSr7 (fun wS hSS => by ( exact (x_fieldAddr fo104_0 sz64 rfl))) ?_
      refine h_take 5 rfl (by kernel_rfl) (by kernel_rfl) (by kernel_rfl) hSr7 (fun wS hSS => by ( exact (x_move (by conv => lhs; whnf)))) ?_
      refine h_take 6 rfl (by kernel_rfl) (by kernel_rfl) (by kernel_rfl) hSr7 (fun wS hSS => by ( exact (x_nilCheck rfl))) ?_
      refine h_take 7 rfl (by kernel_rfl) (by kernel_rfl) (by kernel_rfl) hSr7 (fun wS hSS => by ( exact (x_fieldAddr fo104_1 sz102 rfl))) ?_
      refine h_take 8 rfl (by kernel_rfl) (by kernel_rfl) (by kernel_rfl) hSr7 (fun wS hSS => by (have hRw := hSS; exact (x_loadN ua102 rfl (by rw [List.length_map, hwl2]; exact sz102) hRw))) ?_
      refine h_one 4 _ rfl (by kernel_rfl) (hop_of_list (fun Q4 hQ4 => ?_))
      refine p1 (x_loadN ua64 rfl (by rw [List.length_map]; exact sz64) (hst_range_s hH)) ?_
      refine hop_end hQ4 ⟨hSr7, ?_⟩
      refine h_one 9 _ rfl (by kernel_rfl) (hop_of_list (fun Q9 hQ9 => ?_))
      refine o_call Tryd.func61 fn61 fb61 (sha_mix s wt2 _ hwl2 (hrt.but hX h4)) rfl ?_
      rintro v7 w7 ⟨rfl, hE7⟩
      have hX := hX.ext hE7
      have hH := hH.ext hE7
      have hS := hS.ext hE7
      have hSr7 := hSr7.ext hE7
      have hRw := hRw.ext hE7
      refine hop_end hQ9 ⟨hSr7, ?_⟩
      refine h_take 10 rfl (by kernel_rfl) (by kernel_rfl) (by kernel_rfl) hSr7 (fun wS hSS => by ( exact (x_nilCheck rfl))) ?_
      refine h_take 11 rfl (by kernel_rfl) (by kernel_rfl) (by kernel_rfl) hSr7 (fun wS hSS => by ( exact (x_fieldAddr fo104_0 sz64 rfl))) ?_
      refine h_one 12 _ rfl (by kernel_rfl) (hop_of_list (fun Q12 hQ12 => ?_))
      refine o_storeN rfl rfl (wds_one _) (by rw [wds_size]; exact sz64) hH (by rw [hst_size hwl2, wds_size, W8.len]; omega) ?_
      intro w8 hP8
      have hX := hX.trans (But.ofPut hP8)
      have hH := hP8.blk
      rw [hst_sets] at hH
      have hS := hS.but (But.ofPut hP8) hBg hE
      have hSr7 := hst_range_w hH
      refine hop_end hQ12 ⟨hSr7, ?_⟩
      refine h_done (by kernel_rfl) ?_
      refine t_n ?_
      refine r_plain ?_
      refine p1 (x_move (by conv => lhs; whnf)) ?_
      refine p1 (x_nilCheck rfl) ?_
      refine p1 (x_fieldAddr fo104_2 sz3 rfl) ?_
      refine o_store1 rfl (by conv => lhs; whnf) rfl rfl sz3 hH (by rw [hst_size hwl2]; omega) ?_
      intro w9 hP9
      have hX := hX.trans (But.ofPut hP9)
      have hH := hP9.blk
      rw [show (Value.int .i64 0) = .int .i64 ((0 : Nat) : Int) from rfl, hst_setk hwl2] at hH
      have hS := hS.but (But.ofPut hP9) hBg hE
      refine r_nil ?_
      refine b_n ?_
      first
        | exact t_n (At.mk ((_, r - j, _, rest.drop j, done ++ rest.take j, mixF s wt2, wt2, 0)) (by repeat (first | exact Agr.refl _ _ | exact Agr.hav _ _ _ | refine Agr.upd rfl ?_ | refine Agr.updR rfl ?_ | refine Agr.updL ?_ _ rfl | refine Agr.hav' rfl ?_)) ⟨rfl, trivial⟩ ⟨⟨hX, ⟨hp2, hH, hS.dropI j (by omega), by rw [List.append_assoc, List.take_append_drop]; exact hD⟩⟩, by first | (dsimp only; omega) | ((show _ < _); omega)⟩)
        | exact t_n (At.mk ((_, r - j, _, rest.drop j, done ++ rest.take j, s, wt2, k + j)) (by repeat (first | exact Agr.refl _ _ | exact Agr.hav _ _ _ | refine Agr.upd rfl ?_ | refine Agr.updR rfl ?_ | refine Agr.updL ?_ _ rfl | refine Agr.hav' rfl ?_)) ⟨rfl, trivial⟩ ⟨⟨hX, ⟨hp2, hH, hS.dropI j (by omega), by rw [List.append_assoc, List.take_append_drop]; exact hD⟩⟩, by first | (dsimp only; omega) | ((show _ < _); omega)⟩)
    · try simp only [decide_eq_true_eq, decide_eq_false_iff_not, Bool.not_eq_true, Bool.not_eq_false, Bool.not_eq_eq_eq_not, Bool.not_true, Bool.not_false, Int.not_lt, Int.not_le] at hc44
      have hkj : k + j < 64 := by omega
      have hp2 := hp.part rest (j := j) (by omega) hkj
      rw [← hwt2] at hp2
      refine c_skip ?_
      refine b_n ?_
      first
        | exact t_n (At.mk ((_, r - j, _, rest.drop j, done ++ rest.take j, mixF s wt2, wt2, 0)) (by repeat (first | exact Agr.refl _ _ | exact Agr.hav _ _ _ | refine Agr.upd rfl ?_ | refine Agr.updR rfl ?_ | refine Agr.updL ?_ _ rfl | refine Agr.hav' rfl ?_)) ⟨rfl, trivial⟩ ⟨⟨hX, ⟨hp2, hH, hS.dropI j (by omega), by rw [List.append_assoc, List.take_append_drop]; exact hD⟩⟩, by first | (dsimp only; omega) | ((show _ < _); omega)⟩)
        | exact t_n (At.mk ((_, r - j, _, rest.drop j, done ++ rest.take j, s, wt2, k + j)) (by repeat (first | exact Agr.refl _ _ | exact Agr.hav _ _ _ | refine Agr.upd rfl ?_ | refine Agr.updR rfl ?_ | refine Agr.updL ?_ _ rfl | refine Agr.hav' rfl ?_)) ⟨rfl, trivial⟩ ⟨⟨hX, ⟨hp2, hH, hS.dropI j (by omega), by rw [List.append_assoc, List.take_append_drop]; exact hD⟩⟩, by first | (dsimp only; omega) | ((show _ < _); omega)⟩)
  · try simp only [decide_eq_true_eq, decide_eq_false_iff_not, Bool.not_eq_true, Bool.not_eq_false, Bool.not_eq_eq_eq_not, Bool.not_true, Bool.not_false, Int.not_lt, Int.not_le] at hc18
    have hr0 : rest = [] := List.length_eq_zero_iff.1 (by omega)
    rw [hr0, List.append_nil] at hD
    refine c_exit ?_
    refine t_e ?_
    refine t_e ?_
    refine b_hit ?_
    refine end0n rfl ?_
    exact ⟨⟨s, wt, k, hD ▸ hp, by rw [List.length_append, hl.len]; exact hH⟩, hX⟩
theorem sha_HSum (all : List UInt8) (g0 : Nat) (w : World) (hs : Hs w g0 all) (hn : all.length ≤ 10000000000000) (hrt : Rt w) (h4 : 4 < w.heap.size) :
    Ret Tryd.prog 45 [.pointer (some ⟨g0, 0, none⟩)] w (fun v w' => v = .agg (hv (shaF all)) ∧ Ext w w') := by
  obtain ⟨s0, wt0, k0, hp0, hH⟩ := hs
  have hX := Ext.refl w
  refine enter 62 _ Tryd.func45 rfl rfl (Nat.le_of_ble_eq_true rfl) rfl ?_
  refine c_seq ?_
  refine r_plain ?_
  refine o_alloc zr43 ?_
  intro w1 g2 hN2
  have hE1 := hN2.ext
  have hX := hX.ext hE1
  have hH := hH.ext hE1
  have hB2 := hN2.blk
  refine r_nil ?_
  refine t_n ?_
  refine c_seq ?_
  refine c_seq ?_
  refine r_plain ?_
  have hB2 : Blk _ g2 (bcs (List.replicate 32 0)) 43 := hB2
  refine p1 (x_move (by conv => lhs; whnf)) ?_
  refine p1 (x_eql_ptrnil u78 rfl rfl) ?_
  refine r_nil ?_
  refine t_n ?_
  refine c_f (rfl) ?_
  refine c_skip ?_
  refine t_n ?_
  refine c_seq ?_
  refine r_plain ?_
  refine p1 (x_move (by conv => lhs; whnf)) ?_
  refine p1 (x_nilCheck rfl) ?_
  refine p1 (x_loadB ua104 rfl hH (by rw [hst_size hp0.wl]; exact sz104)) ?_
  have sX := hX.size
  have l2 := hB2.lt
  have lH := hH.lt
  refine o_alloc zr104 ?_
  intro w2 g3 hN3
  have hE2 := hN3.ext
  have hX := hX.ext hE2
  have hH := hH.ext hE2
  have hB2 := hB2.ext hE2
  have hB3 := hN3.blk
  have e3 := hN3.g_eq
  have hg3 : w.heap.size ≤ g3 := by omega
  have h23 : g2 < g3 := by omega
  refine o_storeAll rfl (by conv => lhs; whnf) hst_one (by rw [hst_size hp0.wl]; exact sz104) hB3 (by rw [hst_size hp0.wl]; rfl) ?_
  intro w3 hP3
  have hX := hX.put hP3 (by omega)
  have hH := hP3.keep hH (by omega)
  have hB2 := hP3.keep hB2 (by omega)
  have hB3 := hP3.blk
  refine r_nil ?_
  refine t_n ?_
  refine c_seq ?_
  refine r_plain ?_
  refine p1 (x_move (by conv => lhs; whnf)) ?_
  refine p1 (x_nilCheck rfl) ?_
  refine p1 (x_fieldAddr fo104_3 sz3 rfl) ?_
  refine p1 (x_load1 un3 rfl (hH.cell (hst_n hp0.wl))) ?_
  refine p1 (x_convf u71 us3 rfl (fits_u64 (by omega) (by omega))) ?_
  refine p1 ((x_shl rfl rfl (by omega)).cast (congrArg _ (shl3 (by omega)))) ?_
  refine p1 (x_assign (by conv => lhs; whnf)) ?_
  refine r_nil ?_
  refine t_n ?_
  refine c_seq ?_
  refine r_plain ?_
  refine o_buildSlice u27 inf5 rfl (by decide) (fun base hb => fill_one (by rfl) base hb) ?_
  intro w4 g21 hN21
  have hE4 := hN21.ext
  have hX := hX.ext hE4
  have hH := hH.ext hE4
  have hB2 := hB2.ext hE4
  have hB3 := hB3.ext hE4
  have hJ := one_made (b := 128) hN21 (B0 := 0) (Nat.zero_le _)
  have hHs : Hs _ g3 all := ⟨s0, wt0, k0, hp0, hB3⟩
  refine o_call Tryd.func44 fn44 fb44 (sha_Write (all) ([128]) 5 0 g3 _ _ _ _ hHs hJ.sl (by decide) (Nat.zero_le _) (by simp [be8_len]; omega) (hrt.ext hX) (by omega)) rfl ?_
  rintro v5 w5 ⟨hHs, hM5⟩
  have hX := hM5.extTo hX hg3
  have hB2 := hB2.but hM5 (.inl (by omega))
  skip
  refine r_nil ?_
  refine t_n ?_
  refine c_seq ?_
  refine c_block ?_
  refine c_loop (ι := Nat) [23, 24, 25, 26, 27] (fun j => []) (fun j w' => Ext w w' ∧ (j ≤ padZ all.length ∧ Blk w' g2 (bcs (List.replicate 32 0)) 43 ∧ Hs w' g3 (all ++ [128] ++ List.replicate j 0))) (fun j => padZ all.length - j) (0) trivial ⟨hX, ⟨by omega, hB2, by rw [List.replicate_zero, List.append_nil]; exact hHs⟩⟩ ?_
  rintro j GL0 w6 ⟨hE6, hj, hB2, hHs⟩
  have hX := hE6
  have hHs0 := hHs
  obtain ⟨s1, wt1, k1, hp1, hB3⟩ := hHs0
  have hk1 := hp1.kk
  have hl1 : (all ++ [128] ++ List.replicate j 0).length = all.length + 1 + j := by simp; omega
  rw [hl1] at hk1
  have hpm := padZ_mod all.length
  have hpz := padZ_le all.length
  refine c_seq ?_
  refine c_seq ?_
  refine r_plain ?_
  refine p1 (x_fieldAddr fo104_2 sz3 rfl) ?_
  refine p1 (x_load1 un3 rfl (hB3.cell (hst_k hp1.wl))) ?_
  refine p1 (x_neq rfl rfl) ?_
  refine r_nil ?_
  refine t_n ?_
  first | refine c_dec rfl (fun hc25 => ?_) (fun hc25 => ?_) | refine c_if rfl (fun hc25 => ?_) (fun hc25 => ?_)
  · try simp only [decide_eq_true_eq, decide_eq_false_iff_not, Bool.not_eq_true, Bool.not_eq_false, Bool.not_eq_eq_eq_not, Bool.not_true, Bool.not_false, Int.not_lt, Int.not_le] at hc25
    have hjlt : j < padZ all.length := by omega
    refine c_skip ?_
    refine t_n ?_
    refine c_block ?_
    refine r_plain ?_
    refine o_buildSlice u27 inf5 rfl (by decide) (fun base hb => fill_one (by rfl) base hb) ?_
    intro w7 g26 hN26
    have hE7 := hN26.ext
    have hX := hX.ext hE7
    have hB2 := hB2.ext hE7
    have hHs := hHs.ext hE7
    have hJ := one_made (b := 0) hN26 (B0 := 0) (Nat.zero_le _)
    refine o_call Tryd.func44 fn44 fb44 (sha_Write (all ++ [128] ++ List.replicate j 0) ([0]) 5 0 g3 _ _ _ _ hHs hJ.sl (by decide) (Nat.zero_le _) (by simp [be8_len]; omega) (hrt.ext hX) (by omega)) rfl ?_
    rintro v8 w8 ⟨hHs, hM8⟩
    have hX := hM8.extTo hX hg3
    have hB2 := hB2.but hM8 (.inl (by omega))
    rw [List.append_assoc, ← List.replicate_succ'] at hHs
    refine r_nil ?_
    refine b_n ?_
    refine t_n (At.mk (j + 1) (by repeat (first | exact Agr.refl _ _ | exact Agr.hav _ _ _ | refine Agr.upd rfl ?_ | refine Agr.updR rfl ?_ | refine Agr.updL ?_ _ rfl | refine Agr.hav' rfl ?_)) trivial ?_)
    exact ⟨⟨hX, ⟨by omega, hB2, hHs⟩⟩, by first | (dsimp only; omega) | ((show _ < _); omega)⟩
  · try simp only [decide_eq_true_eq, decide_eq_false_iff_not, Bool.not_eq_true, Bool.not_eq_false, Bool.not_eq_eq_eq_not, Bool.not_true, Bool.not_false, Int.not_lt, Int.not_le] at hc25
    have hje : j = padZ all.length := Classical.byContradiction fun h => padZ_lt (n := all.length) (j := j) (by omega) (by omega)
    subst hje
    refine c_exit ?_
    refine t_e ?_
    refine t_e ?_
    refine b_hit ?_
    refine t_n ?_
    refine c_seq ?_
    refine r_plain ?_
    have l3 := hHs.lt
    have sX8 := hX.size
    refine o_alloc zr106 ?_
    intro w9 g5 hN5
    have hE9 := hN5.ext
    have hX := hX.ext hE9
    have hB2 := hB2.ext hE9
    have hHs := hHs.ext hE9
    have hB5 := hN5.blk
    refine r_nil ?_
    refine t_n ?_
    refine c_seq ?_
    refine c_seq ?_
    refine r_plain ?_
    have e5 := hN5.g_eq
    have h35 : g3 < g5 := by omega
    have hB5 : Blk _ g5 (bcs (List.replicate 8 0)) 106 := hB5
    refine p1 (x_move (by conv => lhs; whnf)) ?_
    refine r_nil ?_
    refine t_n ?_
    refine c_block ?_
    refine c_loop (ι := Nat) [6, 28, 29, 30, 31, 32, 33, 34, 35, 36, 37, 38, 39, 40] (fun i => [(28, .int .i64 (i : Int))]) (fun i w' => Ext w w' ∧ (i ≤ 8 ∧ Blk w' g2 (bcs (List.replicate 32 0)) 43 ∧ Hs w' g3 (all ++ [128] ++ List.replicate (padZ all.length) 0) ∧ Blk w' g5 (bcs (setB (beB all.length) (List.replicate 8 0) i)) 106)) (fun i => 8 - i) (0) ⟨rfl, trivial⟩ ⟨hX, ⟨by omega, hB2, hHs, hB5⟩⟩ ?_
    rintro i GL2 w10 ⟨hE10, hi, hB2, hHs, hB5⟩
    have hX := hE10
    refine c_seq ?_
    refine r_plain ?_
    refine p1 (x_lss rfl rfl) ?_
    refine r_nil ?_
    refine t_n ?_
    refine c_seq ?_
    first | refine c_dec rfl (fun hc29 => ?_) (fun hc29 => ?_) | refine c_if rfl (fun hc29 => ?_) (fun hc29 => ?_)
    · try simp only [decide_eq_true_eq, decide_eq_false_iff_not, Bool.not_eq_true, Bool.not_eq_false, Bool.not_eq_eq_eq_not, Bool.not_true, Bool.not_false, Int.not_lt, Int.not_le] at hc29
      refine c_skip ?_
      refine t_n ?_
      refine c_seq ?_
      refine c_block ?_
      refine c_seq ?_
      refine r_plain ?_
      refine p1 (x_move (by conv => lhs; whnf)) ?_
      refine p1 (x_assign (by conv => lhs; whnf)) ?_
      refine r_nil ?_
      refine t_n ?_
      refine r_plain ?_
      refine p1 (x_move (by conv => lhs; whnf)) ?_
      refine p1 (x_move (by conv => lhs; whnf)) ?_
      refine p1 (x_move (by conv => lhs; whnf)) ?_
      refine p1 (x_mul rfl rfl (fits_i64 (by omega) (by omega))) ?_
      refine p1 (x_sub rfl rfl (fits_i64 (by omega) (by omega))) ?_
      refine p1 (x_convf u67 us3 rfl (fits_u64 (by omega) (by omega))) ?_
      refine p1 (x_shr rfl rfl (by omega)) ?_
      refine p1 ((x_conv u5 us71 rfl).cast (congrArg _ (wrapI _))) ?_
      refine p1 (x_ixa0 u106 sz5 rfl rfl (by omega)) ?_
      refine o_store1 rfl (by conv => lhs; whnf) rfl rfl sz5 hB5 (by rw [bcs_size, setB_len, List.length_replicate]; omega) ?_
      intro w11 hP11
      have hX := hX.put hP11 (by omega)
      have hB2 := hP11.keep hB2 (by omega)
      have hHs := hHs.keep hP11 (by omega)
      have hB5 := hP11.blk
      rw [bcs_set] at hB5
      refine r_nil ?_
      refine b_n ?_
      refine t_n ?_
      refine r_plain ?_
      refine p1 (x_add rfl rfl (fits_i64 (by omega) (by omega))) ?_
      refine p1 (x_move (by conv => lhs; whnf)) ?_
      refine r_nil ?_
      refine t_n (At.mk (i + 1) (by repeat (first | exact Agr.refl _ _ | exact Agr.hav _ _ _ | refine Agr.upd rfl ?_ | refine Agr.updR rfl ?_ | refine Agr.updL ?_ _ rfl | refine Agr.hav' rfl ?_)) ⟨rfl, trivial⟩ ?_)
      exact ⟨⟨hX, ⟨by omega, hB2, hHs, hB5⟩⟩, by first | (dsimp only; omega) | ((show _ < _); omega)⟩
    · try simp only [decide_eq_true_eq, decide_eq_false_iff_not, Bool.not_eq_true, Bool.not_eq_false, Bool.not_eq_eq_eq_not, Bool.not_true, Bool.not_false, Int.not_lt, Int.not_le] at hc29
      have h8 : i = 8 := by omega
      subst h8
      rw [setB_eq _ _ 8 (by simp), List.drop_of_length_le (by simp), List.append_nil] at hB5
      have hB5 : Blk _ g5 (bcs (be8 all.length)) 106 := hB5
      refine c_exit ?_
      refine t_e ?_
      refine t_e ?_
      refine b_hit ?_
      refine t_n ?_
      refine c_seq ?_
      refine r_plain ?_
      refine p1 (x_slice_arr u106 sz5 rfl) ?_
      refine o_call Tryd.func44 fn44 fb44 (sha_Write (all ++ [128] ++ List.replicate (padZ all.length) 0) (be8 all.length) 106 0 g3 _ _ _ _ hHs (sl_bcs hB5 (be8_len _) (by decide)) (by decide) (Nat.zero_le _) (by simp [be8_len]; omega) (hrt.ext hX) (by omega)) rfl ?_
      rintro v12 w12 ⟨hHs, hM12⟩
      have hX := hM12.extTo hX hg3
      have hB2 := hB2.but hM12 (.inl (by omega))
      have hHs : Hs _ g3 (padF all) := hHs
      have l3b := hHs.lt
      refine r_nil ?_
      refine t_n ?_
      refine c_seq ?_
      refine r_plain ?_
      refine o_alloc zr43 ?_
      intro w13 g7 hN7
      have hE13 := hN7.ext
      have hX := hX.ext hE13
      have hB2 := hB2.ext hE13
      have hHs := hHs.ext hE13
      have hB7 := hN7.blk
      refine r_nil ?_
      refine t_n ?_
      refine c_seq ?_
      refine c_seq ?_
      refine r_plain ?_
      have sX9 := hX.size
      have e7 := hN7.g_eq
      have h37 : g3 < g7 := by omega
      have hB7 : Blk _ g7 (bcs (List.replicate 32 0)) 43 := hB7
      obtain ⟨sF, wF, kF, hpF, hB3⟩ := hHs
      have hwF := hpF.wl
      refine p1 (x_move (by conv => lhs; whnf)) ?_
      refine r_nil ?_
      refine t_n ?_
      refine c_block ?_
      refine c_loop (ι := Nat) [8, 43, 44, 45, 46, 47, 48, 49, 50, 51, 52, 53, 54, 55, 56, 57, 58, 59, 60] (fun i => [(43, .int .i64 (i : Int))]) (fun i w' => Ext w w' ∧ (i ≤ 32 ∧ Blk w' g2 (bcs (List.replicate 32 0)) 43 ∧ Blk w' g3 (hst sF wF kF (padF all).length) 104 ∧ Blk w' g7 (bcs (setB (ouB sF) (List.replicate 32 0) i)) 43)) (fun i => 32 - i) (0) ⟨rfl, trivial⟩ ⟨hX, ⟨by omega, hB2, hB3, hB7⟩⟩ ?_
      rintro i GL4 w14 ⟨hE14, hi, hB2, hB3, hB7⟩
      have hX := hE14
      refine c_seq ?_
      refine r_plain ?_
      refine p1 (x_lss rfl rfl) ?_
      refine r_nil ?_
      refine t_n ?_
      refine c_seq ?_
      first | refine c_dec rfl (fun hc44 => ?_) (fun hc44 => ?_) | refine c_if rfl (fun hc44 => ?_) (fun hc44 => ?_)
      · try simp only [decide_eq_true_eq, decide_eq_false_iff_not, Bool.not_eq_true, Bool.not_eq_false, Bool.not_eq_eq_eq_not, Bool.not_true, Bool.not_false, Int.not_lt, Int.not_le] at hc44
        refine c_skip ?_
        refine t_n ?_
        refine c_seq ?_
        refine c_block ?_
        refine c_seq ?_
        refine r_plain ?_
        refine p1 (x_move (by conv => lhs; whnf)) ?_
        refine p1 (x_assign (by conv => lhs; whnf)) ?_
        refine r_nil ?_
        refine t_n ?_
        refine r_plain ?_
        refine p1 (x_move (by conv => lhs; whnf)) ?_
        refine p1 (x_move (by conv => lhs; whnf)) ?_
        refine p1 ((x_quo rfl rfl (by omega) (by omega) (fits_i64 (by omega) (by omega))).cast (congrArg _ (by omega : ((i : Nat) : Int) / 4 = ((i / 4 : Nat) : Int)))) ?_
        refine p1 (x_fieldAddr fo104_0 sz64 rfl) ?_
        refine p1 (x_ixa0 (i := i / 4) u64 sz63 rfl rfl (by omega)) ?_
        refine p1 (x_load1 un63 rfl (hB3.cell (hst_s (by omega)))) ?_
        refine p1 (x_move (by conv => lhs; whnf)) ?_
        refine p1 ((x_rem rfl rfl (by omega) (by omega)).cast (congrArg _ (by omega : ((i : Nat) : Int) % 4 = ((i % 4 : Nat) : Int)))) ?_
        refine p1 (x_mul rfl rfl (fits_i64 (by omega) (by omega))) ?_
        refine p1 (x_sub rfl rfl (fits_i64 (by omega) (by omega))) ?_
        refine p1 (x_convf u67 us3 rfl (fits_u64 (by omega) (by omega))) ?_
        refine p1 (x_shr rfl rfl (by omega)) ?_
        refine p1 ((x_conv u5 us63 rfl).cast (congrArg _ (wrapI _))) ?_
        refine p1 (x_ixa0 u43 sz5 rfl rfl (by omega)) ?_
        refine o_store1 rfl (by conv => lhs; whnf) rfl rfl sz5 hB7 (by rw [bcs_size, setB_len, List.length_replicate]; omega) ?_
        intro w15 hP15
        have hX := hX.put hP15 (by omega)
        have hB2 := hP15.keep hB2 (by omega)
        have hB3 := hP15.keep hB3 (by omega)
        have hB7 := hP15.blk
        rw [bcs_set] at hB7
        refine r_nil ?_
        refine b_n ?_
        refine t_n ?_
        refine r_plain ?_
        refine p1 (x_add rfl rfl (fits_i64 (by omega) (by omega))) ?_
        refine p1 (x_move (by conv => lhs; whnf)) ?_
        refine r_nil ?_
        refine t_n (At.mk (i + 1) (by repeat (first | exact Agr.refl _ _ | exact Agr.hav _ _ _ | refine Agr.upd rfl ?_ | refine Agr.updR rfl ?_ | refine Agr.updL ?_ _ rfl | refine Agr.hav' rfl ?_)) ⟨rfl, trivial⟩ ?_)
        exact ⟨⟨hX, ⟨by omega, hB2, hB3, hB7⟩⟩, by first | (dsimp only; omega) | ((show _ < _); omega)⟩
      · try simp only [decide_eq_true_eq, decide_eq_false_iff_not, Bool.not_eq_true, Bool.not_eq_false, Bool.not_eq_eq_eq_not, Bool.not_true, Bool.not_false, Int.not_lt, Int.not_le] at hc44
        have h32 : i = 32 := by omega
        subst h32
        rw [setB_eq _ _ 32 (by simp), List.drop_of_length_le (by simp), List.append_nil] at hB7
        have hB7 : Blk _ g7 (hv (outH sF)) 43 := hB7
        refine c_exit ?_
        refine t_e ?_
        refine t_e ?_
        refine b_hit ?_
        refine t_n ?_
        refine c_seq ?_
        refine r_plain ?_
        refine p1 (x_loadB ua43 rfl hB7 (hv_sz sz43 _)) ?_
        refine o_storeAll rfl rfl (kHash_one _) (hv_sz sz43 _) hB2 (by rw [hv_size]; simp [bcs_size]) ?_
        intro w16 hP16
        have hX := hX.put hP16 (by have e2 := hN2.g_eq; omega)
        have hB2 := hP16.blk
        have hB3 := hP16.keep hB3 (by omega)
        have hB7 := hP16.keep hB7 (by omega)
        refine r_nil ?_
        refine t_n ?_
        refine c_ret ?_
        refine end1c rfl ua43 rfl hB2 (hv_sz sz43 _) ?_
        exact ⟨by rw [hpF.st]; rfl, hX⟩
theorem sha_Sum (xs : List UInt8) (B : Nat) (p : Option Addr) (n c : Nat) (w : World) (hl : Sl kByte 5 B w p n c xs) (hn : n ≤ 10000000000000) (hBw : B ≤ w.heap.size) (hrt : Rt w) (hbt : Bt w) (h4 : 4 < w.heap.size) :
    Ret Tryd.prog 28 [.slice p n c] w (fun v w' => v = .agg (hv (shaF xs)) ∧ Ext w w') := by
  have hX := Ext.refl w
  refine enter 10 _ Tryd.func28 rfl rfl (Nat.le_of_ble_eq_true rfl) rfl ?_
  refine c_seq ?_
  refine r_plain ?_
  refine o_alloc zr43 ?_
  intro w1 g2 hN2
  have hE1 := hN2.ext
  have hX := hX.ext hE1
  have hB2 := hN2.blk
  refine r_nil ?_
  refine t_n ?_
  refine c_seq ?_
  refine r_plain ?_
  have l2 := hB2.lt
  have sX := hX.size
  refine o_call Tryd.func43 fn43 fb43 (sha_New _ (hbt.ext hX)) rfl ?_
  rintro v2 w2 ⟨⟨gh, rfl, hgh, hHs⟩, hE2⟩
  have hX := hX.ext hE2
  have hB2 := hB2.ext hE2
  refine p1 (x_assign (by conv => lhs; whnf)) ?_
  refine r_nil ?_
  refine t_n ?_
  refine c_seq ?_
  refine r_plain ?_
  refine p1 (x_move (by conv => lhs; whnf)) ?_
  refine p1 (x_move (by conv => lhs; whnf)) ?_
  refine o_call Tryd.func44 fn44 fb44 (sha_Write [] xs 5 B gh _ _ _ _ hHs (hl.ext hX) (by decide) (by omega) (by simp; omega) (hrt.ext hX) (by omega)) rfl ?_
  rintro v3 w3 ⟨hHs, hM3⟩
  have hX := hM3.extTo hX (by omega)
  have hB2 := hB2.but hM3 (.inl (by omega))
  rw [List.nil_append] at hHs
  refine r_nil ?_
  refine t_n ?_
  refine c_seq ?_
  refine r_plain ?_
  refine p1 (x_move (by conv => lhs; whnf)) ?_
  refine o_call Tryd.func45 fn45 fb45 (sha_HSum xs gh _ hHs (by have := hl.len; omega) (hrt.ext hX) (by have := hX.size; omega)) rfl ?_
  rintro v4 w4 ⟨rfl, hE4⟩
  have hX := hX.ext hE4
  have hB2 := hB2.ext hE4
  have hHs := hHs.ext hE4
  refine o_storeAll rfl rfl (kHash_one _) (hv_sz sz43 _) hB2 (hv_size _) ?_
  intro w5 hP5
  have hX := hX.put hP5 (by have e2 := hN2.g_eq; omega)
  have hB2 := hP5.blk
  have hHs := hHs.keep hP5 (by omega)
  refine r_nil ?_
  refine t_n ?_
  refine c_ret ?_
  refine end1c rfl ua43 rfl hB2 (hv_sz sz43 _) ?_
  exact ⟨rfl, hX⟩
end Go.Proofs.Eng
end
section
set_option linter.unusedVariables false
set_option linter.unusedSimpArgs false
set_option maxRecDepth 100000
set_option maxHeartbeats 4000000
namespace Go.Proofs.Eng
open Go.RowKit
open Extern.Stop (cell)
theorem fb29 : Tryd.f29.body.isNone = false := by kernel_rfl
theorem fb30 : Tryd.f30.body.isNone = false := by kernel_rfl
theorem fn29 : (Tryd.f29.name == "runtime.NumGoroutine") = false := by kernel_rfl
theorem fn30 : (Tryd.f30.name == "runtime.NumGoroutine") = false := by kernel_rfl
end Go.Proofs.Eng
end
section
set_option linter.unusedVariables false
set_option linter.unusedSimpArgs false
set_option maxRecDepth 100000
set_option maxHeartbeats 4000000
namespace Go.Proofs.Eng
open Go.RowKit
open Extern.Stop (cell)
theorem ref01_padded (xs : List UInt8) (B : Nat) (p : Option Addr) (n c : Nat) (w : World) (hl : Sl kByte 5 B w p n c xs) (hn : n ≤ 10000000000000) :
    Ret Tryd.prog 29 [.slice p n c] w (fun v w' => (∃ q m c', v = .slice q m c' ∧ Own kByte 5 0 w.heap.size w' q m c' (padF xs)) ∧ Ext w w') := by
  have hX := Ext.refl w
  refine enter 37 _ Tryd.func29 rfl rfl (Nat.le_of_ble_eq_true rfl) rfl ?_
  refine c_seq ?_
  refine r_plain ?_
  refine p1 (x_assign (by conv => lhs; whnf)) ?_
  refine r_nil ?_
  refine t_n ?_
  refine c_seq ?_
  refine r_plain ?_
  refine p1 (x_assign (by conv => lhs; whnf)) ?_
  refine r_nil ?_
  refine t_n ?_
  refine c_seq ?_
  refine r_plain ?_
  have hlen := hl.len
  refine p1 (x_move (by conv => lhs; whnf)) ?_
  refine p1 (x_move (by conv => lhs; whnf)) ?_
  have hO : Own kByte 5 0 w.heap.size w none 0 0 [] := Own.nil _ _ _ _ _
  have hB0 := hX.size
  have hl2 := hl.ext hX
  refine o_append (d := kByte) (xs) u27 inf5 rfl kByte_pos rfl rfl hO (src_sl u27 hl2) hl2.len (byte_all _ _ _) (flat_single _) (by omega) (by omega) (by omega) (by omega) (by decide) ?_
  intro p8 c8 w1 hO hM1
  have hX := hX.mod hM1 (Nat.le_refl _)
  rw [List.nil_append] at hO
  refine o_buildSlice u27 inf5 rfl (by decide) (fun base hb => fill_one (by rfl) base hb) ?_
  intro w2 g9 hN9
  have hE2 := hN9.ext
  have hX := hX.ext hE2
  have hO := hO.ext hE2
  have hJ := one_made (b := 128) hN9 (B0 := 0) (Nat.zero_le _)
  have hB1 := hX.size
  refine o_append (d := kByte) ([128]) u27 inf5 rfl kByte_pos rfl rfl hO (src_sl u27 hJ.sl) rfl (byte_all _ _ _) (flat_single _) (by omega) (by omega) (by omega) (by omega) (by decide) ?_
  intro p10 c10 w3 hO hM3
  have hX := hX.mod hM3 (Nat.le_refl _)
  refine p1 (x_assign (by conv => lhs; whnf)) ?_
  refine r_nil ?_
  refine t_n ?_
  refine c_seq ?_
  refine c_block ?_
  refine c_loop (ι := Option Addr × Nat × Nat) [3, 11, 12, 13, 14, 15, 16, 17] (fun (q, d, j) => [(3, .slice q (0 + n + 1 + j) d)]) (fun (q, d, j) w' => Ext w w' ∧ (j ≤ padZ n ∧ Own kByte 5 0 w.heap.size w' q (0 + n + 1 + j) d (xs ++ [128] ++ List.replicate j 0))) (fun (q, d, j) => padZ n - j) ((p10, c10, 0)) ⟨rfl, trivial⟩ ⟨hX, ⟨by omega, by rw [List.replicate_zero, List.append_nil]; exact hO⟩⟩ ?_
  rintro ⟨q, d, j⟩ GL0 w4 ⟨hE4, hj, hO⟩
  have hX := hE4
  have hpm := padZ_mod n
  have hpz := padZ_le n
  have hol := hO.len
  refine c_seq ?_
  refine c_seq ?_
  refine r_plain ?_
  refine p1 (x_move (by conv => lhs; whnf)) ?_
  refine p1 (x_len_slice u27 rfl) ?_
  refine p1 ((x_rem rfl rfl (by omega) (by omega)).cast (congrArg _ (by omega : (((0 + n + 1 + j : Nat) : Int) % 64) = (((0 + n + 1 + j) % 64 : Nat) : Int)))) ?_
  refine p1 (x_neq rfl rfl) ?_
  refine r_nil ?_
  refine t_n ?_
  first | refine c_dec rfl (fun hc14 => ?_) (fun hc14 => ?_) | refine c_if rfl (fun hc14 => ?_) (fun hc14 => ?_)
  · try simp only [decide_eq_true_eq, decide_eq_false_iff_not, Bool.not_eq_true, Bool.not_eq_false, Bool.not_eq_eq_eq_not, Bool.not_true, Bool.not_false, Int.not_lt, Int.not_le] at hc14
    have hjlt : j < padZ n := by omega
    refine c_skip ?_
    refine t_n ?_
    refine c_block ?_
    refine r_plain ?_
    refine p1 (x_move (by conv => lhs; whnf)) ?_
    refine o_buildSlice u27 inf5 rfl (by decide) (fun base hb => fill_one (by rfl) base hb) ?_
    intro w5 g16 hN16
    have hE5 := hN16.ext
    have hX := hX.ext hE5
    have hO := hO.ext hE5
    have hJ := one_made (b := 0) hN16 (B0 := 0) (Nat.zero_le _)
    have hB1 := hX.size
    refine o_append (d := kByte) ([0]) u27 inf5 rfl kByte_pos rfl rfl hO (src_sl u27 hJ.sl) rfl (byte_all _ _ _) (flat_single _) (by omega) (by omega) (by omega) (by omega) (by decide) ?_
    intro p17 c17 w6 hO hM6
    have hX := hX.mod hM6 (Nat.le_refl _)
    rw [List.append_assoc, ← List.replicate_succ'] at hO
    refine p1 (x_assign (by conv => lhs; whnf)) ?_
    refine r_nil ?_
    refine b_n ?_
    refine t_n (At.mk ((p17, c17, j + 1)) (by repeat (first | exact Agr.refl _ _ | exact Agr.hav _ _ _ | refine Agr.upd rfl ?_ | refine Agr.updR rfl ?_ | refine Agr.updL ?_ _ rfl | refine Agr.hav' rfl ?_)) ⟨rfl, trivial⟩ ?_)
    exact ⟨⟨hX, ⟨by omega, hO⟩⟩, by first | (dsimp only; omega) | ((show _ < _); omega)⟩
  · try simp only [decide_eq_true_eq, decide_eq_false_iff_not, Bool.not_eq_true, Bool.not_eq_false, Bool.not_eq_eq_eq_not, Bool.not_true, Bool.not_false, Int.not_lt, Int.not_le] at hc14
    have hje : j = padZ n := Classical.byContradiction fun h => padZ_lt (n := n) (j := j) (by omega) (by omega)
    subst hje
    refine c_exit ?_
    refine t_e ?_
    refine t_e ?_
    refine b_hit ?_
    refine t_n ?_
    refine c_seq ?_
    refine r_plain ?_
    refine p1 (x_move (by conv => lhs; whnf)) ?_
    refine p1 (x_len_slice u27 rfl) ?_
    refine p1 (x_convf u71 us3 rfl (fits_u64 (by omega) (by omega))) ?_
    refine p1 ((x_mul rfl rfl (fits_u64 (by omega) (by omega))).cast (congrArg _ (by omega : ((n : Nat) : Int) * 8 = ((n * 8 : Nat) : Int)))) ?_
    refine p1 (x_assign (by conv => lhs; whnf)) ?_
    refine r_nil ?_
    refine t_n ?_
    refine c_seq ?_
    refine c_seq ?_
    refine r_plain ?_
    refine p1 (x_assign (by conv => lhs; whnf)) ?_
    refine r_nil ?_
    refine t_n ?_
    refine c_block ?_
    refine c_loop (ι := Option Addr × Nat × Nat) [3, 5, 22, 23, 24, 25, 26, 27, 28, 29, 30, 31, 32, 33, 34, 35] (fun (q, d, i) => [(3, .slice q (0 + n + 1 + padZ n + i) d), (5, .int .i64 (i : Int))]) (fun (q, d, i) w' => Ext w w' ∧ (i ≤ 8 ∧ Own kByte 5 0 w.heap.size w' q (0 + n + 1 + padZ n + i) d (xs ++ [128] ++ List.replicate (padZ n) 0 ++ (be8 n).take i))) (fun (q, d, i) => 8 - i) ((q, d, 0)) ⟨rfl, rfl, trivial⟩ ⟨hX, ⟨by omega, by rw [List.take_zero, List.append_nil]; exact hO⟩⟩ ?_
    rintro ⟨q, d, i⟩ GL2 w7 ⟨hE7, hi, hO⟩
    have hX := hE7
    have hpz2 := padZ_le n
    have hol2 := hO.len
    refine c_seq ?_
    refine c_seq ?_
    refine r_plain ?_
    refine p1 (x_move (by conv => lhs; whnf)) ?_
    refine p1 (x_lss rfl rfl) ?_
    refine r_nil ?_
    refine t_n ?_
    first | refine c_dec rfl (fun hc23 => ?_) (fun hc23 => ?_) | refine c_if rfl (fun hc23 => ?_) (fun hc23 => ?_)
    · try simp only [decide_eq_true_eq, decide_eq_false_iff_not, Bool.not_eq_true, Bool.not_eq_false, Bool.not_eq_eq_eq_not, Bool.not_true, Bool.not_false, Int.not_lt, Int.not_le] at hc23
      refine c_skip ?_
      refine t_n ?_
      refine c_seq ?_
      refine c_block ?_
      refine r_plain ?_
      refine p1 (x_move (by conv => lhs; whnf)) ?_
      refine p1 (x_move (by conv => lhs; whnf)) ?_
      refine p1 (x_move (by conv => lhs; whnf)) ?_
      refine p1 (x_mul rfl rfl (fits_i64 (by omega) (by omega))) ?_
      refine p1 (x_sub rfl rfl (fits_i64 (by omega) (by omega))) ?_
      refine p1 (x_convf u67 us3 rfl (fits_u64 (by omega) (by omega))) ?_
      refine p1 (x_shr rfl rfl (by omega)) ?_
      refine p1 ((x_conv u5 us71 rfl).cast (congrArg _ (wrapI _))) ?_
      refine o_buildSlice u27 inf5 rfl (by decide) (fun base hb => fill_one (by rfl) base hb) ?_
      intro w8 g34 hN34
      have hE8 := hN34.ext
      have hX := hX.ext hE8
      have hO := hO.ext hE8
      have hJ := one_made (b := beB n i) hN34 (B0 := 0) (Nat.zero_le _)
      have hB1 := hX.size
      refine o_append (d := kByte) ([beB n i]) u27 inf5 rfl kByte_pos rfl rfl hO (src_sl u27 hJ.sl) rfl (byte_all _ _ _) (flat_single _) (by omega) (by omega) (by omega) (by omega) (by decide) ?_
      intro p35 c35 w9 hO hM9
      have hX := hX.mod hM9 (Nat.le_refl _)
      rw [List.append_assoc, be8_take n (by omega)] at hO
      refine p1 (x_assign (by conv => lhs; whnf)) ?_
      refine r_nil ?_
      refine b_n ?_
      refine t_n ?_
      refine r_plain ?_
      refine p1 (x_move (by conv => lhs; whnf)) ?_
      refine p1 (x_add rfl rfl (fits_i64 (by omega) (by omega))) ?_
      refine p1 (x_assign (by conv => lhs; whnf)) ?_
      refine r_nil ?_
      refine t_n (At.mk ((p35, c35, i + 1)) (by repeat (first | exact Agr.refl _ _ | exact Agr.hav _ _ _ | refine Agr.upd rfl ?_ | refine Agr.updR rfl ?_ | refine Agr.updL ?_ _ rfl | refine Agr.hav' rfl ?_)) ⟨rfl, rfl, trivial⟩ ?_)
      exact ⟨⟨hX, ⟨by omega, hO⟩⟩, by first | (dsimp only; omega) | ((show _ < _); omega)⟩
    · try simp only [decide_eq_true_eq, decide_eq_false_iff_not, Bool.not_eq_true, Bool.not_eq_false, Bool.not_eq_eq_eq_not, Bool.not_true, Bool.not_false, Int.not_lt, Int.not_le] at hc23
      have h8 : i = 8 := by omega
      subst h8
      rw [List.take_of_length_le (by rw [be8_len]; omega)] at hO
      refine c_exit ?_
      refine t_e ?_
      refine t_e ?_
      refine b_hit ?_
      refine t_n ?_
      refine c_seq ?_
      refine r_plain ?_
      refine p1 (x_move (by conv => lhs; whnf)) ?_
      refine p1 (x_assign (by conv => lhs; whnf)) ?_
      refine r_nil ?_
      refine t_n ?_
      refine c_ret ?_
      refine end1 rfl (by conv => lhs; whnf) ?_
      exact ⟨⟨_, _, _, rfl, by rw [padF, hlen]; exact hO⟩, hX⟩
theorem ref01_Sum (xs : List UInt8) (B : Nat) (p : Option Addr) (n c : Nat) (w : World) (hl : Sl kByte 5 B w p n c xs) (hn : n ≤ 10000000000000) :
    Ret Tryd.prog 20 [.slice p n c] w (fun v w' => v = .agg (hv (shaF xs)) ∧ Ext w w') := by
  have hX := Ext.refl w
  refine enter 42 _ Tryd.func20 rfl rfl (Nat.le_of_ble_eq_true rfl) rfl ?_
  refine c_seq ?_
  refine r_plain ?_
  refine o_alloc zr43 ?_
  intro w1 g2 hN2
  have hE1 := hN2.ext
  have hX := hX.ext hE1
  have hB2 := hN2.blk
  refine r_nil ?_
  refine t_n ?_
  refine c_seq ?_
  refine r_plain ?_
  have e2 := hN2.g_eq
  have l2 := hB2.lt
  have hB2 : Blk _ g2 (bcs (List.replicate 32 0)) 43 := hB2
  refine p1 (x_build8 s0W rfl) ?_
  refine o_alloc zr64 ?_
  intro w2 g3 hN3
  have hE2 := hN3.ext
  have hX := hX.ext hE2
  have hB2 := hB2.ext hE2
  have hB3 := hN3.blk
  have e3 := hN3.g_eq
  have sX := hX.size
  have h23 : g2 < g3 := by omega
  refine o_storeAll rfl (by conv => lhs; whnf) (wds_one _) (by rw [wds_size]; exact sz64) hB3 (by rfl) ?_
  intro w3 hP3
  have hX := hX.put hP3 (by omega)
  have hB2 := hP3.keep hB2 (by omega)
  have hB3 := hP3.blk
  refine r_nil ?_
  refine t_n ?_
  refine c_seq ?_
  refine r_plain ?_
  refine p1 (x_move (by conv => lhs; whnf)) ?_
  refine o_call Tryd.func29 fn29 fb29 (ref01_padded xs _ _ _ _ _ (hl.ext hX) hn) rfl ?_
  rintro v4 w4 ⟨⟨qp, mp, cp, rfl, hP⟩, hE4⟩
  have hX := hX.ext hE4
  have hB2 := hB2.ext hE4
  have hB3 := hB3.ext hE4
  have hPs := hP.sl
  have hPl : (padF xs).length = mp := hP.len
  have hpm := padF_mod xs
  have hlen := hl.len
  have hpl := padF_len xs
  have hpz := padZ_le xs.length
  have hpc := hPs.cap
  have hpf := hPs.fit
  refine p1 (x_assign (by conv => lhs; whnf)) ?_
  refine r_nil ?_
  refine t_n ?_
  refine c_seq ?_
  refine c_seq ?_
  refine r_plain ?_
  refine p1 (x_assign (by conv => lhs; whnf)) ?_
  refine r_nil ?_
  refine t_n ?_
  refine c_block ?_
  refine c_loop (ι := Nat) [5, 11, 12, 13, 14, 15, 16, 17, 18, 19, 20, 21, 22, 23] (fun m => [(5, .int .i64 ((64 * m : Nat) : Int))]) (fun m w' => Ext w w' ∧ (64 * m ≤ mp ∧ Blk w' g2 (bcs (List.replicate 32 0)) 43 ∧ Blk w' g3 (wds (stN (padF xs) m).l) 64 ∧ Sl kByte 5 0 w' qp mp cp (padF xs))) (fun m => mp - 64 * m) (0) ⟨rfl, trivial⟩ ⟨hX, ⟨by omega, hB2, hB3, hPs⟩⟩ ?_
  rintro m GL0 w5 ⟨hE5, hm, hB2, hB3, hPs⟩
  have hX := hE5
  refine c_seq ?_
  refine c_seq ?_
  refine r_plain ?_
  refine p1 (x_move (by conv => lhs; whnf)) ?_
  refine p1 (x_move (by conv => lhs; whnf)) ?_
  refine p1 (x_len_slice u27 rfl) ?_
  refine p1 (x_lss rfl rfl) ?_
  refine r_nil ?_
  refine t_n ?_
  first | refine c_dec rfl (fun hc14 => ?_) (fun hc14 => ?_) | refine c_if rfl (fun hc14 => ?_) (fun hc14 => ?_)
  · try simp only [decide_eq_true_eq, decide_eq_false_iff_not, Bool.not_eq_true, Bool.not_eq_false, Bool.not_eq_eq_eq_not, Bool.not_true, Bool.not_false, Int.not_lt, Int.not_le] at hc14
    refine c_skip ?_
    refine t_n ?_
    refine c_seq ?_
    refine c_block ?_
    refine r_tail 6 mixed (by kernel_rfl) ?_
    intro w6 hE6
    have hX := hX.ext hE6
    have hB2 := hB2.ext hE6
    have hB3 := hB3.ext hE6
    have hPs := hPs.ext hE6
    refine s1 (x_loadB ua64 rfl hB3 (by rw [wds_size]; exact sz64)) ?_
    refine s1 (x_move (by conv => lhs; whnf)) ?_
    refine s1 (x_move (by conv => lhs; whnf)) ?_
    refine s1 (x_move (by conv => lhs; whnf)) ?_
    refine s1 ((x_add rfl rfl (fits_i64 (by omega) (by omega))).cast (congrArg _ (by omega : ((64 * m : Nat) : Int) + 64 = ((64 * m + 64 : Nat) : Int)))) ?_
    refine s1 ((x_slice_lhN u27 sz5 rfl rfl rfl (by omega) (by omega)).cast (by rw [show 64 * m + 64 - 64 * m = 64 by omega])) ?_
    refine s_nil ?_
    refine o_call Tryd.func30 fn30 fb30 (ref01_block (stN (padF xs) m) (((padF xs).drop (64 * m)).take 64) _ _ _ _ ((hPs.dropI (64 * m) (by omega)).take 64 (by omega))) rfl ?_
    rintro v7 w7 ⟨rfl, hE7⟩
    have hX := hX.ext hE7
    have hB2 := hB2.ext hE7
    have hB3 := hB3.ext hE7
    have hPs := hPs.ext hE7
    refine o_storeAll rfl (by conv => lhs; whnf) (wds_one _) (by rw [wds_size]; exact sz64) hB3 (by rfl) ?_
    intro w8 hP8
    have hX := hX.put hP8 (by omega)
    have hB2 := hP8.keep hB2 (by omega)
    have hB3 := hP8.blk
    have hPs := hPs.but (But.ofPut hP8) (Nat.zero_le _) (by simp [kByte, Kind.pure])
    refine r_nil ?_
    refine b_n ?_
    refine t_n ?_
    refine r_plain ?_
    refine p1 (x_move (by conv => lhs; whnf)) ?_
    refine p1 ((x_add rfl rfl (fits_i64 (by omega) (by omega))).cast (congrArg _ (by omega : ((64 * m : Nat) : Int) + 64 = ((64 * (m + 1) : Nat) : Int)))) ?_
    refine p1 (x_assign (by conv => lhs; whnf)) ?_
    refine r_nil ?_
    refine t_n (At.mk (m + 1) (by repeat (first | exact Agr.refl _ _ | exact Agr.hav _ _ _ | refine Agr.upd rfl ?_ | refine Agr.updR rfl ?_ | refine Agr.updL ?_ _ rfl | refine Agr.hav' rfl ?_)) ⟨rfl, trivial⟩ ?_)
    exact ⟨⟨hX, ⟨by omega, hB2, hB3, hPs⟩⟩, by first | (dsimp only; omega) | ((show _ < _); omega)⟩
  · try simp only [decide_eq_true_eq, decide_eq_false_iff_not, Bool.not_eq_true, Bool.not_eq_false, Bool.not_eq_eq_eq_not, Bool.not_true, Bool.not_false, Int.not_lt, Int.not_le] at hc14
    have hme : m = (padF xs).length / 64 := by omega
    refine c_exit ?_
    refine t_e ?_
    refine t_e ?_
    refine b_hit ?_
    refine t_n ?_
    refine c_seq ?_
    refine r_plain ?_
    have sX7 := hX.size
    have l3 := hB3.lt
    refine o_alloc zr43 ?_
    intro w9 g6 hN6
    have hE9 := hN6.ext
    have hX := hX.ext hE9
    have hB2 := hB2.ext hE9
    have hB3 := hB3.ext hE9
    have hPs := hPs.ext hE9
    have hB6 := hN6.blk
    refine r_nil ?_
    refine t_n ?_
    refine c_seq ?_
    refine c_seq ?_
    refine r_plain ?_
    have e6 := hN6.g_eq
    have h36 : g3 < g6 := by omega
    have hB6 : Blk _ g6 (bcs (List.replicate 32 0)) 43 := hB6
    obtain ⟨sF, hsF⟩ : ∃ s, s = stN (padF xs) m := ⟨_, rfl⟩
    rw [← hsF] at hB3
    refine p1 (x_assign (by conv => lhs; whnf)) ?_
    refine r_nil ?_
    refine t_n ?_
    refine c_block ?_
    refine c_loop (ι := Nat) [7, 24, 25, 26, 27, 28, 29, 30, 31, 32, 33, 34, 35, 36, 37, 38, 39, 40] (fun i => [(7, .int .i64 (i : Int))]) (fun i w' => Ext w w' ∧ (i ≤ 32 ∧ Blk w' g2 (bcs (List.replicate 32 0)) 43 ∧ Blk w' g3 (wds sF.l) 64 ∧ Blk w' g6 (bcs (setB (ouB sF) (List.replicate 32 0) i)) 43)) (fun i => 32 - i) (0) ⟨rfl, trivial⟩ ⟨hX, ⟨by omega, hB2, hB3, hB6⟩⟩ ?_
    rintro i GL2 w10 ⟨hE10, hi, hB2, hB3, hB6⟩
    have hX := hE10
    refine c_seq ?_
    refine c_seq ?_
    refine r_plain ?_
    refine p1 (x_move (by conv => lhs; whnf)) ?_
    refine p1 (x_lss rfl rfl) ?_
    refine r_nil ?_
    refine t_n ?_
    first | refine c_dec rfl (fun hc25 => ?_) (fun hc25 => ?_) | refine c_if rfl (fun hc25 => ?_) (fun hc25 => ?_)
    · try simp only [decide_eq_true_eq, decide_eq_false_iff_not, Bool.not_eq_true, Bool.not_eq_false, Bool.not_eq_eq_eq_not, Bool.not_true, Bool.not_false, Int.not_lt, Int.not_le] at hc25
      refine c_skip ?_
      refine t_n ?_
      refine c_seq ?_
      refine c_block ?_
      refine r_plain ?_
      refine p1 (x_move (by conv => lhs; whnf)) ?_
      refine p1 (x_move (by conv => lhs; whnf)) ?_
      refine p1 ((x_quo rfl rfl (by omega) (by omega) (fits_i64 (by omega) (by omega))).cast (congrArg _ (by omega : ((i : Nat) : Int) / 4 = ((i / 4 : Nat) : Int)))) ?_
      refine p1 (x_ixa0 (i := i / 4) u64 sz63 rfl rfl (by omega)) ?_
      refine p1 (x_load1 un63 rfl (hB3.cell (wds_get (by rw [W8.len]; omega)))) ?_
      refine p1 (x_move (by conv => lhs; whnf)) ?_
      refine p1 ((x_rem rfl rfl (by omega) (by omega)).cast (congrArg _ (by omega : ((i : Nat) : Int) % 4 = ((i % 4 : Nat) : Int)))) ?_
      refine p1 (x_mul rfl rfl (fits_i64 (by omega) (by omega))) ?_
      refine p1 (x_sub rfl rfl (fits_i64 (by omega) (by omega))) ?_
      refine p1 (x_convf u67 us3 rfl (fits_u64 (by omega) (by omega))) ?_
      refine p1 (x_shr rfl rfl (by omega)) ?_
      refine p1 ((x_conv u5 us63 rfl).cast (congrArg _ (wrapI _))) ?_
      refine p1 (x_ixa0 u43 sz5 rfl rfl (by omega)) ?_
      refine o_store1 rfl (by conv => lhs; whnf) rfl rfl sz5 hB6 (by rw [bcs_size, setB_len, List.length_replicate]; omega) ?_
      intro w11 hP11
      have hX := hX.put hP11 (by omega)
      have hB2 := hP11.keep hB2 (by omega)
      have hB3 := hP11.keep hB3 (by omega)
      have hB6 := hP11.blk
      rw [bcs_set] at hB6
      refine r_nil ?_
      refine b_n ?_
      refine t_n ?_
      refine r_plain ?_
      refine p1 (x_move (by conv => lhs; whnf)) ?_
      refine p1 (x_add rfl rfl (fits_i64 (by omega) (by omega))) ?_
      refine p1 (x_assign (by conv => lhs; whnf)) ?_
      refine r_nil ?_
      refine t_n (At.mk (i + 1) (by repeat (first | exact Agr.refl _ _ | exact Agr.hav _ _ _ | refine Agr.upd rfl ?_ | refine Agr.updR rfl ?_ | refine Agr.updL ?_ _ rfl | refine Agr.hav' rfl ?_)) ⟨rfl, trivial⟩ ?_)
      exact ⟨⟨hX, ⟨by omega, hB2, hB3, hB6⟩⟩, by first | (dsimp only; omega) | ((show _ < _); omega)⟩
    · try simp only [decide_eq_true_eq, decide_eq_false_iff_not, Bool.not_eq_true, Bool.not_eq_false, Bool.not_eq_eq_eq_not, Bool.not_true, Bool.not_false, Int.not_lt, Int.not_le] at hc25
      have h32 : i = 32 := by omega
      subst h32
      rw [setB_eq _ _ 32 (by simp), List.drop_of_length_le (by simp), List.append_nil] at hB6
      have hB6 : Blk _ g6 (hv (outH sF)) 43 := hB6
      refine c_exit ?_
      refine t_e ?_
      refine t_e ?_
      refine b_hit ?_
      refine t_n ?_
      refine c_seq ?_
      refine r_plain ?_
      refine p1 (x_loadB ua43 rfl hB6 (hv_sz sz43 _)) ?_
      refine o_storeAll rfl rfl (kHash_one _) (hv_sz sz43 _) hB2 (by rw [hv_size]; simp [bcs_size]) ?_
      intro w12 hP12
      have hX := hX.put hP12 (by omega)
      have hB2 := hP12.blk
      have hB3 := hP12.keep hB3 (by omega)
      have hB6 := hP12.keep hB6 (by omega)
      refine r_nil ?_
      refine t_n ?_
      refine c_ret ?_
      refine end1c rfl ua43 rfl hB2 (hv_sz sz43 _) ?_
      exact ⟨by rw [hsF, hme]; rfl, hX⟩
end Go.Proofs.Eng
end
section
set_option linter.unusedVariables false
set_option linter.unusedSimpArgs false
set_option maxRecDepth 100000
set_option maxHeartbeats 4000000
namespace Go.Proofs.Eng
open Go.RowKit
open Extern.Stop (cell)
theorem eg43 : Tryd.prog.eqGuardType Tryd.prog.depth 43 = false := by kernel_rfl
theorem fb18 : Tryd.f18.body.isNone = false := by kernel_rfl
theorem fb19 : Tryd.f19.body.isNone = false := by kernel_rfl
theorem fb20 : Tryd.f20.body.isNone = false := by kernel_rfl
theorem fb28 : Tryd.f28.body.isNone = false := by kernel_rfl
theorem fn18 : (Tryd.f18.name == "runtime.NumGoroutine") = false := by kernel_rfl
theorem fn19 : (Tryd.f19.name == "runtime.NumGoroutine") = false := by kernel_rfl
theorem fn20 : (Tryd.f20.name == "runtime.NumGoroutine") = false := by kernel_rfl
theorem fn28 : (Tryd.f28.name == "runtime.NumGoroutine") = false := by kernel_rfl
theorem u4 : Tryd.prog.underlying 4 = some (.bool) := by kernel_rfl
end Go.Proofs.Eng
end
section
set_option linter.unusedVariables false
set_option linter.unusedSimpArgs false
set_option maxRecDepth 100000
set_option maxHeartbeats 4000000
namespace Go.Proofs.Eng
open Go.RowKit
open Extern.Stop (cell)
theorem segment_Find (xs : List UInt8) (B : Nat) (p : Option Addr) (n c : Nat) (w : World) (hl : Sl kByte 5 B w p n c xs) (h : Hash) (hq : Qt w) (hBw : B ≤ w.heap.size) (hn : n ≤ 100000000) (hrt : Rt w) (hbt : Bt w) :
    Ret Tryd.prog 18 [.slice p n c, .agg (hv h)] w (fun v w' => (∃ (q : Option Addr) (m c' : Nat), v = .tuple #[.slice q m c', .bool (findF (getF xs).1 h).isSome] ∧ Sl kByte 5 0 w' q m c' ((findF (getF xs).1 h).getD [])) ∧ Ext w w') := by
  have hX := Ext.refl w
  refine enter 39 _ Tryd.func18 rfl rfl (Nat.le_of_ble_eq_true rfl) rfl ?_
  refine c_seq ?_
  refine r_plain ?_
  refine o_boxA (by conv => lhs; whnf) ?_
  intro w1 g3 hN3
  have hE1 := hN3.ext
  have hX := hX.ext hE1
  have hB3 := hN3.blk
  refine p1 (x_assign (by conv => lhs; whnf)) ?_
  refine p1 (x_assign (by conv => lhs; whnf)) ?_
  refine r_nil ?_
  refine t_n ?_
  refine c_scope ?_
  refine c_seq ?_
  refine r_plain ?_
  refine p1 (x_move (by conv => lhs; whnf)) ?_
  have sX := hX.size
  refine o_call Tryd.func15 fn15 fb15 (segment_Get xs _ _ _ _ _ (hl.ext hX) (hq.ext hX) (Nat.le_trans hBw sX) hn) rfl ?_
  rintro v2 w2 ⟨⟨qg, mg, cg, rfl, hG⟩, hE2⟩
  have hX := hX.ext hE2
  have hB3 := hB3.ext hE2
  have hGl : (getF xs).1.length = mg := hG.len
  have hgc := hG.sl.cap
  have hgf := hG.sl.fit
  refine p1 (x_move (by conv => lhs; whnf)) ?_
  refine p1 (x_extract rfl rfl) ?_
  refine p1 (x_extract rfl rfl) ?_
  refine p1 (x_assign (by conv => lhs; whnf)) ?_
  refine p1 (x_assign (by conv => lhs; whnf)) ?_
  refine r_nil ?_
  refine t_n ?_
  refine c_seq ?_
  refine r_plain ?_
  refine p1 (x_move (by conv => lhs; whnf)) ?_
  refine p1 (x_len_slice u26 rfl) ?_
  refine p1 (x_assign (by conv => lhs; whnf)) ?_
  refine r_nil ?_
  refine t_n ?_
  refine c_seq ?_
  refine c_label ?_
  refine t_n ?_
  refine c_seq ?_
  refine c_seq ?_
  refine r_plain ?_
  refine p1 (x_move (by conv => lhs; whnf)) ?_
  refine p1 (x_len_slice u26 rfl) ?_
  refine p1 (x_move (by conv => lhs; whnf)) ?_
  refine r_nil ?_
  refine t_n ?_
  have hWcut0 := Ext.refl w2
  refine c_cut (ι := Nat) [8, 9, 10, 20, 21, 22, 23, 24, 25, 26, 27, 28, 29, 30] (fun a => [(8, .int .i64 (a : Int))]) (fun a w' => Ext w2 w' ∧ ((a < mg ∧ shaF ((getF xs).1.getD a []) = h ∧ ∀ j, j < a → shaF ((getF xs).1.getD j []) ≠ h) ∨ (a = mg ∧ ∀ j, j < mg → shaF ((getF xs).1.getD j []) ≠ h))) ?_ ?_
  · refine c_block ?_
    have hWL0 := Ext.refl w2
    refine c_loop (ι := Nat) [8, 9, 10, 20, 21, 22, 23, 24, 25, 26, 27, 28, 29, 30] (fun i => [(8, .int .i64 (mg : Int)), (20, .int .i64 (i : Int))]) (fun i w' => Ext w2 w' ∧ (i ≤ mg ∧ (∀ j, j < i → shaF ((getF xs).1.getD j []) ≠ h))) (fun i => mg - i) (0) ⟨rfl, rfl, trivial⟩ ⟨Ext.refl _, ⟨by omega, fun j hj => absurd hj (Nat.not_lt_zero _)⟩⟩ ?_
    rintro i GL0 w4 ⟨hE4, hi, hno⟩
    have hX := hX.ext hE4
    have hB3 := hB3.ext hE4
    have hG := hG.ext hE4
    have hWcut0 := hWcut0.ext hE4
    have hWL0 := hE4
    refine c_seq ?_
    refine r_plain ?_
    refine p1 (x_lss rfl rfl) ?_
    refine r_nil ?_
    refine t_n ?_
    refine c_seq ?_
    first | refine c_dec rfl (fun hc21 => ?_) (fun hc21 => ?_) | refine c_if rfl (fun hc21 => ?_) (fun hc21 => ?_)
    · try simp only [decide_eq_true_eq, decide_eq_false_iff_not, Bool.not_eq_true, Bool.not_eq_false, Bool.not_eq_eq_eq_not, Bool.not_true, Bool.not_false, Int.not_lt, Int.not_le] at hc21
      have hgl := getF_le xs i
      obtain ⟨qa, ma, ca, hca, hra⟩ := hG.sl.obAt i (by omega)
      have hral := hra.len
      refine c_skip ?_
      refine t_n ?_
      refine c_seq ?_
      refine c_block ?_
      refine c_seq ?_
      refine r_plain ?_
      refine p1 (x_move (by conv => lhs; whnf)) ?_
      refine p1 (x_ixs0 u26 sz27 rfl rfl (hG.sl.adr kOb_pos (by omega)) (by omega)) ?_
      refine p1 (x_load1 un27 rfl hca) ?_
      refine p1 (x_assign (by conv => lhs; whnf)) ?_
      refine p1 (x_assign (by conv => lhs; whnf)) ?_
      refine r_nil ?_
      refine t_n ?_
      refine c_seq ?_
      refine r_held (fun w1 w2 => Ext w1 w2) mixed ?_
      intro w5 hE5
      have hX := hX.ext hE5
      have hB3 := hB3.ext hE5
      have hG := hG.ext hE5
      have hWcut0 := hWcut0.ext hE5
      have hWL0 := hWL0.ext hE5
      have hSr6 : (fun w1 w2 => Ext w1 w2) w5 w5 := Ext.refl w5
      have hra2 := hra.ext (hE5)
      refine h_take 0 rfl (by kernel_rfl) (by kernel_rfl) (by kernel_rfl) hSr6 (fun wS hSS => by (have hX := hX.ext hSS; have hB3 := hB3.ext hSS; have hG := hG.ext hSS; have hWcut0 := hWcut0.ext hSS; have hWL0 := hWL0.ext hSS; have hra2 := hra2.ext hSS; exact (x_move (by conv => lhs; whnf)))) ?_
      refine h_take 2 rfl (by kernel_rfl) (by kernel_rfl) (by kernel_rfl) hSr6 (fun wS hSS => by (have hX := hX.ext hSS; have hB3 := hB3.ext hSS; have hG := hG.ext hSS; have hWcut0 := hWcut0.ext hSS; have hWL0 := hWL0.ext hSS; have hra2 := hra2.ext hSS; exact (x_loadB ua43 rfl hB3 (hv_sz sz43 _)))) ?_
      refine h_one 1 _ rfl (by kernel_rfl) (hop_of_list (fun Q1 hQ1 => ?_))
      refine o_call Tryd.func28 fn28 fb28 (sha_Sum ((getF xs).1.getD i []) _ _ _ _ _ hra2.sl (by omega) (Nat.zero_le _) (hrt.ext hX) (hbt.ext hX) (Nat.lt_of_lt_of_le hrt.lt hX.size)) rfl ?_
      rintro v6 w6 ⟨rfl, hE6⟩
      have hX := hX.ext hE6
      have hB3 := hB3.ext hE6
      have hG := hG.ext hE6
      have hWcut0 := hWcut0.ext hE6
      have hWL0 := hWL0.ext hE6
      have hSr6 := hSr6.ext hE6
      have hra2 := hra2.ext hE6
      refine hop_end hQ1 ⟨hSr6, ?_⟩
      refine h_take 3 rfl (by kernel_rfl) (by kernel_rfl) (by kernel_rfl) hSr6 (fun wS hSS => by ( exact (x_eql_bytes u43 u5 sz5 eg43 rfl rfl (shaF _).2 h.2))) ?_
      refine h_done (by kernel_rfl) ?_
      refine t_n ?_
      first | refine c_dec rfl (fun hc28 => ?_) (fun hc28 => ?_) | refine c_if rfl (fun hc28 => ?_) (fun hc28 => ?_)
      · try simp only [decide_eq_true_eq, decide_eq_false_iff_not, Bool.not_eq_true, Bool.not_eq_false, Bool.not_eq_eq_eq_not, Bool.not_true, Bool.not_false, Int.not_lt, Int.not_le] at hc28
        have hfd : shaF ((getF xs).1.getD i []) = h := Subtype.ext hc28
        refine c_seq ?_
        refine r_plain ?_
        refine p1 (x_move (by conv => lhs; whnf)) ?_
        refine p1 (x_assign (by conv => lhs; whnf)) ?_
        refine r_nil ?_
        refine t_n ?_
        refine c_exit ?_
        refine b_miss rfl ?_
        refine t_e ?_
        refine t_e ?_
        refine b_hit ?_
        first
          | exact t_n (At.mk (i) (by repeat (first | exact Agr.refl _ _ | exact Agr.hav _ _ _ | refine Agr.upd rfl ?_ | refine Agr.updR rfl ?_ | refine Agr.updL ?_ _ rfl | refine Agr.hav' rfl ?_)) ⟨rfl, trivial⟩ ⟨hWcut0, .inl ⟨by omega, hfd, hno⟩⟩)
          | exact t_n (At.mk (mg) (by repeat (first | exact Agr.refl _ _ | exact Agr.hav _ _ _ | refine Agr.upd rfl ?_ | refine Agr.updR rfl ?_ | refine Agr.updL ?_ _ rfl | refine Agr.hav' rfl ?_)) ⟨rfl, trivial⟩ ⟨hWcut0, .inr ⟨rfl, fun j hj => hno j (by omega)⟩⟩)
      · try simp only [decide_eq_true_eq, decide_eq_false_iff_not, Bool.not_eq_true, Bool.not_eq_false, Bool.not_eq_eq_eq_not, Bool.not_true, Bool.not_false, Int.not_lt, Int.not_le] at hc28
        have hfd : shaF ((getF xs).1.getD i []) ≠ h := fun e => hc28 (by rw [e])
        refine c_skip ?_
        refine b_n ?_
        refine t_n ?_
        refine r_plain ?_
        refine p1 (x_add rfl rfl (fits_i64 (by omega) (by omega))) ?_
        refine p1 (x_move (by conv => lhs; whnf)) ?_
        refine r_nil ?_
        refine t_n (At.mk (i + 1) (by repeat (first | exact Agr.refl _ _ | exact Agr.hav _ _ _ | refine Agr.upd rfl ?_ | refine Agr.updR rfl ?_ | refine Agr.updL ?_ _ rfl | refine Agr.hav' rfl ?_)) ⟨rfl, rfl, trivial⟩ ?_)
        exact ⟨⟨hWL0, ⟨by omega, fun j hj => if h' : j < i then hno j h' else by rw [show j = i from by omega]; exact hfd⟩⟩, by first | (dsimp only; omega) | ((show _ < _); omega)⟩
    · try simp only [decide_eq_true_eq, decide_eq_false_iff_not, Bool.not_eq_true, Bool.not_eq_false, Bool.not_eq_eq_eq_not, Bool.not_true, Bool.not_false, Int.not_lt, Int.not_le] at hc21
      refine c_exit ?_
      refine t_e ?_
      refine t_e ?_
      refine b_hit ?_
      first
        | exact t_n (At.mk (i) (by repeat (first | exact Agr.refl _ _ | exact Agr.hav _ _ _ | refine Agr.upd rfl ?_ | refine Agr.updR rfl ?_ | refine Agr.updL ?_ _ rfl | refine Agr.hav' rfl ?_)) ⟨rfl, trivial⟩ ⟨hWcut0, .inl ⟨by omega, hfd, hno⟩⟩)
        | exact t_n (At.mk (mg) (by repeat (first | exact Agr.refl _ _ | exact Agr.hav _ _ _ | refine Agr.upd rfl ?_ | refine Agr.updR rfl ?_ | refine Agr.updL ?_ _ rfl | refine Agr.hav' rfl ?_)) ⟨rfl, trivial⟩ ⟨hWcut0, .inr ⟨rfl, fun j hj => hno j (by omega)⟩⟩)
  · rintro a Gcut0 w3 ⟨hE3, hA⟩
    have hX := hX.ext hE3
    have hB3 := hB3.ext hE3
    have hG := hG.ext hE3
    refine t_n ?_
    refine c_seq ?_
    refine c_seq ?_
    refine r_plain ?_
    refine p1 (x_move (by conv => lhs; whnf)) ?_
    refine p1 (x_move (by conv => lhs; whnf)) ?_
    refine p1 (x_len_slice u26 rfl) ?_
    refine p1 (x_eql rfl rfl) ?_
    refine r_nil ?_
    refine t_n ?_
    first | refine c_dec rfl (fun hc34 => ?_) (fun hc34 => ?_) | refine c_if rfl (fun hc34 => ?_) (fun hc34 => ?_)
    · try simp only [decide_eq_true_eq, decide_eq_false_iff_not, Bool.not_eq_true, Bool.not_eq_false, Bool.not_eq_eq_eq_not, Bool.not_true, Bool.not_false, Int.not_lt, Int.not_le] at hc34
      have hno : ∀ j, j < mg → shaF ((getF xs).1.getD j []) ≠ h := by
        rcases hA with ⟨h1, _, _⟩ | ⟨_, h2⟩
        · omega
        · exact h2
      have hp := findF_none (h := h) (l := (getF xs).1) (fun j hj => hno j (by omega))
      refine c_seq ?_
      refine r_plain ?_
      refine p1 (x_assign (by conv => lhs; whnf)) ?_
      refine p1 (x_assign (by conv => lhs; whnf)) ?_
      refine r_nil ?_
      refine t_n ?_
      refine c_ret ?_
      refine t_r ?_
      refine s_r ?_
      refine end2 rfl (by conv => lhs; whnf) (by conv => lhs; whnf) ?_
      first
        | exact ⟨⟨_, _, _, by rw [hp]; rfl, by rw [hp]; exact hra.sl⟩, hX⟩
        | exact ⟨⟨_, _, _, by rw [hp]; rfl, by rw [hp]; exact Sl.nil _ _ _ _ _ _ (by omega)⟩, hX⟩
    · try simp only [decide_eq_true_eq, decide_eq_false_iff_not, Bool.not_eq_true, Bool.not_eq_false, Bool.not_eq_eq_eq_not, Bool.not_true, Bool.not_false, Int.not_lt, Int.not_le] at hc34
      obtain ⟨hlt, hfa, hno⟩ : a < mg ∧ shaF ((getF xs).1.getD a []) = h ∧ (∀ j, j < a → shaF ((getF xs).1.getD j []) ≠ h) := by
        rcases hA with h1 | ⟨h1, _⟩
        · exact h1
        · omega
      obtain ⟨qa, ma, ca, hca, hra⟩ := hG.sl.obAt a (by omega)
      have hp := findF_some (h := h) (by omega) hfa hno
      refine c_skip ?_
      refine t_n ?_
      refine c_seq ?_
      refine r_plain ?_
      refine p1 (x_move (by conv => lhs; whnf)) ?_
      refine p1 (x_move (by conv => lhs; whnf)) ?_
      refine p1 (x_ixs0 u26 sz27 rfl rfl (hG.sl.adr kOb_pos (by omega)) (by omega)) ?_
      refine p1 (x_load1 un27 rfl hca) ?_
      refine p1 (x_assign (by conv => lhs; whnf)) ?_
      refine p1 (x_assign (by conv => lhs; whnf)) ?_
      refine r_nil ?_
      refine t_n ?_
      refine c_ret ?_
      refine s_r ?_
      refine end2 rfl (by conv => lhs; whnf) (by conv => lhs; whnf) ?_
      first
        | exact ⟨⟨_, _, _, by rw [hp]; rfl, by rw [hp]; exact hra.sl⟩, hX⟩
        | exact ⟨⟨_, _, _, by rw [hp]; rfl, by rw [hp]; exact Sl.nil _ _ _ _ _ _ (by omega)⟩, hX⟩
theorem ref18_Find (xs : List UInt8) (B : Nat) (p : Option Addr) (n c : Nat) (w : World) (hl : Sl kByte 5 B w p n c xs) (h : Hash) (hn : n ≤ 100000000) :
    Ret Tryd.prog 19 [.slice p n c, .agg (hv h)] w (fun v w' => (∃ (q : Option Addr) (m c' : Nat), v = .tuple #[.slice q m c', .bool (findF (getF xs).1 h).isSome] ∧ Sl kByte 5 0 w' q m c' ((findF (getF xs).1 h).getD [])) ∧ Ext w w') := by
  have hX := Ext.refl w
  refine enter 31 _ Tryd.func19 rfl rfl (Nat.le_of_ble_eq_true rfl) rfl ?_
  refine c_seq ?_
  refine r_plain ?_
  refine o_boxA (by conv => lhs; whnf) ?_
  intro w1 g3 hN3
  have hE1 := hN3.ext
  have hX := hX.ext hE1
  have hB3 := hN3.blk
  refine p1 (x_assign (by conv => lhs; whnf)) ?_
  refine p1 (x_assign (by conv => lhs; whnf)) ?_
  refine r_nil ?_
  refine t_n ?_
  refine c_seq ?_
  refine r_plain ?_
  refine p1 (x_move (by conv => lhs; whnf)) ?_
  refine o_call Tryd.func16 fn16 fb16 (ref18_Get xs _ _ _ _ _ (hl.ext hX) hn) rfl ?_
  rintro v2 w2 ⟨⟨qg, mg, cg, rfl, hG⟩, hE2⟩
  have hX := hX.ext hE2
  have hB3 := hB3.ext hE2
  have hGl : (getF xs).1.length = mg := hG.len
  have hgc := hG.sl.cap
  have hgf := hG.sl.fit
  refine p1 (x_move (by conv => lhs; whnf)) ?_
  refine p1 (x_extract rfl rfl) ?_
  refine p1 (x_extract rfl rfl) ?_
  refine p1 (x_assign (by conv => lhs; whnf)) ?_
  refine p1 (x_assign (by conv => lhs; whnf)) ?_
  refine r_nil ?_
  refine t_n ?_
  refine c_seq ?_
  refine c_seq ?_
  refine r_plain ?_
  refine p1 (x_assign (by conv => lhs; whnf)) ?_
  refine r_nil ?_
  refine t_n ?_
  refine c_block ?_
  have hWL0 := Ext.refl w2
  refine c_loop (ι := Nat) [4, 5, 8, 14, 15, 16, 17, 18, 19, 20, 21, 22, 23, 24, 25, 26, 27, 28, 29, 30] (fun i => [(8, .int .i64 (i : Int))]) (fun i w' => Ext w2 w' ∧ (i ≤ mg ∧ (∀ j, j < i → shaF ((getF xs).1.getD j []) ≠ h))) (fun i => mg - i) (0) ⟨rfl, trivial⟩ ⟨Ext.refl _, ⟨by omega, fun j hj => absurd hj (Nat.not_lt_zero _)⟩⟩ ?_
  rintro i GL0 w3 ⟨hE3, hi, hno⟩
  have hX := hX.ext hE3
  have hB3 := hB3.ext hE3
  have hG := hG.ext hE3
  have hWL0 := hE3
  refine c_seq ?_
  refine c_seq ?_
  refine r_plain ?_
  refine p1 (x_move (by conv => lhs; whnf)) ?_
  refine p1 (x_move (by conv => lhs; whnf)) ?_
  refine p1 (x_len_slice u26 rfl) ?_
  refine p1 (x_lss rfl rfl) ?_
  refine r_nil ?_
  refine t_n ?_
  first | refine c_dec rfl (fun hc17 => ?_) (fun hc17 => ?_) | refine c_if rfl (fun hc17 => ?_) (fun hc17 => ?_)
  · try simp only [decide_eq_true_eq, decide_eq_false_iff_not, Bool.not_eq_true, Bool.not_eq_false, Bool.not_eq_eq_eq_not, Bool.not_true, Bool.not_false, Int.not_lt, Int.not_le] at hc17
    have hgl := getF_le xs i
    refine c_skip ?_
    refine t_n ?_
    refine c_seq ?_
    refine c_block ?_
    refine c_seq ?_
    refine r_held (fun w1 w2 => Ext w1 w2) mixed ?_
    intro w4 hE4
    have hX := hX.ext hE4
    have hB3 := hB3.ext hE4
    have hG := hG.ext hE4
    have hWL0 := hWL0.ext hE4
    have hSr5 : (fun w1 w2 => Ext w1 w2) w4 w4 := Ext.refl w4
    obtain ⟨qa, ma, ca, hca, hra⟩ := hG.sl.obAt i (by omega)
    have hral := hra.len
    refine h_take 0 rfl (by kernel_rfl) (by kernel_rfl) (by kernel_rfl) hSr5 (fun wS hSS => by (have hX := hX.ext hSS; have hB3 := hB3.ext hSS; have hG := hG.ext hSS; have hWL0 := hWL0.ext hSS; have hra := hra.ext hSS; exact (x_move (by conv => lhs; whnf)))) ?_
    refine h_take 1 rfl (by kernel_rfl) (by kernel_rfl) (by kernel_rfl) hSr5 (fun wS hSS => by (have hX := hX.ext hSS; have hB3 := hB3.ext hSS; have hG := hG.ext hSS; have hWL0 := hWL0.ext hSS; have hra := hra.ext hSS; exact (x_move (by conv => lhs; whnf)))) ?_
    refine h_take 2 rfl (by kernel_rfl) (by kernel_rfl) (by kernel_rfl) hSr5 (fun wS hSS => by (have hX := hX.ext hSS; have hB3 := hB3.ext hSS; have hG := hG.ext hSS; have hWL0 := hWL0.ext hSS; have hra := hra.ext hSS; exact (x_ixs0 u26 sz27 rfl rfl (hG.sl.adr kOb_pos (by omega)) (by omega)))) ?_
    refine h_take 3 rfl (by kernel_rfl) (by kernel_rfl) (by kernel_rfl) hSr5 (fun wS hSS => by (have hX := hX.ext hSS; have hB3 := hB3.ext hSS; have hG := hG.ext hSS; have hWL0 := hWL0.ext hSS; have hra := hra.ext hSS; exact (x_load1 un27 rfl (hSS.cell hca)))) ?_
    refine h_take 5 rfl (by kernel_rfl) (by kernel_rfl) (by kernel_rfl) hSr5 (fun wS hSS => by (have hX := hX.ext hSS; have hB3 := hB3.ext hSS; have hG := hG.ext hSS; have hWL0 := hWL0.ext hSS; have hra := hra.ext hSS; exact (x_loadB ua43 rfl hB3 (hv_sz sz43 _)))) ?_
    refine h_one 4 _ rfl (by kernel_rfl) (hop_of_list (fun Q4 hQ4 => ?_))
    refine o_call Tryd.func20 fn20 fb20 (ref01_Sum ((getF xs).1.getD i []) _ _ _ _ _ hra.sl (by omega)) rfl ?_
    rintro v5 w5 ⟨rfl, hE5⟩
    have hX := hX.ext hE5
    have hB3 := hB3.ext hE5
    have hG := hG.ext hE5
    have hWL0 := hWL0.ext hE5
    have hSr5 := hSr5.ext hE5
    have hra := hra.ext hE5
    refine hop_end hQ4 ⟨hSr5, ?_⟩
    refine h_take 6 rfl (by kernel_rfl) (by kernel_rfl) (by kernel_rfl) hSr5 (fun wS hSS => by ( exact (x_eql_bytes u43 u5 sz5 eg43 rfl rfl (shaF _).2 h.2))) ?_
    refine h_done (by kernel_rfl) ?_
    refine t_n ?_
    first | refine c_dec rfl (fun hc26 => ?_) (fun hc26 => ?_) | refine c_if rfl (fun hc26 => ?_) (fun hc26 => ?_)
    · try simp only [decide_eq_true_eq, decide_eq_false_iff_not, Bool.not_eq_true, Bool.not_eq_false, Bool.not_eq_eq_eq_not, Bool.not_true, Bool.not_false, Int.not_lt, Int.not_le] at hc26
      have hfd : shaF ((getF xs).1.getD i []) = h := Subtype.ext hc26
      have hp := findF_some (h := h) (by omega) hfd hno
      obtain ⟨qa, ma, ca, hca, hra⟩ := hG.sl.obAt i (by omega)
      refine c_seq ?_
      refine r_plain ?_
      refine p1 (x_move (by conv => lhs; whnf)) ?_
      refine p1 (x_move (by conv => lhs; whnf)) ?_
      refine p1 (x_ixs0 u26 sz27 rfl rfl (hG.sl.adr kOb_pos (by omega)) (by omega)) ?_
      refine p1 (x_load1 un27 rfl hca) ?_
      refine p1 (x_assign (by conv => lhs; whnf)) ?_
      refine p1 (x_assign (by conv => lhs; whnf)) ?_
      refine r_nil ?_
      refine t_n ?_
      refine c_ret ?_
      refine b_r ?_
      refine t_r ?_
      refine t_r ?_
      refine b_r ?_
      refine t_r ?_
      refine end2 rfl (by conv => lhs; whnf) (by conv => lhs; whnf) ?_
      first
        | exact ⟨⟨_, _, _, by rw [hp]; rfl, by rw [hp]; exact hra.sl⟩, hX⟩
        | exact ⟨⟨_, _, _, by rw [hp]; rfl, by rw [hp]; exact Sl.nil _ _ _ _ _ _ (by omega)⟩, hX⟩
    · try simp only [decide_eq_true_eq, decide_eq_false_iff_not, Bool.not_eq_true, Bool.not_eq_false, Bool.not_eq_eq_eq_not, Bool.not_true, Bool.not_false, Int.not_lt, Int.not_le] at hc26
      have hfd : shaF ((getF xs).1.getD i []) ≠ h := fun e => hc26 (by rw [e])
      refine c_skip ?_
      refine b_n ?_
      refine t_n ?_
      refine r_plain ?_
      refine p1 (x_move (by conv => lhs; whnf)) ?_
      refine p1 (x_add rfl rfl (fits_i64 (by omega) (by omega))) ?_
      refine p1 (x_assign (by conv => lhs; whnf)) ?_
      refine r_nil ?_
      refine t_n (At.mk (i + 1) (by repeat (first | exact Agr.refl _ _ | exact Agr.hav _ _ _ | refine Agr.upd rfl ?_ | refine Agr.updR rfl ?_ | refine Agr.updL ?_ _ rfl | refine Agr.hav' rfl ?_)) ⟨rfl, trivial⟩ ?_)
      exact ⟨⟨hWL0, ⟨by omega, fun j hj => if h' : j < i then hno j h' else by rw [show j = i from by omega]; exact hfd⟩⟩, by first | (dsimp only; omega) | ((show _ < _); omega)⟩
  · try simp only [decide_eq_true_eq, decide_eq_false_iff_not, Bool.not_eq_true, Bool.not_eq_false, Bool.not_eq_eq_eq_not, Bool.not_true, Bool.not_false, Int.not_lt, Int.not_le] at hc17
    have hp := findF_none (h := h) (l := (getF xs).1) (fun j hj => hno j (by omega))
    refine c_exit ?_
    refine t_e ?_
    refine t_e ?_
    refine b_hit ?_
    refine t_n ?_
    refine c_seq ?_
    refine r_plain ?_
    refine p1 (x_assign (by conv => lhs; whnf)) ?_
    refine p1 (x_assign (by conv => lhs; whnf)) ?_
    refine r_nil ?_
    refine t_n ?_
    refine c_ret ?_
    refine end2 rfl (by conv => lhs; whnf) (by conv => lhs; whnf) ?_
    first
      | exact ⟨⟨_, _, _, by rw [hp]; rfl, by rw [hp]; exact hra.sl⟩, hX⟩
      | exact ⟨⟨_, _, _, by rw [hp]; rfl, by rw [hp]; exact Sl.nil _ _ _ _ _ _ (by omega)⟩, hX⟩
theorem law_SegmentFinds (xs : List UInt8) (B : Nat) (p : Option Addr) (n c : Nat) (w : World) (hl : Sl kByte 5 B w p n c xs) (h : Hash) (hg : Gl w) (hrt : Rt w) (hbt : Bt w) (hBw : B ≤ w.heap.size) (hn : n ≤ 1048576) :
    Ret Tryd.prog 7 [.slice p n c, .agg (hv h)] w (fun v w' => v = .bool true ∧ Ext w w') := by
  have hX := Ext.refl w
  refine enter 84 _ Tryd.func7 rfl rfl (Nat.le_of_ble_eq_true rfl) rfl ?_
  refine c_seq ?_
  refine r_plain ?_
  refine o_boxA (by conv => lhs; whnf) ?_
  intro w1 g3 hN3
  have hE1 := hN3.ext
  have hX := hX.ext hE1
  have hB3 := hN3.blk
  refine p1 (x_assign (by conv => lhs; whnf)) ?_
  refine r_nil ?_
  refine t_n ?_
  refine c_seq ?_
  refine r_plain ?_
  refine p1 (x_move (by conv => lhs; whnf)) ?_
  refine p1 (x_loadB ua43 rfl hB3 (hv_sz sz43 _)) ?_
  have sX := hX.size
  refine o_call Tryd.func18 fn18 fb18 (segment_Find xs _ _ _ _ _ (hl.ext hX) h (hg.q.ext hX) (Nat.le_trans hBw sX) (by omega) (hrt.ext hX) (hbt.ext hX)) rfl ?_
  rintro v2 w2 ⟨⟨q1, m1, c1, rfl, hx1⟩, hE2⟩
  have hX := hX.ext hE2
  have hB3 := hB3.ext hE2
  refine p1 (x_move (by conv => lhs; whnf)) ?_
  refine p1 (x_extract rfl rfl) ?_
  refine p1 (x_extract rfl rfl) ?_
  refine p1 (x_assign (by conv => lhs; whnf)) ?_
  refine p1 (x_assign (by conv => lhs; whnf)) ?_
  refine r_nil ?_
  refine t_n ?_
  refine c_seq ?_
  refine r_plain ?_
  refine p1 (x_move (by conv => lhs; whnf)) ?_
  refine p1 (x_loadB ua43 rfl hB3 (hv_sz sz43 _)) ?_
  refine o_call Tryd.func19 fn19 fb19 (ref18_Find xs _ _ _ _ _ (hl.ext hX) h (by omega)) rfl ?_
  rintro v3 w3 ⟨⟨q2, m2, c2, rfl, hx2⟩, hE3⟩
  have hX := hX.ext hE3
  have hB3 := hB3.ext hE3
  have hx1 := hx1.ext hE3
  refine p1 (x_move (by conv => lhs; whnf)) ?_
  refine p1 (x_extract rfl rfl) ?_
  refine p1 (x_extract rfl rfl) ?_
  refine p1 (x_assign (by conv => lhs; whnf)) ?_
  refine p1 (x_assign (by conv => lhs; whnf)) ?_
  refine r_nil ?_
  refine t_n ?_
  refine c_seq ?_
  refine c_seq ?_
  refine r_plain ?_
  refine p1 (x_move (by conv => lhs; whnf)) ?_
  refine p1 (x_move (by conv => lhs; whnf)) ?_
  refine p1 ((x_neq_bool u4 rfl rfl).cast (congrArg _ (decide_eq_false (fun h => h rfl)))) ?_
  refine p1 (x_move (by conv => lhs; whnf)) ?_
  refine g1 31 rfl rfl (x_move (by conv => lhs; whnf)) ?_
  refine g1 31 rfl rfl (x_bytes_str u27 u5 u9 rfl hx1) ?_
  refine g1 31 rfl rfl (x_move (by conv => lhs; whnf)) ?_
  refine g1 31 rfl rfl (x_bytes_str u27 u5 u9 rfl hx2) ?_
  refine g1 31 rfl rfl ((x_neq_str rfl rfl).cast (congrArg _ (decide_eq_false (fun h => h rfl)))) ?_
  refine p1 (x_pick_f rfl (by conv => lhs; whnf)) ?_
  refine r_nil ?_
  refine t_n ?_
  refine c_f rfl ?_
  refine c_skip ?_
  refine t_n ?_
  refine c_seq ?_
  refine r_plain ?_
  refine p1 (x_move (by conv => lhs; whnf)) ?_
  refine o_call Tryd.func16 fn16 fb16 (ref18_Get xs _ _ _ _ _ (hl.ext hX) (by omega)) rfl ?_
  rintro v4 w4 ⟨⟨qg, mg, cg, rfl, hG⟩, hE4⟩
  have hX := hX.ext hE4
  have hB3 := hB3.ext hE4
  have hx1 := hx1.ext hE4
  have hx2 := hx2.ext hE4
  have hGl : (getF xs).1.length = mg := hG.len
  have hgc := hG.sl.cap
  have hgf := hG.sl.fit
  refine p1 (x_move (by conv => lhs; whnf)) ?_
  refine p1 (x_extract rfl rfl) ?_
  refine p1 (x_extract rfl rfl) ?_
  refine p1 (x_assign (by conv => lhs; whnf)) ?_
  refine p1 (x_assign (by conv => lhs; whnf)) ?_
  refine r_nil ?_
  refine t_n ?_
  refine c_seq ?_
  refine c_seq ?_
  refine r_plain ?_
  refine p1 (x_assign (by conv => lhs; whnf)) ?_
  refine r_nil ?_
  refine t_n ?_
  refine c_block ?_
  have hWL0 := Ext.refl w4
  refine c_loop (ι := Nat) [4, 11, 12, 13, 14, 15, 43, 44, 45, 46, 47, 48, 49, 50, 51, 52, 53, 54, 55, 56, 57, 58, 59, 60, 61, 62, 63, 64, 65, 66, 67, 68, 69, 70, 71, 72, 73, 74, 75, 76, 77, 78, 79, 80, 81, 82] (fun i => [(11, .int .i64 (i : Int))]) (fun i w' => Ext w4 w' ∧ (i ≤ mg)) (fun i => mg - i) (0) ⟨rfl, trivial⟩ ⟨Ext.refl _, Nat.zero_le _⟩ ?_
  rintro i GL0 w5 ⟨hE5, hi⟩
  have hX := hX.ext hE5
  have hB3 := hB3.ext hE5
  have hx1 := hx1.ext hE5
  have hx2 := hx2.ext hE5
  have hG := hG.ext hE5
  have hWL0 := hE5
  refine c_seq ?_
  refine c_seq ?_
  have hWr7 := Ext.refl w5
  refine c_cut (ι := Unit) [43, 44, 45, 46, 47, 48, 49, 50] (fun _ => [(50, .bool (decide (i < mg ∧ i < 200)))]) (fun _ w' => Ext w5 w') ?_ ?_
  · skip
    refine r_plain ?_
    refine p1 (x_move (by conv => lhs; whnf)) ?_
    refine p1 (x_move (by conv => lhs; whnf)) ?_
    refine p1 (x_len_slice u26 rfl) ?_
    refine p1 (x_lss rfl rfl) ?_
    refine p1b (x_move (by conv => lhs; whnf)) (fun hb7_4 => ?_) (fun hb7_4 => ?_)
    · try simp only [decide_eq_true_eq, decide_eq_false_iff_not, Bool.not_eq_true, Bool.not_eq_false, Bool.not_eq_eq_eq_not, Bool.not_true, Bool.not_false, Int.not_lt, Int.not_le] at hb7_4
      refine g1 47 rfl rfl (x_move (by conv => lhs; whnf)) ?_
      refine g1 47 rfl rfl (x_lss rfl rfl) ?_
      refine p1 (x_pick_t rfl (by conv => lhs; whnf)) ?_
      refine r_nil ?_
      refine t_n (At.mk () (by repeat (first | exact Agr.refl _ _ | exact Agr.hav _ _ _ | refine Agr.upd rfl ?_ | refine Agr.updR rfl ?_ | refine Agr.updL ?_ _ rfl | refine Agr.hav' rfl ?_)) ⟨congrArg Value.bool (by first | rfl | (simp_all; done) | grind), trivial⟩ hWr7)
    · try simp only [decide_eq_true_eq, decide_eq_false_iff_not, Bool.not_eq_true, Bool.not_eq_false, Bool.not_eq_eq_eq_not, Bool.not_true, Bool.not_false, Int.not_lt, Int.not_le] at hb7_4
      refine g0 47 rfl (by first | exact .inl rfl | exact .inr rfl) ?_
      refine g0 47 rfl (by first | exact .inl rfl | exact .inr rfl) ?_
      refine p1 (x_pick_f rfl (by conv => lhs; whnf)) ?_
      refine r_nil ?_
      refine t_n (At.mk () (by repeat (first | exact Agr.refl _ _ | exact Agr.hav _ _ _ | refine Agr.upd rfl ?_ | refine Agr.updR rfl ?_ | refine Agr.updL ?_ _ rfl | refine Agr.hav' rfl ?_)) ⟨congrArg Value.bool (by first | rfl | (simp_all; done) | grind), trivial⟩ hWr7)
  · rintro _ Gr7 w6 hE6
    have hX := hX.ext hE6
    have hB3 := hB3.ext hE6
    have hx1 := hx1.ext hE6
    have hx2 := hx2.ext hE6
    have hG := hG.ext hE6
    have hWL0 := hWL0.ext hE6
    refine t_n ?_
    first | refine c_dec rfl (fun hc50 => ?_) (fun hc50 => ?_) | refine c_if rfl (fun hc50 => ?_) (fun hc50 => ?_)
    · try simp only [decide_eq_true_eq, decide_eq_false_iff_not, Bool.not_eq_true, Bool.not_eq_false, Bool.not_eq_eq_eq_not, Bool.not_true, Bool.not_false, Int.not_lt, Int.not_le] at hc50
      have hgl := getF_le xs i
      obtain ⟨qa, ma, ca, hca, hra⟩ := hG.sl.obAt i (by omega)
      have hral := hra.len
      refine c_skip ?_
      refine t_n ?_
      refine c_seq ?_
      refine c_block ?_
      refine c_seq ?_
      refine r_plain ?_
      refine p1 (x_move (by conv => lhs; whnf)) ?_
      refine p1 (x_move (by conv => lhs; whnf)) ?_
      refine p1 (x_move (by conv => lhs; whnf)) ?_
      refine p1 (x_ixs0 u26 sz27 rfl rfl (hG.sl.adr kOb_pos (by omega)) (by omega)) ?_
      refine p1 (x_load1 un27 rfl hca) ?_
      refine o_call Tryd.func20 fn20 fb20 (ref01_Sum ((getF xs).1.getD i []) _ _ _ _ _ hra.sl (by omega)) rfl ?_
      rintro v7 w7 ⟨rfl, hE7⟩
      have hX := hX.ext hE7
      have hB3 := hB3.ext hE7
      have hx1 := hx1.ext hE7
      have hx2 := hx2.ext hE7
      have hG := hG.ext hE7
      have hWL0 := hWL0.ext hE7
      refine o_call Tryd.func18 fn18 fb18 (segment_Find xs _ _ _ _ _ (hl.ext hX) _ (hg.q.ext hX) (Nat.le_trans hBw hX.size) (by omega) (hrt.ext hX) (hbt.ext hX)) rfl ?_
      rintro v8 w8 ⟨⟨q1, m1, c1, rfl, hy1⟩, hE8⟩
      have hX := hX.ext hE8
      have hB3 := hB3.ext hE8
      have hx1 := hx1.ext hE8
      have hx2 := hx2.ext hE8
      have hG := hG.ext hE8
      have hWL0 := hWL0.ext hE8
      refine p1 (x_move (by conv => lhs; whnf)) ?_
      refine p1 (x_extract rfl rfl) ?_
      refine p1 (x_extract rfl rfl) ?_
      refine p1 (x_assign (by conv => lhs; whnf)) ?_
      refine p1 (x_assign (by conv => lhs; whnf)) ?_
      refine r_nil ?_
      refine t_n ?_
      refine c_seq ?_
      refine r_plain ?_
      obtain ⟨qa, ma, ca, hca, hra⟩ := hG.sl.obAt i (by omega)
      have hral := hra.len
      refine p1 (x_move (by conv => lhs; whnf)) ?_
      refine p1 (x_move (by conv => lhs; whnf)) ?_
      refine p1 (x_move (by conv => lhs; whnf)) ?_
      refine p1 (x_ixs0 u26 sz27 rfl rfl (hG.sl.adr kOb_pos (by omega)) (by omega)) ?_
      refine p1 (x_load1 un27 rfl hca) ?_
      refine o_call Tryd.func20 fn20 fb20 (ref01_Sum ((getF xs).1.getD i []) _ _ _ _ _ hra.sl (by omega)) rfl ?_
      rintro v9 w9 ⟨rfl, hE9⟩
      have hX := hX.ext hE9
      have hB3 := hB3.ext hE9
      have hx1 := hx1.ext hE9
      have hx2 := hx2.ext hE9
      have hG := hG.ext hE9
      have hWL0 := hWL0.ext hE9
      have hy1 := hy1.ext hE9
      refine o_call Tryd.func19 fn19 fb19 (ref18_Find xs _ _ _ _ _ (hl.ext hX) _ (by omega)) rfl ?_
      rintro v10 w10 ⟨⟨q2, m2, c2, rfl, hy2⟩, hE10⟩
      have hX := hX.ext hE10
      have hB3 := hB3.ext hE10
      have hx1 := hx1.ext hE10
      have hx2 := hx2.ext hE10
      have hG := hG.ext hE10
      have hWL0 := hWL0.ext hE10
      have hy1 := hy1.ext hE10
      refine p1 (x_move (by conv => lhs; whnf)) ?_
      refine p1 (x_extract rfl rfl) ?_
      refine p1 (x_extract rfl rfl) ?_
      refine p1 (x_assign (by conv => lhs; whnf)) ?_
      refine p1 (x_assign (by conv => lhs; whnf)) ?_
      refine r_nil ?_
      refine t_n ?_
      refine c_seq ?_
      refine r_plain ?_
      refine p1 (x_move (by conv => lhs; whnf)) ?_
      refine p1 (x_move (by conv => lhs; whnf)) ?_
      refine p1 ((x_neq_bool u4 rfl rfl).cast (congrArg _ (decide_eq_false (fun h => h rfl)))) ?_
      refine p1 (x_move (by conv => lhs; whnf)) ?_
      refine g1 76 rfl rfl (x_move (by conv => lhs; whnf)) ?_
      refine g1 76 rfl rfl (x_bytes_str u27 u5 u9 rfl hy1) ?_
      refine g1 76 rfl rfl (x_move (by conv => lhs; whnf)) ?_
      refine g1 76 rfl rfl (x_bytes_str u27 u5 u9 rfl hy2) ?_
      refine g1 76 rfl rfl ((x_neq_str rfl rfl).cast (congrArg _ (decide_eq_false (fun h => h rfl)))) ?_
      refine p1 (x_pick_f rfl (by conv => lhs; whnf)) ?_
      refine r_nil ?_
      refine t_n ?_
      refine c_f rfl ?_
      refine c_skip ?_
      refine b_n ?_
      refine t_n ?_
      refine r_plain ?_
      refine p1 (x_move (by conv => lhs; whnf)) ?_
      refine p1 (x_add rfl rfl (fits_i64 (by omega) (by omega))) ?_
      refine p1 (x_assign (by conv => lhs; whnf)) ?_
      refine r_nil ?_
      refine t_n (At.mk (i + 1) (by repeat (first | exact Agr.refl _ _ | exact Agr.hav _ _ _ | refine Agr.upd rfl ?_ | refine Agr.updR rfl ?_ | refine Agr.updL ?_ _ rfl | refine Agr.hav' rfl ?_)) ⟨rfl, trivial⟩ ?_)
      exact ⟨⟨hWL0, (by omega)⟩, by first | (dsimp only; omega) | ((show _ < _); omega)⟩
    · try simp only [decide_eq_true_eq, decide_eq_false_iff_not, Bool.not_eq_true, Bool.not_eq_false, Bool.not_eq_eq_eq_not, Bool.not_true, Bool.not_false, Int.not_lt, Int.not_le] at hc50
      refine c_exit ?_
      refine t_e ?_
      refine t_e ?_
      refine b_hit ?_
      refine t_n ?_
      refine c_seq ?_
      refine r_plain ?_
      refine o_call Tryd.func12 fn12 fb12 (law18_awake _ (hg.ext hX)) rfl ?_
      rintro v11 w11 ⟨rfl, hE11⟩
      have hX := hX.ext hE11
      have hB3 := hB3.ext hE11
      have hx1 := hx1.ext hE11
      have hx2 := hx2.ext hE11
      have hG := hG.ext hE11
      refine p1 (x_assign (by conv => lhs; whnf)) ?_
      refine r_nil ?_
      refine t_n ?_
      refine c_ret ?_
      refine end1 rfl (by conv => lhs; whnf) ?_
      exact ⟨rfl, hX⟩
end Go.Proofs.Eng
end
