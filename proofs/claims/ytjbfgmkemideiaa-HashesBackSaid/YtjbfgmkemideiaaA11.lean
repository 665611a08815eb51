import Derived.Test.YtjbfgmkemideiaaF0
import Derived.Test.YtjbfgmkemideiaaP5
import Derived.Test.YtjbfgmkemideiaaA7
import Derived.Test.YtjbfgmkemideiaaA3
import Derived.Test.YtjbfgmkemideiaaA1
set_option linter.unusedVariables false
set_option linter.unusedSimpArgs false
set_option maxRecDepth 100000
set_option maxHeartbeats 4000000
namespace Go.Proofs.Eng
open Go.RowKit
open Extern.Stop (cell)
theorem hashes_Get (xs : List UInt8) (most : Int) (B : Nat) (p : Option Addr) (n c : Nat) (w : World) (hl : Sl kByte 5 B w p n c xs) (hmost : -9223372036854775808 ≤ most ∧ most ≤ 9223372036854775807) (hs : n ≤ 140737490000000) :
    Ret Try.prog 43 [.slice p n c, .int .i64 most] w (fun v w' => (∃ q m c', v = .tuple #[.slice q m c', .int .i64 ((gets xs most).2.1 : Int), .int .i64 (gets xs most).2.2] ∧ Own kHash 35 0 w.heap.size w' q m c' (gets xs most).1) ∧ Ext w w') := by
  have hX := Ext.refl w
  refine enter 66 _ Try.func43 rfl rfl (Nat.le_of_ble_eq_true rfl) ?_
  refine c_seq ?_
  refine r_plain ?_
  refine p1 (x_assign (by conv => lhs; whnf)) ?_
  refine p1 (x_assign (by conv => lhs; whnf)) ?_
  refine p1 (x_assign (by conv => lhs; whnf)) ?_
  refine r_nil ?_
  refine t_n ?_
  refine c_seq ?_
  have hlen := hl.len
  have hfit := hl.fit
  have hcap := hl.cap
  refine r_plain ?_
  refine p1 (x_move (by conv => lhs; whnf)) ?_
  refine o_call Try.func74 fn74 fb74 (leb_GetUint xs _ _ _ _ _ (hl.ext hX)) rfl ?_
  rintro v1 w1 ⟨rfl, hE1⟩
  have hX := hX.ext hE1
  refine p1 (x_move (by conv => lhs; whnf)) ?_
  refine p1 (x_extract rfl rfl) ?_
  refine p1 (x_extract rfl rfl) ?_
  refine p1 (x_extract rfl rfl) ?_
  refine p1 (x_assign (by conv => lhs; whnf)) ?_
  refine p1 (x_assign (by conv => lhs; whnf)) ?_
  refine p1 (x_assign (by conv => lhs; whnf)) ?_
  refine r_nil ?_
  refine t_n ?_
  refine c_seq ?_
  refine c_block ?_
  refine c_seq ?_
  refine r_plain ?_
  refine p1 (x_move (by conv => lhs; whnf)) ?_
  refine p1 (x_neq rfl rfl) ?_
  refine p1 (x_assign (by conv => lhs; whnf)) ?_
  refine r_nil ?_
  refine t_n ?_
  first | refine c_dec rfl (fun hc16 => ?_) (fun hc16 => ?_) | refine c_if rfl (fun hc16 => ?_) (fun hc16 => ?_)
  · try simp only [decide_eq_true_eq, decide_eq_false_iff_not, Bool.not_eq_true, Bool.not_eq_false, Bool.not_eq_eq_eq_not, Bool.not_true, Bool.not_false, Int.not_lt, Int.not_le] at hc16
    have hp : gets xs most = ([], 0, (getU xs).2.2) := by unfold gets; rw [if_pos hc16]
    refine c_seq ?_
    refine r_plain ?_
    refine p1 (x_move (by conv => lhs; whnf)) ?_
    refine p1 (x_assign (by conv => lhs; whnf)) ?_
    refine p1 (x_assign (by conv => lhs; whnf)) ?_
    refine p1 (x_assign (by conv => lhs; whnf)) ?_
    refine r_nil ?_
    refine t_n ?_
    refine c_ret ?_
    refine b_r ?_
    refine t_r ?_
    refine end3 rfl (by conv => lhs; whnf) (by conv => lhs; whnf) (by conv => lhs; whnf) ?_
    first | exact ⟨⟨none, 0, 0, by (rw [hp]; try rfl), (by rw [hp]; exact Own.nil _ _ _ _ _)⟩, hX⟩ | exact ⟨⟨_, _, _, by (rw [hp]; try rfl), by rw [hp]; exact hO⟩, hX⟩
  · try simp only [decide_eq_true_eq, decide_eq_false_iff_not, Bool.not_eq_true, Bool.not_eq_false, Bool.not_eq_eq_eq_not, Bool.not_true, Bool.not_false, Int.not_lt, Int.not_le] at hc16
    have he0 : (getU xs).2.2 = 0 := Classical.byContradiction hc16
    obtain ⟨hk1, hk2, hk3, hk4⟩ := getU_bounds he0
    refine c_seq ?_
    have hWr4 := Ext.refl w1
    refine c_cut (ι := Unit) [20, 21, 22, 23, 24, 25, 26, 27, 28] (fun _ => [(20, .bool (decide (most < 0 ∨ most < ((getU xs).1 : Int))))]) (fun _ w' => Ext w1 w') ?_ ?_
    · skip
      refine r_plain ?_
      refine p1 (x_move (by conv => lhs; whnf)) ?_
      refine p1 (x_lss rfl rfl) ?_
      refine p1b (x_move (by conv => lhs; whnf)) (fun hb4_2 => ?_) (fun hb4_2 => ?_)
      · try simp only [decide_eq_true_eq, decide_eq_false_iff_not, Bool.not_eq_true, Bool.not_eq_false, Bool.not_eq_eq_eq_not, Bool.not_true, Bool.not_false, Int.not_lt, Int.not_le] at hb4_2
        refine g0 23 rfl (by first | exact .inl rfl | exact .inr rfl) ?_
        refine g0 23 rfl (by first | exact .inl rfl | exact .inr rfl) ?_
        refine g0 23 rfl (by first | exact .inl rfl | exact .inr rfl) ?_
        refine g0 23 rfl (by first | exact .inl rfl | exact .inr rfl) ?_
        refine p1 (x_pick_t rfl (by conv => lhs; whnf)) ?_
        refine p1 (x_assign (by conv => lhs; whnf)) ?_
        refine r_nil ?_
        refine t_n (At.mk () (by repeat (first | exact Agr.refl _ _ | exact Agr.hav _ _ _ | refine Agr.upd rfl ?_ | refine Agr.updL ?_ _ rfl | refine Agr.hav' rfl ?_)) ⟨congrArg Value.bool (by first | rfl | exact (decide_eq_true (by omega)).symm | exact (decide_eq_false (by omega)).symm | exact decide_eq_decide.2 (by omega) | (simp_all; done) | grind), trivial⟩ hWr4)
      · try simp only [decide_eq_true_eq, decide_eq_false_iff_not, Bool.not_eq_true, Bool.not_eq_false, Bool.not_eq_eq_eq_not, Bool.not_true, Bool.not_false, Int.not_lt, Int.not_le] at hb4_2
        refine g1 23 rfl rfl (x_move (by conv => lhs; whnf)) ?_
        refine g1 23 rfl rfl (x_move (by conv => lhs; whnf)) ?_
        refine g1 23 rfl rfl (x_convf u95 us3 rfl (fits_u64 (by omega) (by omega))) ?_
        refine g1 23 rfl rfl (x_gtr rfl rfl) ?_
        refine p1 (x_pick_f rfl (by conv => lhs; whnf)) ?_
        refine p1 (x_assign (by conv => lhs; whnf)) ?_
        refine r_nil ?_
        refine t_n (At.mk () (by repeat (first | exact Agr.refl _ _ | exact Agr.hav _ _ _ | refine Agr.upd rfl ?_ | refine Agr.updL ?_ _ rfl | refine Agr.hav' rfl ?_)) ⟨congrArg Value.bool (by first | rfl | exact (decide_eq_true (by omega)).symm | exact (decide_eq_false (by omega)).symm | exact decide_eq_decide.2 (by omega) | (simp_all; done) | grind), trivial⟩ hWr4)
    · rintro _ Gr4 w2 hE2
      have hX := hX.ext hE2
      refine t_n ?_
      first | refine c_dec rfl (fun hc20 => ?_) (fun hc20 => ?_) | refine c_if rfl (fun hc20 => ?_) (fun hc20 => ?_)
      · try simp only [decide_eq_true_eq, decide_eq_false_iff_not, Bool.not_eq_true, Bool.not_eq_false, Bool.not_eq_eq_eq_not, Bool.not_true, Bool.not_false, Int.not_lt, Int.not_le] at hc20
        have hp : gets xs most = ([], 0, 5) := by unfold gets; rw [if_neg hc16, if_pos hc20]
        refine c_seq ?_
        refine r_plain ?_
        refine p1 (x_assign (by conv => lhs; whnf)) ?_
        refine p1 (x_assign (by conv => lhs; whnf)) ?_
        refine p1 (x_assign (by conv => lhs; whnf)) ?_
        refine r_nil ?_
        refine t_n ?_
        refine c_ret ?_
        refine b_r ?_
        refine t_r ?_
        refine end3 rfl (by conv => lhs; whnf) (by conv => lhs; whnf) (by conv => lhs; whnf) ?_
        first | exact ⟨⟨none, 0, 0, by (rw [hp]; try rfl), (by rw [hp]; exact Own.nil _ _ _ _ _)⟩, hX⟩ | exact ⟨⟨_, _, _, by (rw [hp]; try rfl), by rw [hp]; exact hO⟩, hX⟩
      · try simp only [decide_eq_true_eq, decide_eq_false_iff_not, Bool.not_eq_true, Bool.not_eq_false, Bool.not_eq_eq_eq_not, Bool.not_true, Bool.not_false, Int.not_lt, Int.not_le] at hc20
        refine c_seq ?_
        refine r_plain ?_
        refine p1 (x_move (by conv => lhs; whnf)) ?_
        refine p1 (x_move (by conv => lhs; whnf)) ?_
        refine p1 (x_len_slice u22 rfl) ?_
        refine p1 (x_move (by conv => lhs; whnf)) ?_
        refine p1 (x_sub rfl rfl (fits_i64 (by omega) (by omega))) ?_
        refine p1 (x_convf u95 us3 rfl (fits_u64 (by omega) (by omega))) ?_
        refine p1 (x_quo rfl rfl (by omega) (by omega) (fits_u64 (by omega) (by omega))) ?_
        refine p1 (x_gtr rfl rfl) ?_
        refine p1 (x_assign (by conv => lhs; whnf)) ?_
        refine r_nil ?_
        refine t_n ?_
        first | refine c_dec rfl (fun hc29 => ?_) (fun hc29 => ?_) | refine c_if rfl (fun hc29 => ?_) (fun hc29 => ?_)
        · try simp only [decide_eq_true_eq, decide_eq_false_iff_not, Bool.not_eq_true, Bool.not_eq_false, Bool.not_eq_eq_eq_not, Bool.not_true, Bool.not_false, Int.not_lt, Int.not_le] at hc29
          have hp : gets xs most = ([], 0, 3) := by unfold gets; rw [if_neg hc16, if_neg hc20, if_pos (by omega)]
          refine c_seq ?_
          refine r_plain ?_
          refine p1 (x_assign (by conv => lhs; whnf)) ?_
          refine p1 (x_assign (by conv => lhs; whnf)) ?_
          refine p1 (x_assign (by conv => lhs; whnf)) ?_
          refine r_nil ?_
          refine t_n ?_
          refine c_ret ?_
          refine b_r ?_
          refine t_r ?_
          refine end3 rfl (by conv => lhs; whnf) (by conv => lhs; whnf) (by conv => lhs; whnf) ?_
          first | exact ⟨⟨none, 0, 0, by (rw [hp]; try rfl), (by rw [hp]; exact Own.nil _ _ _ _ _)⟩, hX⟩ | exact ⟨⟨_, _, _, by (rw [hp]; try rfl), by rw [hp]; exact hO⟩, hX⟩
        · try simp only [decide_eq_true_eq, decide_eq_false_iff_not, Bool.not_eq_true, Bool.not_eq_false, Bool.not_eq_eq_eq_not, Bool.not_true, Bool.not_false, Int.not_lt, Int.not_le] at hc29
          have hNk : (getU xs).2.1 + 32 * (getU xs).1 ≤ xs.length := by omega
          refine c_skip ?_
          refine b_n ?_
          refine t_n ?_
          refine c_seq ?_
          refine r_plain ?_
          refine p1 (x_move (by conv => lhs; whnf)) ?_
          have hXs := hX.size
          refine o_make u31 inf35 rfl rfl (by omega) (by omega) (by omega) (by omega) ?_
          intro w3 g39 hN39
          have hE3 := hN39.ext
          have hX := hX.ext hE3
          have hO : Own kHash 35 0 w.heap.size w3 (some ⟨g39, 0, none⟩) (getU xs).1 (getU xs).1 (List.replicate (getU xs).1 hZero) := own_make hZero (getU xs).1 (by decide) hN39 hXs (by omega)
          refine p1 (x_assign (by conv => lhs; whnf)) ?_
          refine r_nil ?_
          refine t_n ?_
          refine c_seq ?_
          refine c_seq ?_
          refine r_plain ?_
          refine p1 (x_move (by conv => lhs; whnf)) ?_
          refine p1 (x_len_slice u31 rfl) ?_
          refine p1 (x_move (by conv => lhs; whnf)) ?_
          refine r_nil ?_
          refine t_n ?_
          refine c_block ?_
          refine c_loop (ι := Nat × List Hash) [9, 42, 43, 44, 45, 46, 47, 48, 49, 50, 51, 52, 53, 54, 55, 56] (fun (k, zs) => [(42, .int .i64 (k : Int))]) (fun (k, zs) w' => Ext w w' ∧ (Own kHash 35 0 w.heap.size w' (some ⟨g39, 0, none⟩) (getU xs).1 (getU xs).1 zs ∧ k ≤ (getU xs).1 ∧ zs.take k = hashesAt xs (getU xs).2.1 k)) (fun (k, zs) => (getU xs).1 - k) ((0, List.replicate (getU xs).1 hZero)) ⟨rfl, trivial⟩ ⟨hX, ⟨hO, by omega, rfl⟩⟩ ?_
          rintro ⟨k, zs⟩ GL1 w4 ⟨hE4, hO, hk, hz⟩
          have hX := hE4
          refine c_seq ?_
          refine r_plain ?_
          refine p1 (x_lss rfl rfl) ?_
          refine r_nil ?_
          refine t_n ?_
          refine c_seq ?_
          first | refine c_dec rfl (fun hc43 => ?_) (fun hc43 => ?_) | refine c_if rfl (fun hc43 => ?_) (fun hc43 => ?_)
          · try simp only [decide_eq_true_eq, decide_eq_false_iff_not, Bool.not_eq_true, Bool.not_eq_false, Bool.not_eq_eq_eq_not, Bool.not_true, Bool.not_false, Int.not_lt, Int.not_le] at hc43
            refine c_skip ?_
            refine t_n ?_
            refine c_seq ?_
            refine c_block ?_
            refine c_seq ?_
            refine r_plain ?_
            refine p1 (x_move (by conv => lhs; whnf)) ?_
            refine p1 (x_assign (by conv => lhs; whnf)) ?_
            refine r_nil ?_
            refine t_n ?_
            have hzl := hO.len
            have hB1 := hX.size
            have ez : (((getU xs).2.1 : Int) + 32 * (k : Int)).toNat = (getU xs).2.1 + 32 * k := by omega
            refine r_tail 10 mixed (by kernel_rfl) ?_
            intro w5 hE5
            have hX := hX.ext hE5
            have hO := hO.ext hE5
            refine s1 (x_move (by conv => lhs; whnf)) ?_
            refine s1 (x_move (by conv => lhs; whnf)) ?_
            refine s1 (x_ixs u31 sz35 rfl rfl (hO.sl.adr kHash_pos (by omega)) (by omega) (by omega)) ?_
            refine s1 (x_slice_arr u35 sz5 rfl) ?_
            refine s1 (x_move (by conv => lhs; whnf)) ?_
            refine s1 (x_move (by conv => lhs; whnf)) ?_
            refine s1 (x_move (by conv => lhs; whnf)) ?_
            refine s1 (x_mul rfl rfl (fits_i64 (by omega) (by omega))) ?_
            refine s1 (x_add rfl rfl (fits_i64 (by omega) (by omega))) ?_
            refine s1 (x_slice_l u22 sz5 rfl rfl (by omega) (by omega)) ?_
            refine s_nil ?_
            refine o_copyHash (i := k) (hashAt xs ((getU xs).2.1 + 32 * k)) u22 sz5 rfl rfl hO (by omega) ((hl.ext hX).dropI (((getU xs).2.1 : Int) + 32 * (k : Int)).toNat (by omega)) (by omega) (by rw [ez]; exact hashAt_take (by omega)) (Nat.zero_le _) ?_
            intro w6 hO hM6
            have hX := hX.mod hM6 (Nat.le_refl _)
            refine r_nil ?_
            refine b_n ?_
            refine t_n ?_
            refine r_plain ?_
            refine p1 (x_add rfl rfl (fits_i64 (by omega) (by omega))) ?_
            refine p1 (x_move (by conv => lhs; whnf)) ?_
            refine r_nil ?_
            refine t_n (At.mk ((k + 1, zs.set k (hashAt xs ((getU xs).2.1 + 32 * k)))) (by repeat (first | exact Agr.refl _ _ | exact Agr.hav _ _ _ | refine Agr.upd rfl ?_ | refine Agr.updL ?_ _ rfl | refine Agr.hav' rfl ?_)) ⟨rfl, trivial⟩ ?_)
            exact ⟨⟨hX, ⟨hO, by omega, by rw [hashesAt_succ, ← hz, List.take_succ_eq_append_getElem (by rw [List.length_set]; omega), List.getElem_set_self, List.take_set_of_le (Nat.le_refl _)]⟩⟩, by first | (dsimp only; omega) | ((show _ < _); omega)⟩
          · try simp only [decide_eq_true_eq, decide_eq_false_iff_not, Bool.not_eq_true, Bool.not_eq_false, Bool.not_eq_eq_eq_not, Bool.not_true, Bool.not_false, Int.not_lt, Int.not_le] at hc43
            have hkN : k = (getU xs).1 := by omega
            have hzl := hO.len
            rw [hkN, List.take_of_length_le (by omega)] at hz
            subst hz
            refine c_exit ?_
            refine t_e ?_
            refine t_e ?_
            refine b_hit ?_
            refine t_n ?_
            refine c_seq ?_
            refine c_seq ?_
            refine r_plain ?_
            refine p1 (x_move (by conv => lhs; whnf)) ?_
            refine o_call Try.func38 fn38 fb38 (hashes_Rising _ _ _ _ _ _ hO.sl) rfl ?_
            rintro v7 w7 ⟨rfl, hE7⟩
            have hX := hX.ext hE7
            have hO := hO.ext hE7
            first | refine p1 (x_notd rfl) ?_ | refine p1 (x_not rfl) ?_
            refine r_nil ?_
            refine t_n ?_
            first | refine c_dec rfl (fun hc59 => ?_) (fun hc59 => ?_) | refine c_if rfl (fun hc59 => ?_) (fun hc59 => ?_)
            · try simp only [decide_eq_true_eq, decide_eq_false_iff_not, Bool.not_eq_true, Bool.not_eq_false, Bool.not_eq_eq_eq_not, Bool.not_true, Bool.not_false, Int.not_lt, Int.not_le] at hc59
              have hp : gets xs most = ([], 0, 4) := by unfold gets; rw [if_neg hc16, if_neg hc20, if_neg (by omega), if_pos hc59]
              refine c_seq ?_
              refine r_plain ?_
              refine p1 (x_assign (by conv => lhs; whnf)) ?_
              refine p1 (x_assign (by conv => lhs; whnf)) ?_
              refine p1 (x_assign (by conv => lhs; whnf)) ?_
              refine r_nil ?_
              refine t_n ?_
              refine c_ret ?_
              refine t_r ?_
              refine end3 rfl (by conv => lhs; whnf) (by conv => lhs; whnf) (by conv => lhs; whnf) ?_
              first | exact ⟨⟨none, 0, 0, by (rw [hp]; try rfl), (by rw [hp]; exact Own.nil _ _ _ _ _)⟩, hX⟩ | exact ⟨⟨_, _, _, by (rw [hp]; try rfl), by rw [hp]; exact hO⟩, hX⟩
            · try simp only [decide_eq_true_eq, decide_eq_false_iff_not, Bool.not_eq_true, Bool.not_eq_false, Bool.not_eq_eq_eq_not, Bool.not_true, Bool.not_false, Int.not_lt, Int.not_le] at hc59
              have hp : gets xs most = (hashesAt xs (getU xs).2.1 (getU xs).1, (getU xs).2.1 + 32 * (getU xs).1, 0) := by unfold gets; rw [if_neg hc16, if_neg hc20, if_neg (by omega), if_neg (by simp [hc59])]
              refine c_skip ?_
              refine t_n ?_
              refine c_seq ?_
              refine r_plain ?_
              refine p1 (x_move (by conv => lhs; whnf)) ?_
              refine p1 (x_move (by conv => lhs; whnf)) ?_
              refine p1 (x_move (by conv => lhs; whnf)) ?_
              refine p1 (x_len_slice u31 rfl) ?_
              refine p1 (x_mul rfl rfl (fits_i64 (by omega) (by omega))) ?_
              refine p1 (x_add rfl rfl (fits_i64 (by omega) (by omega))) ?_
              refine p1 (x_assign (by conv => lhs; whnf)) ?_
              refine p1 (x_assign (by conv => lhs; whnf)) ?_
              refine p1 (x_assign (by conv => lhs; whnf)) ?_
              refine r_nil ?_
              refine t_n ?_
              refine c_ret ?_
              refine end3 rfl (by conv => lhs; whnf) (by conv => lhs; whnf) (by conv => lhs; whnf) ?_
              first | exact ⟨⟨none, 0, 0, by (rw [hp]; try rfl), (by rw [hp]; exact Own.nil _ _ _ _ _)⟩, hX⟩ | exact ⟨⟨_, _, _, by (rw [hp]; try rfl), by rw [hp]; exact hO⟩, hX⟩
end Go.Proofs.Eng
