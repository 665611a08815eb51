import Derived.Test.YtjbfgmkemideiaaF0
import Derived.Test.YtjbfgmkemideiaaP5
import Derived.Test.YtjbfgmkemideiaaA7
import Derived.Test.YtjbfgmkemideiaaA3
import Derived.Test.YtjbfgmkemideiaaA1
set_option linter.unusedVariables false
set_option linter.unusedSimpArgs false
set_option maxRecDepth 100000
set_option maxHeartbeats 4000000
namespace Go.Proofs.Eng
open Go.RowKit
open Extern.Stop (cell)
theorem ref06_Get (xs : List UInt8) (most : Int) (B : Nat) (p : Option Addr) (n c : Nat) (w : World) (hl : Sl kByte 5 B w p n c xs) (hmost : -9223372036854775808 ≤ most ∧ most ≤ 9223372036854775807) (hs : n ≤ 140737488351232) :
    Ret Try.prog 44 [.slice p n c, .int .i64 most] w (fun v w' => (∃ q m c', v = .tuple #[.slice q m c', .int .i64 ((gets xs most).2.1 : Int), .int .i64 (gets xs most).2.2] ∧ Own kHash 35 0 w.heap.size w' q m c' (gets xs most).1) ∧ Ext w w') := by
  have hX := Ext.refl w
  refine enter 76 _ Try.func44 rfl rfl (Nat.le_of_ble_eq_true rfl) ?_
  refine c_seq ?_
  refine r_plain ?_
  refine p1 (x_assign (by conv => lhs; whnf)) ?_
  refine p1 (x_assign (by conv => lhs; whnf)) ?_
  refine p1 (x_assign (by conv => lhs; whnf)) ?_
  refine r_nil ?_
  refine t_n ?_
  refine c_seq ?_
  have hlen := hl.len
  have hfit := hl.fit
  have hcap := hl.cap
  refine r_plain ?_
  refine p1 (x_move (by conv => lhs; whnf)) ?_
  refine o_call Try.func97 fn97 fb97 (ref02_GetUint xs _ _ _ _ _ (hl.ext hX)) rfl ?_
  rintro v1 w1 ⟨rfl, hE1⟩
  have hX := hX.ext hE1
  refine p1 (x_move (by conv => lhs; whnf)) ?_
  refine p1 (x_extract rfl rfl) ?_
  refine p1 (x_extract rfl rfl) ?_
  refine p1 (x_extract rfl rfl) ?_
  refine p1 (x_assign (by conv => lhs; whnf)) ?_
  refine p1 (x_assign (by conv => lhs; whnf)) ?_
  refine p1 (x_assign (by conv => lhs; whnf)) ?_
  refine r_nil ?_
  refine t_n ?_
  refine c_seq ?_
  refine c_block ?_
  refine c_seq ?_
  refine r_plain ?_
  refine p1 (x_move (by conv => lhs; whnf)) ?_
  refine p1 (x_neq rfl rfl) ?_
  refine p1 (x_assign (by conv => lhs; whnf)) ?_
  refine r_nil ?_
  refine t_n ?_
  first | refine c_dec rfl (fun hc20 => ?_) (fun hc20 => ?_) | refine c_if rfl (fun hc20 => ?_) (fun hc20 => ?_)
  · try simp only [decide_eq_true_eq, decide_eq_false_iff_not, Bool.not_eq_true, Bool.not_eq_false, Bool.not_eq_eq_eq_not, Bool.not_true, Bool.not_false, Int.not_lt, Int.not_le] at hc20
    have hp : gets xs most = ([], 0, (getU xs).2.2) := by unfold gets; rw [if_pos hc20]
    refine c_seq ?_
    refine r_plain ?_
    refine p1 (x_move (by conv => lhs; whnf)) ?_
    refine p1 (x_assign (by conv => lhs; whnf)) ?_
    refine p1 (x_assign (by conv => lhs; whnf)) ?_
    refine p1 (x_assign (by conv => lhs; whnf)) ?_
    refine r_nil ?_
    refine t_n ?_
    refine c_ret ?_
    refine b_r ?_
    refine t_r ?_
    refine end3 rfl (by conv => lhs; whnf) (by conv => lhs; whnf) (by conv => lhs; whnf) ?_
    first | exact ⟨⟨none, 0, 0, by (rw [hp]; try rfl), (by rw [hp]; exact Own.nil _ _ _ _ _)⟩, hX⟩ | exact ⟨⟨_, _, _, by (rw [hp]; try rfl), by rw [hp]; exact hO⟩, hX⟩
  · try simp only [decide_eq_true_eq, decide_eq_false_iff_not, Bool.not_eq_true, Bool.not_eq_false, Bool.not_eq_eq_eq_not, Bool.not_true, Bool.not_false, Int.not_lt, Int.not_le] at hc20
    have he0 : (getU xs).2.2 = 0 := Classical.byContradiction hc20
    obtain ⟨hk1, hk2, hk3, hk4⟩ := getU_bounds he0
    refine c_seq ?_
    have hWr4 := Ext.refl w1
    refine c_cut (ι := Unit) [24, 25, 26, 27, 28, 29, 30, 31, 32] (fun _ => [(24, .bool (decide (most < 0 ∨ most < ((getU xs).1 : Int))))]) (fun _ w' => Ext w1 w') ?_ ?_
    · skip
      refine r_plain ?_
      refine p1 (x_move (by conv => lhs; whnf)) ?_
      refine p1 (x_lss rfl rfl) ?_
      refine p1b (x_move (by conv => lhs; whnf)) (fun hb4_2 => ?_) (fun hb4_2 => ?_)
      · try simp only [decide_eq_true_eq, decide_eq_false_iff_not, Bool.not_eq_true, Bool.not_eq_false, Bool.not_eq_eq_eq_not, Bool.not_true, Bool.not_false, Int.not_lt, Int.not_le] at hb4_2
        refine g0 27 rfl (by first | exact .inl rfl | exact .inr rfl) ?_
        refine g0 27 rfl (by first | exact .inl rfl | exact .inr rfl) ?_
        refine g0 27 rfl (by first | exact .inl rfl | exact .inr rfl) ?_
        refine g0 27 rfl (by first | exact .inl rfl | exact .inr rfl) ?_
        refine p1 (x_pick_t rfl (by conv => lhs; whnf)) ?_
        refine p1 (x_assign (by conv => lhs; whnf)) ?_
        refine r_nil ?_
        refine t_n (At.mk () (by repeat (first | exact Agr.refl _ _ | exact Agr.hav _ _ _ | refine Agr.upd rfl ?_ | refine Agr.updL ?_ _ rfl | refine Agr.hav' rfl ?_)) ⟨congrArg Value.bool (by first | rfl | exact (decide_eq_true (by omega)).symm | exact (decide_eq_false (by omega)).symm | exact decide_eq_decide.2 (by omega) | (simp_all; done) | grind), trivial⟩ hWr4)
      · try simp only [decide_eq_true_eq, decide_eq_false_iff_not, Bool.not_eq_true, Bool.not_eq_false, Bool.not_eq_eq_eq_not, Bool.not_true, Bool.not_false, Int.not_lt, Int.not_le] at hb4_2
        refine g1 27 rfl rfl (x_move (by conv => lhs; whnf)) ?_
        refine g1 27 rfl rfl (x_move (by conv => lhs; whnf)) ?_
        refine g1 27 rfl rfl (x_convf u95 us3 rfl (fits_u64 (by omega) (by omega))) ?_
        refine g1 27 rfl rfl (x_gtr rfl rfl) ?_
        refine p1 (x_pick_f rfl (by conv => lhs; whnf)) ?_
        refine p1 (x_assign (by conv => lhs; whnf)) ?_
        refine r_nil ?_
        refine t_n (At.mk () (by repeat (first | exact Agr.refl _ _ | exact Agr.hav _ _ _ | refine Agr.upd rfl ?_ | refine Agr.updL ?_ _ rfl | refine Agr.hav' rfl ?_)) ⟨congrArg Value.bool (by first | rfl | exact (decide_eq_true (by omega)).symm | exact (decide_eq_false (by omega)).symm | exact decide_eq_decide.2 (by omega) | (simp_all; done) | grind), trivial⟩ hWr4)
    · rintro _ Gr4 w2 hE2
      have hX := hX.ext hE2
      refine t_n ?_
      first | refine c_dec rfl (fun hc24 => ?_) (fun hc24 => ?_) | refine c_if rfl (fun hc24 => ?_) (fun hc24 => ?_)
      · try simp only [decide_eq_true_eq, decide_eq_false_iff_not, Bool.not_eq_true, Bool.not_eq_false, Bool.not_eq_eq_eq_not, Bool.not_true, Bool.not_false, Int.not_lt, Int.not_le] at hc24
        have hp : gets xs most = ([], 0, 5) := by unfold gets; rw [if_neg hc20, if_pos hc24]
        refine c_seq ?_
        refine r_plain ?_
        refine p1 (x_assign (by conv => lhs; whnf)) ?_
        refine p1 (x_assign (by conv => lhs; whnf)) ?_
        refine p1 (x_assign (by conv => lhs; whnf)) ?_
        refine r_nil ?_
        refine t_n ?_
        refine c_ret ?_
        refine b_r ?_
        refine t_r ?_
        refine end3 rfl (by conv => lhs; whnf) (by conv => lhs; whnf) (by conv => lhs; whnf) ?_
        first | exact ⟨⟨none, 0, 0, by (rw [hp]; try rfl), (by rw [hp]; exact Own.nil _ _ _ _ _)⟩, hX⟩ | exact ⟨⟨_, _, _, by (rw [hp]; try rfl), by rw [hp]; exact hO⟩, hX⟩
      · try simp only [decide_eq_true_eq, decide_eq_false_iff_not, Bool.not_eq_true, Bool.not_eq_false, Bool.not_eq_eq_eq_not, Bool.not_true, Bool.not_false, Int.not_lt, Int.not_le] at hc24
        refine c_seq ?_
        refine r_plain ?_
        refine p1 (x_move (by conv => lhs; whnf)) ?_
        refine p1 (x_move (by conv => lhs; whnf)) ?_
        refine p1 (x_len_slice u22 rfl) ?_
        refine p1 (x_move (by conv => lhs; whnf)) ?_
        refine p1 (x_sub rfl rfl (fits_i64 (by omega) (by omega))) ?_
        refine p1 (x_convf u95 us3 rfl (fits_u64 (by omega) (by omega))) ?_
        refine p1 (x_quo rfl rfl (by omega) (by omega) (fits_u64 (by omega) (by omega))) ?_
        refine p1 (x_gtr rfl rfl) ?_
        refine p1 (x_assign (by conv => lhs; whnf)) ?_
        refine r_nil ?_
        refine t_n ?_
        first | refine c_dec rfl (fun hc33 => ?_) (fun hc33 => ?_) | refine c_if rfl (fun hc33 => ?_) (fun hc33 => ?_)
        · try simp only [decide_eq_true_eq, decide_eq_false_iff_not, Bool.not_eq_true, Bool.not_eq_false, Bool.not_eq_eq_eq_not, Bool.not_true, Bool.not_false, Int.not_lt, Int.not_le] at hc33
          have hp : gets xs most = ([], 0, 3) := by unfold gets; rw [if_neg hc20, if_neg hc24, if_pos (by omega)]
          refine c_seq ?_
          refine r_plain ?_
          refine p1 (x_assign (by conv => lhs; whnf)) ?_
          refine p1 (x_assign (by conv => lhs; whnf)) ?_
          refine p1 (x_assign (by conv => lhs; whnf)) ?_
          refine r_nil ?_
          refine t_n ?_
          refine c_ret ?_
          refine b_r ?_
          refine t_r ?_
          refine end3 rfl (by conv => lhs; whnf) (by conv => lhs; whnf) (by conv => lhs; whnf) ?_
          first | exact ⟨⟨none, 0, 0, by (rw [hp]; try rfl), (by rw [hp]; exact Own.nil _ _ _ _ _)⟩, hX⟩ | exact ⟨⟨_, _, _, by (rw [hp]; try rfl), by rw [hp]; exact hO⟩, hX⟩
        · try simp only [decide_eq_true_eq, decide_eq_false_iff_not, Bool.not_eq_true, Bool.not_eq_false, Bool.not_eq_eq_eq_not, Bool.not_true, Bool.not_false, Int.not_lt, Int.not_le] at hc33
          have hNk : (getU xs).2.1 + 32 * (getU xs).1 ≤ xs.length := by omega
          refine c_skip ?_
          refine b_n ?_
          refine t_n ?_
          refine c_seq ?_
          refine r_plain ?_
          refine p1 (x_assign (by conv => lhs; whnf)) ?_
          refine r_nil ?_
          refine t_n ?_
          refine c_seq ?_
          refine c_seq ?_
          refine r_plain ?_
          refine p1 (x_assign (by conv => lhs; whnf)) ?_
          refine r_nil ?_
          refine t_n ?_
          refine c_block ?_
          have hO := Own.nil kHash 35 0 w.heap.size
          refine c_loop (ι := Nat × Option Addr × Nat × Nat) [10, 11, 12, 13, 42, 43, 44, 45, 46, 47, 48, 49, 50, 51, 52, 53, 54, 55, 56, 57, 58, 59, 60, 61, 62, 63, 64, 65, 66] (fun (i, q, m, c1) => [(10, .slice q m c1), (11, .int .i64 (i : Int))]) (fun (i, q, m, c1) w' => Ext w w' ∧ (Own kHash 35 0 w.heap.size w' q m c1 (hashesAt xs (getU xs).2.1 i) ∧ i ≤ (getU xs).1 ∧ m = i)) (fun (i, q, m, c1) => (getU xs).1 - i) ((0, none, 0, 0)) ⟨rfl, rfl, trivial⟩ ⟨hX, ⟨hO _, by omega, rfl⟩⟩ ?_
          rintro ⟨i, q, m, c1⟩ GL1 w3 ⟨hE3, hO, hi, hm⟩
          have hX := hE3
          refine c_seq ?_
          refine c_seq ?_
          refine r_plain ?_
          refine p1 (x_move (by conv => lhs; whnf)) ?_
          refine p1 (x_move (by conv => lhs; whnf)) ?_
          refine p1 (x_convf u3 us95 rfl (fits_i64 (by omega) (by omega))) ?_
          refine p1 (x_lss rfl rfl) ?_
          refine r_nil ?_
          refine t_n ?_
          first | refine c_dec rfl (fun hc45 => ?_) (fun hc45 => ?_) | refine c_if rfl (fun hc45 => ?_) (fun hc45 => ?_)
          · try simp only [decide_eq_true_eq, decide_eq_false_iff_not, Bool.not_eq_true, Bool.not_eq_false, Bool.not_eq_eq_eq_not, Bool.not_true, Bool.not_false, Int.not_lt, Int.not_le] at hc45
            refine c_skip ?_
            refine t_n ?_
            refine c_seq ?_
            refine c_block ?_
            refine c_seq ?_
            refine r_plain ?_
            have hXs := hX.size
            have hOlt0 := hO.below
            refine o_alloc zr35 ?_
            intro w4 g12 hN12
            have hE4 := hN12.ext
            have hX := hX.ext hE4
            have hO := hO.ext hE4
            have hB12 := hN12.blk
            refine r_nil ?_
            refine t_n ?_
            refine c_seq ?_
            refine c_seq ?_
            have hg12 : w.heap.size ≤ g12 := by have := hN12.g_eq; omega
            have hOlt : q = none ∨ ab q < g12 := by rw [hN12.g_eq]; exact hOlt0
            have hB12 : Blk _ g12 (hv hZero) 35 := hB12
            refine r_plain ?_
            refine p1 (x_assign (by conv => lhs; whnf)) ?_
            refine r_nil ?_
            refine t_n ?_
            refine c_block ?_
            refine c_loop (ι := Nat × Hash) [13, 48, 49, 50, 51, 52, 53, 54, 55, 56, 57, 58, 59, 60, 61, 62] (fun (c2, h) => [(13, .int .i64 (c2 : Int))]) (fun (c2, h) w' => Ext w w' ∧ (Own kHash 35 0 w.heap.size w' q m c1 (hashesAt xs (getU xs).2.1 i) ∧ Blk w' g12 (hv h) 35 ∧ c2 ≤ 32 ∧ h.1.take c2 = (hashAt xs ((getU xs).2.1 + 32 * i)).1.take c2)) (fun (c2, h) => 32 - c2) ((0, hZero)) ⟨rfl, trivial⟩ ⟨hX, ⟨hO, hB12, by omega, rfl⟩⟩ ?_
            rintro ⟨c2, h⟩ GL3 w5 ⟨hE5, hO, hB12, hc2, hh⟩
            have hX := hE5
            refine c_seq ?_
            refine c_seq ?_
            refine r_plain ?_
            refine p1 (x_move (by conv => lhs; whnf)) ?_
            refine p1 (x_lss rfl rfl) ?_
            refine r_nil ?_
            refine t_n ?_
            first | refine c_dec rfl (fun hc49 => ?_) (fun hc49 => ?_) | refine c_if rfl (fun hc49 => ?_) (fun hc49 => ?_)
            · try simp only [decide_eq_true_eq, decide_eq_false_iff_not, Bool.not_eq_true, Bool.not_eq_false, Bool.not_eq_eq_eq_not, Bool.not_true, Bool.not_false, Int.not_lt, Int.not_le] at hc49
              refine c_skip ?_
              refine t_n ?_
              refine c_seq ?_
              refine c_block ?_
              have ez : (((getU xs).2.1 : Int) + 32 * (i : Int) + (c2 : Int)).toNat = (getU xs).2.1 + 32 * i + c2 := by omega
              refine r_plain ?_
              refine p1 (x_move (by conv => lhs; whnf)) ?_
              refine p1 (x_move (by conv => lhs; whnf)) ?_
              refine p1 (x_move (by conv => lhs; whnf)) ?_
              refine p1 (x_move (by conv => lhs; whnf)) ?_
              refine p1 (x_mul rfl rfl (fits_i64 (by omega) (by omega))) ?_
              refine p1 (x_add rfl rfl (fits_i64 (by omega) (by omega))) ?_
              refine p1 (x_move (by conv => lhs; whnf)) ?_
              refine p1 (x_add rfl rfl (fits_i64 (by omega) (by omega))) ?_
              refine p1 (x_ixs u22 sz5 rfl rfl ((hl.ext hX).adr kByte_pos (by omega)) (by omega) (by omega)) ?_
              refine p1 ((x_load1 un5 rfl ((hl.ext hX).byteAtI _ (by omega) (by omega))).cast (by rw [ez])) ?_
              refine p1 (x_ixa0 u35 sz5 rfl rfl (by omega)) ?_
              refine o_store1 rfl (by conv => lhs; whnf) rfl rfl sz5 hB12 (by rw [hv_size]; omega) ?_
              intro w6 hP6
              have hX := hX.put hP6 (hg12)
              have hO := hO.modB (hP6.mod g12 (Nat.le_refl _)) (Nat.zero_le _) (by decide) hOlt
              have hB12 := hP6.blk
              rw [hv_put] at hB12
              refine r_nil ?_
              refine b_n ?_
              refine t_n ?_
              refine r_plain ?_
              refine p1 (x_move (by conv => lhs; whnf)) ?_
              refine p1 (x_add rfl rfl (fits_i64 (by omega) (by omega))) ?_
              refine p1 (x_assign (by conv => lhs; whnf)) ?_
              refine r_nil ?_
              refine t_n (At.mk ((c2 + 1, h.put c2 (xs.getD ((getU xs).2.1 + 32 * i + c2) 0))) (by repeat (first | exact Agr.refl _ _ | exact Agr.hav _ _ _ | refine Agr.upd rfl ?_ | refine Agr.updL ?_ _ rfl | refine Agr.hav' rfl ?_)) ⟨rfl, trivial⟩ ?_)
              exact ⟨⟨hX, ⟨hO, hB12, by omega, hashAt_step (by omega) hh⟩⟩, by first | (dsimp only; omega) | ((show _ < _); omega)⟩
            · try simp only [decide_eq_true_eq, decide_eq_false_iff_not, Bool.not_eq_true, Bool.not_eq_false, Bool.not_eq_eq_eq_not, Bool.not_true, Bool.not_false, Int.not_lt, Int.not_le] at hc49
              have hc32 : c2 = 32 := by omega
              rw [hc32] at hh
              have hhh := hash_of_take hh
              subst hhh
              refine c_exit ?_
              refine t_e ?_
              refine t_e ?_
              refine b_hit ?_
              refine t_n ?_
              refine r_plain ?_
              refine p1 (x_move (by conv => lhs; whnf)) ?_
              refine p1 (x_loadB ua35 rfl hB12 (hv_sz sz35 _)) ?_
              refine o_buildSlice u31 inf35 rfl (by decide) (fun base hb => fill_kn [.agg (hv (hashAt xs ((getU xs).2.1 + 32 * i)))] (by intro v hv'; simp only [List.mem_singleton] at hv'; subst hv'; simp [Value.cells, hv, hcs_len]) base hb) ?_
              intro w7 g65 hN65
              have hE7 := hN65.ext
              have hX := hX.ext hE7
              have hO := hO.ext hE7
              have hB12 := hB12.ext hE7
              have hJ : Own kHash 35 0 0 w7 (some ⟨g65, 0, none⟩) 1 1 [(hashAt xs ((getU xs).2.1 + 32 * i))] := own_lit [(hashAt xs ((getU xs).2.1 + 32 * i))] hN65 (Nat.zero_le _) (by simp)
              have hB1 := hX.size
              refine o_append (d := kHash) ([(hashAt xs ((getU xs).2.1 + 32 * i))]) u31 inf35 rfl kHash_pos rfl rfl hO (src_pure u31 hJ.sl (by decide)) rfl (hash_all _ _ _) (rfl) (by omega) (by omega) (by omega) (by omega) (by decide) ?_
              intro p66 c66 w8 hO hM8
              have hX := hX.mod hM8 (Nat.le_refl _)
              refine p1 (x_assign (by conv => lhs; whnf)) ?_
              refine r_nil ?_
              refine b_n ?_
              refine t_n ?_
              refine r_plain ?_
              refine p1 (x_move (by conv => lhs; whnf)) ?_
              refine p1 (x_add rfl rfl (fits_i64 (by omega) (by omega))) ?_
              refine p1 (x_assign (by conv => lhs; whnf)) ?_
              refine r_nil ?_
              refine t_n (At.mk ((i + 1, p66, m + 1, c66)) (by repeat (first | exact Agr.refl _ _ | exact Agr.hav _ _ _ | refine Agr.upd rfl ?_ | refine Agr.updL ?_ _ rfl | refine Agr.hav' rfl ?_)) ⟨rfl, rfl, trivial⟩ ?_)
              exact ⟨⟨hX, ⟨by rw [hashesAt_succ]; exact hO, by omega, by omega⟩⟩, by first | (dsimp only; omega) | ((show _ < _); omega)⟩
          · try simp only [decide_eq_true_eq, decide_eq_false_iff_not, Bool.not_eq_true, Bool.not_eq_false, Bool.not_eq_eq_eq_not, Bool.not_true, Bool.not_false, Int.not_lt, Int.not_le] at hc45
            have hiN : i = (getU xs).1 := by omega
            subst hiN
            refine c_exit ?_
            refine t_e ?_
            refine t_e ?_
            refine b_hit ?_
            refine t_n ?_
            refine c_seq ?_
            refine c_seq ?_
            refine r_plain ?_
            refine p1 (x_move (by conv => lhs; whnf)) ?_
            refine o_call Try.func39 fn39 fb39 (ref06_Rising _ _ _ _ _ _ hO.sl) rfl ?_
            rintro v9 w9 ⟨rfl, hE9⟩
            have hX := hX.ext hE9
            have hO := hO.ext hE9
            first | refine p1 (x_notd rfl) ?_ | refine p1 (x_not rfl) ?_
            refine r_nil ?_
            refine t_n ?_
            first | refine c_dec rfl (fun hc69 => ?_) (fun hc69 => ?_) | refine c_if rfl (fun hc69 => ?_) (fun hc69 => ?_)
            · try simp only [decide_eq_true_eq, decide_eq_false_iff_not, Bool.not_eq_true, Bool.not_eq_false, Bool.not_eq_eq_eq_not, Bool.not_true, Bool.not_false, Int.not_lt, Int.not_le] at hc69
              have hp : gets xs most = ([], 0, 4) := by unfold gets; rw [if_neg hc20, if_neg hc24, if_neg (by omega), if_pos hc69]
              refine c_seq ?_
              refine r_plain ?_
              refine p1 (x_assign (by conv => lhs; whnf)) ?_
              refine p1 (x_assign (by conv => lhs; whnf)) ?_
              refine p1 (x_assign (by conv => lhs; whnf)) ?_
              refine r_nil ?_
              refine t_n ?_
              refine c_ret ?_
              refine t_r ?_
              refine end3 rfl (by conv => lhs; whnf) (by conv => lhs; whnf) (by conv => lhs; whnf) ?_
              first | exact ⟨⟨none, 0, 0, by (rw [hp]; try rfl), (by rw [hp]; exact Own.nil _ _ _ _ _)⟩, hX⟩ | exact ⟨⟨_, _, _, by (rw [hp]; try rfl), by rw [hp]; exact hO⟩, hX⟩
            · try simp only [decide_eq_true_eq, decide_eq_false_iff_not, Bool.not_eq_true, Bool.not_eq_false, Bool.not_eq_eq_eq_not, Bool.not_true, Bool.not_false, Int.not_lt, Int.not_le] at hc69
              have hp : gets xs most = (hashesAt xs (getU xs).2.1 (getU xs).1, (getU xs).2.1 + 32 * (getU xs).1, 0) := by unfold gets; rw [if_neg hc20, if_neg hc24, if_neg (by omega), if_neg (by simp [hc69])]
              refine c_skip ?_
              refine t_n ?_
              refine c_seq ?_
              refine r_plain ?_
              refine p1 (x_move (by conv => lhs; whnf)) ?_
              refine p1 (x_move (by conv => lhs; whnf)) ?_
              refine p1 (x_move (by conv => lhs; whnf)) ?_
              refine p1 (x_convf u3 us95 rfl (fits_i64 (by omega) (by omega))) ?_
              refine p1 (x_mul rfl rfl (fits_i64 (by omega) (by omega))) ?_
              refine p1 (x_add rfl rfl (fits_i64 (by omega) (by omega))) ?_
              refine p1 (x_assign (by conv => lhs; whnf)) ?_
              refine p1 (x_assign (by conv => lhs; whnf)) ?_
              refine p1 (x_assign (by conv => lhs; whnf)) ?_
              refine r_nil ?_
              refine t_n ?_
              refine c_ret ?_
              refine end3 rfl (by conv => lhs; whnf) (by conv => lhs; whnf) (by conv => lhs; whnf) ?_
              first | exact ⟨⟨none, 0, 0, by (rw [hp]; try rfl), (by rw [hp]; exact Own.nil _ _ _ _ _)⟩, hX⟩ | exact ⟨⟨_, _, _, by (rw [hp]; try rfl), by rw [hp]; exact hO⟩, hX⟩
end Go.Proofs.Eng
