import Derived.Test.YtjbfgmkemideiaaP1
import Derived.Test.YtjbfgmkemideiaaT0
set_option linter.unusedVariables false
set_option linter.unusedSimpArgs false
set_option maxRecDepth 100000
set_option maxHeartbeats 4000000
namespace Go.Proofs.Eng
open Go.RowKit
open Extern.Stop (cell)
theorem hashes_Name (s : ByteArray) (w : World) (hs : s.size ≤ 9223372036854775807) :
    Ret Try.prog 31 [.string s] w (fun v w' => v = .bool (isName s) ∧ Ext w w') := by
  have hX := Ext.refl w
  refine enter 51 _ Try.func31 rfl rfl (Nat.le_of_ble_eq_true rfl) ?_
  refine c_seq ?_
  refine r_plain ?_
  refine p1 (x_assign (by conv => lhs; whnf)) ?_
  refine r_nil ?_
  refine t_n ?_
  refine c_seq ?_
  refine c_seq ?_
  have hWr1 := Ext.refl w
  refine c_cut (ι := Unit) [5, 6, 7, 8, 9, 10, 11, 12, 13, 14, 15, 16] (fun _ => [(16, .bool (decide (s.size = 0 ∨ 32 < s.size ∨ s = ⟨#[45]⟩)))]) (fun _ w' => Ext w w') ?_ ?_
  · skip
    refine r_plain ?_
    refine p1 (x_move (by conv => lhs; whnf)) ?_
    refine p1 (x_len_str u9 rfl) ?_
    refine p1 (x_eql rfl rfl) ?_
    refine p1b (x_move (by conv => lhs; whnf)) (fun hb1_3 => ?_) (fun hb1_3 => ?_)
    · try simp only [decide_eq_true_eq, decide_eq_false_iff_not, Bool.not_eq_true, Bool.not_eq_false, Bool.not_eq_eq_eq_not, Bool.not_true, Bool.not_false, Int.not_lt, Int.not_le] at hb1_3
      refine g0 8 rfl (by first | exact .inl rfl | exact .inr rfl) ?_
      refine g0 8 rfl (by first | exact .inl rfl | exact .inr rfl) ?_
      refine g0 8 rfl (by first | exact .inl rfl | exact .inr rfl) ?_
      refine p1 (x_pick_t rfl (by conv => lhs; whnf)) ?_
      refine p1 (x_move (by conv => lhs; whnf)) ?_
      refine g0 13 rfl (by first | exact .inl rfl | exact .inr rfl) ?_
      refine g0 13 rfl (by first | exact .inl rfl | exact .inr rfl) ?_
      refine p1 (x_pick_t rfl (by conv => lhs; whnf)) ?_
      refine r_nil ?_
      refine t_n (At.mk () (by repeat (first | exact Agr.refl _ _ | exact Agr.hav _ _ _ | refine Agr.upd rfl ?_ | refine Agr.updL ?_ _ rfl | refine Agr.hav' rfl ?_)) ⟨congrArg Value.bool (by first | rfl | exact (decide_eq_true (by omega)).symm | exact (decide_eq_false (by omega)).symm | exact decide_eq_decide.2 (by omega) | (simp_all; done) | grind), trivial⟩ hWr1)
    · try simp only [decide_eq_true_eq, decide_eq_false_iff_not, Bool.not_eq_true, Bool.not_eq_false, Bool.not_eq_eq_eq_not, Bool.not_true, Bool.not_false, Int.not_lt, Int.not_le] at hb1_3
      refine g1 8 rfl rfl (x_move (by conv => lhs; whnf)) ?_
      refine g1 8 rfl rfl (x_len_str u9 rfl) ?_
      refine g1 8 rfl rfl (x_gtr rfl rfl) ?_
      refine p1 (x_pick_f rfl (by conv => lhs; whnf)) ?_
      refine p1b (x_move (by conv => lhs; whnf)) (fun hb1_8 => ?_) (fun hb1_8 => ?_)
      · try simp only [decide_eq_true_eq, decide_eq_false_iff_not, Bool.not_eq_true, Bool.not_eq_false, Bool.not_eq_eq_eq_not, Bool.not_true, Bool.not_false, Int.not_lt, Int.not_le] at hb1_8
        refine g0 13 rfl (by first | exact .inl rfl | exact .inr rfl) ?_
        refine g0 13 rfl (by first | exact .inl rfl | exact .inr rfl) ?_
        refine p1 (x_pick_t rfl (by conv => lhs; whnf)) ?_
        refine r_nil ?_
        refine t_n (At.mk () (by repeat (first | exact Agr.refl _ _ | exact Agr.hav _ _ _ | refine Agr.upd rfl ?_ | refine Agr.updL ?_ _ rfl | refine Agr.hav' rfl ?_)) ⟨congrArg Value.bool (by first | rfl | exact (decide_eq_true (by omega)).symm | exact (decide_eq_false (by omega)).symm | exact decide_eq_decide.2 (by omega) | (simp_all; done) | grind), trivial⟩ hWr1)
      · try simp only [decide_eq_true_eq, decide_eq_false_iff_not, Bool.not_eq_true, Bool.not_eq_false, Bool.not_eq_eq_eq_not, Bool.not_true, Bool.not_false, Int.not_lt, Int.not_le] at hb1_8
        refine g1 13 rfl rfl (x_move (by conv => lhs; whnf)) ?_
        refine g1 13 rfl rfl (x_eql_str rfl rfl) ?_
        refine p1 (x_pick_f rfl (by conv => lhs; whnf)) ?_
        refine r_nil ?_
        refine t_n (At.mk () (by repeat (first | exact Agr.refl _ _ | exact Agr.hav _ _ _ | refine Agr.upd rfl ?_ | refine Agr.updL ?_ _ rfl | refine Agr.hav' rfl ?_)) ⟨congrArg Value.bool (by first | rfl | exact (decide_eq_true (by omega)).symm | exact (decide_eq_false (by omega)).symm | exact decide_eq_decide.2 (by omega) | (simp_all; done) | grind), trivial⟩ hWr1)
  · rintro _ Gr1 w1 hE1
    have hX := hX.ext hE1
    refine t_n ?_
    first | refine c_dec rfl (fun hc16 => ?_) (fun hc16 => ?_) | refine c_if rfl (fun hc16 => ?_) (fun hc16 => ?_)
    · try simp only [decide_eq_true_eq, decide_eq_false_iff_not, Bool.not_eq_true, Bool.not_eq_false, Bool.not_eq_eq_eq_not, Bool.not_true, Bool.not_false, Int.not_lt, Int.not_le] at hc16
      have hp := name_bad hc16
      refine c_seq ?_
      refine r_plain ?_
      refine p1 (x_assign (by conv => lhs; whnf)) ?_
      refine r_nil ?_
      refine t_n ?_
      refine c_ret ?_
      refine t_r ?_
      refine end1 rfl (by conv => lhs; whnf) ?_
      exact ⟨by rw [hp], hX⟩
    · try simp only [decide_eq_true_eq, decide_eq_false_iff_not, Bool.not_eq_true, Bool.not_eq_false, Bool.not_eq_eq_eq_not, Bool.not_true, Bool.not_false, Int.not_lt, Int.not_le] at hc16
      refine c_skip ?_
      refine t_n ?_
      refine c_seq ?_
      refine c_seq ?_
      refine r_plain ?_
      refine p1 (x_move (by conv => lhs; whnf)) ?_
      refine p1 (x_len_str u9 rfl) ?_
      refine p1 (x_move (by conv => lhs; whnf)) ?_
      refine r_nil ?_
      refine t_n ?_
      refine c_block ?_
      have hWL0 := Ext.refl w1
      refine c_loop (ι := Nat) [2, 3, 4, 19, 20, 21, 22, 23, 24, 25, 26, 27, 28, 29, 30, 31, 32, 33, 34, 35, 36, 37, 38, 39, 40, 41, 42, 43, 44, 45, 46, 47, 48, 49, 50] (fun k => [(19, .int .i64 (k : Int))]) (fun k w' => Ext w1 w' ∧ (k ≤ s.size ∧ ∀ i, i < k → okc (btAt s i).toNat)) (fun k => s.size - k) (0) ⟨rfl, trivial⟩ ⟨Ext.refl _, ⟨by omega, fun i hi => by omega⟩⟩ ?_
      rintro k GL0 w2 ⟨hE2, hk, hL⟩
      have hX := hX.ext hE2
      have hWL0 := hE2
      refine c_seq ?_
      refine r_plain ?_
      refine p1 (x_lss rfl rfl) ?_
      refine r_nil ?_
      refine t_n ?_
      refine c_seq ?_
      first | refine c_dec rfl (fun hc20 => ?_) (fun hc20 => ?_) | refine c_if rfl (fun hc20 => ?_) (fun hc20 => ?_)
      · try simp only [decide_eq_true_eq, decide_eq_false_iff_not, Bool.not_eq_true, Bool.not_eq_false, Bool.not_eq_eq_eq_not, Bool.not_true, Bool.not_false, Int.not_lt, Int.not_le] at hc20
        refine c_skip ?_
        refine t_n ?_
        refine c_seq ?_
        refine c_block ?_
        refine c_seq ?_
        refine r_plain ?_
        refine p1 (x_move (by conv => lhs; whnf)) ?_
        refine p1 (x_assign (by conv => lhs; whnf)) ?_
        refine r_nil ?_
        refine t_n ?_
        refine c_seq ?_
        refine r_plain ?_
        refine p1 (x_move (by conv => lhs; whnf)) ?_
        refine p1 (x_move (by conv => lhs; whnf)) ?_
        refine p1 (x_ixstr0 u9 rfl rfl (by omega)) ?_
        refine p1 (x_assign (by conv => lhs; whnf)) ?_
        refine r_nil ?_
        refine t_n ?_
        refine c_block ?_
        refine c_seq ?_
        refine c_seq ?_
        have hWr8 := Ext.refl w2
        refine c_cut (ι := Unit) [25, 26, 27, 28, 29, 30, 31] (fun _ => [(25, .bool (decide ((97 : Int) ≤ (btAt s k).toNat ∧ ((btAt s k).toNat : Int) ≤ 122)))]) (fun _ w' => Ext w2 w') ?_ ?_
        · skip
          refine r_plain ?_
          refine p1 (x_move (by conv => lhs; whnf)) ?_
          refine p1 (x_geq rfl rfl) ?_
          refine p1b (x_move (by conv => lhs; whnf)) (fun hb8_2 => ?_) (fun hb8_2 => ?_)
          · try simp only [decide_eq_true_eq, decide_eq_false_iff_not, Bool.not_eq_true, Bool.not_eq_false, Bool.not_eq_eq_eq_not, Bool.not_true, Bool.not_false, Int.not_lt, Int.not_le] at hb8_2
            refine g1 28 rfl rfl (x_move (by conv => lhs; whnf)) ?_
            refine g1 28 rfl rfl (x_leq rfl rfl) ?_
            refine p1 (x_pick_t rfl (by conv => lhs; whnf)) ?_
            refine p1 (x_assign (by conv => lhs; whnf)) ?_
            refine r_nil ?_
            refine t_n (At.mk () (by repeat (first | exact Agr.refl _ _ | exact Agr.hav _ _ _ | refine Agr.upd rfl ?_ | refine Agr.updL ?_ _ rfl | refine Agr.hav' rfl ?_)) ⟨congrArg Value.bool (by first | rfl | exact (decide_eq_true (by omega)).symm | exact (decide_eq_false (by omega)).symm | exact decide_eq_decide.2 (by omega) | (simp_all; done) | grind), trivial⟩ hWr8)
          · try simp only [decide_eq_true_eq, decide_eq_false_iff_not, Bool.not_eq_true, Bool.not_eq_false, Bool.not_eq_eq_eq_not, Bool.not_true, Bool.not_false, Int.not_lt, Int.not_le] at hb8_2
            refine g0 28 rfl (by first | exact .inl rfl | exact .inr rfl) ?_
            refine g0 28 rfl (by first | exact .inl rfl | exact .inr rfl) ?_
            refine p1 (x_pick_f rfl (by conv => lhs; whnf)) ?_
            refine p1 (x_assign (by conv => lhs; whnf)) ?_
            refine r_nil ?_
            refine t_n (At.mk () (by repeat (first | exact Agr.refl _ _ | exact Agr.hav _ _ _ | refine Agr.upd rfl ?_ | refine Agr.updL ?_ _ rfl | refine Agr.hav' rfl ?_)) ⟨congrArg Value.bool (by first | rfl | exact (decide_eq_true (by omega)).symm | exact (decide_eq_false (by omega)).symm | exact decide_eq_decide.2 (by omega) | (simp_all; done) | grind), trivial⟩ hWr8)
        · rintro _ Gr8 w3 hE3
          have hX := hX.ext hE3
          have hWL0 := hWL0.ext hE3
          refine t_n ?_
          first | refine c_dec rfl (fun hc25 => ?_) (fun hc25 => ?_) | refine c_if rfl (fun hc25 => ?_) (fun hc25 => ?_)
          · try simp only [decide_eq_true_eq, decide_eq_false_iff_not, Bool.not_eq_true, Bool.not_eq_false, Bool.not_eq_eq_eq_not, Bool.not_true, Bool.not_false, Int.not_lt, Int.not_le] at hc25
            refine c_skip ?_
            refine t_n ?_
            first | refine c_dec rfl (fun hc25 => ?_) (fun hc25 => ?_) | refine c_if rfl (fun hc25 => ?_) (fun hc25 => ?_)
            · try simp only [decide_eq_true_eq, decide_eq_false_iff_not, Bool.not_eq_true, Bool.not_eq_false, Bool.not_eq_eq_eq_not, Bool.not_true, Bool.not_false, Int.not_lt, Int.not_le] at hc25
              refine c_skip ?_
              refine b_n ?_
              refine b_n ?_
              refine t_n ?_
              refine r_plain ?_
              refine p1 (x_add rfl rfl (fits_i64 (by omega) (by omega))) ?_
              refine p1 (x_move (by conv => lhs; whnf)) ?_
              refine r_nil ?_
              refine t_n (At.mk (k + 1) (by repeat (first | exact Agr.refl _ _ | exact Agr.hav _ _ _ | refine Agr.upd rfl ?_ | refine Agr.updL ?_ _ rfl | refine Agr.hav' rfl ?_)) ⟨rfl, trivial⟩ ?_)
              exact ⟨⟨hWL0, ⟨by omega, fun i hi => if h : i < k then hL i h else by rw [show i = k from by omega]; unfold okc; omega⟩⟩, by first | (dsimp only; omega) | ((show _ < _); omega)⟩
            · try simp only [decide_eq_true_eq, decide_eq_false_iff_not, Bool.not_eq_true, Bool.not_eq_false, Bool.not_eq_eq_eq_not, Bool.not_true, Bool.not_false, Int.not_lt, Int.not_le] at hc25
              refine c_seq ?_
              have hp := name_not (s := s) (i := k) (by omega) (by unfold okc; omega)
              refine r_plain ?_
              refine p1 (x_assign (by conv => lhs; whnf)) ?_
              refine r_nil ?_
              refine t_n ?_
              refine c_ret ?_
              refine b_r ?_
              refine b_r ?_
              refine t_r ?_
              refine t_r ?_
              refine b_r ?_
              refine t_r ?_
              refine end1 rfl (by conv => lhs; whnf) ?_
              exact ⟨by rw [hp], hX⟩
          · try simp only [decide_eq_true_eq, decide_eq_false_iff_not, Bool.not_eq_true, Bool.not_eq_false, Bool.not_eq_eq_eq_not, Bool.not_true, Bool.not_false, Int.not_lt, Int.not_le] at hc25
            refine c_seq ?_
            have hWr9 := Ext.refl w3
            refine c_cut (ι := Unit) [25, 32, 33, 34, 35, 36, 37] (fun _ => [(25, .bool (decide ((65 : Int) ≤ (btAt s k).toNat ∧ ((btAt s k).toNat : Int) ≤ 90)))]) (fun _ w' => Ext w3 w') ?_ ?_
            · skip
              refine r_plain ?_
              refine p1 (x_move (by conv => lhs; whnf)) ?_
              refine p1 (x_geq rfl rfl) ?_
              refine p1b (x_move (by conv => lhs; whnf)) (fun hb9_2 => ?_) (fun hb9_2 => ?_)
              · try simp only [decide_eq_true_eq, decide_eq_false_iff_not, Bool.not_eq_true, Bool.not_eq_false, Bool.not_eq_eq_eq_not, Bool.not_true, Bool.not_false, Int.not_lt, Int.not_le] at hb9_2
                refine g1 34 rfl rfl (x_move (by conv => lhs; whnf)) ?_
                refine g1 34 rfl rfl (x_leq rfl rfl) ?_
                refine p1 (x_pick_t rfl (by conv => lhs; whnf)) ?_
                refine p1 (x_assign (by conv => lhs; whnf)) ?_
                refine r_nil ?_
                refine t_n (At.mk () (by repeat (first | exact Agr.refl _ _ | exact Agr.hav _ _ _ | refine Agr.upd rfl ?_ | refine Agr.updL ?_ _ rfl | refine Agr.hav' rfl ?_)) ⟨congrArg Value.bool (by first | rfl | exact (decide_eq_true (by omega)).symm | exact (decide_eq_false (by omega)).symm | exact decide_eq_decide.2 (by omega) | (simp_all; done) | grind), trivial⟩ hWr9)
              · try simp only [decide_eq_true_eq, decide_eq_false_iff_not, Bool.not_eq_true, Bool.not_eq_false, Bool.not_eq_eq_eq_not, Bool.not_true, Bool.not_false, Int.not_lt, Int.not_le] at hb9_2
                refine g0 34 rfl (by first | exact .inl rfl | exact .inr rfl) ?_
                refine g0 34 rfl (by first | exact .inl rfl | exact .inr rfl) ?_
                refine p1 (x_pick_f rfl (by conv => lhs; whnf)) ?_
                refine p1 (x_assign (by conv => lhs; whnf)) ?_
                refine r_nil ?_
                refine t_n (At.mk () (by repeat (first | exact Agr.refl _ _ | exact Agr.hav _ _ _ | refine Agr.upd rfl ?_ | refine Agr.updL ?_ _ rfl | refine Agr.hav' rfl ?_)) ⟨congrArg Value.bool (by first | rfl | exact (decide_eq_true (by omega)).symm | exact (decide_eq_false (by omega)).symm | exact decide_eq_decide.2 (by omega) | (simp_all; done) | grind), trivial⟩ hWr9)
            · rintro _ Gr9 w4 hE4
              have hX := hX.ext hE4
              have hWL0 := hWL0.ext hE4
              refine t_n ?_
              first | refine c_dec rfl (fun hc25 => ?_) (fun hc25 => ?_) | refine c_if rfl (fun hc25 => ?_) (fun hc25 => ?_)
              · try simp only [decide_eq_true_eq, decide_eq_false_iff_not, Bool.not_eq_true, Bool.not_eq_false, Bool.not_eq_eq_eq_not, Bool.not_true, Bool.not_false, Int.not_lt, Int.not_le] at hc25
                refine c_skip ?_
                refine t_n ?_
                first | refine c_dec rfl (fun hc25 => ?_) (fun hc25 => ?_) | refine c_if rfl (fun hc25 => ?_) (fun hc25 => ?_)
                · try simp only [decide_eq_true_eq, decide_eq_false_iff_not, Bool.not_eq_true, Bool.not_eq_false, Bool.not_eq_eq_eq_not, Bool.not_true, Bool.not_false, Int.not_lt, Int.not_le] at hc25
                  refine c_skip ?_
                  refine b_n ?_
                  refine b_n ?_
                  refine t_n ?_
                  refine r_plain ?_
                  refine p1 (x_add rfl rfl (fits_i64 (by omega) (by omega))) ?_
                  refine p1 (x_move (by conv => lhs; whnf)) ?_
                  refine r_nil ?_
                  refine t_n (At.mk (k + 1) (by repeat (first | exact Agr.refl _ _ | exact Agr.hav _ _ _ | refine Agr.upd rfl ?_ | refine Agr.updL ?_ _ rfl | refine Agr.hav' rfl ?_)) ⟨rfl, trivial⟩ ?_)
                  exact ⟨⟨hWL0, ⟨by omega, fun i hi => if h : i < k then hL i h else by rw [show i = k from by omega]; unfold okc; omega⟩⟩, by first | (dsimp only; omega) | ((show _ < _); omega)⟩
                · try simp only [decide_eq_true_eq, decide_eq_false_iff_not, Bool.not_eq_true, Bool.not_eq_false, Bool.not_eq_eq_eq_not, Bool.not_true, Bool.not_false, Int.not_lt, Int.not_le] at hc25
                  refine c_seq ?_
                  have hp := name_not (s := s) (i := k) (by omega) (by unfold okc; omega)
                  refine r_plain ?_
                  refine p1 (x_assign (by conv => lhs; whnf)) ?_
                  refine r_nil ?_
                  refine t_n ?_
                  refine c_ret ?_
                  refine b_r ?_
                  refine b_r ?_
                  refine t_r ?_
                  refine t_r ?_
                  refine b_r ?_
                  refine t_r ?_
                  refine end1 rfl (by conv => lhs; whnf) ?_
                  exact ⟨by rw [hp], hX⟩
              · try simp only [decide_eq_true_eq, decide_eq_false_iff_not, Bool.not_eq_true, Bool.not_eq_false, Bool.not_eq_eq_eq_not, Bool.not_true, Bool.not_false, Int.not_lt, Int.not_le] at hc25
                refine c_seq ?_
                have hWr10 := Ext.refl w4
                refine c_cut (ι := Unit) [25, 38, 39, 40, 41, 42, 43] (fun _ => [(25, .bool (decide ((48 : Int) ≤ (btAt s k).toNat ∧ ((btAt s k).toNat : Int) ≤ 57)))]) (fun _ w' => Ext w4 w') ?_ ?_
                · skip
                  refine r_plain ?_
                  refine p1 (x_move (by conv => lhs; whnf)) ?_
                  refine p1 (x_geq rfl rfl) ?_
                  refine p1b (x_move (by conv => lhs; whnf)) (fun hb10_2 => ?_) (fun hb10_2 => ?_)
                  · try simp only [decide_eq_true_eq, decide_eq_false_iff_not, Bool.not_eq_true, Bool.not_eq_false, Bool.not_eq_eq_eq_not, Bool.not_true, Bool.not_false, Int.not_lt, Int.not_le] at hb10_2
                    refine g1 40 rfl rfl (x_move (by conv => lhs; whnf)) ?_
                    refine g1 40 rfl rfl (x_leq rfl rfl) ?_
                    refine p1 (x_pick_t rfl (by conv => lhs; whnf)) ?_
                    refine p1 (x_assign (by conv => lhs; whnf)) ?_
                    refine r_nil ?_
                    refine t_n (At.mk () (by repeat (first | exact Agr.refl _ _ | exact Agr.hav _ _ _ | refine Agr.upd rfl ?_ | refine Agr.updL ?_ _ rfl | refine Agr.hav' rfl ?_)) ⟨congrArg Value.bool (by first | rfl | exact (decide_eq_true (by omega)).symm | exact (decide_eq_false (by omega)).symm | exact decide_eq_decide.2 (by omega) | (simp_all; done) | grind), trivial⟩ hWr10)
                  · try simp only [decide_eq_true_eq, decide_eq_false_iff_not, Bool.not_eq_true, Bool.not_eq_false, Bool.not_eq_eq_eq_not, Bool.not_true, Bool.not_false, Int.not_lt, Int.not_le] at hb10_2
                    refine g0 40 rfl (by first | exact .inl rfl | exact .inr rfl) ?_
                    refine g0 40 rfl (by first | exact .inl rfl | exact .inr rfl) ?_
                    refine p1 (x_pick_f rfl (by conv => lhs; whnf)) ?_
                    refine p1 (x_assign (by conv => lhs; whnf)) ?_
                    refine r_nil ?_
                    refine t_n (At.mk () (by repeat (first | exact Agr.refl _ _ | exact Agr.hav _ _ _ | refine Agr.upd rfl ?_ | refine Agr.updL ?_ _ rfl | refine Agr.hav' rfl ?_)) ⟨congrArg Value.bool (by first | rfl | exact (decide_eq_true (by omega)).symm | exact (decide_eq_false (by omega)).symm | exact decide_eq_decide.2 (by omega) | (simp_all; done) | grind), trivial⟩ hWr10)
                · rintro _ Gr10 w5 hE5
                  have hX := hX.ext hE5
                  have hWL0 := hWL0.ext hE5
                  refine t_n ?_
                  first | refine c_dec rfl (fun hc25 => ?_) (fun hc25 => ?_) | refine c_if rfl (fun hc25 => ?_) (fun hc25 => ?_)
                  · try simp only [decide_eq_true_eq, decide_eq_false_iff_not, Bool.not_eq_true, Bool.not_eq_false, Bool.not_eq_eq_eq_not, Bool.not_true, Bool.not_false, Int.not_lt, Int.not_le] at hc25
                    refine c_skip ?_
                    refine t_n ?_
                    first | refine c_dec rfl (fun hc25 => ?_) (fun hc25 => ?_) | refine c_if rfl (fun hc25 => ?_) (fun hc25 => ?_)
                    · try simp only [decide_eq_true_eq, decide_eq_false_iff_not, Bool.not_eq_true, Bool.not_eq_false, Bool.not_eq_eq_eq_not, Bool.not_true, Bool.not_false, Int.not_lt, Int.not_le] at hc25
                      refine c_skip ?_
                      refine b_n ?_
                      refine b_n ?_
                      refine t_n ?_
                      refine r_plain ?_
                      refine p1 (x_add rfl rfl (fits_i64 (by omega) (by omega))) ?_
                      refine p1 (x_move (by conv => lhs; whnf)) ?_
                      refine r_nil ?_
                      refine t_n (At.mk (k + 1) (by repeat (first | exact Agr.refl _ _ | exact Agr.hav _ _ _ | refine Agr.upd rfl ?_ | refine Agr.updL ?_ _ rfl | refine Agr.hav' rfl ?_)) ⟨rfl, trivial⟩ ?_)
                      exact ⟨⟨hWL0, ⟨by omega, fun i hi => if h : i < k then hL i h else by rw [show i = k from by omega]; unfold okc; omega⟩⟩, by first | (dsimp only; omega) | ((show _ < _); omega)⟩
                    · try simp only [decide_eq_true_eq, decide_eq_false_iff_not, Bool.not_eq_true, Bool.not_eq_false, Bool.not_eq_eq_eq_not, Bool.not_true, Bool.not_false, Int.not_lt, Int.not_le] at hc25
                      refine c_seq ?_
                      have hp := name_not (s := s) (i := k) (by omega) (by unfold okc; omega)
                      refine r_plain ?_
                      refine p1 (x_assign (by conv => lhs; whnf)) ?_
                      refine r_nil ?_
                      refine t_n ?_
                      refine c_ret ?_
                      refine b_r ?_
                      refine b_r ?_
                      refine t_r ?_
                      refine t_r ?_
                      refine b_r ?_
                      refine t_r ?_
                      refine end1 rfl (by conv => lhs; whnf) ?_
                      exact ⟨by rw [hp], hX⟩
                  · try simp only [decide_eq_true_eq, decide_eq_false_iff_not, Bool.not_eq_true, Bool.not_eq_false, Bool.not_eq_eq_eq_not, Bool.not_true, Bool.not_false, Int.not_lt, Int.not_le] at hc25
                    refine c_seq ?_
                    refine r_plain ?_
                    refine p1 (x_move (by conv => lhs; whnf)) ?_
                    refine p1 (x_eql rfl rfl) ?_
                    refine p1 (x_assign (by conv => lhs; whnf)) ?_
                    refine r_nil ?_
                    refine t_n ?_
                    first | refine c_dec rfl (fun hc25 => ?_) (fun hc25 => ?_) | refine c_if rfl (fun hc25 => ?_) (fun hc25 => ?_)
                    · try simp only [decide_eq_true_eq, decide_eq_false_iff_not, Bool.not_eq_true, Bool.not_eq_false, Bool.not_eq_eq_eq_not, Bool.not_true, Bool.not_false, Int.not_lt, Int.not_le] at hc25
                      refine c_skip ?_
                      refine t_n ?_
                      first | refine c_dec rfl (fun hc25 => ?_) (fun hc25 => ?_) | refine c_if rfl (fun hc25 => ?_) (fun hc25 => ?_)
                      · try simp only [decide_eq_true_eq, decide_eq_false_iff_not, Bool.not_eq_true, Bool.not_eq_false, Bool.not_eq_eq_eq_not, Bool.not_true, Bool.not_false, Int.not_lt, Int.not_le] at hc25
                        refine c_skip ?_
                        refine b_n ?_
                        refine b_n ?_
                        refine t_n ?_
                        refine r_plain ?_
                        refine p1 (x_add rfl rfl (fits_i64 (by omega) (by omega))) ?_
                        refine p1 (x_move (by conv => lhs; whnf)) ?_
                        refine r_nil ?_
                        refine t_n (At.mk (k + 1) (by repeat (first | exact Agr.refl _ _ | exact Agr.hav _ _ _ | refine Agr.upd rfl ?_ | refine Agr.updL ?_ _ rfl | refine Agr.hav' rfl ?_)) ⟨rfl, trivial⟩ ?_)
                        exact ⟨⟨hWL0, ⟨by omega, fun i hi => if h : i < k then hL i h else by rw [show i = k from by omega]; unfold okc; omega⟩⟩, by first | (dsimp only; omega) | ((show _ < _); omega)⟩
                      · try simp only [decide_eq_true_eq, decide_eq_false_iff_not, Bool.not_eq_true, Bool.not_eq_false, Bool.not_eq_eq_eq_not, Bool.not_true, Bool.not_false, Int.not_lt, Int.not_le] at hc25
                        refine c_seq ?_
                        have hp := name_not (s := s) (i := k) (by omega) (by unfold okc; omega)
                        refine r_plain ?_
                        refine p1 (x_assign (by conv => lhs; whnf)) ?_
                        refine r_nil ?_
                        refine t_n ?_
                        refine c_ret ?_
                        refine b_r ?_
                        refine b_r ?_
                        refine t_r ?_
                        refine t_r ?_
                        refine b_r ?_
                        refine t_r ?_
                        refine end1 rfl (by conv => lhs; whnf) ?_
                        exact ⟨by rw [hp], hX⟩
                    · try simp only [decide_eq_true_eq, decide_eq_false_iff_not, Bool.not_eq_true, Bool.not_eq_false, Bool.not_eq_eq_eq_not, Bool.not_true, Bool.not_false, Int.not_lt, Int.not_le] at hc25
                      refine c_seq ?_
                      refine r_plain ?_
                      refine p1 (x_move (by conv => lhs; whnf)) ?_
                      refine p1 (x_eql rfl rfl) ?_
                      refine p1 (x_assign (by conv => lhs; whnf)) ?_
                      refine r_nil ?_
                      refine t_n ?_
                      first | refine c_dec rfl (fun hc25 => ?_) (fun hc25 => ?_) | refine c_if rfl (fun hc25 => ?_) (fun hc25 => ?_)
                      · try simp only [decide_eq_true_eq, decide_eq_false_iff_not, Bool.not_eq_true, Bool.not_eq_false, Bool.not_eq_eq_eq_not, Bool.not_true, Bool.not_false, Int.not_lt, Int.not_le] at hc25
                        refine c_skip ?_
                        refine t_n ?_
                        first | refine c_dec rfl (fun hc25 => ?_) (fun hc25 => ?_) | refine c_if rfl (fun hc25 => ?_) (fun hc25 => ?_)
                        · try simp only [decide_eq_true_eq, decide_eq_false_iff_not, Bool.not_eq_true, Bool.not_eq_false, Bool.not_eq_eq_eq_not, Bool.not_true, Bool.not_false, Int.not_lt, Int.not_le] at hc25
                          refine c_skip ?_
                          refine b_n ?_
                          refine b_n ?_
                          refine t_n ?_
                          refine r_plain ?_
                          refine p1 (x_add rfl rfl (fits_i64 (by omega) (by omega))) ?_
                          refine p1 (x_move (by conv => lhs; whnf)) ?_
                          refine r_nil ?_
                          refine t_n (At.mk (k + 1) (by repeat (first | exact Agr.refl _ _ | exact Agr.hav _ _ _ | refine Agr.upd rfl ?_ | refine Agr.updL ?_ _ rfl | refine Agr.hav' rfl ?_)) ⟨rfl, trivial⟩ ?_)
                          exact ⟨⟨hWL0, ⟨by omega, fun i hi => if h : i < k then hL i h else by rw [show i = k from by omega]; unfold okc; omega⟩⟩, by first | (dsimp only; omega) | ((show _ < _); omega)⟩
                        · try simp only [decide_eq_true_eq, decide_eq_false_iff_not, Bool.not_eq_true, Bool.not_eq_false, Bool.not_eq_eq_eq_not, Bool.not_true, Bool.not_false, Int.not_lt, Int.not_le] at hc25
                          refine c_seq ?_
                          have hp := name_not (s := s) (i := k) (by omega) (by unfold okc; omega)
                          refine r_plain ?_
                          refine p1 (x_assign (by conv => lhs; whnf)) ?_
                          refine r_nil ?_
                          refine t_n ?_
                          refine c_ret ?_
                          refine b_r ?_
                          refine b_r ?_
                          refine t_r ?_
                          refine t_r ?_
                          refine b_r ?_
                          refine t_r ?_
                          refine end1 rfl (by conv => lhs; whnf) ?_
                          exact ⟨by rw [hp], hX⟩
                      · try simp only [decide_eq_true_eq, decide_eq_false_iff_not, Bool.not_eq_true, Bool.not_eq_false, Bool.not_eq_eq_eq_not, Bool.not_true, Bool.not_false, Int.not_lt, Int.not_le] at hc25
                        refine r_plain ?_
                        refine p1 (x_move (by conv => lhs; whnf)) ?_
                        refine p1 (x_eql rfl rfl) ?_
                        refine p1 (x_assign (by conv => lhs; whnf)) ?_
                        refine r_nil ?_
                        refine t_n ?_
                        first | refine c_dec rfl (fun hc25 => ?_) (fun hc25 => ?_) | refine c_if rfl (fun hc25 => ?_) (fun hc25 => ?_)
                        · try simp only [decide_eq_true_eq, decide_eq_false_iff_not, Bool.not_eq_true, Bool.not_eq_false, Bool.not_eq_eq_eq_not, Bool.not_true, Bool.not_false, Int.not_lt, Int.not_le] at hc25
                          refine c_skip ?_
                          refine b_n ?_
                          refine b_n ?_
                          refine t_n ?_
                          refine r_plain ?_
                          refine p1 (x_add rfl rfl (fits_i64 (by omega) (by omega))) ?_
                          refine p1 (x_move (by conv => lhs; whnf)) ?_
                          refine r_nil ?_
                          refine t_n (At.mk (k + 1) (by repeat (first | exact Agr.refl _ _ | exact Agr.hav _ _ _ | refine Agr.upd rfl ?_ | refine Agr.updL ?_ _ rfl | refine Agr.hav' rfl ?_)) ⟨rfl, trivial⟩ ?_)
                          exact ⟨⟨hWL0, ⟨by omega, fun i hi => if h : i < k then hL i h else by rw [show i = k from by omega]; unfold okc; omega⟩⟩, by first | (dsimp only; omega) | ((show _ < _); omega)⟩
                        · try simp only [decide_eq_true_eq, decide_eq_false_iff_not, Bool.not_eq_true, Bool.not_eq_false, Bool.not_eq_eq_eq_not, Bool.not_true, Bool.not_false, Int.not_lt, Int.not_le] at hc25
                          refine c_seq ?_
                          have hp := name_not (s := s) (i := k) (by omega) (by unfold okc; omega)
                          refine r_plain ?_
                          refine p1 (x_assign (by conv => lhs; whnf)) ?_
                          refine r_nil ?_
                          refine t_n ?_
                          refine c_ret ?_
                          refine b_r ?_
                          refine b_r ?_
                          refine t_r ?_
                          refine t_r ?_
                          refine b_r ?_
                          refine t_r ?_
                          refine end1 rfl (by conv => lhs; whnf) ?_
                          exact ⟨by rw [hp], hX⟩
      · try simp only [decide_eq_true_eq, decide_eq_false_iff_not, Bool.not_eq_true, Bool.not_eq_false, Bool.not_eq_eq_eq_not, Bool.not_true, Bool.not_false, Int.not_lt, Int.not_le] at hc20
        have hp := name_good hc16 (fun i hi => hL i (by omega))
        refine c_exit ?_
        refine t_e ?_
        refine t_e ?_
        refine b_hit ?_
        refine t_n ?_
        refine c_seq ?_
        refine r_plain ?_
        refine p1 (x_assign (by conv => lhs; whnf)) ?_
        refine r_nil ?_
        refine t_n ?_
        refine c_ret ?_
        refine end1 rfl (by conv => lhs; whnf) ?_
        exact ⟨by rw [hp], hX⟩
theorem ref06_Name (s : ByteArray) (w : World) (hs : s.size ≤ 9223372036854775807) :
    Ret Try.prog 32 [.string s] w (fun v w' => v = .bool (isName s) ∧ Ext w w') := by
  have hX := Ext.refl w
  refine enter 60 _ Try.func32 rfl rfl (Nat.le_of_ble_eq_true rfl) ?_
  refine c_seq ?_
  refine r_plain ?_
  refine p1 (x_assign (by conv => lhs; whnf)) ?_
  refine r_nil ?_
  refine t_n ?_
  refine c_seq ?_
  refine c_seq ?_
  refine r_plain ?_
  refine p1 (x_assign (by conv => lhs; whnf)) ?_
  refine r_nil ?_
  refine t_n ?_
  refine c_block ?_
  have hWL0 := Ext.refl w
  refine c_loop (ι := Nat) [2, 3, 4, 5, 6, 7, 8, 9, 10, 11, 12, 13, 14, 15, 16, 17, 18, 19, 20, 21, 22, 23, 24, 25, 26, 27, 28, 29, 30, 31, 32, 33, 34, 35, 36, 37, 38, 39, 40, 41, 42, 43, 44, 45, 46, 47] (fun k => [(3, .int .i64 (k : Int))]) (fun k w' => Ext w w' ∧ (k ≤ s.size ∧ ∀ i, i < k → okc (btAt s i).toNat)) (fun k => s.size - k) (0) ⟨rfl, trivial⟩ ⟨Ext.refl _, ⟨by omega, fun i hi => by omega⟩⟩ ?_
  rintro k GL0 w1 ⟨hE1, hk, hL⟩
  have hX := hX.ext hE1
  have hWL0 := hE1
  refine c_seq ?_
  refine c_seq ?_
  refine r_plain ?_
  refine p1 (x_move (by conv => lhs; whnf)) ?_
  refine p1 (x_move (by conv => lhs; whnf)) ?_
  refine p1 (x_len_str u9 rfl) ?_
  refine p1 (x_lss rfl rfl) ?_
  refine r_nil ?_
  refine t_n ?_
  first | refine c_dec rfl (fun hc8 => ?_) (fun hc8 => ?_) | refine c_if rfl (fun hc8 => ?_) (fun hc8 => ?_)
  · try simp only [decide_eq_true_eq, decide_eq_false_iff_not, Bool.not_eq_true, Bool.not_eq_false, Bool.not_eq_eq_eq_not, Bool.not_true, Bool.not_false, Int.not_lt, Int.not_le] at hc8
    refine c_skip ?_
    refine t_n ?_
    refine c_seq ?_
    refine c_block ?_
    refine c_seq ?_
    refine r_plain ?_
    refine p1 (x_move (by conv => lhs; whnf)) ?_
    refine p1 (x_move (by conv => lhs; whnf)) ?_
    refine p1 (x_ixstr0 u9 rfl rfl (by omega)) ?_
    refine p1 (x_assign (by conv => lhs; whnf)) ?_
    refine r_nil ?_
    refine t_n ?_
    refine c_seq ?_
    have hWr5 := Ext.refl w1
    refine c_cut (ι := Unit) [14, 15, 16, 17, 18, 19, 20, 21, 22, 23, 24, 25, 26, 27, 28, 29, 30, 31, 32, 33, 34, 35, 36, 37, 38, 39, 40, 41, 42, 43, 44, 45, 46, 47] (fun _ => [(47, .bool (decide ((((btAt s k).toNat : Int) < 97 ∨ 122 < ((btAt s k).toNat : Int)) ∧ (((btAt s k).toNat : Int) < 65 ∨ 90 < ((btAt s k).toNat : Int)) ∧ (((btAt s k).toNat : Int) < 48 ∨ 57 < ((btAt s k).toNat : Int)) ∧ ((btAt s k).toNat : Int) ≠ 46 ∧ ((btAt s k).toNat : Int) ≠ 95 ∧ ((btAt s k).toNat : Int) ≠ 45)))]) (fun _ w' => Ext w1 w') ?_ ?_
    · skip
      refine r_plain ?_
      refine l_cut 6 [14, 15, 16, 17, 18, 19] [(19, .bool (decide (((btAt s k).toNat : Int) < 97 ∨ 122 < ((btAt s k).toNat : Int))))] ?_ ?_
      · skip
        refine p1 (x_move (by conv => lhs; whnf)) ?_
        refine p1 (x_lss rfl rfl) ?_
        refine p1b (x_move (by conv => lhs; whnf)) (fun hb5_2 => ?_) (fun hb5_2 => ?_)
        · try simp only [decide_eq_true_eq, decide_eq_false_iff_not, Bool.not_eq_true, Bool.not_eq_false, Bool.not_eq_eq_eq_not, Bool.not_true, Bool.not_false, Int.not_lt, Int.not_le] at hb5_2
          refine g0 16 rfl (by first | exact .inl rfl | exact .inr rfl) ?_
          refine g0 16 rfl (by first | exact .inl rfl | exact .inr rfl) ?_
          refine p1 (x_pick_t rfl (by conv => lhs; whnf)) ?_
          exact l_cutend rfl (by repeat (first | exact Agr.refl _ _ | exact Agr.hav _ _ _ | refine Agr.upd rfl ?_ | refine Agr.updL ?_ _ rfl | refine Agr.hav' rfl ?_)) ⟨congrArg Value.bool (by first | rfl | exact (decide_eq_true (by omega)).symm | exact (decide_eq_false (by omega)).symm | exact decide_eq_decide.2 (by omega) | (simp_all; done) | grind), trivial⟩
        · try simp only [decide_eq_true_eq, decide_eq_false_iff_not, Bool.not_eq_true, Bool.not_eq_false, Bool.not_eq_eq_eq_not, Bool.not_true, Bool.not_false, Int.not_lt, Int.not_le] at hb5_2
          refine g1 16 rfl rfl (x_move (by conv => lhs; whnf)) ?_
          refine g1 16 rfl rfl (x_gtr rfl rfl) ?_
          refine p1 (x_pick_f rfl (by conv => lhs; whnf)) ?_
          exact l_cutend rfl (by repeat (first | exact Agr.refl _ _ | exact Agr.hav _ _ _ | refine Agr.upd rfl ?_ | refine Agr.updL ?_ _ rfl | refine Agr.hav' rfl ?_)) ⟨congrArg Value.bool (by first | rfl | exact (decide_eq_true (by omega)).symm | exact (decide_eq_false (by omega)).symm | exact decide_eq_decide.2 (by omega) | (simp_all; done) | grind), trivial⟩
      · intro Gr5_0
        refine l_cut 8 [20, 21, 22, 23, 24, 25, 26, 27] [(27, .bool (decide ((((btAt s k).toNat : Int) < 97 ∨ 122 < ((btAt s k).toNat : Int)) ∧ (((btAt s k).toNat : Int) < 65 ∨ 90 < ((btAt s k).toNat : Int)))))] ?_ ?_
        · skip
          refine p1b (x_move (by conv => lhs; whnf)) (fun hb5_6 => ?_) (fun hb5_6 => ?_)
          · try simp only [decide_eq_true_eq, decide_eq_false_iff_not, Bool.not_eq_true, Bool.not_eq_false, Bool.not_eq_eq_eq_not, Bool.not_true, Bool.not_false, Int.not_lt, Int.not_le] at hb5_6
            refine g1 20 rfl rfl (x_move (by conv => lhs; whnf)) ?_
            refine g1 20 rfl rfl (x_lss rfl rfl) ?_
            refine g1b 20 rfl rfl (x_move (by conv => lhs; whnf)) (fun hb5_9 => ?_) (fun hb5_9 => ?_)
            · try simp only [decide_eq_true_eq, decide_eq_false_iff_not, Bool.not_eq_true, Bool.not_eq_false, Bool.not_eq_eq_eq_not, Bool.not_true, Bool.not_false, Int.not_lt, Int.not_le] at hb5_9
              refine g0 23 rfl (by first | exact .inl rfl | exact .inr rfl) ?_
              refine g0 23 rfl (by first | exact .inl rfl | exact .inr rfl) ?_
              refine g1 20 rfl rfl (x_pick_t rfl (by conv => lhs; whnf)) ?_
              refine p1 (x_pick_t rfl (by conv => lhs; whnf)) ?_
              exact l_cutend rfl (by repeat (first | exact Agr.refl _ _ | exact Agr.hav _ _ _ | refine Agr.upd rfl ?_ | refine Agr.updL ?_ _ rfl | refine Agr.hav' rfl ?_)) ⟨congrArg Value.bool (by first | rfl | exact (decide_eq_true (by omega)).symm | exact (decide_eq_false (by omega)).symm | exact decide_eq_decide.2 (by omega) | (simp_all; done) | grind), trivial⟩
            · try simp only [decide_eq_true_eq, decide_eq_false_iff_not, Bool.not_eq_true, Bool.not_eq_false, Bool.not_eq_eq_eq_not, Bool.not_true, Bool.not_false, Int.not_lt, Int.not_le] at hb5_9
              refine g1 23 rfl rfl (x_move (by conv => lhs; whnf)) ?_
              refine g1 23 rfl rfl (x_gtr rfl rfl) ?_
              refine g1 20 rfl rfl (x_pick_f rfl (by conv => lhs; whnf)) ?_
              refine p1 (x_pick_t rfl (by conv => lhs; whnf)) ?_
              exact l_cutend rfl (by repeat (first | exact Agr.refl _ _ | exact Agr.hav _ _ _ | refine Agr.upd rfl ?_ | refine Agr.updL ?_ _ rfl | refine Agr.hav' rfl ?_)) ⟨congrArg Value.bool (by first | rfl | exact (decide_eq_true (by omega)).symm | exact (decide_eq_false (by omega)).symm | exact decide_eq_decide.2 (by omega) | (simp_all; done) | grind), trivial⟩
          · try simp only [decide_eq_true_eq, decide_eq_false_iff_not, Bool.not_eq_true, Bool.not_eq_false, Bool.not_eq_eq_eq_not, Bool.not_true, Bool.not_false, Int.not_lt, Int.not_le] at hb5_6
            refine g0 20 rfl (by first | exact .inl rfl | exact .inr rfl) ?_
            refine g0 20 rfl (by first | exact .inl rfl | exact .inr rfl) ?_
            refine g0 20 rfl (by first | exact .inl rfl | exact .inr rfl) ?_
            refine g0 23 rfl (by first | exact .inl rfl | exact .inr rfl) ?_
            refine g0 23 rfl (by first | exact .inl rfl | exact .inr rfl) ?_
            refine g0 20 rfl (by first | exact .inl rfl | exact .inr rfl) ?_
            refine p1 (x_pick_f rfl (by conv => lhs; whnf)) ?_
            exact l_cutend rfl (by repeat (first | exact Agr.refl _ _ | exact Agr.hav _ _ _ | refine Agr.upd rfl ?_ | refine Agr.updL ?_ _ rfl | refine Agr.hav' rfl ?_)) ⟨congrArg Value.bool (by first | rfl | exact (decide_eq_true (by omega)).symm | exact (decide_eq_false (by omega)).symm | exact decide_eq_decide.2 (by omega) | (simp_all; done) | grind), trivial⟩
        · intro Gr5_6
          refine l_cut 8 [28, 29, 30, 31, 32, 33, 34, 35] [(35, .bool (decide ((((btAt s k).toNat : Int) < 97 ∨ 122 < ((btAt s k).toNat : Int)) ∧ (((btAt s k).toNat : Int) < 65 ∨ 90 < ((btAt s k).toNat : Int)) ∧ (((btAt s k).toNat : Int) < 48 ∨ 57 < ((btAt s k).toNat : Int)))))] ?_ ?_
          · skip
            refine p1b (x_move (by conv => lhs; whnf)) (fun hb5_14 => ?_) (fun hb5_14 => ?_)
            · try simp only [decide_eq_true_eq, decide_eq_false_iff_not, Bool.not_eq_true, Bool.not_eq_false, Bool.not_eq_eq_eq_not, Bool.not_true, Bool.not_false, Int.not_lt, Int.not_le] at hb5_14
              refine g1 28 rfl rfl (x_move (by conv => lhs; whnf)) ?_
              refine g1 28 rfl rfl (x_lss rfl rfl) ?_
              refine g1b 28 rfl rfl (x_move (by conv => lhs; whnf)) (fun hb5_17 => ?_) (fun hb5_17 => ?_)
              · try simp only [decide_eq_true_eq, decide_eq_false_iff_not, Bool.not_eq_true, Bool.not_eq_false, Bool.not_eq_eq_eq_not, Bool.not_true, Bool.not_false, Int.not_lt, Int.not_le] at hb5_17
                refine g0 31 rfl (by first | exact .inl rfl | exact .inr rfl) ?_
                refine g0 31 rfl (by first | exact .inl rfl | exact .inr rfl) ?_
                refine g1 28 rfl rfl (x_pick_t rfl (by conv => lhs; whnf)) ?_
                refine p1 (x_pick_t rfl (by conv => lhs; whnf)) ?_
                exact l_cutend rfl (by repeat (first | exact Agr.refl _ _ | exact Agr.hav _ _ _ | refine Agr.upd rfl ?_ | refine Agr.updL ?_ _ rfl | refine Agr.hav' rfl ?_)) ⟨congrArg Value.bool (by first | rfl | exact (decide_eq_true (by omega)).symm | exact (decide_eq_false (by omega)).symm | exact decide_eq_decide.2 (by omega) | (simp_all; done) | grind), trivial⟩
              · try simp only [decide_eq_true_eq, decide_eq_false_iff_not, Bool.not_eq_true, Bool.not_eq_false, Bool.not_eq_eq_eq_not, Bool.not_true, Bool.not_false, Int.not_lt, Int.not_le] at hb5_17
                refine g1 31 rfl rfl (x_move (by conv => lhs; whnf)) ?_
                refine g1 31 rfl rfl (x_gtr rfl rfl) ?_
                refine g1 28 rfl rfl (x_pick_f rfl (by conv => lhs; whnf)) ?_
                refine p1 (x_pick_t rfl (by conv => lhs; whnf)) ?_
                exact l_cutend rfl (by repeat (first | exact Agr.refl _ _ | exact Agr.hav _ _ _ | refine Agr.upd rfl ?_ | refine Agr.updL ?_ _ rfl | refine Agr.hav' rfl ?_)) ⟨congrArg Value.bool (by first | rfl | exact (decide_eq_true (by omega)).symm | exact (decide_eq_false (by omega)).symm | exact decide_eq_decide.2 (by omega) | (simp_all; done) | grind), trivial⟩
            · try simp only [decide_eq_true_eq, decide_eq_false_iff_not, Bool.not_eq_true, Bool.not_eq_false, Bool.not_eq_eq_eq_not, Bool.not_true, Bool.not_false, Int.not_lt, Int.not_le] at hb5_14
              refine g0 28 rfl (by first | exact .inl rfl | exact .inr rfl) ?_
              refine g0 28 rfl (by first | exact .inl rfl | exact .inr rfl) ?_
              refine g0 28 rfl (by first | exact .inl rfl | exact .inr rfl) ?_
              refine g0 31 rfl (by first | exact .inl rfl | exact .inr rfl) ?_
              refine g0 31 rfl (by first | exact .inl rfl | exact .inr rfl) ?_
              refine g0 28 rfl (by first | exact .inl rfl | exact .inr rfl) ?_
              refine p1 (x_pick_f rfl (by conv => lhs; whnf)) ?_
              exact l_cutend rfl (by repeat (first | exact Agr.refl _ _ | exact Agr.hav _ _ _ | refine Agr.upd rfl ?_ | refine Agr.updL ?_ _ rfl | refine Agr.hav' rfl ?_)) ⟨congrArg Value.bool (by first | rfl | exact (decide_eq_true (by omega)).symm | exact (decide_eq_false (by omega)).symm | exact decide_eq_decide.2 (by omega) | (simp_all; done) | grind), trivial⟩
          · intro Gr5_14
            refine l_cut 4 [36, 37, 38, 39] [(39, .bool (decide ((((btAt s k).toNat : Int) < 97 ∨ 122 < ((btAt s k).toNat : Int)) ∧ (((btAt s k).toNat : Int) < 65 ∨ 90 < ((btAt s k).toNat : Int)) ∧ (((btAt s k).toNat : Int) < 48 ∨ 57 < ((btAt s k).toNat : Int)) ∧ ((btAt s k).toNat : Int) ≠ 46)))] ?_ ?_
            · skip
              refine p1b (x_move (by conv => lhs; whnf)) (fun hb5_22 => ?_) (fun hb5_22 => ?_)
              · try simp only [decide_eq_true_eq, decide_eq_false_iff_not, Bool.not_eq_true, Bool.not_eq_false, Bool.not_eq_eq_eq_not, Bool.not_true, Bool.not_false, Int.not_lt, Int.not_le] at hb5_22
                refine g1 36 rfl rfl (x_move (by conv => lhs; whnf)) ?_
                refine g1 36 rfl rfl (x_neq rfl rfl) ?_
                refine p1 (x_pick_t rfl (by conv => lhs; whnf)) ?_
                exact l_cutend rfl (by repeat (first | exact Agr.refl _ _ | exact Agr.hav _ _ _ | refine Agr.upd rfl ?_ | refine Agr.updL ?_ _ rfl | refine Agr.hav' rfl ?_)) ⟨congrArg Value.bool (by first | rfl | exact (decide_eq_true (by omega)).symm | exact (decide_eq_false (by omega)).symm | exact decide_eq_decide.2 (by omega) | (simp_all; done) | grind), trivial⟩
              · try simp only [decide_eq_true_eq, decide_eq_false_iff_not, Bool.not_eq_true, Bool.not_eq_false, Bool.not_eq_eq_eq_not, Bool.not_true, Bool.not_false, Int.not_lt, Int.not_le] at hb5_22
                refine g0 36 rfl (by first | exact .inl rfl | exact .inr rfl) ?_
                refine g0 36 rfl (by first | exact .inl rfl | exact .inr rfl) ?_
                refine p1 (x_pick_f rfl (by conv => lhs; whnf)) ?_
                exact l_cutend rfl (by repeat (first | exact Agr.refl _ _ | exact Agr.hav _ _ _ | refine Agr.upd rfl ?_ | refine Agr.updL ?_ _ rfl | refine Agr.hav' rfl ?_)) ⟨congrArg Value.bool (by first | rfl | exact (decide_eq_true (by omega)).symm | exact (decide_eq_false (by omega)).symm | exact decide_eq_decide.2 (by omega) | (simp_all; done) | grind), trivial⟩
            · intro Gr5_22
              refine l_cut 4 [40, 41, 42, 43] [(43, .bool (decide ((((btAt s k).toNat : Int) < 97 ∨ 122 < ((btAt s k).toNat : Int)) ∧ (((btAt s k).toNat : Int) < 65 ∨ 90 < ((btAt s k).toNat : Int)) ∧ (((btAt s k).toNat : Int) < 48 ∨ 57 < ((btAt s k).toNat : Int)) ∧ ((btAt s k).toNat : Int) ≠ 46 ∧ ((btAt s k).toNat : Int) ≠ 95)))] ?_ ?_
              · skip
                refine p1b (x_move (by conv => lhs; whnf)) (fun hb5_26 => ?_) (fun hb5_26 => ?_)
                · try simp only [decide_eq_true_eq, decide_eq_false_iff_not, Bool.not_eq_true, Bool.not_eq_false, Bool.not_eq_eq_eq_not, Bool.not_true, Bool.not_false, Int.not_lt, Int.not_le] at hb5_26
                  refine g1 40 rfl rfl (x_move (by conv => lhs; whnf)) ?_
                  refine g1 40 rfl rfl (x_neq rfl rfl) ?_
                  refine p1 (x_pick_t rfl (by conv => lhs; whnf)) ?_
                  exact l_cutend rfl (by repeat (first | exact Agr.refl _ _ | exact Agr.hav _ _ _ | refine Agr.upd rfl ?_ | refine Agr.updL ?_ _ rfl | refine Agr.hav' rfl ?_)) ⟨congrArg Value.bool (by first | rfl | exact (decide_eq_true (by omega)).symm | exact (decide_eq_false (by omega)).symm | exact decide_eq_decide.2 (by omega) | (simp_all; done) | grind), trivial⟩
                · try simp only [decide_eq_true_eq, decide_eq_false_iff_not, Bool.not_eq_true, Bool.not_eq_false, Bool.not_eq_eq_eq_not, Bool.not_true, Bool.not_false, Int.not_lt, Int.not_le] at hb5_26
                  refine g0 40 rfl (by first | exact .inl rfl | exact .inr rfl) ?_
                  refine g0 40 rfl (by first | exact .inl rfl | exact .inr rfl) ?_
                  refine p1 (x_pick_f rfl (by conv => lhs; whnf)) ?_
                  exact l_cutend rfl (by repeat (first | exact Agr.refl _ _ | exact Agr.hav _ _ _ | refine Agr.upd rfl ?_ | refine Agr.updL ?_ _ rfl | refine Agr.hav' rfl ?_)) ⟨congrArg Value.bool (by first | rfl | exact (decide_eq_true (by omega)).symm | exact (decide_eq_false (by omega)).symm | exact decide_eq_decide.2 (by omega) | (simp_all; done) | grind), trivial⟩
              · intro Gr5_26
                refine p1b (x_move (by conv => lhs; whnf)) (fun hb5_30 => ?_) (fun hb5_30 => ?_)
                · try simp only [decide_eq_true_eq, decide_eq_false_iff_not, Bool.not_eq_true, Bool.not_eq_false, Bool.not_eq_eq_eq_not, Bool.not_true, Bool.not_false, Int.not_lt, Int.not_le] at hb5_30
                  refine g1 44 rfl rfl (x_move (by conv => lhs; whnf)) ?_
                  refine g1 44 rfl rfl (x_neq rfl rfl) ?_
                  refine p1 (x_pick_t rfl (by conv => lhs; whnf)) ?_
                  refine r_nil ?_
                  refine t_n (At.mk () (by repeat (first | exact Agr.refl _ _ | exact Agr.hav _ _ _ | refine Agr.upd rfl ?_ | refine Agr.updL ?_ _ rfl | refine Agr.hav' rfl ?_)) ⟨congrArg Value.bool (by first | rfl | exact (decide_eq_true (by omega)).symm | exact (decide_eq_false (by omega)).symm | exact decide_eq_decide.2 (by omega) | (simp_all; done) | grind), trivial⟩ hWr5)
                · try simp only [decide_eq_true_eq, decide_eq_false_iff_not, Bool.not_eq_true, Bool.not_eq_false, Bool.not_eq_eq_eq_not, Bool.not_true, Bool.not_false, Int.not_lt, Int.not_le] at hb5_30
                  refine g0 44 rfl (by first | exact .inl rfl | exact .inr rfl) ?_
                  refine g0 44 rfl (by first | exact .inl rfl | exact .inr rfl) ?_
                  refine p1 (x_pick_f rfl (by conv => lhs; whnf)) ?_
                  refine r_nil ?_
                  refine t_n (At.mk () (by repeat (first | exact Agr.refl _ _ | exact Agr.hav _ _ _ | refine Agr.upd rfl ?_ | refine Agr.updL ?_ _ rfl | refine Agr.hav' rfl ?_)) ⟨congrArg Value.bool (by first | rfl | exact (decide_eq_true (by omega)).symm | exact (decide_eq_false (by omega)).symm | exact decide_eq_decide.2 (by omega) | (simp_all; done) | grind), trivial⟩ hWr5)
    · rintro _ Gr5 w2 hE2
      have hX := hX.ext hE2
      have hWL0 := hWL0.ext hE2
      refine t_n ?_
      first | refine c_dec rfl (fun hc47 => ?_) (fun hc47 => ?_) | refine c_if rfl (fun hc47 => ?_) (fun hc47 => ?_)
      · try simp only [decide_eq_true_eq, decide_eq_false_iff_not, Bool.not_eq_true, Bool.not_eq_false, Bool.not_eq_eq_eq_not, Bool.not_true, Bool.not_false, Int.not_lt, Int.not_le] at hc47
        have hp := name_not (s := s) (i := k) (by omega) (by unfold okc; omega)
        refine c_seq ?_
        refine r_plain ?_
        refine p1 (x_assign (by conv => lhs; whnf)) ?_
        refine r_nil ?_
        refine t_n ?_
        refine c_ret ?_
        refine b_r ?_
        refine t_r ?_
        refine t_r ?_
        refine b_r ?_
        refine t_r ?_
        refine end1 rfl (by conv => lhs; whnf) ?_
        exact ⟨by rw [hp], hX⟩
      · try simp only [decide_eq_true_eq, decide_eq_false_iff_not, Bool.not_eq_true, Bool.not_eq_false, Bool.not_eq_eq_eq_not, Bool.not_true, Bool.not_false, Int.not_lt, Int.not_le] at hc47
        have hok : okc ((btAt s k).toNat : Int) := by unfold okc; omega
        refine c_skip ?_
        refine b_n ?_
        refine t_n ?_
        refine r_plain ?_
        refine p1 (x_move (by conv => lhs; whnf)) ?_
        refine p1 (x_add rfl rfl (fits_i64 (by omega) (by omega))) ?_
        refine p1 (x_assign (by conv => lhs; whnf)) ?_
        refine r_nil ?_
        refine t_n (At.mk (k + 1) (by repeat (first | exact Agr.refl _ _ | exact Agr.hav _ _ _ | refine Agr.upd rfl ?_ | refine Agr.updL ?_ _ rfl | refine Agr.hav' rfl ?_)) ⟨rfl, trivial⟩ ?_)
        exact ⟨⟨hWL0, ⟨by omega, fun i hi => if h : i < k then hL i h else by rw [show i = k from by omega]; exact hok⟩⟩, by first | (dsimp only; omega) | ((show _ < _); omega)⟩
  · try simp only [decide_eq_true_eq, decide_eq_false_iff_not, Bool.not_eq_true, Bool.not_eq_false, Bool.not_eq_eq_eq_not, Bool.not_true, Bool.not_false, Int.not_lt, Int.not_le] at hc8
    have ha : ∀ i, i < s.size → okc (btAt s i).toNat := fun i hi => hL i (by omega)
    have hp : isName s = decide (1 ≤ s.size ∧ s.size ≤ 32 ∧ s ≠ ⟨#[45]⟩) := by unfold isName; rw [name_all ha, Bool.and_true]
    refine c_exit ?_
    refine t_e ?_
    refine t_e ?_
    refine b_hit ?_
    refine t_n ?_
    refine c_seq ?_
    have hWr7 := Ext.refl w1
    refine c_cut (ι := Unit) [2, 48, 49, 50, 51, 52, 53, 54, 55, 56, 57, 58, 59] (fun _ => [(2, .bool (decide (1 ≤ s.size ∧ s.size ≤ 32 ∧ s ≠ ⟨#[45]⟩)))]) (fun _ w' => Ext w1 w') ?_ ?_
    · skip
      refine r_plain ?_
      refine p1 (x_move (by conv => lhs; whnf)) ?_
      refine p1 (x_len_str u9 rfl) ?_
      refine p1 (x_geq rfl rfl) ?_
      refine p1b (x_move (by conv => lhs; whnf)) (fun hb7_3 => ?_) (fun hb7_3 => ?_)
      · try simp only [decide_eq_true_eq, decide_eq_false_iff_not, Bool.not_eq_true, Bool.not_eq_false, Bool.not_eq_eq_eq_not, Bool.not_true, Bool.not_false, Int.not_lt, Int.not_le] at hb7_3
        refine g1 51 rfl rfl (x_move (by conv => lhs; whnf)) ?_
        refine g1 51 rfl rfl (x_len_str u9 rfl) ?_
        refine g1 51 rfl rfl (x_leq rfl rfl) ?_
        refine p1 (x_pick_t rfl (by conv => lhs; whnf)) ?_
        refine p1b (x_move (by conv => lhs; whnf)) (fun hb7_8 => ?_) (fun hb7_8 => ?_)
        · try simp only [decide_eq_true_eq, decide_eq_false_iff_not, Bool.not_eq_true, Bool.not_eq_false, Bool.not_eq_eq_eq_not, Bool.not_true, Bool.not_false, Int.not_lt, Int.not_le] at hb7_8
          refine g1 56 rfl rfl (x_move (by conv => lhs; whnf)) ?_
          refine g1 56 rfl rfl (x_neq_str rfl rfl) ?_
          refine p1 (x_pick_t rfl (by conv => lhs; whnf)) ?_
          refine p1 (x_assign (by conv => lhs; whnf)) ?_
          refine r_nil ?_
          refine t_n (At.mk () (by repeat (first | exact Agr.refl _ _ | exact Agr.hav _ _ _ | refine Agr.upd rfl ?_ | refine Agr.updL ?_ _ rfl | refine Agr.hav' rfl ?_)) ⟨congrArg Value.bool (by first | rfl | exact (decide_eq_true (by omega)).symm | exact (decide_eq_false (by omega)).symm | exact decide_eq_decide.2 (by omega) | (simp_all; done) | grind), trivial⟩ hWr7)
        · try simp only [decide_eq_true_eq, decide_eq_false_iff_not, Bool.not_eq_true, Bool.not_eq_false, Bool.not_eq_eq_eq_not, Bool.not_true, Bool.not_false, Int.not_lt, Int.not_le] at hb7_8
          refine g0 56 rfl (by first | exact .inl rfl | exact .inr rfl) ?_
          refine g0 56 rfl (by first | exact .inl rfl | exact .inr rfl) ?_
          refine p1 (x_pick_f rfl (by conv => lhs; whnf)) ?_
          refine p1 (x_assign (by conv => lhs; whnf)) ?_
          refine r_nil ?_
          refine t_n (At.mk () (by repeat (first | exact Agr.refl _ _ | exact Agr.hav _ _ _ | refine Agr.upd rfl ?_ | refine Agr.updL ?_ _ rfl | refine Agr.hav' rfl ?_)) ⟨congrArg Value.bool (by first | rfl | exact (decide_eq_true (by omega)).symm | exact (decide_eq_false (by omega)).symm | exact decide_eq_decide.2 (by omega) | (simp_all; done) | grind), trivial⟩ hWr7)
      · try simp only [decide_eq_true_eq, decide_eq_false_iff_not, Bool.not_eq_true, Bool.not_eq_false, Bool.not_eq_eq_eq_not, Bool.not_true, Bool.not_false, Int.not_lt, Int.not_le] at hb7_3
        refine g0 51 rfl (by first | exact .inl rfl | exact .inr rfl) ?_
        refine g0 51 rfl (by first | exact .inl rfl | exact .inr rfl) ?_
        refine g0 51 rfl (by first | exact .inl rfl | exact .inr rfl) ?_
        refine p1 (x_pick_f rfl (by conv => lhs; whnf)) ?_
        refine p1 (x_move (by conv => lhs; whnf)) ?_
        refine g0 56 rfl (by first | exact .inl rfl | exact .inr rfl) ?_
        refine g0 56 rfl (by first | exact .inl rfl | exact .inr rfl) ?_
        refine p1 (x_pick_f rfl (by conv => lhs; whnf)) ?_
        refine p1 (x_assign (by conv => lhs; whnf)) ?_
        refine r_nil ?_
        refine t_n (At.mk () (by repeat (first | exact Agr.refl _ _ | exact Agr.hav _ _ _ | refine Agr.upd rfl ?_ | refine Agr.updL ?_ _ rfl | refine Agr.hav' rfl ?_)) ⟨congrArg Value.bool (by first | rfl | exact (decide_eq_true (by omega)).symm | exact (decide_eq_false (by omega)).symm | exact decide_eq_decide.2 (by omega) | (simp_all; done) | grind), trivial⟩ hWr7)
    · rintro _ Gr7 w3 hE3
      have hX := hX.ext hE3
      refine t_n ?_
      refine c_ret ?_
      refine end1 rfl (by conv => lhs; whnf) ?_
      exact ⟨by rw [hp], hX⟩
theorem leb_Uint (N : Nat) (hN : N < 18446744073709551616) (w : World) :
    Ret Try.prog 82 [.int .u64 (N : Int)] w (fun v w' => (∃ p l c, v = .slice p l c ∧ Own kByte 5 0 w.heap.size w' p l c (lebU N)) ∧ Ext w w') := by
  have hX := Ext.refl w
  refine enter 20 _ Try.func82 rfl rfl (Nat.le_of_ble_eq_true rfl) ?_
  refine c_seq ?_
  refine r_plain ?_
  refine p1 (x_assign (by conv => lhs; whnf)) ?_
  refine r_nil ?_
  refine t_n ?_
  refine c_seq ?_
  refine r_plain ?_
  refine o_make u22 inf5 rfl rfl (by omega) (by omega) (by omega) (by omega) ?_
  intro w1 g4 hN4
  have hE1 := hN4.ext
  have hX := hX.ext hE1
  have hO : Own kByte 5 0 w.heap.size w1 (some ⟨g4, 0, none⟩) 0 10 [] := Own.made kByte 5 0 _ hN4 [] [] 0 10 rfl trivial (by have := hX.size; have := hN4.g_eq; have := hN4.ext.size; omega) (by omega) (by omega) (by rw [size_madeCells]; rfl) (by simp)
  refine p1 (x_assign (by conv => lhs; whnf)) ?_
  refine r_nil ?_
  refine t_n ?_
  refine c_seq ?_
  refine c_block ?_
  refine c_loop (ι := Nat × List UInt8 × Option Addr × Nat × Nat) [0, 3, 5, 6, 7, 8, 9, 10, 11, 12, 13, 14] (fun (m, acc, p, l, c) => [(0, .int .u64 (m : Int)), (3, .slice p l c)]) (fun (m, acc, p, l, c) w' => Ext w w' ∧ (Own kByte 5 0 w.heap.size w' p l c acc ∧ acc ++ lebU m = lebU N ∧ m < 18446744073709551616)) (fun (m, acc, p, l, c) => m) ((N, [], some ⟨g4, 0, none⟩, 0, 10)) ⟨rfl, rfl, trivial⟩ ⟨hX, ⟨hO, by simp, hN⟩⟩ ?_
  rintro ⟨m, acc, p, l, c⟩ GL0 w2 ⟨hE2, hO, hacc, hm⟩
  have hX := hE2
  refine c_seq ?_
  refine c_seq ?_
  refine r_plain ?_
  refine p1 (x_move (by conv => lhs; whnf)) ?_
  refine p1 (x_geq rfl rfl) ?_
  refine r_nil ?_
  refine t_n ?_
  first | refine c_dec rfl (fun hc6 => ?_) (fun hc6 => ?_) | refine c_if rfl (fun hc6 => ?_) (fun hc6 => ?_)
  · try simp only [decide_eq_true_eq, decide_eq_false_iff_not, Bool.not_eq_true, Bool.not_eq_false, Bool.not_eq_eq_eq_not, Bool.not_true, Bool.not_false, Int.not_lt, Int.not_le] at hc6
    refine c_skip ?_
    refine t_n ?_
    refine c_seq ?_
    refine c_block ?_
    refine r_plain ?_
    refine p1 (x_move (by conv => lhs; whnf)) ?_
    refine p1 (x_move (by conv => lhs; whnf)) ?_
    refine p1 (x_conv u5 us95 rfl) ?_
    refine p1 ((x_or rfl rfl).cast (congrArg _ (or128 m))) ?_
    refine o_buildSlice u22 inf5 rfl (by decide) (fun base hb => fill_one (by rfl) base hb) ?_
    intro w3 g13 hN13
    have hE3 := hN13.ext
    have hX := hX.ext hE3
    have hO := hO.ext hE3
    have hS : Blk w3 g13 #[cell (UInt8.ofNat (m % 128 + 128))] 5 := hN13.blk
    have hlen : acc.length = l := hO.len
    have hl10 := lebU_len10 hN
    rw [← hacc, List.length_append] at hl10
    have hB0 := hX.size
    refine o_append (d := kByte) ([UInt8.ofNat (m % 128 + 128)]) u22 inf5 rfl kByte_pos rfl rfl hO (src_byte u22 hS) rfl (byte_all _ _ _) (flat_single _) (by omega) (by omega) (by omega) (by omega) (by decide) ?_
    intro p14 c14 w4 hO hM4
    have hX := hX.mod hM4 (Nat.le_refl _)
    refine p1 (x_assign (by conv => lhs; whnf)) ?_
    refine r_nil ?_
    refine b_n ?_
    refine t_n ?_
    refine r_plain ?_
    refine p1 (x_move (by conv => lhs; whnf)) ?_
    refine p1 ((x_shr rfl rfl (by omega)).cast (congrArg _ (shr7 m))) ?_
    refine p1 (x_assign (by conv => lhs; whnf)) ?_
    refine r_nil ?_
    refine t_n (At.mk ((m / 128, acc ++ [UInt8.ofNat (m % 128 + 128)], p14, l + 1, c14)) (by repeat (first | exact Agr.refl _ _ | exact Agr.hav _ _ _ | refine Agr.upd rfl ?_ | refine Agr.updL ?_ _ rfl | refine Agr.hav' rfl ?_)) ⟨rfl, rfl, trivial⟩ ?_)
    exact ⟨⟨hX, ⟨hO, by rw [← hacc, lebU_ge (n := m) (by omega)]; simp, by omega⟩⟩, by first | (dsimp only; omega) | ((show _ < _); omega)⟩
  · try simp only [decide_eq_true_eq, decide_eq_false_iff_not, Bool.not_eq_true, Bool.not_eq_false, Bool.not_eq_eq_eq_not, Bool.not_true, Bool.not_false, Int.not_lt, Int.not_le] at hc6
    refine c_exit ?_
    refine t_e ?_
    refine t_e ?_
    refine b_hit ?_
    refine t_n ?_
    refine c_seq ?_
    refine r_plain ?_
    refine p1 (x_move (by conv => lhs; whnf)) ?_
    refine p1 (x_move (by conv => lhs; whnf)) ?_
    refine p1 ((x_convf u5 us95 rfl (fits_u8 (by omega) (by omega))).cast (congrArg _ (ofNat_toNat (n := m) (by omega)).symm)) ?_
    refine o_buildSlice u22 inf5 rfl (by decide) (fun base hb => fill_one (by rfl) base hb) ?_
    intro w5 g18 hN18
    have hE5 := hN18.ext
    have hX := hX.ext hE5
    have hO := hO.ext hE5
    have hS : Blk w5 g18 #[cell (UInt8.ofNat m)] 5 := hN18.blk
    have hlen : acc.length = l := hO.len
    have hl10 := lebU_len10 hN
    rw [← hacc, List.length_append] at hl10
    have hB0 := hX.size
    refine o_append (d := kByte) ([UInt8.ofNat m]) u22 inf5 rfl kByte_pos rfl rfl hO (src_byte u22 hS) rfl (byte_all _ _ _) (flat_single _) (by omega) (by omega) (by omega) (by omega) (by decide) ?_
    intro p19 c19 w6 hO hM6
    have hX := hX.mod hM6 (Nat.le_refl _)
    refine p1 (x_assign (by conv => lhs; whnf)) ?_
    refine r_nil ?_
    refine t_n ?_
    refine c_ret ?_
    refine end1 rfl (by conv => lhs; whnf) ?_
    rw [lebU_lt (n := m) (by omega)] at hacc
    exact ⟨⟨_, _, _, rfl, by rw [← hacc]; exact hO⟩, hX⟩
theorem ref02_Uint (N : Nat) (hN : N < 18446744073709551616) (w : World) :
    Ret Try.prog 98 [.int .u64 (N : Int)] w (fun v w' => (∃ p l c, v = .slice p l c ∧ Own kByte 5 0 w.heap.size w' p l c (lebU N)) ∧ Ext w w') := by
  have hX := Ext.refl w
  refine enter 20 _ Try.func98 rfl rfl (Nat.le_of_ble_eq_true rfl) ?_
  refine c_seq ?_
  refine r_plain ?_
  refine p1 (x_assign (by conv => lhs; whnf)) ?_
  refine r_nil ?_
  refine t_n ?_
  refine c_seq ?_
  refine r_plain ?_
  refine p1 (x_assign (by conv => lhs; whnf)) ?_
  refine r_nil ?_
  refine t_n ?_
  refine c_seq ?_
  refine c_block ?_
  have hO : Own kByte 5 0 w.heap.size w none 0 0 [] := Own.nil _ _ _ _ _
  refine c_loop (ι := Nat × List UInt8 × Option Addr × Nat × Nat) [0, 3, 4, 5, 6, 7, 8, 9, 10, 11, 12, 13, 14] (fun (m, acc, p, l, c) => [(0, .int .u64 (m : Int)), (3, .slice p l c)]) (fun (m, acc, p, l, c) w' => Ext w w' ∧ (Own kByte 5 0 w.heap.size w' p l c acc ∧ acc ++ lebU m = lebU N ∧ m < 18446744073709551616)) (fun (m, acc, p, l, c) => m) ((N, [], none, 0, 0)) ⟨rfl, rfl, trivial⟩ ⟨hX, ⟨hO, by simp, hN⟩⟩ ?_
  rintro ⟨m, acc, p, l, c⟩ GL0 w1 ⟨hE1, hO, hacc, hm⟩
  have hX := hE1
  refine c_seq ?_
  refine c_seq ?_
  refine r_plain ?_
  refine p1 (x_move (by conv => lhs; whnf)) ?_
  refine p1 (x_geq rfl rfl) ?_
  refine r_nil ?_
  refine t_n ?_
  first | refine c_dec rfl (fun hc5 => ?_) (fun hc5 => ?_) | refine c_if rfl (fun hc5 => ?_) (fun hc5 => ?_)
  · try simp only [decide_eq_true_eq, decide_eq_false_iff_not, Bool.not_eq_true, Bool.not_eq_false, Bool.not_eq_eq_eq_not, Bool.not_true, Bool.not_false, Int.not_lt, Int.not_le] at hc5
    refine c_skip ?_
    refine t_n ?_
    refine c_block ?_
    refine c_seq ?_
    refine r_plain ?_
    refine p1 (x_move (by conv => lhs; whnf)) ?_
    refine p1 (x_move (by conv => lhs; whnf)) ?_
    refine p1 (x_rem rfl rfl (by omega) (by omega)) ?_
    refine p1 (x_convf u5 us95 rfl (fits_u8 (by omega) (by omega))) ?_
    refine p1 ((x_add rfl rfl (fits_u8 (by omega) (by omega))).cast (congrArg _ (by rw [ofNat_toNat (by omega)]; omega : _ = ((UInt8.ofNat (m % 128 + 128)).toNat : Int)))) ?_
    refine o_buildSlice u22 inf5 rfl (by decide) (fun base hb => fill_one (by rfl) base hb) ?_
    intro w2 g11 hN11
    have hE2 := hN11.ext
    have hX := hX.ext hE2
    have hO := hO.ext hE2
    have hS : Blk w2 g11 #[cell (UInt8.ofNat (m % 128 + 128))] 5 := hN11.blk
    have hlen : acc.length = l := hO.len
    have hl10 := lebU_len10 hN
    rw [← hacc, List.length_append] at hl10
    have hB0 := hX.size
    refine o_append (d := kByte) ([UInt8.ofNat (m % 128 + 128)]) u22 inf5 rfl kByte_pos rfl rfl hO (src_byte u22 hS) rfl (byte_all _ _ _) (flat_single _) (by omega) (by omega) (by omega) (by omega) (by decide) ?_
    intro p12 c12 w3 hO hM3
    have hX := hX.mod hM3 (Nat.le_refl _)
    refine p1 (x_assign (by conv => lhs; whnf)) ?_
    refine r_nil ?_
    refine t_n ?_
    refine r_plain ?_
    refine p1 (x_move (by conv => lhs; whnf)) ?_
    refine p1 (x_quo rfl rfl (by omega) (by omega) (fits_u64 (by omega) (by omega))) ?_
    refine p1 (x_assign (by conv => lhs; whnf)) ?_
    refine r_nil ?_
    refine b_n ?_
    refine t_n (At.mk ((m / 128, acc ++ [UInt8.ofNat (m % 128 + 128)], p12, l + 1, c12)) (by repeat (first | exact Agr.refl _ _ | exact Agr.hav _ _ _ | refine Agr.upd rfl ?_ | refine Agr.updL ?_ _ rfl | refine Agr.hav' rfl ?_)) ⟨rfl, rfl, trivial⟩ ?_)
    exact ⟨⟨hX, ⟨hO, by rw [← hacc, lebU_ge (n := m) (by omega)]; simp, by omega⟩⟩, by first | (dsimp only; omega) | ((show _ < _); omega)⟩
  · try simp only [decide_eq_true_eq, decide_eq_false_iff_not, Bool.not_eq_true, Bool.not_eq_false, Bool.not_eq_eq_eq_not, Bool.not_true, Bool.not_false, Int.not_lt, Int.not_le] at hc5
    refine c_exit ?_
    refine t_e ?_
    refine t_e ?_
    refine b_hit ?_
    refine t_n ?_
    refine c_seq ?_
    refine r_plain ?_
    refine p1 (x_move (by conv => lhs; whnf)) ?_
    refine p1 (x_move (by conv => lhs; whnf)) ?_
    refine p1 ((x_convf u5 us95 rfl (fits_u8 (by omega) (by omega))).cast (congrArg _ (ofNat_toNat (n := m) (by omega)).symm)) ?_
    refine o_buildSlice u22 inf5 rfl (by decide) (fun base hb => fill_one (by rfl) base hb) ?_
    intro w4 g18 hN18
    have hE4 := hN18.ext
    have hX := hX.ext hE4
    have hO := hO.ext hE4
    have hS : Blk w4 g18 #[cell (UInt8.ofNat m)] 5 := hN18.blk
    have hlen : acc.length = l := hO.len
    have hl10 := lebU_len10 hN
    rw [← hacc, List.length_append] at hl10
    have hB0 := hX.size
    refine o_append (d := kByte) ([UInt8.ofNat m]) u22 inf5 rfl kByte_pos rfl rfl hO (src_byte u22 hS) rfl (byte_all _ _ _) (flat_single _) (by omega) (by omega) (by omega) (by omega) (by decide) ?_
    intro p19 c19 w5 hO hM5
    have hX := hX.mod hM5 (Nat.le_refl _)
    refine p1 (x_assign (by conv => lhs; whnf)) ?_
    refine r_nil ?_
    refine t_n ?_
    refine c_ret ?_
    refine end1 rfl (by conv => lhs; whnf) ?_
    rw [lebU_lt (n := m) (by omega)] at hacc
    exact ⟨⟨_, _, _, rfl, by rw [← hacc]; exact hO⟩, hX⟩
theorem leb_Text (s : ByteArray) (hs : s.size ≤ 140737488351232) (w : World) :
    Ret Try.prog 85 [.string s] w (fun v w' => (∃ p l c, v = .slice p l c ∧ Own kByte 5 0 w.heap.size w' p l c (lebU s.size ++ s.data.toList)) ∧ Ext w w') := by
  have hX := Ext.refl w
  refine enter 9 _ Try.func85 rfl rfl (Nat.le_of_ble_eq_true rfl) ?_
  refine c_seq ?_
  refine r_plain ?_
  refine p1 (x_assign (by conv => lhs; whnf)) ?_
  refine r_nil ?_
  refine t_n ?_
  refine c_seq ?_
  refine r_plain ?_
  refine p1 (x_move (by conv => lhs; whnf)) ?_
  refine p1 (x_len_str u9 rfl) ?_
  refine p1 (x_convf u95 us3 rfl (fits_u64 (by omega) (by omega))) ?_
  refine o_call Try.func82 fn82 fb82 (leb_Uint s.size (by omega) _) rfl ?_
  rintro v1 w1 ⟨⟨p6, l6, c6, rfl, hO⟩, hE1⟩
  have hX := hX.ext hE1
  refine p1 (x_move (by conv => lhs; whnf)) ?_
  have hlen := hO.len
  have hl10 := lebU_len10 (n := s.size) (by omega)
  have hB0 := hX.size
  have hO := hO.lower (B0' := w.heap.size) (by have := hX.size; omega)
  refine o_append (d := kByte) (s.data.toList) u22 inf5 rfl kByte_pos rfl rfl hO (src_str u9 s) (by simp) (byte_all _ _ _) (flat_single _) (by omega) (by omega) (by omega) (by omega) (by decide) ?_
  intro p8 c8 w2 hO hM2
  have hX := hX.mod hM2 (Nat.le_refl _)
  refine p1 (x_assign (by conv => lhs; whnf)) ?_
  refine r_nil ?_
  refine t_n ?_
  refine c_ret ?_
  refine end1 rfl (by conv => lhs; whnf) ?_
  exact ⟨⟨_, _, _, rfl, hO⟩, hX⟩
theorem ref02_Text (s : ByteArray) (hs : s.size ≤ 140737488351232) (w : World) :
    Ret Try.prog 118 [.string s] w (fun v w' => (∃ p l c, v = .slice p l c ∧ Own kByte 5 0 w.heap.size w' p l c (lebU s.size ++ s.data.toList)) ∧ Ext w w') := by
  have hX := Ext.refl w
  refine enter 9 _ Try.func118 rfl rfl (Nat.le_of_ble_eq_true rfl) ?_
  refine c_seq ?_
  refine r_plain ?_
  refine p1 (x_assign (by conv => lhs; whnf)) ?_
  refine r_nil ?_
  refine t_n ?_
  refine c_seq ?_
  refine r_plain ?_
  refine p1 (x_move (by conv => lhs; whnf)) ?_
  refine p1 (x_len_str u9 rfl) ?_
  refine p1 (x_convf u95 us3 rfl (fits_u64 (by omega) (by omega))) ?_
  refine o_call Try.func98 fn98 fb98 (ref02_Uint s.size (by omega) _) rfl ?_
  rintro v1 w1 ⟨⟨p6, l6, c6, rfl, hO⟩, hE1⟩
  have hX := hX.ext hE1
  refine p1 (x_move (by conv => lhs; whnf)) ?_
  have hlen := hO.len
  have hl10 := lebU_len10 (n := s.size) (by omega)
  have hB0 := hX.size
  have hO := hO.lower (B0' := w.heap.size) (by have := hX.size; omega)
  refine o_append (d := kByte) (s.data.toList) u22 inf5 rfl kByte_pos rfl rfl hO (src_str u9 s) (by simp) (byte_all _ _ _) (flat_single _) (by omega) (by omega) (by omega) (by omega) (by decide) ?_
  intro p8 c8 w2 hO hM2
  have hX := hX.mod hM2 (Nat.le_refl _)
  refine p1 (x_assign (by conv => lhs; whnf)) ?_
  refine r_nil ?_
  refine t_n ?_
  refine c_ret ?_
  refine end1 rfl (by conv => lhs; whnf) ?_
  exact ⟨⟨_, _, _, rfl, hO⟩, hX⟩
end Go.Proofs.Eng
