import Derived.Test.YtjbfgmkemideiaaC9
import Derived.Test.YtjbfgmkemideiaaT7
set_option linter.unusedVariables false
set_option linter.unusedSimpArgs false
set_option maxRecDepth 100000
set_option maxHeartbeats 4000000
namespace Go.Proofs.Eng
open Go.RowKit
open Extern.Stop (cell)
theorem branch_Load (l : List Br) (B : Nat) (p : Option Addr) (n c : Nat) (w : World) (ha : Sl kBrA 81 B w p n c l) (hkk : ∀ x ∈ l, x.1.size ≤ 9223372036854775807) :
    Ret Try.prog 68 [.slice p n c] w (fun v w' => ((okL l ∧ ∃ g r, v = .tuple #[.pointer (some ⟨g, 0, none⟩), .int .i64 0] ∧ Tbl (fun j => w.heap.size ≤ j) w.heap.size w' g r l) ∨ (¬ okL l ∧ v = .tuple #[.pointer none, .int .i64 4])) ∧ Ext w w') := by
  have hX := Ext.refl w
  refine enter 54 _ Try.func68 rfl rfl (Nat.le_of_ble_eq_true rfl) ?_
  refine c_seq ?_
  refine r_plain ?_
  refine p1 (x_assign (by conv => lhs; whnf)) ?_
  refine p1 (x_assign (by conv => lhs; whnf)) ?_
  refine r_nil ?_
  refine t_n ?_
  refine c_seq ?_
  refine c_seq ?_
  refine r_plain ?_
  refine p1 (x_move (by conv => lhs; whnf)) ?_
  refine p1 (x_len_slice u30 rfl) ?_
  refine p1 (x_gtr rfl rfl) ?_
  refine r_nil ?_
  refine t_n ?_
  first | refine c_dec rfl (fun hc9 => ?_) (fun hc9 => ?_) | refine c_if rfl (fun hc9 => ?_) (fun hc9 => ?_)
  · try simp only [decide_eq_true_eq, decide_eq_false_iff_not, Bool.not_eq_true, Bool.not_eq_false, Bool.not_eq_eq_eq_not, Bool.not_true, Bool.not_false, Int.not_lt, Int.not_le] at hc9
    have hno : ¬ okL l := fun h => by have := h.1; have := ha.len; omega
    refine c_seq ?_
    refine r_plain ?_
    refine p1 (x_assign (by conv => lhs; whnf)) ?_
    refine p1 (x_assign (by conv => lhs; whnf)) ?_
    refine r_nil ?_
    refine t_n ?_
    refine c_ret ?_
    refine t_r ?_
    refine end2 rfl (by conv => lhs; whnf) (by conv => lhs; whnf) ?_
    first | exact ⟨.inr ⟨hno, rfl⟩, hX⟩ | exact ⟨.inl ⟨okL_of hT, _, _, rfl, hT⟩, hX⟩
  · try simp only [decide_eq_true_eq, decide_eq_false_iff_not, Bool.not_eq_true, Bool.not_eq_false, Bool.not_eq_eq_eq_not, Bool.not_true, Bool.not_false, Int.not_lt, Int.not_le] at hc9
    refine c_skip ?_
    refine t_n ?_
    refine c_seq ?_
    refine r_plain ?_
    refine o_call Try.func62 fn62 fb62 (branch_New _) rfl ?_
    rintro v1 w1 ⟨⟨gT, rT, rfl, hgT, hT⟩, hE1⟩
    have hX := hX.ext hE1
    have hTb := hT.blk
    refine p1 (x_assign (by conv => lhs; whnf)) ?_
    refine r_nil ?_
    refine t_n ?_
    refine c_seq ?_
    refine c_seq ?_
    refine r_plain ?_
    refine p1 (x_move (by conv => lhs; whnf)) ?_
    refine p1 (x_len_slice u30 rfl) ?_
    refine p1 (x_move (by conv => lhs; whnf)) ?_
    refine r_nil ?_
    refine t_n ?_
    refine c_block ?_
    have hlen := ha.len
    have hcap := ha.cap
    have hfit := ha.fit
    refine c_loop (ι := Nat) [2, 3, 5, 6, 13, 14, 15, 16, 17, 18, 19, 20, 21, 22, 23, 24, 25, 26, 27, 28, 29, 30, 31, 32, 33, 34, 35, 36, 37, 38, 39, 40, 41, 42, 43, 44, 45, 46, 47, 48, 49, 50, 51, 52] (fun i => [(13, .int .i64 (i : Int))]) (fun i w' => Ext w w' ∧ (Tbl (fun j => w.heap.size ≤ j) w.heap.size w' gT rT (l.take i) ∧ Blk w' gT #[.map (some rT)] 124 ∧ i ≤ n)) (fun i => n - i) (0) ⟨rfl, trivial⟩ ⟨hX, ⟨hT.mono (fun j _ h => h.elim), hTb, by omega⟩⟩ ?_
    rintro i GL0 w2 ⟨hE2, hT, hTb, hi⟩
    have hX := hE2
    refine c_seq ?_
    refine r_plain ?_
    refine p1 (x_lss rfl rfl) ?_
    refine r_nil ?_
    refine t_n ?_
    refine c_seq ?_
    first | refine c_dec rfl (fun hc14 => ?_) (fun hc14 => ?_) | refine c_if rfl (fun hc14 => ?_) (fun hc14 => ?_)
    · try simp only [decide_eq_true_eq, decide_eq_false_iff_not, Bool.not_eq_true, Bool.not_eq_false, Bool.not_eq_eq_eq_not, Bool.not_true, Bool.not_false, Int.not_lt, Int.not_le] at hc14
      refine c_skip ?_
      refine t_n ?_
      refine c_seq ?_
      refine c_block ?_
      refine c_seq ?_
      obtain ⟨q1, m1, c1, hrow1, hc0_1, hc1_1, hS1⟩ := ha.brAt i (by omega)
      have hmem := mem_getD (l := l) (k := i) (by omega)
      have ez : ((i : Int) - 1).toNat = i - 1 := by omega
      refine r_plain ?_
      refine p1 (x_move (by conv => lhs; whnf)) ?_
      refine p1 (x_ixs u30 sz81 rfl rfl ((ha.ext hX).adr kBrA_pos (by omega)) (by omega) (by omega)) ?_
      refine p1 (x_loadN ua81 rfl (by exact sz81) (hX.range hrow1)) ?_
      have hXs6 := hX.size
      refine o_alloc zr81 ?_
      intro w3 g6 hN6
      have hE3 := hN6.ext
      have hX := hX.ext hE3
      have hT := hT.ext hE3
      have hTb := hTb.ext hE3
      have hB6 := hN6.blk
      refine p1 (x_assign (by conv => lhs; whnf)) ?_
      refine o_storeAll rfl (by conv => lhs; whnf) (by simp [Value.oneCell']) (by exact sz81) hB6 (by rfl) ?_
      intro w4 hP4
      have hX := hX.put hP4 (by rw [hN6.g_eq]; exact hXs6)
      have hT := hT.mod (hP4.mod 0 (Nat.zero_le _)) (Nat.zero_le _) (by decide)
      have hTb := hTb.mod (hP4.mod 0 (Nat.zero_le _)) (by decide)
      have hB6 := hP4.blk
      refine r_nil ?_
      refine t_n ?_
      refine c_seq ?_
      refine c_seq ?_
      refine r_held (fun w1 w2 => Ext w1 w2) mixed ?_
      intro w5 hE5
      have hX := hX.ext hE5
      have hT := hT.ext hE5
      have hTb := hTb.ext hE5
      have hB6 := hB6.ext hE5
      have hSr7 : (fun w1 w2 => Ext w1 w2) w5 w5 := Ext.refl w5
      refine h_take 0 rfl (by kernel_rfl) (by kernel_rfl) (by kernel_rfl) hSr7 (fun wS hSS => by (have hX := hX.ext hSS; have hT := hT.ext hSS; have hTb := hTb.ext hSS; have hB6 := hB6.ext hSS; exact (x_fieldAddr fo81_0 sz9 rfl))) ?_
      refine h_take 1 rfl (by kernel_rfl) (by kernel_rfl) (by kernel_rfl) hSr7 (fun wS hSS => by (have hX := hX.ext hSS; have hT := hT.ext hSS; have hTb := hTb.ext hSS; have hB6 := hB6.ext hSS; exact (x_load1 un9 rfl (hB6.cell (rfl))))) ?_
      refine h_one 2 _ rfl (by kernel_rfl) (hop_of_list (fun Q2 hQ2 => ?_))
      refine o_call Try.func31 fn31 fb31 (hashes_Name (l.getD i default).1 _ (hkk _ hmem)) rfl ?_
      rintro v6 w6 ⟨rfl, hE6⟩
      have hX := hX.ext hE6
      have hT := hT.ext hE6
      have hTb := hTb.ext hE6
      have hB6 := hB6.ext hE6
      have hSr7 := hSr7.ext hE6
      refine hop_end hQ2 ⟨hSr7, ?_⟩
      refine h_take 3 rfl (by kernel_rfl) (by kernel_rfl) (by kernel_rfl) hSr7 (fun wS hSS => by ( exact (x_not rfl))) ?_
      refine h_takeb 4 rfl (by kernel_rfl) (by kernel_rfl) (by kernel_rfl) hSr7 (fun wS hSS => by ( exact (x_move (by conv => lhs; whnf)))) (fun hb7_4 => ?_) (fun hb7_4 => ?_)
      · try simp only [decide_eq_true_eq, decide_eq_false_iff_not, Bool.not_eq_true, Bool.not_eq_false, Bool.not_eq_eq_eq_not, Bool.not_true, Bool.not_false, Int.not_lt, Int.not_le] at hb7_4
        refine h_skip 5 22 rfl (by first | exact .inl rfl | exact .inr rfl) rfl (by kernel_rfl) (by kernel_rfl) (by kernel_rfl) hSr7 ?_
        refine h_skip 6 22 rfl (by first | exact .inl rfl | exact .inr rfl) rfl (by kernel_rfl) (by kernel_rfl) (by kernel_rfl) hSr7 ?_
        refine h_skip 7 22 rfl (by first | exact .inl rfl | exact .inr rfl) rfl (by kernel_rfl) (by kernel_rfl) (by kernel_rfl) hSr7 ?_
        refine h_skip 8 22 rfl (by first | exact .inl rfl | exact .inr rfl) rfl (by kernel_rfl) (by kernel_rfl) (by kernel_rfl) hSr7 ?_
        refine h_take 9 rfl (by kernel_rfl) (by kernel_rfl) (by kernel_rfl) hSr7 (fun wS hSS => by ( exact (x_pick_t rfl (by conv => lhs; whnf)))) ?_
        refine h_take 10 rfl (by kernel_rfl) (by kernel_rfl) (by kernel_rfl) hSr7 (fun wS hSS => by ( exact (x_move (by conv => lhs; whnf)))) ?_
        refine h_skip 11 28 rfl (by first | exact .inl rfl | exact .inr rfl) rfl (by kernel_rfl) (by kernel_rfl) (by kernel_rfl) hSr7 ?_
        refine h_skip 12 28 rfl (by first | exact .inl rfl | exact .inr rfl) rfl (by kernel_rfl) (by kernel_rfl) (by kernel_rfl) hSr7 ?_
        refine h_skip 13 28 rfl (by first | exact .inl rfl | exact .inr rfl) rfl (by kernel_rfl) (by kernel_rfl) (by kernel_rfl) hSr7 ?_
        refine h_skip 14 31 rfl (by first | exact .inl rfl | exact .inr rfl) rfl (by kernel_rfl) (by kernel_rfl) (by kernel_rfl) hSr7 ?_
        refine h_skip 15 31 rfl (by first | exact .inl rfl | exact .inr rfl) rfl (by kernel_rfl) (by kernel_rfl) (by kernel_rfl) hSr7 ?_
        refine h_skip 16 31 rfl (by first | exact .inl rfl | exact .inr rfl) rfl (by kernel_rfl) (by kernel_rfl) (by kernel_rfl) hSr7 ?_
        refine h_skip 17 31 rfl (by first | exact .inl rfl | exact .inr rfl) rfl (by kernel_rfl) (by kernel_rfl) (by kernel_rfl) hSr7 ?_
        refine h_skip 18 31 rfl (by first | exact .inl rfl | exact .inr rfl) rfl (by kernel_rfl) (by kernel_rfl) (by kernel_rfl) hSr7 ?_
        refine h_skip 19 31 rfl (by first | exact .inl rfl | exact .inr rfl) rfl (by kernel_rfl) (by kernel_rfl) (by kernel_rfl) hSr7 ?_
        refine h_skip 20 31 rfl (by first | exact .inl rfl | exact .inr rfl) rfl (by kernel_rfl) (by kernel_rfl) (by kernel_rfl) hSr7 ?_
        refine h_skip 21 31 rfl (by first | exact .inl rfl | exact .inr rfl) rfl (by kernel_rfl) (by kernel_rfl) (by kernel_rfl) hSr7 ?_
        refine h_skip 22 31 rfl (by first | exact .inl rfl | exact .inr rfl) rfl (by kernel_rfl) (by kernel_rfl) (by kernel_rfl) hSr7 ?_
        refine h_skip 23 28 rfl (by first | exact .inl rfl | exact .inr rfl) rfl (by kernel_rfl) (by kernel_rfl) (by kernel_rfl) hSr7 ?_
        refine h_take 24 rfl (by kernel_rfl) (by kernel_rfl) (by kernel_rfl) hSr7 (fun wS hSS => by ( exact (x_pick_t rfl (by conv => lhs; whnf)))) ?_
        refine h_done (by kernel_rfl) ?_
        refine t_n ?_
        refine c_t rfl ?_
        have hno : ¬ okL l := by
          intro h
          have h1 := (h.2.2 _ (mem_getD (k := i) (by omega))).1
          have h2 := (h.2.2 _ (mem_getD (k := i) (by omega))).2
          first | (rw [hb7_4] at h1; exact absurd h1 (by decide)) | (rw [hb7_10] at h2; exact absurd h2 (by decide)) | exact not_rise_at (k := i) (by omega) (by omega) (by rw [← ez]; simpa using hc42) h.2.1
        refine c_seq ?_
        refine r_plain ?_
        refine p1 (x_assign (by conv => lhs; whnf)) ?_
        refine p1 (x_assign (by conv => lhs; whnf)) ?_
        refine r_nil ?_
        refine t_n ?_
        refine c_ret ?_
        refine t_r ?_
        refine b_r ?_
        refine t_r ?_
        refine t_r ?_
        refine b_r ?_
        refine t_r ?_
        refine end2 rfl (by conv => lhs; whnf) (by conv => lhs; whnf) ?_
        first | exact ⟨.inr ⟨hno, rfl⟩, hX⟩ | exact ⟨.inl ⟨okL_of hT, _, _, rfl, hT⟩, hX⟩
      · try simp only [decide_eq_true_eq, decide_eq_false_iff_not, Bool.not_eq_true, Bool.not_eq_false, Bool.not_eq_eq_eq_not, Bool.not_true, Bool.not_false, Int.not_lt, Int.not_le] at hb7_4
        refine h_takeg 5 22 rfl rfl rfl (by kernel_rfl) (by kernel_rfl) (by kernel_rfl) hSr7 (fun wS hSS => by ( exact (x_fieldAddr fo81_1 sz31 rfl))) ?_
        refine h_one 6 _ rfl (by kernel_rfl) (hop_of_list (fun Q6 hQ6 => ?_))
        refine g1 22 rfl rfl (x_load1 un31 rfl (hB6.cell (rfl))) ?_
        refine hop_end hQ6 ⟨hSr7, ?_⟩
        refine h_one 7 _ rfl (by kernel_rfl) (hop_of_list (fun Q7 hQ7 => ?_))
        refine g_drop 22 rfl rfl ?_
        refine o_call Try.func102 fn102 fb102 (branch_may (l.getD i default).2 _ _ _ _ _ (hS1.ext hX)) rfl ?_
        rintro v7 w7 ⟨rfl, hE7⟩
        have hX := hX.ext hE7
        have hT := hT.ext hE7
        have hTb := hTb.ext hE7
        have hB6 := hB6.ext hE7
        have hSr7 := hSr7.ext hE7
        refine hop_end hQ7 ⟨hSr7, ?_⟩
        refine h_takeg 8 22 rfl rfl rfl (by kernel_rfl) (by kernel_rfl) (by kernel_rfl) hSr7 (fun wS hSS => by ( exact (x_not rfl))) ?_
        refine h_take 9 rfl (by kernel_rfl) (by kernel_rfl) (by kernel_rfl) hSr7 (fun wS hSS => by ( exact (x_pick_f rfl (by conv => lhs; whnf)))) ?_
        refine h_takeb 10 rfl (by kernel_rfl) (by kernel_rfl) (by kernel_rfl) hSr7 (fun wS hSS => by ( exact (x_move (by conv => lhs; whnf)))) (fun hb7_10 => ?_) (fun hb7_10 => ?_)
        · try simp only [decide_eq_true_eq, decide_eq_false_iff_not, Bool.not_eq_true, Bool.not_eq_false, Bool.not_eq_eq_eq_not, Bool.not_true, Bool.not_false, Int.not_lt, Int.not_le] at hb7_10
          refine h_skip 11 28 rfl (by first | exact .inl rfl | exact .inr rfl) rfl (by kernel_rfl) (by kernel_rfl) (by kernel_rfl) hSr7 ?_
          refine h_skip 12 28 rfl (by first | exact .inl rfl | exact .inr rfl) rfl (by kernel_rfl) (by kernel_rfl) (by kernel_rfl) hSr7 ?_
          refine h_skip 13 28 rfl (by first | exact .inl rfl | exact .inr rfl) rfl (by kernel_rfl) (by kernel_rfl) (by kernel_rfl) hSr7 ?_
          refine h_skip 14 31 rfl (by first | exact .inl rfl | exact .inr rfl) rfl (by kernel_rfl) (by kernel_rfl) (by kernel_rfl) hSr7 ?_
          refine h_skip 15 31 rfl (by first | exact .inl rfl | exact .inr rfl) rfl (by kernel_rfl) (by kernel_rfl) (by kernel_rfl) hSr7 ?_
          refine h_skip 16 31 rfl (by first | exact .inl rfl | exact .inr rfl) rfl (by kernel_rfl) (by kernel_rfl) (by kernel_rfl) hSr7 ?_
          refine h_skip 17 31 rfl (by first | exact .inl rfl | exact .inr rfl) rfl (by kernel_rfl) (by kernel_rfl) (by kernel_rfl) hSr7 ?_
          refine h_skip 18 31 rfl (by first | exact .inl rfl | exact .inr rfl) rfl (by kernel_rfl) (by kernel_rfl) (by kernel_rfl) hSr7 ?_
          refine h_skip 19 31 rfl (by first | exact .inl rfl | exact .inr rfl) rfl (by kernel_rfl) (by kernel_rfl) (by kernel_rfl) hSr7 ?_
          refine h_skip 20 31 rfl (by first | exact .inl rfl | exact .inr rfl) rfl (by kernel_rfl) (by kernel_rfl) (by kernel_rfl) hSr7 ?_
          refine h_skip 21 31 rfl (by first | exact .inl rfl | exact .inr rfl) rfl (by kernel_rfl) (by kernel_rfl) (by kernel_rfl) hSr7 ?_
          refine h_skip 22 31 rfl (by first | exact .inl rfl | exact .inr rfl) rfl (by kernel_rfl) (by kernel_rfl) (by kernel_rfl) hSr7 ?_
          refine h_skip 23 28 rfl (by first | exact .inl rfl | exact .inr rfl) rfl (by kernel_rfl) (by kernel_rfl) (by kernel_rfl) hSr7 ?_
          refine h_take 24 rfl (by kernel_rfl) (by kernel_rfl) (by kernel_rfl) hSr7 (fun wS hSS => by ( exact (x_pick_t rfl (by conv => lhs; whnf)))) ?_
          refine h_done (by kernel_rfl) ?_
          refine t_n ?_
          refine c_t rfl ?_
          have hno : ¬ okL l := by
            intro h
            have h1 := (h.2.2 _ (mem_getD (k := i) (by omega))).1
            have h2 := (h.2.2 _ (mem_getD (k := i) (by omega))).2
            first | (rw [hb7_4] at h1; exact absurd h1 (by decide)) | (rw [hb7_10] at h2; exact absurd h2 (by decide)) | exact not_rise_at (k := i) (by omega) (by omega) (by rw [← ez]; simpa using hc42) h.2.1
          refine c_seq ?_
          refine r_plain ?_
          refine p1 (x_assign (by conv => lhs; whnf)) ?_
          refine p1 (x_assign (by conv => lhs; whnf)) ?_
          refine r_nil ?_
          refine t_n ?_
          refine c_ret ?_
          refine t_r ?_
          refine b_r ?_
          refine t_r ?_
          refine t_r ?_
          refine b_r ?_
          refine t_r ?_
          refine end2 rfl (by conv => lhs; whnf) (by conv => lhs; whnf) ?_
          first | exact ⟨.inr ⟨hno, rfl⟩, hX⟩ | exact ⟨.inl ⟨okL_of hT, _, _, rfl, hT⟩, hX⟩
        · try simp only [decide_eq_true_eq, decide_eq_false_iff_not, Bool.not_eq_true, Bool.not_eq_false, Bool.not_eq_eq_eq_not, Bool.not_true, Bool.not_false, Int.not_lt, Int.not_le] at hb7_10
          refine h_takeg 11 28 rfl rfl rfl (by kernel_rfl) (by kernel_rfl) (by kernel_rfl) hSr7 (fun wS hSS => by ( exact (x_move (by conv => lhs; whnf)))) ?_
          refine h_takeg 12 28 rfl rfl rfl (by kernel_rfl) (by kernel_rfl) (by kernel_rfl) hSr7 (fun wS hSS => by ( exact (x_gtr rfl rfl))) ?_
          refine h_takegb 13 28 rfl rfl rfl (by kernel_rfl) (by kernel_rfl) (by kernel_rfl) hSr7 (fun wS hSS => by ( exact (x_move (by conv => lhs; whnf)))) (fun hb7_13 => ?_) (fun hb7_13 => ?_)
          · try simp only [decide_eq_true_eq, decide_eq_false_iff_not, Bool.not_eq_true, Bool.not_eq_false, Bool.not_eq_eq_eq_not, Bool.not_true, Bool.not_false, Int.not_lt, Int.not_le] at hb7_13
            obtain ⟨q2, m2, c2, hrow2, hc0_2, hc1_2, hS2⟩ := ha.brAt ((i : Int) - 1).toNat (by omega)
            refine h_takeg 14 31 rfl rfl rfl (by kernel_rfl) (by kernel_rfl) (by kernel_rfl) hSr7 (fun wS hSS => by ( exact (x_move (by conv => lhs; whnf)))) ?_
            refine h_takeg 15 31 rfl rfl rfl (by kernel_rfl) (by kernel_rfl) (by kernel_rfl) hSr7 (fun wS hSS => by ( exact (x_move (by conv => lhs; whnf)))) ?_
            refine h_takeg 16 31 rfl rfl rfl (by kernel_rfl) (by kernel_rfl) (by kernel_rfl) hSr7 (fun wS hSS => by ( exact (x_sub rfl rfl (fits_i64 (by omega) (by omega))))) ?_
            refine h_takeg 17 31 rfl rfl rfl (by kernel_rfl) (by kernel_rfl) (by kernel_rfl) hSr7 (fun wS hSS => by ( exact (x_ixs u30 sz81 rfl rfl (ha.adr kBrA_pos (by omega)) (by omega) (by omega)))) ?_
            refine h_takeg 18 31 rfl rfl rfl (by kernel_rfl) (by kernel_rfl) (by kernel_rfl) hSr7 (fun wS hSS => by ( exact (x_fieldAddr fo81_0 sz9 rfl))) ?_
            refine h_takeg 20 31 rfl rfl rfl (by kernel_rfl) (by kernel_rfl) (by kernel_rfl) hSr7 (fun wS hSS => by ( exact (x_fieldAddr fo81_0 sz9 rfl))) ?_
            refine h_two 19 21 _ _ rfl rfl (by kernel_rfl) (hop_of_list (fun Q19 hQ19 => ?_)) (hop_of_list (fun Q21 hQ21 => ?_))
            · skip
              refine g1 31 rfl rfl (x_load1 un9 rfl (hX.cell hc0_2)) ?_
              refine hop_end hQ19 ⟨hSr7, ?_⟩
              refine h_one 21 _ rfl (by kernel_rfl) (hop_of_list (fun Q21 hQ21 => ?_))
              refine g1 31 rfl rfl (x_load1 un9 rfl (hB6.cell (rfl))) ?_
              refine hop_end hQ21 ⟨hSr7, ?_⟩
              refine h_takeg 22 31 rfl rfl rfl (by kernel_rfl) (by kernel_rfl) (by kernel_rfl) hSr7 (fun wS hSS => by ( exact (x_geq_str rfl rfl))) ?_
              refine h_takeg 23 28 rfl rfl rfl (by kernel_rfl) (by kernel_rfl) (by kernel_rfl) hSr7 (fun wS hSS => by ( exact (x_pick_t rfl (by conv => lhs; whnf)))) ?_
              refine h_take 24 rfl (by kernel_rfl) (by kernel_rfl) (by kernel_rfl) hSr7 (fun wS hSS => by ( exact (x_pick_f rfl (by conv => lhs; whnf)))) ?_
              refine h_done (by kernel_rfl) ?_
              refine t_n ?_
              first | refine c_dec rfl (fun hc42 => ?_) (fun hc42 => ?_) | refine c_if rfl (fun hc42 => ?_) (fun hc42 => ?_)
              · try simp only [decide_eq_true_eq, decide_eq_false_iff_not, Bool.not_eq_true, Bool.not_eq_false, Bool.not_eq_eq_eq_not, Bool.not_true, Bool.not_false, Int.not_lt, Int.not_le] at hc42
                have hno : ¬ okL l := by
                  intro h
                  have h1 := (h.2.2 _ (mem_getD (k := i) (by omega))).1
                  have h2 := (h.2.2 _ (mem_getD (k := i) (by omega))).2
                  first | (rw [hb7_4] at h1; exact absurd h1 (by decide)) | (rw [hb7_10] at h2; exact absurd h2 (by decide)) | exact not_rise_at (k := i) (by omega) (by omega) (by rw [← ez]; simpa using hc42) h.2.1
                refine c_seq ?_
                refine r_plain ?_
                refine p1 (x_assign (by conv => lhs; whnf)) ?_
                refine p1 (x_assign (by conv => lhs; whnf)) ?_
                refine r_nil ?_
                refine t_n ?_
                refine c_ret ?_
                refine t_r ?_
                refine b_r ?_
                refine t_r ?_
                refine t_r ?_
                refine b_r ?_
                refine t_r ?_
                refine end2 rfl (by conv => lhs; whnf) (by conv => lhs; whnf) ?_
                first | exact ⟨.inr ⟨hno, rfl⟩, hX⟩ | exact ⟨.inl ⟨okL_of hT, _, _, rfl, hT⟩, hX⟩
              · try simp only [decide_eq_true_eq, decide_eq_false_iff_not, Bool.not_eq_true, Bool.not_eq_false, Bool.not_eq_eq_eq_not, Bool.not_true, Bool.not_false, Int.not_lt, Int.not_le] at hc42
                have hord : i = 0 ∨ lssB (l.getD (i - 1) default).1 (l.getD i default).1 = true := by first | (left; omega) | (right; rw [← ez]; simpa using hc42)
                have hrn := riseN_next hT.rise (by omega) hord
                have hon := ok_take_succ hT.ok (by omega) hb7_4 hb7_10
                refine c_skip ?_
                refine t_n ?_
                refine r_held (fun w1 w2 => Mod w.heap.size tMap w1 w2) mixed ?_
                intro w8 hE8
                have hX := hX.ext hE8
                have hT := hT.ext hE8
                have hTb := hTb.ext hE8
                have hB6 := hB6.ext hE8
                have hSr9 : (fun w1 w2 => Mod w.heap.size tMap w1 w2) w8 w8 := Mod.refl _ _ _
                refine h_take 0 rfl (by kernel_rfl) (by kernel_rfl) (by kernel_rfl) hSr9 (fun wS hSS => by ( exact (x_move (by conv => lhs; whnf)))) ?_
                refine h_take 1 rfl (by kernel_rfl) (by kernel_rfl) (by kernel_rfl) hSr9 (fun wS hSS => by ( exact (x_nilCheck rfl))) ?_
                refine h_take 2 rfl (by kernel_rfl) (by kernel_rfl) (by kernel_rfl) hSr9 (fun wS hSS => by ( exact (x_fieldAddr fo124_0 sz122 rfl))) ?_
                refine h_take 3 rfl (by kernel_rfl) (by kernel_rfl) (by kernel_rfl) hSr9 (fun wS hSS => by (have hTb := hTb.mod hSS (by decide); have hB6 := hB6.mod hSS (by decide); exact (x_load1 un122 rfl (hTb.cell (rfl))))) ?_
                refine h_take 4 rfl (by kernel_rfl) (by kernel_rfl) (by kernel_rfl) hSr9 (fun wS hSS => by ( exact (x_fieldAddr fo81_0 sz9 rfl))) ?_
                refine h_take 5 rfl (by kernel_rfl) (by kernel_rfl) (by kernel_rfl) hSr9 (fun wS hSS => by (have hTb := hTb.mod hSS (by decide); have hB6 := hB6.mod hSS (by decide); exact (x_load1 un9 rfl (hB6.cell (rfl))))) ?_
                refine h_take 6 rfl (by kernel_rfl) (by kernel_rfl) (by kernel_rfl) hSr9 (fun wS hSS => by ( exact (x_fieldAddr fo81_1 sz31 rfl))) ?_
                refine h_take 7 rfl (by kernel_rfl) (by kernel_rfl) (by kernel_rfl) hSr9 (fun wS hSS => by (have hTb := hTb.mod hSS (by decide); have hB6 := hB6.mod hSS (by decide); exact (x_load1 un31 rfl (hB6.cell (rfl))))) ?_
                refine h_one 8 _ rfl (by kernel_rfl) (hop_of_list (fun Q8 hQ8 => ?_))
                have hXs := hX.size
                have hm16 := mayB_len hb7_10
                have hl1 := hS1.len
                refine o_call Try.func89 fn89 fb89 (slices_Clone_hash (l.getD i default).2 _ _ _ _ _ (hS1.ext hX) (by omega)) rfl ?_
                rintro v9 w9 ⟨⟨q6, c6, rfl, hO⟩, hE9⟩
                have hX := hX.ext hE9
                have hT := hT.ext hE9
                have hTb := hTb.ext hE9
                have hB6 := hB6.ext hE9
                have hSr9 := hSr9.ext hE9
                have hV : SlS hcs 35 (fun j => w.heap.size ≤ j) _ q6 m1 c6 (l.getD i default).2 := (SlS.ofHash hO).mono (fun j _ h => Nat.le_trans hXs h)
                have hM := hT.map
                have hr0 := hT.rise
                refine hop_end hQ8 ⟨hSr9, ?_⟩
                refine h_one 9 _ rfl (by kernel_rfl) (hop_of_list (fun Q9 hQ9 => ?_))
                refine o_update (a := (l.getD i default).1) (b := (l.getD i default).2) u122 (keyOk_str u9) rfl rfl (by conv => lhs; whnf) hM (⟨_, m1, _, rfl, hV⟩) (Nat.zero_le _) (by simp [vHs, tMap]) ?_
                intro w10 hM hM10
                have hX := hX.mod hM10 (Nat.le_refl _)
                have hTb := hTb.mod hM10 (by decide)
                have hB6 := hB6.mod hM10 (by decide)
                have hSr9 := hSr9.mod hM10 (by first | exact Nat.le_refl _ | exact trivial | omega)
                refine hop_end hQ9 ⟨hSr9, ?_⟩
                refine h_done (by kernel_rfl) ?_
                refine b_n ?_
                refine t_n ?_
                refine r_plain ?_
                refine p1 (x_add rfl rfl (fits_i64 (by omega) (by omega))) ?_
                refine p1 (x_move (by conv => lhs; whnf)) ?_
                refine r_nil ?_
                refine t_n (At.mk (i + 1) (by repeat (first | exact Agr.refl _ _ | exact Agr.hav _ _ _ | refine Agr.upd rfl ?_ | refine Agr.updL ?_ _ rfl | refine Agr.hav' rfl ?_)) ⟨rfl, trivial⟩ ?_)
                exact ⟨⟨hX, ⟨⟨hTb, hM.congr (fun z => by rw [br_take_succ (by omega)]; exact asc_snoc (by rw [← br_take_succ (by omega)]; exact hrn) z), hrn, by rw [List.length_take]; omega, hon⟩, hTb, by omega⟩⟩, by first | (dsimp only; omega) | ((show _ < _); omega)⟩
            · skip
              refine g1 31 rfl rfl (x_load1 un9 rfl (hB6.cell (rfl))) ?_
              refine hop_end hQ21 ⟨hSr7, ?_⟩
              refine h_one 19 _ rfl (by kernel_rfl) (hop_of_list (fun Q19 hQ19 => ?_))
              refine g1 31 rfl rfl (x_load1 un9 rfl (hX.cell hc0_2)) ?_
              refine hop_end hQ19 ⟨hSr7, ?_⟩
              refine h_takeg 22 31 rfl rfl rfl (by kernel_rfl) (by kernel_rfl) (by kernel_rfl) hSr7 (fun wS hSS => by ( exact (x_geq_str rfl rfl))) ?_
              refine h_takeg 23 28 rfl rfl rfl (by kernel_rfl) (by kernel_rfl) (by kernel_rfl) hSr7 (fun wS hSS => by ( exact (x_pick_t rfl (by conv => lhs; whnf)))) ?_
              refine h_take 24 rfl (by kernel_rfl) (by kernel_rfl) (by kernel_rfl) hSr7 (fun wS hSS => by ( exact (x_pick_f rfl (by conv => lhs; whnf)))) ?_
              refine h_done (by kernel_rfl) ?_
              refine t_n ?_
              first | refine c_dec rfl (fun hc42 => ?_) (fun hc42 => ?_) | refine c_if rfl (fun hc42 => ?_) (fun hc42 => ?_)
              · try simp only [decide_eq_true_eq, decide_eq_false_iff_not, Bool.not_eq_true, Bool.not_eq_false, Bool.not_eq_eq_eq_not, Bool.not_true, Bool.not_false, Int.not_lt, Int.not_le] at hc42
                have hno : ¬ okL l := by
                  intro h
                  have h1 := (h.2.2 _ (mem_getD (k := i) (by omega))).1
                  have h2 := (h.2.2 _ (mem_getD (k := i) (by omega))).2
                  first | (rw [hb7_4] at h1; exact absurd h1 (by decide)) | (rw [hb7_10] at h2; exact absurd h2 (by decide)) | exact not_rise_at (k := i) (by omega) (by omega) (by rw [← ez]; simpa using hc42) h.2.1
                refine c_seq ?_
                refine r_plain ?_
                refine p1 (x_assign (by conv => lhs; whnf)) ?_
                refine p1 (x_assign (by conv => lhs; whnf)) ?_
                refine r_nil ?_
                refine t_n ?_
                refine c_ret ?_
                refine t_r ?_
                refine b_r ?_
                refine t_r ?_
                refine t_r ?_
                refine b_r ?_
                refine t_r ?_
                refine end2 rfl (by conv => lhs; whnf) (by conv => lhs; whnf) ?_
                first | exact ⟨.inr ⟨hno, rfl⟩, hX⟩ | exact ⟨.inl ⟨okL_of hT, _, _, rfl, hT⟩, hX⟩
              · try simp only [decide_eq_true_eq, decide_eq_false_iff_not, Bool.not_eq_true, Bool.not_eq_false, Bool.not_eq_eq_eq_not, Bool.not_true, Bool.not_false, Int.not_lt, Int.not_le] at hc42
                have hord : i = 0 ∨ lssB (l.getD (i - 1) default).1 (l.getD i default).1 = true := by first | (left; omega) | (right; rw [← ez]; simpa using hc42)
                have hrn := riseN_next hT.rise (by omega) hord
                have hon := ok_take_succ hT.ok (by omega) hb7_4 hb7_10
                refine c_skip ?_
                refine t_n ?_
                refine r_held (fun w1 w2 => Mod w.heap.size tMap w1 w2) mixed ?_
                intro w11 hE11
                have hX := hX.ext hE11
                have hT := hT.ext hE11
                have hTb := hTb.ext hE11
                have hB6 := hB6.ext hE11
                have hSr9 : (fun w1 w2 => Mod w.heap.size tMap w1 w2) w11 w11 := Mod.refl _ _ _
                refine h_take 0 rfl (by kernel_rfl) (by kernel_rfl) (by kernel_rfl) hSr9 (fun wS hSS => by ( exact (x_move (by conv => lhs; whnf)))) ?_
                refine h_take 1 rfl (by kernel_rfl) (by kernel_rfl) (by kernel_rfl) hSr9 (fun wS hSS => by ( exact (x_nilCheck rfl))) ?_
                refine h_take 2 rfl (by kernel_rfl) (by kernel_rfl) (by kernel_rfl) hSr9 (fun wS hSS => by ( exact (x_fieldAddr fo124_0 sz122 rfl))) ?_
                refine h_take 3 rfl (by kernel_rfl) (by kernel_rfl) (by kernel_rfl) hSr9 (fun wS hSS => by (have hTb := hTb.mod hSS (by decide); have hB6 := hB6.mod hSS (by decide); exact (x_load1 un122 rfl (hTb.cell (rfl))))) ?_
                refine h_take 4 rfl (by kernel_rfl) (by kernel_rfl) (by kernel_rfl) hSr9 (fun wS hSS => by ( exact (x_fieldAddr fo81_0 sz9 rfl))) ?_
                refine h_take 5 rfl (by kernel_rfl) (by kernel_rfl) (by kernel_rfl) hSr9 (fun wS hSS => by (have hTb := hTb.mod hSS (by decide); have hB6 := hB6.mod hSS (by decide); exact (x_load1 un9 rfl (hB6.cell (rfl))))) ?_
                refine h_take 6 rfl (by kernel_rfl) (by kernel_rfl) (by kernel_rfl) hSr9 (fun wS hSS => by ( exact (x_fieldAddr fo81_1 sz31 rfl))) ?_
                refine h_take 7 rfl (by kernel_rfl) (by kernel_rfl) (by kernel_rfl) hSr9 (fun wS hSS => by (have hTb := hTb.mod hSS (by decide); have hB6 := hB6.mod hSS (by decide); exact (x_load1 un31 rfl (hB6.cell (rfl))))) ?_
                refine h_one 8 _ rfl (by kernel_rfl) (hop_of_list (fun Q8 hQ8 => ?_))
                have hXs := hX.size
                have hm16 := mayB_len hb7_10
                have hl1 := hS1.len
                refine o_call Try.func89 fn89 fb89 (slices_Clone_hash (l.getD i default).2 _ _ _ _ _ (hS1.ext hX) (by omega)) rfl ?_
                rintro v12 w12 ⟨⟨q6, c6, rfl, hO⟩, hE12⟩
                have hX := hX.ext hE12
                have hT := hT.ext hE12
                have hTb := hTb.ext hE12
                have hB6 := hB6.ext hE12
                have hSr9 := hSr9.ext hE12
                have hV : SlS hcs 35 (fun j => w.heap.size ≤ j) _ q6 m1 c6 (l.getD i default).2 := (SlS.ofHash hO).mono (fun j _ h => Nat.le_trans hXs h)
                have hM := hT.map
                have hr0 := hT.rise
                refine hop_end hQ8 ⟨hSr9, ?_⟩
                refine h_one 9 _ rfl (by kernel_rfl) (hop_of_list (fun Q9 hQ9 => ?_))
                refine o_update (a := (l.getD i default).1) (b := (l.getD i default).2) u122 (keyOk_str u9) rfl rfl (by conv => lhs; whnf) hM (⟨_, m1, _, rfl, hV⟩) (Nat.zero_le _) (by simp [vHs, tMap]) ?_
                intro w13 hM hM13
                have hX := hX.mod hM13 (Nat.le_refl _)
                have hTb := hTb.mod hM13 (by decide)
                have hB6 := hB6.mod hM13 (by decide)
                have hSr9 := hSr9.mod hM13 (by first | exact Nat.le_refl _ | exact trivial | omega)
                refine hop_end hQ9 ⟨hSr9, ?_⟩
                refine h_done (by kernel_rfl) ?_
                refine b_n ?_
                refine t_n ?_
                refine r_plain ?_
                refine p1 (x_add rfl rfl (fits_i64 (by omega) (by omega))) ?_
                refine p1 (x_move (by conv => lhs; whnf)) ?_
                refine r_nil ?_
                refine t_n (At.mk (i + 1) (by repeat (first | exact Agr.refl _ _ | exact Agr.hav _ _ _ | refine Agr.upd rfl ?_ | refine Agr.updL ?_ _ rfl | refine Agr.hav' rfl ?_)) ⟨rfl, trivial⟩ ?_)
                exact ⟨⟨hX, ⟨⟨hTb, hM.congr (fun z => by rw [br_take_succ (by omega)]; exact asc_snoc (by rw [← br_take_succ (by omega)]; exact hrn) z), hrn, by rw [List.length_take]; omega, hon⟩, hTb, by omega⟩⟩, by first | (dsimp only; omega) | ((show _ < _); omega)⟩
          · try simp only [decide_eq_true_eq, decide_eq_false_iff_not, Bool.not_eq_true, Bool.not_eq_false, Bool.not_eq_eq_eq_not, Bool.not_true, Bool.not_false, Int.not_lt, Int.not_le] at hb7_13
            refine h_skip 14 31 rfl (by first | exact .inl rfl | exact .inr rfl) rfl (by kernel_rfl) (by kernel_rfl) (by kernel_rfl) hSr7 ?_
            refine h_skip 15 31 rfl (by first | exact .inl rfl | exact .inr rfl) rfl (by kernel_rfl) (by kernel_rfl) (by kernel_rfl) hSr7 ?_
            refine h_skip 16 31 rfl (by first | exact .inl rfl | exact .inr rfl) rfl (by kernel_rfl) (by kernel_rfl) (by kernel_rfl) hSr7 ?_
            refine h_skip 17 31 rfl (by first | exact .inl rfl | exact .inr rfl) rfl (by kernel_rfl) (by kernel_rfl) (by kernel_rfl) hSr7 ?_
            refine h_skip 18 31 rfl (by first | exact .inl rfl | exact .inr rfl) rfl (by kernel_rfl) (by kernel_rfl) (by kernel_rfl) hSr7 ?_
            refine h_skip 19 31 rfl (by first | exact .inl rfl | exact .inr rfl) rfl (by kernel_rfl) (by kernel_rfl) (by kernel_rfl) hSr7 ?_
            refine h_skip 20 31 rfl (by first | exact .inl rfl | exact .inr rfl) rfl (by kernel_rfl) (by kernel_rfl) (by kernel_rfl) hSr7 ?_
            refine h_skip 21 31 rfl (by first | exact .inl rfl | exact .inr rfl) rfl (by kernel_rfl) (by kernel_rfl) (by kernel_rfl) hSr7 ?_
            refine h_skip 22 31 rfl (by first | exact .inl rfl | exact .inr rfl) rfl (by kernel_rfl) (by kernel_rfl) (by kernel_rfl) hSr7 ?_
            refine h_takeg 23 28 rfl rfl rfl (by kernel_rfl) (by kernel_rfl) (by kernel_rfl) hSr7 (fun wS hSS => by ( exact (x_pick_f rfl (by conv => lhs; whnf)))) ?_
            refine h_take 24 rfl (by kernel_rfl) (by kernel_rfl) (by kernel_rfl) hSr7 (fun wS hSS => by ( exact (x_pick_f rfl (by conv => lhs; whnf)))) ?_
            refine h_done (by kernel_rfl) ?_
            refine t_n ?_
            refine c_f rfl ?_
            have hord : i = 0 ∨ lssB (l.getD (i - 1) default).1 (l.getD i default).1 = true := by first | (left; omega) | (right; rw [← ez]; simpa using hc42)
            have hrn := riseN_next hT.rise (by omega) hord
            have hon := ok_take_succ hT.ok (by omega) hb7_4 hb7_10
            refine c_skip ?_
            refine t_n ?_
            refine r_held (fun w1 w2 => Mod w.heap.size tMap w1 w2) mixed ?_
            intro w14 hE14
            have hX := hX.ext hE14
            have hT := hT.ext hE14
            have hTb := hTb.ext hE14
            have hB6 := hB6.ext hE14
            have hSr9 : (fun w1 w2 => Mod w.heap.size tMap w1 w2) w14 w14 := Mod.refl _ _ _
            refine h_take 0 rfl (by kernel_rfl) (by kernel_rfl) (by kernel_rfl) hSr9 (fun wS hSS => by ( exact (x_move (by conv => lhs; whnf)))) ?_
            refine h_take 1 rfl (by kernel_rfl) (by kernel_rfl) (by kernel_rfl) hSr9 (fun wS hSS => by ( exact (x_nilCheck rfl))) ?_
            refine h_take 2 rfl (by kernel_rfl) (by kernel_rfl) (by kernel_rfl) hSr9 (fun wS hSS => by ( exact (x_fieldAddr fo124_0 sz122 rfl))) ?_
            refine h_take 3 rfl (by kernel_rfl) (by kernel_rfl) (by kernel_rfl) hSr9 (fun wS hSS => by (have hTb := hTb.mod hSS (by decide); have hB6 := hB6.mod hSS (by decide); exact (x_load1 un122 rfl (hTb.cell (rfl))))) ?_
            refine h_take 4 rfl (by kernel_rfl) (by kernel_rfl) (by kernel_rfl) hSr9 (fun wS hSS => by ( exact (x_fieldAddr fo81_0 sz9 rfl))) ?_
            refine h_take 5 rfl (by kernel_rfl) (by kernel_rfl) (by kernel_rfl) hSr9 (fun wS hSS => by (have hTb := hTb.mod hSS (by decide); have hB6 := hB6.mod hSS (by decide); exact (x_load1 un9 rfl (hB6.cell (rfl))))) ?_
            refine h_take 6 rfl (by kernel_rfl) (by kernel_rfl) (by kernel_rfl) hSr9 (fun wS hSS => by ( exact (x_fieldAddr fo81_1 sz31 rfl))) ?_
            refine h_take 7 rfl (by kernel_rfl) (by kernel_rfl) (by kernel_rfl) hSr9 (fun wS hSS => by (have hTb := hTb.mod hSS (by decide); have hB6 := hB6.mod hSS (by decide); exact (x_load1 un31 rfl (hB6.cell (rfl))))) ?_
            refine h_one 8 _ rfl (by kernel_rfl) (hop_of_list (fun Q8 hQ8 => ?_))
            have hXs := hX.size
            have hm16 := mayB_len hb7_10
            have hl1 := hS1.len
            refine o_call Try.func89 fn89 fb89 (slices_Clone_hash (l.getD i default).2 _ _ _ _ _ (hS1.ext hX) (by omega)) rfl ?_
            rintro v15 w15 ⟨⟨q6, c6, rfl, hO⟩, hE15⟩
            have hX := hX.ext hE15
            have hT := hT.ext hE15
            have hTb := hTb.ext hE15
            have hB6 := hB6.ext hE15
            have hSr9 := hSr9.ext hE15
            have hV : SlS hcs 35 (fun j => w.heap.size ≤ j) _ q6 m1 c6 (l.getD i default).2 := (SlS.ofHash hO).mono (fun j _ h => Nat.le_trans hXs h)
            have hM := hT.map
            have hr0 := hT.rise
            refine hop_end hQ8 ⟨hSr9, ?_⟩
            refine h_one 9 _ rfl (by kernel_rfl) (hop_of_list (fun Q9 hQ9 => ?_))
            refine o_update (a := (l.getD i default).1) (b := (l.getD i default).2) u122 (keyOk_str u9) rfl rfl (by conv => lhs; whnf) hM (⟨_, m1, _, rfl, hV⟩) (Nat.zero_le _) (by simp [vHs, tMap]) ?_
            intro w16 hM hM16
            have hX := hX.mod hM16 (Nat.le_refl _)
            have hTb := hTb.mod hM16 (by decide)
            have hB6 := hB6.mod hM16 (by decide)
            have hSr9 := hSr9.mod hM16 (by first | exact Nat.le_refl _ | exact trivial | omega)
            refine hop_end hQ9 ⟨hSr9, ?_⟩
            refine h_done (by kernel_rfl) ?_
            refine b_n ?_
            refine t_n ?_
            refine r_plain ?_
            refine p1 (x_add rfl rfl (fits_i64 (by omega) (by omega))) ?_
            refine p1 (x_move (by conv => lhs; whnf)) ?_
            refine r_nil ?_
            refine t_n (At.mk (i + 1) (by repeat (first | exact Agr.refl _ _ | exact Agr.hav _ _ _ | refine Agr.upd rfl ?_ | refine Agr.updL ?_ _ rfl | refine Agr.hav' rfl ?_)) ⟨rfl, trivial⟩ ?_)
            exact ⟨⟨hX, ⟨⟨hTb, hM.congr (fun z => by rw [br_take_succ (by omega)]; exact asc_snoc (by rw [← br_take_succ (by omega)]; exact hrn) z), hrn, by rw [List.length_take]; omega, hon⟩, hTb, by omega⟩⟩, by first | (dsimp only; omega) | ((show _ < _); omega)⟩
    · try simp only [decide_eq_true_eq, decide_eq_false_iff_not, Bool.not_eq_true, Bool.not_eq_false, Bool.not_eq_eq_eq_not, Bool.not_true, Bool.not_false, Int.not_lt, Int.not_le] at hc14
      have hin : i = n := by omega
      rw [hin, List.take_of_length_le (by omega)] at hT
      refine c_exit ?_
      refine t_e ?_
      refine t_e ?_
      refine b_hit ?_
      refine t_n ?_
      refine c_seq ?_
      refine r_plain ?_
      refine p1 (x_move (by conv => lhs; whnf)) ?_
      refine p1 (x_assign (by conv => lhs; whnf)) ?_
      refine p1 (x_assign (by conv => lhs; whnf)) ?_
      refine r_nil ?_
      refine t_n ?_
      refine c_ret ?_
      refine end2 rfl (by conv => lhs; whnf) (by conv => lhs; whnf) ?_
      first | exact ⟨.inr ⟨hno, rfl⟩, hX⟩ | exact ⟨.inl ⟨okL_of hT, _, _, rfl, hT⟩, hX⟩
theorem branch_Load_ok (l : List Br) (B : Nat) (p : Option Addr) (n c : Nat) (w : World) (ha : Sl kBrA 81 B w p n c l) (hkk : ∀ x ∈ l, x.1.size ≤ 9223372036854775807) (hok : okL l) : Ret Try.prog 68 [.slice p n c] w (fun v w' => (∃ g r, v = .tuple #[.pointer (some ⟨g, 0, none⟩), .int .i64 0] ∧ Tbl (fun j => w.heap.size ≤ j) w.heap.size w' g r l) ∧ Ext w w') :=
  (branch_Load l B p n c w ha hkk).mono fun v w' ⟨h, hx⟩ => ⟨by rcases h with h | h; (· exact h.2); (· exact absurd hok h.1), hx⟩
theorem branch_Load_no (l : List Br) (B : Nat) (p : Option Addr) (n c : Nat) (w : World) (ha : Sl kBrA 81 B w p n c l) (hkk : ∀ x ∈ l, x.1.size ≤ 9223372036854775807) (hno : ¬ okL l) : Ret Try.prog 68 [.slice p n c] w (fun v w' => v = .tuple #[.pointer none, .int .i64 4] ∧ Ext w w') :=
  (branch_Load l B p n c w ha hkk).mono fun v w' ⟨h, hx⟩ => ⟨by rcases h with h | h; (· exact absurd h.1 hno); (· exact h.2), hx⟩
theorem ref15_Load (l : List Br) (B : Nat) (p : Option Addr) (n c : Nat) (w : World) (ha : Sl kBrA 81 B w p n c l) (hkk : ∀ x ∈ l, x.1.size ≤ 9223372036854775807) :
    Ret Try.prog 69 [.slice p n c] w (fun v w' => ((okL l ∧ ∃ q m c', v = .tuple #[.agg #[.slice q m c'], .int .i64 0] ∧ Own (kBr (fun j => w.heap.size ≤ j)) 81 0 w.heap.size w' q m c' l) ∨ (¬ okL l ∧ v = .tuple #[.agg #[.slice none 0 0], .int .i64 4])) ∧ Ext w w') := by
  have hX := Ext.refl w
  refine enter 67 _ Try.func69 rfl rfl (Nat.le_of_ble_eq_true rfl) ?_
  refine c_seq ?_
  refine r_plain ?_
  have hXs2 := hX.size
  refine o_alloc zr70 ?_
  intro w1 g2 hN2
  have hE1 := hN2.ext
  have hX := hX.ext hE1
  have hB2 := hN2.blk
  refine p1 (x_assign (by conv => lhs; whnf)) ?_
  refine r_nil ?_
  refine t_n ?_
  refine c_seq ?_
  refine c_seq ?_
  refine r_plain ?_
  refine p1 (x_move (by conv => lhs; whnf)) ?_
  refine p1 (x_len_slice u30 rfl) ?_
  refine p1 (x_gtr rfl rfl) ?_
  refine r_nil ?_
  refine t_n ?_
  first | refine c_dec rfl (fun hc8 => ?_) (fun hc8 => ?_) | refine c_if rfl (fun hc8 => ?_) (fun hc8 => ?_)
  · try simp only [decide_eq_true_eq, decide_eq_false_iff_not, Bool.not_eq_true, Bool.not_eq_false, Bool.not_eq_eq_eq_not, Bool.not_true, Bool.not_false, Int.not_lt, Int.not_le] at hc8
    have hno : ¬ okL l := fun h => by have := h.1; have := ha.len; omega
    refine c_seq ?_
    refine r_plain ?_
    refine p1 (x_build0 pl70 rfl) ?_
    refine o_storeAll rfl (by conv => lhs; whnf) (by simp [Value.oneCell']) (by exact sz70) hB2 (by rfl) ?_
    intro w2 hP2
    have hX := hX.put hP2 (by rw [hN2.g_eq]; exact hXs2)
    have hB2 := hP2.blk
    refine p1 (x_assign (by conv => lhs; whnf)) ?_
    refine r_nil ?_
    refine t_n ?_
    refine c_ret ?_
    refine t_r ?_
    refine end2c rfl ua70 rfl (by conv => lhs; whnf) hB2 sz70 ?_
    first | exact ⟨.inr ⟨hno, rfl⟩, hX⟩ | exact ⟨.inl ⟨⟨by omega, hri, hok⟩, _, _, _, rfl, hO⟩, hX⟩
  · try simp only [decide_eq_true_eq, decide_eq_false_iff_not, Bool.not_eq_true, Bool.not_eq_false, Bool.not_eq_eq_eq_not, Bool.not_true, Bool.not_false, Int.not_lt, Int.not_le] at hc8
    refine c_skip ?_
    refine t_n ?_
    refine c_seq ?_
    refine r_plain ?_
    have hXs4 := hX.size
    have hB2lt := hB2.lt
    refine o_alloc zr70 ?_
    intro w3 g4 hN4
    have hE3 := hN4.ext
    have hX := hX.ext hE3
    have hB2 := hB2.ext hE3
    have hB4 := hN4.blk
    refine r_nil ?_
    refine t_n ?_
    refine c_seq ?_
    refine c_seq ?_
    refine r_plain ?_
    refine p1 (x_assign (by conv => lhs; whnf)) ?_
    refine r_nil ?_
    refine t_n ?_
    refine c_block ?_
    have hg4 := hN4.g_eq
    have hlen := ha.len
    have hcap := ha.cap
    have hfit := ha.fit
    have hO := Own.nil (kBr (fun j => w.heap.size ≤ j)) 81 0 w.heap.size
    refine c_loop (ι := Nat × Option Addr × Nat × Nat) [3, 5, 10, 11, 12, 13, 14, 15, 16, 17, 18, 19, 20, 21, 22, 23, 24, 25, 26, 27, 28, 29, 30, 31, 32, 33, 34, 35, 36, 37, 38, 39, 40, 41, 42, 43, 44, 45, 46, 47, 48, 49, 50, 51, 52, 53, 54, 55, 56, 57, 58, 59, 60, 61, 62, 63, 64, 65] (fun (i, q, m, c1) => [(5, .int .i64 (i : Int))]) (fun (i, q, m, c1) w' => Ext w w' ∧ (Own (kBr (fun j => w.heap.size ≤ j)) 81 0 w.heap.size w' q m c1 (l.take i) ∧ Blk w' g4 #[.slice q m c1] 70 ∧ Blk w' g2 (Value.agg #[.slice none 0 0]).cells 70 ∧ RiseN (l.take i) ∧ (∀ x ∈ l.take i, isName x.1 = true ∧ mayB x.2 = true) ∧ i ≤ n)) (fun (i, q, m, c1) => n - i) ((0, none, 0, 0)) ⟨rfl, trivial⟩ ⟨hX, ⟨hO _, hB4, hB2, .nil, by simp, by omega⟩⟩ ?_
    rintro ⟨i, q, m, c1⟩ GL0 w4 ⟨hE4, hO, hB4, hB2, hri, hok, hi⟩
    have hX := hE4
    refine c_seq ?_
    refine c_seq ?_
    refine r_plain ?_
    refine p1 (x_move (by conv => lhs; whnf)) ?_
    refine p1 (x_move (by conv => lhs; whnf)) ?_
    refine p1 (x_len_slice u30 rfl) ?_
    refine p1 (x_lss rfl rfl) ?_
    refine r_nil ?_
    refine t_n ?_
    first | refine c_dec rfl (fun hc13 => ?_) (fun hc13 => ?_) | refine c_if rfl (fun hc13 => ?_) (fun hc13 => ?_)
    · try simp only [decide_eq_true_eq, decide_eq_false_iff_not, Bool.not_eq_true, Bool.not_eq_false, Bool.not_eq_eq_eq_not, Bool.not_true, Bool.not_false, Int.not_lt, Int.not_le] at hc13
      refine c_skip ?_
      refine t_n ?_
      refine c_seq ?_
      refine c_block ?_
      refine c_seq ?_
      refine c_seq ?_
      obtain ⟨q1, m1, c1, hrow1, hc0_1, hc1_1, hS1⟩ := ha.brAt i (by omega)
      have hmem := mem_getD (l := l) (k := i) (by omega)
      have ez : ((i : Int) - 1).toNat = i - 1 := by omega
      refine r_held (fun w1 w2 => Ext w1 w2) mixed ?_
      intro w5 hE5
      have hX := hX.ext hE5
      have hO := hO.ext hE5
      have hB4 := hB4.ext hE5
      have hB2 := hB2.ext hE5
      have hSr7 : (fun w1 w2 => Ext w1 w2) w5 w5 := Ext.refl w5
      refine h_take 0 rfl (by kernel_rfl) (by kernel_rfl) (by kernel_rfl) hSr7 (fun wS hSS => by (have hX := hX.ext hSS; have hO := hO.ext hSS; have hB4 := hB4.ext hSS; have hB2 := hB2.ext hSS; exact (x_move (by conv => lhs; whnf)))) ?_
      refine h_take 1 rfl (by kernel_rfl) (by kernel_rfl) (by kernel_rfl) hSr7 (fun wS hSS => by (have hX := hX.ext hSS; have hO := hO.ext hSS; have hB4 := hB4.ext hSS; have hB2 := hB2.ext hSS; exact (x_move (by conv => lhs; whnf)))) ?_
      refine h_take 2 rfl (by kernel_rfl) (by kernel_rfl) (by kernel_rfl) hSr7 (fun wS hSS => by (have hX := hX.ext hSS; have hO := hO.ext hSS; have hB4 := hB4.ext hSS; have hB2 := hB2.ext hSS; exact (x_ixs u30 sz81 rfl rfl ((ha.ext hX).adr kBrA_pos (by omega)) (by omega) (by omega)))) ?_
      refine h_take 3 rfl (by kernel_rfl) (by kernel_rfl) (by kernel_rfl) hSr7 (fun wS hSS => by (have hX := hX.ext hSS; have hO := hO.ext hSS; have hB4 := hB4.ext hSS; have hB2 := hB2.ext hSS; exact (x_fieldAddr fo81_0 sz9 rfl))) ?_
      refine h_take 4 rfl (by kernel_rfl) (by kernel_rfl) (by kernel_rfl) hSr7 (fun wS hSS => by (have hX := hX.ext hSS; have hO := hO.ext hSS; have hB4 := hB4.ext hSS; have hB2 := hB2.ext hSS; exact (x_load1 un9 rfl (hX.cell hc0_1)))) ?_
      refine h_one 5 _ rfl (by kernel_rfl) (hop_of_list (fun Q5 hQ5 => ?_))
      refine o_call Try.func32 fn32 fb32 (ref06_Name (l.getD i default).1 _ (hkk _ hmem)) rfl ?_
      rintro v6 w6 ⟨rfl, hE6⟩
      have hX := hX.ext hE6
      have hO := hO.ext hE6
      have hB4 := hB4.ext hE6
      have hB2 := hB2.ext hE6
      have hSr7 := hSr7.ext hE6
      refine hop_end hQ5 ⟨hSr7, ?_⟩
      refine h_take 6 rfl (by kernel_rfl) (by kernel_rfl) (by kernel_rfl) hSr7 (fun wS hSS => by ( exact (x_not rfl))) ?_
      refine h_takeb 7 rfl (by kernel_rfl) (by kernel_rfl) (by kernel_rfl) hSr7 (fun wS hSS => by ( exact (x_move (by conv => lhs; whnf)))) (fun hb7_7 => ?_) (fun hb7_7 => ?_)
      · try simp only [decide_eq_true_eq, decide_eq_false_iff_not, Bool.not_eq_true, Bool.not_eq_false, Bool.not_eq_eq_eq_not, Bool.not_true, Bool.not_false, Int.not_lt, Int.not_le] at hb7_7
        refine h_skip 8 23 rfl (by first | exact .inl rfl | exact .inr rfl) rfl (by kernel_rfl) (by kernel_rfl) (by kernel_rfl) hSr7 ?_
        refine h_skip 9 23 rfl (by first | exact .inl rfl | exact .inr rfl) rfl (by kernel_rfl) (by kernel_rfl) (by kernel_rfl) hSr7 ?_
        refine h_skip 10 23 rfl (by first | exact .inl rfl | exact .inr rfl) rfl (by kernel_rfl) (by kernel_rfl) (by kernel_rfl) hSr7 ?_
        refine h_skip 11 23 rfl (by first | exact .inl rfl | exact .inr rfl) rfl (by kernel_rfl) (by kernel_rfl) (by kernel_rfl) hSr7 ?_
        refine h_skip 12 23 rfl (by first | exact .inl rfl | exact .inr rfl) rfl (by kernel_rfl) (by kernel_rfl) (by kernel_rfl) hSr7 ?_
        refine h_skip 13 23 rfl (by first | exact .inl rfl | exact .inr rfl) rfl (by kernel_rfl) (by kernel_rfl) (by kernel_rfl) hSr7 ?_
        refine h_skip 14 23 rfl (by first | exact .inl rfl | exact .inr rfl) rfl (by kernel_rfl) (by kernel_rfl) (by kernel_rfl) hSr7 ?_
        refine h_take 15 rfl (by kernel_rfl) (by kernel_rfl) (by kernel_rfl) hSr7 (fun wS hSS => by ( exact (x_pick_t rfl (by conv => lhs; whnf)))) ?_
        refine h_take 16 rfl (by kernel_rfl) (by kernel_rfl) (by kernel_rfl) hSr7 (fun wS hSS => by ( exact (x_move (by conv => lhs; whnf)))) ?_
        refine h_skip 17 32 rfl (by first | exact .inl rfl | exact .inr rfl) rfl (by kernel_rfl) (by kernel_rfl) (by kernel_rfl) hSr7 ?_
        refine h_skip 18 32 rfl (by first | exact .inl rfl | exact .inr rfl) rfl (by kernel_rfl) (by kernel_rfl) (by kernel_rfl) hSr7 ?_
        refine h_skip 19 32 rfl (by first | exact .inl rfl | exact .inr rfl) rfl (by kernel_rfl) (by kernel_rfl) (by kernel_rfl) hSr7 ?_
        refine h_skip 20 35 rfl (by first | exact .inl rfl | exact .inr rfl) rfl (by kernel_rfl) (by kernel_rfl) (by kernel_rfl) hSr7 ?_
        refine h_skip 21 35 rfl (by first | exact .inl rfl | exact .inr rfl) rfl (by kernel_rfl) (by kernel_rfl) (by kernel_rfl) hSr7 ?_
        refine h_skip 22 35 rfl (by first | exact .inl rfl | exact .inr rfl) rfl (by kernel_rfl) (by kernel_rfl) (by kernel_rfl) hSr7 ?_
        refine h_skip 23 35 rfl (by first | exact .inl rfl | exact .inr rfl) rfl (by kernel_rfl) (by kernel_rfl) (by kernel_rfl) hSr7 ?_
        refine h_skip 24 35 rfl (by first | exact .inl rfl | exact .inr rfl) rfl (by kernel_rfl) (by kernel_rfl) (by kernel_rfl) hSr7 ?_
        refine h_skip 25 35 rfl (by first | exact .inl rfl | exact .inr rfl) rfl (by kernel_rfl) (by kernel_rfl) (by kernel_rfl) hSr7 ?_
        refine h_skip 26 35 rfl (by first | exact .inl rfl | exact .inr rfl) rfl (by kernel_rfl) (by kernel_rfl) (by kernel_rfl) hSr7 ?_
        refine h_skip 27 35 rfl (by first | exact .inl rfl | exact .inr rfl) rfl (by kernel_rfl) (by kernel_rfl) (by kernel_rfl) hSr7 ?_
        refine h_skip 28 35 rfl (by first | exact .inl rfl | exact .inr rfl) rfl (by kernel_rfl) (by kernel_rfl) (by kernel_rfl) hSr7 ?_
        refine h_skip 29 35 rfl (by first | exact .inl rfl | exact .inr rfl) rfl (by kernel_rfl) (by kernel_rfl) (by kernel_rfl) hSr7 ?_
        refine h_skip 30 35 rfl (by first | exact .inl rfl | exact .inr rfl) rfl (by kernel_rfl) (by kernel_rfl) (by kernel_rfl) hSr7 ?_
        refine h_skip 31 35 rfl (by first | exact .inl rfl | exact .inr rfl) rfl (by kernel_rfl) (by kernel_rfl) (by kernel_rfl) hSr7 ?_
        refine h_skip 32 32 rfl (by first | exact .inl rfl | exact .inr rfl) rfl (by kernel_rfl) (by kernel_rfl) (by kernel_rfl) hSr7 ?_
        refine h_take 33 rfl (by kernel_rfl) (by kernel_rfl) (by kernel_rfl) hSr7 (fun wS hSS => by ( exact (x_pick_t rfl (by conv => lhs; whnf)))) ?_
        refine h_done (by kernel_rfl) ?_
        refine t_n ?_
        refine c_t rfl ?_
        have hno : ¬ okL l := by
          intro h
          have h1 := (h.2.2 _ (mem_getD (k := i) (by omega))).1
          have h2 := (h.2.2 _ (mem_getD (k := i) (by omega))).2
          first | (rw [hb7_7] at h1; exact absurd h1 (by decide)) | (rw [hb7_16] at h2; exact absurd h2 (by decide)) | exact not_rise_at (k := i) (by omega) (by omega) (by rw [← ez]; simpa using hc49) h.2.1
        refine c_seq ?_
        refine r_plain ?_
        refine p1 (x_build0 pl70 rfl) ?_
        refine o_storeAll rfl (by conv => lhs; whnf) (by simp [Value.oneCell']) (by exact sz70) hB2 (by rfl) ?_
        intro w7 hP7
        have hX := hX.put hP7 (by rw [hN2.g_eq]; exact hXs2)
        have hO := hO.mod (hP7.mod 0 (Nat.zero_le _)) (Nat.zero_le _) (by simp [kBr])
        have hB4 := hP7.keep hB4 (by omega)
        have hB2 := hP7.blk
        refine p1 (x_assign (by conv => lhs; whnf)) ?_
        refine r_nil ?_
        refine t_n ?_
        refine c_ret ?_
        refine t_r ?_
        refine b_r ?_
        refine t_r ?_
        refine t_r ?_
        refine b_r ?_
        refine t_r ?_
        refine end2c rfl ua70 rfl (by conv => lhs; whnf) hB2 sz70 ?_
        first | exact ⟨.inr ⟨hno, rfl⟩, hX⟩ | exact ⟨.inl ⟨⟨by omega, hri, hok⟩, _, _, _, rfl, hO⟩, hX⟩
      · try simp only [decide_eq_true_eq, decide_eq_false_iff_not, Bool.not_eq_true, Bool.not_eq_false, Bool.not_eq_eq_eq_not, Bool.not_true, Bool.not_false, Int.not_lt, Int.not_le] at hb7_7
        refine h_takeg 8 23 rfl rfl rfl (by kernel_rfl) (by kernel_rfl) (by kernel_rfl) hSr7 (fun wS hSS => by ( exact (x_move (by conv => lhs; whnf)))) ?_
        refine h_takeg 9 23 rfl rfl rfl (by kernel_rfl) (by kernel_rfl) (by kernel_rfl) hSr7 (fun wS hSS => by ( exact (x_move (by conv => lhs; whnf)))) ?_
        refine h_takeg 10 23 rfl rfl rfl (by kernel_rfl) (by kernel_rfl) (by kernel_rfl) hSr7 (fun wS hSS => by ( exact (x_ixs u30 sz81 rfl rfl ((ha.ext hX).adr kBrA_pos (by omega)) (by omega) (by omega)))) ?_
        refine h_takeg 11 23 rfl rfl rfl (by kernel_rfl) (by kernel_rfl) (by kernel_rfl) hSr7 (fun wS hSS => by ( exact (x_fieldAddr fo81_1 sz31 rfl))) ?_
        refine h_one 12 _ rfl (by kernel_rfl) (hop_of_list (fun Q12 hQ12 => ?_))
        refine g1 23 rfl rfl (x_load1 un31 rfl (hX.cell hc1_1)) ?_
        refine hop_end hQ12 ⟨hSr7, ?_⟩
        refine h_one 13 _ rfl (by kernel_rfl) (hop_of_list (fun Q13 hQ13 => ?_))
        refine g_drop 23 rfl rfl ?_
        refine o_call Try.func115 fn115 fb115 (ref15_may (l.getD i default).2 _ _ _ _ _ (hS1.ext hX)) rfl ?_
        rintro v8 w8 ⟨rfl, hE8⟩
        have hX := hX.ext hE8
        have hO := hO.ext hE8
        have hB4 := hB4.ext hE8
        have hB2 := hB2.ext hE8
        have hSr7 := hSr7.ext hE8
        refine hop_end hQ13 ⟨hSr7, ?_⟩
        refine h_takeg 14 23 rfl rfl rfl (by kernel_rfl) (by kernel_rfl) (by kernel_rfl) hSr7 (fun wS hSS => by ( exact (x_not rfl))) ?_
        refine h_take 15 rfl (by kernel_rfl) (by kernel_rfl) (by kernel_rfl) hSr7 (fun wS hSS => by ( exact (x_pick_f rfl (by conv => lhs; whnf)))) ?_
        refine h_takeb 16 rfl (by kernel_rfl) (by kernel_rfl) (by kernel_rfl) hSr7 (fun wS hSS => by ( exact (x_move (by conv => lhs; whnf)))) (fun hb7_16 => ?_) (fun hb7_16 => ?_)
        · try simp only [decide_eq_true_eq, decide_eq_false_iff_not, Bool.not_eq_true, Bool.not_eq_false, Bool.not_eq_eq_eq_not, Bool.not_true, Bool.not_false, Int.not_lt, Int.not_le] at hb7_16
          refine h_skip 17 32 rfl (by first | exact .inl rfl | exact .inr rfl) rfl (by kernel_rfl) (by kernel_rfl) (by kernel_rfl) hSr7 ?_
          refine h_skip 18 32 rfl (by first | exact .inl rfl | exact .inr rfl) rfl (by kernel_rfl) (by kernel_rfl) (by kernel_rfl) hSr7 ?_
          refine h_skip 19 32 rfl (by first | exact .inl rfl | exact .inr rfl) rfl (by kernel_rfl) (by kernel_rfl) (by kernel_rfl) hSr7 ?_
          refine h_skip 20 35 rfl (by first | exact .inl rfl | exact .inr rfl) rfl (by kernel_rfl) (by kernel_rfl) (by kernel_rfl) hSr7 ?_
          refine h_skip 21 35 rfl (by first | exact .inl rfl | exact .inr rfl) rfl (by kernel_rfl) (by kernel_rfl) (by kernel_rfl) hSr7 ?_
          refine h_skip 22 35 rfl (by first | exact .inl rfl | exact .inr rfl) rfl (by kernel_rfl) (by kernel_rfl) (by kernel_rfl) hSr7 ?_
          refine h_skip 23 35 rfl (by first | exact .inl rfl | exact .inr rfl) rfl (by kernel_rfl) (by kernel_rfl) (by kernel_rfl) hSr7 ?_
          refine h_skip 24 35 rfl (by first | exact .inl rfl | exact .inr rfl) rfl (by kernel_rfl) (by kernel_rfl) (by kernel_rfl) hSr7 ?_
          refine h_skip 25 35 rfl (by first | exact .inl rfl | exact .inr rfl) rfl (by kernel_rfl) (by kernel_rfl) (by kernel_rfl) hSr7 ?_
          refine h_skip 26 35 rfl (by first | exact .inl rfl | exact .inr rfl) rfl (by kernel_rfl) (by kernel_rfl) (by kernel_rfl) hSr7 ?_
          refine h_skip 27 35 rfl (by first | exact .inl rfl | exact .inr rfl) rfl (by kernel_rfl) (by kernel_rfl) (by kernel_rfl) hSr7 ?_
          refine h_skip 28 35 rfl (by first | exact .inl rfl | exact .inr rfl) rfl (by kernel_rfl) (by kernel_rfl) (by kernel_rfl) hSr7 ?_
          refine h_skip 29 35 rfl (by first | exact .inl rfl | exact .inr rfl) rfl (by kernel_rfl) (by kernel_rfl) (by kernel_rfl) hSr7 ?_
          refine h_skip 30 35 rfl (by first | exact .inl rfl | exact .inr rfl) rfl (by kernel_rfl) (by kernel_rfl) (by kernel_rfl) hSr7 ?_
          refine h_skip 31 35 rfl (by first | exact .inl rfl | exact .inr rfl) rfl (by kernel_rfl) (by kernel_rfl) (by kernel_rfl) hSr7 ?_
          refine h_skip 32 32 rfl (by first | exact .inl rfl | exact .inr rfl) rfl (by kernel_rfl) (by kernel_rfl) (by kernel_rfl) hSr7 ?_
          refine h_take 33 rfl (by kernel_rfl) (by kernel_rfl) (by kernel_rfl) hSr7 (fun wS hSS => by ( exact (x_pick_t rfl (by conv => lhs; whnf)))) ?_
          refine h_done (by kernel_rfl) ?_
          refine t_n ?_
          refine c_t rfl ?_
          have hno : ¬ okL l := by
            intro h
            have h1 := (h.2.2 _ (mem_getD (k := i) (by omega))).1
            have h2 := (h.2.2 _ (mem_getD (k := i) (by omega))).2
            first | (rw [hb7_7] at h1; exact absurd h1 (by decide)) | (rw [hb7_16] at h2; exact absurd h2 (by decide)) | exact not_rise_at (k := i) (by omega) (by omega) (by rw [← ez]; simpa using hc49) h.2.1
          refine c_seq ?_
          refine r_plain ?_
          refine p1 (x_build0 pl70 rfl) ?_
          refine o_storeAll rfl (by conv => lhs; whnf) (by simp [Value.oneCell']) (by exact sz70) hB2 (by rfl) ?_
          intro w9 hP9
          have hX := hX.put hP9 (by rw [hN2.g_eq]; exact hXs2)
          have hO := hO.mod (hP9.mod 0 (Nat.zero_le _)) (Nat.zero_le _) (by simp [kBr])
          have hB4 := hP9.keep hB4 (by omega)
          have hB2 := hP9.blk
          refine p1 (x_assign (by conv => lhs; whnf)) ?_
          refine r_nil ?_
          refine t_n ?_
          refine c_ret ?_
          refine t_r ?_
          refine b_r ?_
          refine t_r ?_
          refine t_r ?_
          refine b_r ?_
          refine t_r ?_
          refine end2c rfl ua70 rfl (by conv => lhs; whnf) hB2 sz70 ?_
          first | exact ⟨.inr ⟨hno, rfl⟩, hX⟩ | exact ⟨.inl ⟨⟨by omega, hri, hok⟩, _, _, _, rfl, hO⟩, hX⟩
        · try simp only [decide_eq_true_eq, decide_eq_false_iff_not, Bool.not_eq_true, Bool.not_eq_false, Bool.not_eq_eq_eq_not, Bool.not_true, Bool.not_false, Int.not_lt, Int.not_le] at hb7_16
          refine h_takeg 17 32 rfl rfl rfl (by kernel_rfl) (by kernel_rfl) (by kernel_rfl) hSr7 (fun wS hSS => by ( exact (x_move (by conv => lhs; whnf)))) ?_
          refine h_takeg 18 32 rfl rfl rfl (by kernel_rfl) (by kernel_rfl) (by kernel_rfl) hSr7 (fun wS hSS => by ( exact (x_gtr rfl rfl))) ?_
          refine h_takegb 19 32 rfl rfl rfl (by kernel_rfl) (by kernel_rfl) (by kernel_rfl) hSr7 (fun wS hSS => by ( exact (x_move (by conv => lhs; whnf)))) (fun hb7_19 => ?_) (fun hb7_19 => ?_)
          · try simp only [decide_eq_true_eq, decide_eq_false_iff_not, Bool.not_eq_true, Bool.not_eq_false, Bool.not_eq_eq_eq_not, Bool.not_true, Bool.not_false, Int.not_lt, Int.not_le] at hb7_19
            obtain ⟨q2, m2, c2, hrow2, hc0_2, hc1_2, hS2⟩ := ha.brAt ((i : Int) - 1).toNat (by omega)
            refine h_takeg 20 35 rfl rfl rfl (by kernel_rfl) (by kernel_rfl) (by kernel_rfl) hSr7 (fun wS hSS => by ( exact (x_move (by conv => lhs; whnf)))) ?_
            refine h_takeg 21 35 rfl rfl rfl (by kernel_rfl) (by kernel_rfl) (by kernel_rfl) hSr7 (fun wS hSS => by ( exact (x_move (by conv => lhs; whnf)))) ?_
            refine h_takeg 22 35 rfl rfl rfl (by kernel_rfl) (by kernel_rfl) (by kernel_rfl) hSr7 (fun wS hSS => by ( exact (x_sub rfl rfl (fits_i64 (by omega) (by omega))))) ?_
            refine h_takeg 23 35 rfl rfl rfl (by kernel_rfl) (by kernel_rfl) (by kernel_rfl) hSr7 (fun wS hSS => by ( exact (x_ixs u30 sz81 rfl rfl (ha.adr kBrA_pos (by omega)) (by omega) (by omega)))) ?_
            refine h_takeg 24 35 rfl rfl rfl (by kernel_rfl) (by kernel_rfl) (by kernel_rfl) hSr7 (fun wS hSS => by ( exact (x_fieldAddr fo81_0 sz9 rfl))) ?_
            refine h_takeg 26 35 rfl rfl rfl (by kernel_rfl) (by kernel_rfl) (by kernel_rfl) hSr7 (fun wS hSS => by ( exact (x_move (by conv => lhs; whnf)))) ?_
            refine h_takeg 27 35 rfl rfl rfl (by kernel_rfl) (by kernel_rfl) (by kernel_rfl) hSr7 (fun wS hSS => by ( exact (x_move (by conv => lhs; whnf)))) ?_
            refine h_takeg 28 35 rfl rfl rfl (by kernel_rfl) (by kernel_rfl) (by kernel_rfl) hSr7 (fun wS hSS => by ( exact (x_ixs u30 sz81 rfl rfl ((ha.ext hX).adr kBrA_pos (by omega)) (by omega) (by omega)))) ?_
            refine h_takeg 29 35 rfl rfl rfl (by kernel_rfl) (by kernel_rfl) (by kernel_rfl) hSr7 (fun wS hSS => by ( exact (x_fieldAddr fo81_0 sz9 rfl))) ?_
            refine h_two 25 30 _ _ rfl rfl (by kernel_rfl) (hop_of_list (fun Q25 hQ25 => ?_)) (hop_of_list (fun Q30 hQ30 => ?_))
            · skip
              refine g1 35 rfl rfl (x_load1 un9 rfl (hX.cell hc0_2)) ?_
              refine hop_end hQ25 ⟨hSr7, ?_⟩
              refine h_one 30 _ rfl (by kernel_rfl) (hop_of_list (fun Q30 hQ30 => ?_))
              refine g1 35 rfl rfl (x_load1 un9 rfl (hX.cell hc0_1)) ?_
              refine hop_end hQ30 ⟨hSr7, ?_⟩
              refine h_takeg 31 35 rfl rfl rfl (by kernel_rfl) (by kernel_rfl) (by kernel_rfl) hSr7 (fun wS hSS => by ( exact (x_geq_str rfl rfl))) ?_
              refine h_takeg 32 32 rfl rfl rfl (by kernel_rfl) (by kernel_rfl) (by kernel_rfl) hSr7 (fun wS hSS => by ( exact (x_pick_t rfl (by conv => lhs; whnf)))) ?_
              refine h_take 33 rfl (by kernel_rfl) (by kernel_rfl) (by kernel_rfl) hSr7 (fun wS hSS => by ( exact (x_pick_f rfl (by conv => lhs; whnf)))) ?_
              refine h_done (by kernel_rfl) ?_
              refine t_n ?_
              first | refine c_dec rfl (fun hc49 => ?_) (fun hc49 => ?_) | refine c_if rfl (fun hc49 => ?_) (fun hc49 => ?_)
              · try simp only [decide_eq_true_eq, decide_eq_false_iff_not, Bool.not_eq_true, Bool.not_eq_false, Bool.not_eq_eq_eq_not, Bool.not_true, Bool.not_false, Int.not_lt, Int.not_le] at hc49
                have hno : ¬ okL l := by
                  intro h
                  have h1 := (h.2.2 _ (mem_getD (k := i) (by omega))).1
                  have h2 := (h.2.2 _ (mem_getD (k := i) (by omega))).2
                  first | (rw [hb7_7] at h1; exact absurd h1 (by decide)) | (rw [hb7_16] at h2; exact absurd h2 (by decide)) | exact not_rise_at (k := i) (by omega) (by omega) (by rw [← ez]; simpa using hc49) h.2.1
                refine c_seq ?_
                refine r_plain ?_
                refine p1 (x_build0 pl70 rfl) ?_
                refine o_storeAll rfl (by conv => lhs; whnf) (by simp [Value.oneCell']) (by exact sz70) hB2 (by rfl) ?_
                intro w10 hP10
                have hX := hX.put hP10 (by rw [hN2.g_eq]; exact hXs2)
                have hO := hO.mod (hP10.mod 0 (Nat.zero_le _)) (Nat.zero_le _) (by simp [kBr])
                have hB4 := hP10.keep hB4 (by omega)
                have hB2 := hP10.blk
                refine p1 (x_assign (by conv => lhs; whnf)) ?_
                refine r_nil ?_
                refine t_n ?_
                refine c_ret ?_
                refine t_r ?_
                refine b_r ?_
                refine t_r ?_
                refine t_r ?_
                refine b_r ?_
                refine t_r ?_
                refine end2c rfl ua70 rfl (by conv => lhs; whnf) hB2 sz70 ?_
                first | exact ⟨.inr ⟨hno, rfl⟩, hX⟩ | exact ⟨.inl ⟨⟨by omega, hri, hok⟩, _, _, _, rfl, hO⟩, hX⟩
              · try simp only [decide_eq_true_eq, decide_eq_false_iff_not, Bool.not_eq_true, Bool.not_eq_false, Bool.not_eq_eq_eq_not, Bool.not_true, Bool.not_false, Int.not_lt, Int.not_le] at hc49
                have hord : i = 0 ∨ lssB (l.getD (i - 1) default).1 (l.getD i default).1 = true := by first | (left; omega) | (right; rw [← ez]; simpa using hc49)
                have hrn := riseN_next hri (by omega) hord
                have hon := ok_take_succ hok (by omega) hb7_7 hb7_16
                refine c_skip ?_
                refine t_n ?_
                refine r_held (fun _ w2 => Ext w w2) mixed ?_
                intro w11 hE11
                have hX := hX.ext hE11
                have hO := hO.ext hE11
                have hB4 := hB4.ext hE11
                have hB2 := hB2.ext hE11
                have hSr9 : (fun _ w2 => Ext w w2) w11 w11 := hX
                refine h_take 0 rfl (by kernel_rfl) (by kernel_rfl) (by kernel_rfl) hSr9 (fun wS hSS => by ( exact (x_fieldAddr fo70_0 sz30 rfl))) ?_
                refine h_take 2 rfl (by kernel_rfl) (by kernel_rfl) (by kernel_rfl) hSr9 (fun wS hSS => by ( exact (x_move (by conv => lhs; whnf)))) ?_
                refine h_take 3 rfl (by kernel_rfl) (by kernel_rfl) (by kernel_rfl) hSr9 (fun wS hSS => by ( exact (x_move (by conv => lhs; whnf)))) ?_
                refine h_take 4 rfl (by kernel_rfl) (by kernel_rfl) (by kernel_rfl) hSr9 (fun wS hSS => by ( exact (x_ixs u30 sz81 rfl rfl ((ha.ext hX).adr kBrA_pos (by omega)) (by omega) (by omega)))) ?_
                refine h_take 5 rfl (by kernel_rfl) (by kernel_rfl) (by kernel_rfl) hSr9 (fun wS hSS => by ( exact (x_fieldAddr fo81_0 sz9 rfl))) ?_
                refine h_take 6 rfl (by kernel_rfl) (by kernel_rfl) (by kernel_rfl) hSr9 (fun wS hSS => by (have hX := hSS; exact (x_load1 un9 rfl (hX.cell hc0_1)))) ?_
                refine h_take 7 rfl (by kernel_rfl) (by kernel_rfl) (by kernel_rfl) hSr9 (fun wS hSS => by ( exact (x_move (by conv => lhs; whnf)))) ?_
                refine h_take 8 rfl (by kernel_rfl) (by kernel_rfl) (by kernel_rfl) hSr9 (fun wS hSS => by ( exact (x_move (by conv => lhs; whnf)))) ?_
                refine h_take 9 rfl (by kernel_rfl) (by kernel_rfl) (by kernel_rfl) hSr9 (fun wS hSS => by ( exact (x_ixs u30 sz81 rfl rfl ((ha.ext hX).adr kBrA_pos (by omega)) (by omega) (by omega)))) ?_
                refine h_take 10 rfl (by kernel_rfl) (by kernel_rfl) (by kernel_rfl) hSr9 (fun wS hSS => by ( exact (x_fieldAddr fo81_1 sz31 rfl))) ?_
                refine h_take 11 rfl (by kernel_rfl) (by kernel_rfl) (by kernel_rfl) hSr9 (fun wS hSS => by (have hX := hSS; exact (x_load1 un31 rfl (hX.cell hc1_1)))) ?_
                refine h_two 1 12 _ _ rfl rfl (by kernel_rfl) (hop_of_list (fun Q1 hQ1 => ?_)) (hop_of_list (fun Q12 hQ12 => ?_))
                · skip
                  refine p1 (x_load1 un30 rfl (hB4.cell (rfl))) ?_
                  refine hop_end hQ1 ⟨hSr9, ?_⟩
                  refine h_one 12 _ rfl (by kernel_rfl) (hop_of_list (fun Q12 hQ12 => ?_))
                  have hXs := hX.size
                  have hm16 := mayB_len hb7_16
                  have hl1 := hS1.len
                  refine o_call Try.func114 fn114 fb114 (ref15_own (l.getD i default).1 (l.getD i default).2 _ _ _ _ _ (hS1.ext hX) (by omega)) rfl ?_
                  rintro v12 w12 ⟨⟨gO, rfl, hI⟩, hE12⟩
                  have hX := hX.ext hE12
                  have hO := hO.ext hE12
                  have hB4 := hB4.ext hE12
                  have hB2 := hB2.ext hE12
                  have hSr9 := hSr9.ext hE12
                  have hI := hI.brMono (S' := (fun j => w.heap.size ≤ j)) (fun j _ h => Nat.le_trans hXs h)
                  refine hop_end hQ12 ⟨hSr9, ?_⟩
                  refine h_one 13 _ rfl (by kernel_rfl) (hop_of_list (fun Q13 hQ13 => ?_))
                  obtain ⟨css1, hA1, hsr1⟩ := src_kind u30 hI.sl kBr_pos
                  have hA1 : (kBr (fun j => w.heap.size ≤ j)).All 0 _ _ css1 := All.imp2 (fun _ _ h => h) hA1
                  have hq1 := hX.size
                  have hOl := hO.len
                  rw [List.length_take] at hOl
                  refine o_append (d := (kBr (fun j => w.heap.size ≤ j))) ([(l.getD i default)]) u30 inf81 rfl kBr_pos rfl rfl hO (hsr1) rfl (hA1) (rfl) (by omega) (by omega) (by omega) (by omega) (by simp [kBr]) ?_
                  intro p64 c64 w13 hO hM13
                  have hX := hX.mod hM13 (Nat.le_refl _)
                  have hB4 := hB4.mod hM13 (by decide)
                  have hB2 := hB2.mod hM13 (by decide)
                  have hSr9 := hSr9.mod hM13 (by first | exact Nat.le_refl _ | exact trivial | omega)
                  refine hop_end hQ13 ⟨hSr9, ?_⟩
                  refine h_take 14 rfl (by kernel_rfl) (by kernel_rfl) (by kernel_rfl) hSr9 (fun wS hSS => by ( exact (x_fieldAddr fo70_0 sz30 rfl))) ?_
                  refine h_one 15 _ rfl (by kernel_rfl) (hop_of_list (fun Q15 hQ15 => ?_))
                  refine o_store1 rfl (by conv => lhs; whnf) rfl rfl sz30 hB4 (by simp) ?_
                  intro w14 hP14
                  have hX := hX.put hP14 (by omega)
                  have hB4 := hP14.blk
                  simp only [List.setIfInBounds_toArray, List.set_cons_zero, List.set_cons_succ] at hB4
                  have hB2 := hP14.keep hB2 (by omega)
                  have hSr9 := hX
                  have hO := hO.mod (hP14.mod 0 (Nat.zero_le _)) (Nat.zero_le _) (by simp [kBr])
                  refine hop_end hQ15 ⟨hSr9, ?_⟩
                  refine h_done (by kernel_rfl) ?_
                  refine b_n ?_
                  refine t_n ?_
                  refine r_plain ?_
                  refine p1 (x_move (by conv => lhs; whnf)) ?_
                  refine p1 (x_add rfl rfl (fits_i64 (by omega) (by omega))) ?_
                  refine p1 (x_assign (by conv => lhs; whnf)) ?_
                  refine r_nil ?_
                  refine t_n (At.mk ((i + 1, p64, m + 1, c64)) (by repeat (first | exact Agr.refl _ _ | exact Agr.hav _ _ _ | refine Agr.upd rfl ?_ | refine Agr.updL ?_ _ rfl | refine Agr.hav' rfl ?_)) ⟨rfl, trivial⟩ ?_)
                  exact ⟨⟨hX, ⟨by rw [br_take_succ (by omega)]; exact hO, hB4, hB2, hrn, hon, by omega⟩⟩, by first | (dsimp only; omega) | ((show _ < _); omega)⟩
                · skip
                  have hXs := hX.size
                  have hm16 := mayB_len hb7_16
                  have hl1 := hS1.len
                  refine o_call Try.func114 fn114 fb114 (ref15_own (l.getD i default).1 (l.getD i default).2 _ _ _ _ _ (hS1.ext hX) (by omega)) rfl ?_
                  rintro v15 w15 ⟨⟨gO, rfl, hI⟩, hE15⟩
                  have hX := hX.ext hE15
                  have hO := hO.ext hE15
                  have hB4 := hB4.ext hE15
                  have hB2 := hB2.ext hE15
                  have hSr9 := hSr9.ext hE15
                  have hI := hI.brMono (S' := (fun j => w.heap.size ≤ j)) (fun j _ h => Nat.le_trans hXs h)
                  refine hop_end hQ12 ⟨hSr9, ?_⟩
                  refine h_one 1 _ rfl (by kernel_rfl) (hop_of_list (fun Q1 hQ1 => ?_))
                  refine p1 (x_load1 un30 rfl (hB4.cell (rfl))) ?_
                  refine hop_end hQ1 ⟨hSr9, ?_⟩
                  refine h_one 13 _ rfl (by kernel_rfl) (hop_of_list (fun Q13 hQ13 => ?_))
                  obtain ⟨css1, hA1, hsr1⟩ := src_kind u30 hI.sl kBr_pos
                  have hA1 : (kBr (fun j => w.heap.size ≤ j)).All 0 _ _ css1 := All.imp2 (fun _ _ h => h) hA1
                  have hq1 := hX.size
                  have hOl := hO.len
                  rw [List.length_take] at hOl
                  refine o_append (d := (kBr (fun j => w.heap.size ≤ j))) ([(l.getD i default)]) u30 inf81 rfl kBr_pos rfl rfl hO (hsr1) rfl (hA1) (rfl) (by omega) (by omega) (by omega) (by omega) (by simp [kBr]) ?_
                  intro p64 c64 w16 hO hM16
                  have hX := hX.mod hM16 (Nat.le_refl _)
                  have hB4 := hB4.mod hM16 (by decide)
                  have hB2 := hB2.mod hM16 (by decide)
                  have hSr9 := hSr9.mod hM16 (by first | exact Nat.le_refl _ | exact trivial | omega)
                  refine hop_end hQ13 ⟨hSr9, ?_⟩
                  refine h_take 14 rfl (by kernel_rfl) (by kernel_rfl) (by kernel_rfl) hSr9 (fun wS hSS => by ( exact (x_fieldAddr fo70_0 sz30 rfl))) ?_
                  refine h_one 15 _ rfl (by kernel_rfl) (hop_of_list (fun Q15 hQ15 => ?_))
                  refine o_store1 rfl (by conv => lhs; whnf) rfl rfl sz30 hB4 (by simp) ?_
                  intro w17 hP17
                  have hX := hX.put hP17 (by omega)
                  have hB4 := hP17.blk
                  simp only [List.setIfInBounds_toArray, List.set_cons_zero, List.set_cons_succ] at hB4
                  have hB2 := hP17.keep hB2 (by omega)
                  have hSr9 := hX
                  have hO := hO.mod (hP17.mod 0 (Nat.zero_le _)) (Nat.zero_le _) (by simp [kBr])
                  refine hop_end hQ15 ⟨hSr9, ?_⟩
                  refine h_done (by kernel_rfl) ?_
                  refine b_n ?_
                  refine t_n ?_
                  refine r_plain ?_
                  refine p1 (x_move (by conv => lhs; whnf)) ?_
                  refine p1 (x_add rfl rfl (fits_i64 (by omega) (by omega))) ?_
                  refine p1 (x_assign (by conv => lhs; whnf)) ?_
                  refine r_nil ?_
                  refine t_n (At.mk ((i + 1, p64, m + 1, c64)) (by repeat (first | exact Agr.refl _ _ | exact Agr.hav _ _ _ | refine Agr.upd rfl ?_ | refine Agr.updL ?_ _ rfl | refine Agr.hav' rfl ?_)) ⟨rfl, trivial⟩ ?_)
                  exact ⟨⟨hX, ⟨by rw [br_take_succ (by omega)]; exact hO, hB4, hB2, hrn, hon, by omega⟩⟩, by first | (dsimp only; omega) | ((show _ < _); omega)⟩
            · skip
              refine g1 35 rfl rfl (x_load1 un9 rfl (hX.cell hc0_1)) ?_
              refine hop_end hQ30 ⟨hSr7, ?_⟩
              refine h_one 25 _ rfl (by kernel_rfl) (hop_of_list (fun Q25 hQ25 => ?_))
              refine g1 35 rfl rfl (x_load1 un9 rfl (hX.cell hc0_2)) ?_
              refine hop_end hQ25 ⟨hSr7, ?_⟩
              refine h_takeg 31 35 rfl rfl rfl (by kernel_rfl) (by kernel_rfl) (by kernel_rfl) hSr7 (fun wS hSS => by ( exact (x_geq_str rfl rfl))) ?_
              refine h_takeg 32 32 rfl rfl rfl (by kernel_rfl) (by kernel_rfl) (by kernel_rfl) hSr7 (fun wS hSS => by ( exact (x_pick_t rfl (by conv => lhs; whnf)))) ?_
              refine h_take 33 rfl (by kernel_rfl) (by kernel_rfl) (by kernel_rfl) hSr7 (fun wS hSS => by ( exact (x_pick_f rfl (by conv => lhs; whnf)))) ?_
              refine h_done (by kernel_rfl) ?_
              refine t_n ?_
              first | refine c_dec rfl (fun hc49 => ?_) (fun hc49 => ?_) | refine c_if rfl (fun hc49 => ?_) (fun hc49 => ?_)
              · try simp only [decide_eq_true_eq, decide_eq_false_iff_not, Bool.not_eq_true, Bool.not_eq_false, Bool.not_eq_eq_eq_not, Bool.not_true, Bool.not_false, Int.not_lt, Int.not_le] at hc49
                have hno : ¬ okL l := by
                  intro h
                  have h1 := (h.2.2 _ (mem_getD (k := i) (by omega))).1
                  have h2 := (h.2.2 _ (mem_getD (k := i) (by omega))).2
                  first | (rw [hb7_7] at h1; exact absurd h1 (by decide)) | (rw [hb7_16] at h2; exact absurd h2 (by decide)) | exact not_rise_at (k := i) (by omega) (by omega) (by rw [← ez]; simpa using hc49) h.2.1
                refine c_seq ?_
                refine r_plain ?_
                refine p1 (x_build0 pl70 rfl) ?_
                refine o_storeAll rfl (by conv => lhs; whnf) (by simp [Value.oneCell']) (by exact sz70) hB2 (by rfl) ?_
                intro w18 hP18
                have hX := hX.put hP18 (by rw [hN2.g_eq]; exact hXs2)
                have hO := hO.mod (hP18.mod 0 (Nat.zero_le _)) (Nat.zero_le _) (by simp [kBr])
                have hB4 := hP18.keep hB4 (by omega)
                have hB2 := hP18.blk
                refine p1 (x_assign (by conv => lhs; whnf)) ?_
                refine r_nil ?_
                refine t_n ?_
                refine c_ret ?_
                refine t_r ?_
                refine b_r ?_
                refine t_r ?_
                refine t_r ?_
                refine b_r ?_
                refine t_r ?_
                refine end2c rfl ua70 rfl (by conv => lhs; whnf) hB2 sz70 ?_
                first | exact ⟨.inr ⟨hno, rfl⟩, hX⟩ | exact ⟨.inl ⟨⟨by omega, hri, hok⟩, _, _, _, rfl, hO⟩, hX⟩
              · try simp only [decide_eq_true_eq, decide_eq_false_iff_not, Bool.not_eq_true, Bool.not_eq_false, Bool.not_eq_eq_eq_not, Bool.not_true, Bool.not_false, Int.not_lt, Int.not_le] at hc49
                have hord : i = 0 ∨ lssB (l.getD (i - 1) default).1 (l.getD i default).1 = true := by first | (left; omega) | (right; rw [← ez]; simpa using hc49)
                have hrn := riseN_next hri (by omega) hord
                have hon := ok_take_succ hok (by omega) hb7_7 hb7_16
                refine c_skip ?_
                refine t_n ?_
                refine r_held (fun _ w2 => Ext w w2) mixed ?_
                intro w19 hE19
                have hX := hX.ext hE19
                have hO := hO.ext hE19
                have hB4 := hB4.ext hE19
                have hB2 := hB2.ext hE19
                have hSr9 : (fun _ w2 => Ext w w2) w19 w19 := hX
                refine h_take 0 rfl (by kernel_rfl) (by kernel_rfl) (by kernel_rfl) hSr9 (fun wS hSS => by ( exact (x_fieldAddr fo70_0 sz30 rfl))) ?_
                refine h_take 2 rfl (by kernel_rfl) (by kernel_rfl) (by kernel_rfl) hSr9 (fun wS hSS => by ( exact (x_move (by conv => lhs; whnf)))) ?_
                refine h_take 3 rfl (by kernel_rfl) (by kernel_rfl) (by kernel_rfl) hSr9 (fun wS hSS => by ( exact (x_move (by conv => lhs; whnf)))) ?_
                refine h_take 4 rfl (by kernel_rfl) (by kernel_rfl) (by kernel_rfl) hSr9 (fun wS hSS => by ( exact (x_ixs u30 sz81 rfl rfl ((ha.ext hX).adr kBrA_pos (by omega)) (by omega) (by omega)))) ?_
                refine h_take 5 rfl (by kernel_rfl) (by kernel_rfl) (by kernel_rfl) hSr9 (fun wS hSS => by ( exact (x_fieldAddr fo81_0 sz9 rfl))) ?_
                refine h_take 6 rfl (by kernel_rfl) (by kernel_rfl) (by kernel_rfl) hSr9 (fun wS hSS => by (have hX := hSS; exact (x_load1 un9 rfl (hX.cell hc0_1)))) ?_
                refine h_take 7 rfl (by kernel_rfl) (by kernel_rfl) (by kernel_rfl) hSr9 (fun wS hSS => by ( exact (x_move (by conv => lhs; whnf)))) ?_
                refine h_take 8 rfl (by kernel_rfl) (by kernel_rfl) (by kernel_rfl) hSr9 (fun wS hSS => by ( exact (x_move (by conv => lhs; whnf)))) ?_
                refine h_take 9 rfl (by kernel_rfl) (by kernel_rfl) (by kernel_rfl) hSr9 (fun wS hSS => by ( exact (x_ixs u30 sz81 rfl rfl ((ha.ext hX).adr kBrA_pos (by omega)) (by omega) (by omega)))) ?_
                refine h_take 10 rfl (by kernel_rfl) (by kernel_rfl) (by kernel_rfl) hSr9 (fun wS hSS => by ( exact (x_fieldAddr fo81_1 sz31 rfl))) ?_
                refine h_take 11 rfl (by kernel_rfl) (by kernel_rfl) (by kernel_rfl) hSr9 (fun wS hSS => by (have hX := hSS; exact (x_load1 un31 rfl (hX.cell hc1_1)))) ?_
                refine h_two 1 12 _ _ rfl rfl (by kernel_rfl) (hop_of_list (fun Q1 hQ1 => ?_)) (hop_of_list (fun Q12 hQ12 => ?_))
                · skip
                  refine p1 (x_load1 un30 rfl (hB4.cell (rfl))) ?_
                  refine hop_end hQ1 ⟨hSr9, ?_⟩
                  refine h_one 12 _ rfl (by kernel_rfl) (hop_of_list (fun Q12 hQ12 => ?_))
                  have hXs := hX.size
                  have hm16 := mayB_len hb7_16
                  have hl1 := hS1.len
                  refine o_call Try.func114 fn114 fb114 (ref15_own (l.getD i default).1 (l.getD i default).2 _ _ _ _ _ (hS1.ext hX) (by omega)) rfl ?_
                  rintro v20 w20 ⟨⟨gO, rfl, hI⟩, hE20⟩
                  have hX := hX.ext hE20
                  have hO := hO.ext hE20
                  have hB4 := hB4.ext hE20
                  have hB2 := hB2.ext hE20
                  have hSr9 := hSr9.ext hE20
                  have hI := hI.brMono (S' := (fun j => w.heap.size ≤ j)) (fun j _ h => Nat.le_trans hXs h)
                  refine hop_end hQ12 ⟨hSr9, ?_⟩
                  refine h_one 13 _ rfl (by kernel_rfl) (hop_of_list (fun Q13 hQ13 => ?_))
                  obtain ⟨css1, hA1, hsr1⟩ := src_kind u30 hI.sl kBr_pos
                  have hA1 : (kBr (fun j => w.heap.size ≤ j)).All 0 _ _ css1 := All.imp2 (fun _ _ h => h) hA1
                  have hq1 := hX.size
                  have hOl := hO.len
                  rw [List.length_take] at hOl
                  refine o_append (d := (kBr (fun j => w.heap.size ≤ j))) ([(l.getD i default)]) u30 inf81 rfl kBr_pos rfl rfl hO (hsr1) rfl (hA1) (rfl) (by omega) (by omega) (by omega) (by omega) (by simp [kBr]) ?_
                  intro p64 c64 w21 hO hM21
                  have hX := hX.mod hM21 (Nat.le_refl _)
                  have hB4 := hB4.mod hM21 (by decide)
                  have hB2 := hB2.mod hM21 (by decide)
                  have hSr9 := hSr9.mod hM21 (by first | exact Nat.le_refl _ | exact trivial | omega)
                  refine hop_end hQ13 ⟨hSr9, ?_⟩
                  refine h_take 14 rfl (by kernel_rfl) (by kernel_rfl) (by kernel_rfl) hSr9 (fun wS hSS => by ( exact (x_fieldAddr fo70_0 sz30 rfl))) ?_
                  refine h_one 15 _ rfl (by kernel_rfl) (hop_of_list (fun Q15 hQ15 => ?_))
                  refine o_store1 rfl (by conv => lhs; whnf) rfl rfl sz30 hB4 (by simp) ?_
                  intro w22 hP22
                  have hX := hX.put hP22 (by omega)
                  have hB4 := hP22.blk
                  simp only [List.setIfInBounds_toArray, List.set_cons_zero, List.set_cons_succ] at hB4
                  have hB2 := hP22.keep hB2 (by omega)
                  have hSr9 := hX
                  have hO := hO.mod (hP22.mod 0 (Nat.zero_le _)) (Nat.zero_le _) (by simp [kBr])
                  refine hop_end hQ15 ⟨hSr9, ?_⟩
                  refine h_done (by kernel_rfl) ?_
                  refine b_n ?_
                  refine t_n ?_
                  refine r_plain ?_
                  refine p1 (x_move (by conv => lhs; whnf)) ?_
                  refine p1 (x_add rfl rfl (fits_i64 (by omega) (by omega))) ?_
                  refine p1 (x_assign (by conv => lhs; whnf)) ?_
                  refine r_nil ?_
                  refine t_n (At.mk ((i + 1, p64, m + 1, c64)) (by repeat (first | exact Agr.refl _ _ | exact Agr.hav _ _ _ | refine Agr.upd rfl ?_ | refine Agr.updL ?_ _ rfl | refine Agr.hav' rfl ?_)) ⟨rfl, trivial⟩ ?_)
                  exact ⟨⟨hX, ⟨by rw [br_take_succ (by omega)]; exact hO, hB4, hB2, hrn, hon, by omega⟩⟩, by first | (dsimp only; omega) | ((show _ < _); omega)⟩
                · skip
                  have hXs := hX.size
                  have hm16 := mayB_len hb7_16
                  have hl1 := hS1.len
                  refine o_call Try.func114 fn114 fb114 (ref15_own (l.getD i default).1 (l.getD i default).2 _ _ _ _ _ (hS1.ext hX) (by omega)) rfl ?_
                  rintro v23 w23 ⟨⟨gO, rfl, hI⟩, hE23⟩
                  have hX := hX.ext hE23
                  have hO := hO.ext hE23
                  have hB4 := hB4.ext hE23
                  have hB2 := hB2.ext hE23
                  have hSr9 := hSr9.ext hE23
                  have hI := hI.brMono (S' := (fun j => w.heap.size ≤ j)) (fun j _ h => Nat.le_trans hXs h)
                  refine hop_end hQ12 ⟨hSr9, ?_⟩
                  refine h_one 1 _ rfl (by kernel_rfl) (hop_of_list (fun Q1 hQ1 => ?_))
                  refine p1 (x_load1 un30 rfl (hB4.cell (rfl))) ?_
                  refine hop_end hQ1 ⟨hSr9, ?_⟩
                  refine h_one 13 _ rfl (by kernel_rfl) (hop_of_list (fun Q13 hQ13 => ?_))
                  obtain ⟨css1, hA1, hsr1⟩ := src_kind u30 hI.sl kBr_pos
                  have hA1 : (kBr (fun j => w.heap.size ≤ j)).All 0 _ _ css1 := All.imp2 (fun _ _ h => h) hA1
                  have hq1 := hX.size
                  have hOl := hO.len
                  rw [List.length_take] at hOl
                  refine o_append (d := (kBr (fun j => w.heap.size ≤ j))) ([(l.getD i default)]) u30 inf81 rfl kBr_pos rfl rfl hO (hsr1) rfl (hA1) (rfl) (by omega) (by omega) (by omega) (by omega) (by simp [kBr]) ?_
                  intro p64 c64 w24 hO hM24
                  have hX := hX.mod hM24 (Nat.le_refl _)
                  have hB4 := hB4.mod hM24 (by decide)
                  have hB2 := hB2.mod hM24 (by decide)
                  have hSr9 := hSr9.mod hM24 (by first | exact Nat.le_refl _ | exact trivial | omega)
                  refine hop_end hQ13 ⟨hSr9, ?_⟩
                  refine h_take 14 rfl (by kernel_rfl) (by kernel_rfl) (by kernel_rfl) hSr9 (fun wS hSS => by ( exact (x_fieldAddr fo70_0 sz30 rfl))) ?_
                  refine h_one 15 _ rfl (by kernel_rfl) (hop_of_list (fun Q15 hQ15 => ?_))
                  refine o_store1 rfl (by conv => lhs; whnf) rfl rfl sz30 hB4 (by simp) ?_
                  intro w25 hP25
                  have hX := hX.put hP25 (by omega)
                  have hB4 := hP25.blk
                  simp only [List.setIfInBounds_toArray, List.set_cons_zero, List.set_cons_succ] at hB4
                  have hB2 := hP25.keep hB2 (by omega)
                  have hSr9 := hX
                  have hO := hO.mod (hP25.mod 0 (Nat.zero_le _)) (Nat.zero_le _) (by simp [kBr])
                  refine hop_end hQ15 ⟨hSr9, ?_⟩
                  refine h_done (by kernel_rfl) ?_
                  refine b_n ?_
                  refine t_n ?_
                  refine r_plain ?_
                  refine p1 (x_move (by conv => lhs; whnf)) ?_
                  refine p1 (x_add rfl rfl (fits_i64 (by omega) (by omega))) ?_
                  refine p1 (x_assign (by conv => lhs; whnf)) ?_
                  refine r_nil ?_
                  refine t_n (At.mk ((i + 1, p64, m + 1, c64)) (by repeat (first | exact Agr.refl _ _ | exact Agr.hav _ _ _ | refine Agr.upd rfl ?_ | refine Agr.updL ?_ _ rfl | refine Agr.hav' rfl ?_)) ⟨rfl, trivial⟩ ?_)
                  exact ⟨⟨hX, ⟨by rw [br_take_succ (by omega)]; exact hO, hB4, hB2, hrn, hon, by omega⟩⟩, by first | (dsimp only; omega) | ((show _ < _); omega)⟩
          · try simp only [decide_eq_true_eq, decide_eq_false_iff_not, Bool.not_eq_true, Bool.not_eq_false, Bool.not_eq_eq_eq_not, Bool.not_true, Bool.not_false, Int.not_lt, Int.not_le] at hb7_19
            refine h_skip 20 35 rfl (by first | exact .inl rfl | exact .inr rfl) rfl (by kernel_rfl) (by kernel_rfl) (by kernel_rfl) hSr7 ?_
            refine h_skip 21 35 rfl (by first | exact .inl rfl | exact .inr rfl) rfl (by kernel_rfl) (by kernel_rfl) (by kernel_rfl) hSr7 ?_
            refine h_skip 22 35 rfl (by first | exact .inl rfl | exact .inr rfl) rfl (by kernel_rfl) (by kernel_rfl) (by kernel_rfl) hSr7 ?_
            refine h_skip 23 35 rfl (by first | exact .inl rfl | exact .inr rfl) rfl (by kernel_rfl) (by kernel_rfl) (by kernel_rfl) hSr7 ?_
            refine h_skip 24 35 rfl (by first | exact .inl rfl | exact .inr rfl) rfl (by kernel_rfl) (by kernel_rfl) (by kernel_rfl) hSr7 ?_
            refine h_skip 25 35 rfl (by first | exact .inl rfl | exact .inr rfl) rfl (by kernel_rfl) (by kernel_rfl) (by kernel_rfl) hSr7 ?_
            refine h_skip 26 35 rfl (by first | exact .inl rfl | exact .inr rfl) rfl (by kernel_rfl) (by kernel_rfl) (by kernel_rfl) hSr7 ?_
            refine h_skip 27 35 rfl (by first | exact .inl rfl | exact .inr rfl) rfl (by kernel_rfl) (by kernel_rfl) (by kernel_rfl) hSr7 ?_
            refine h_skip 28 35 rfl (by first | exact .inl rfl | exact .inr rfl) rfl (by kernel_rfl) (by kernel_rfl) (by kernel_rfl) hSr7 ?_
            refine h_skip 29 35 rfl (by first | exact .inl rfl | exact .inr rfl) rfl (by kernel_rfl) (by kernel_rfl) (by kernel_rfl) hSr7 ?_
            refine h_skip 30 35 rfl (by first | exact .inl rfl | exact .inr rfl) rfl (by kernel_rfl) (by kernel_rfl) (by kernel_rfl) hSr7 ?_
            refine h_skip 31 35 rfl (by first | exact .inl rfl | exact .inr rfl) rfl (by kernel_rfl) (by kernel_rfl) (by kernel_rfl) hSr7 ?_
            refine h_takeg 32 32 rfl rfl rfl (by kernel_rfl) (by kernel_rfl) (by kernel_rfl) hSr7 (fun wS hSS => by ( exact (x_pick_f rfl (by conv => lhs; whnf)))) ?_
            refine h_take 33 rfl (by kernel_rfl) (by kernel_rfl) (by kernel_rfl) hSr7 (fun wS hSS => by ( exact (x_pick_f rfl (by conv => lhs; whnf)))) ?_
            refine h_done (by kernel_rfl) ?_
            refine t_n ?_
            refine c_f rfl ?_
            have hord : i = 0 ∨ lssB (l.getD (i - 1) default).1 (l.getD i default).1 = true := by first | (left; omega) | (right; rw [← ez]; simpa using hc49)
            have hrn := riseN_next hri (by omega) hord
            have hon := ok_take_succ hok (by omega) hb7_7 hb7_16
            refine c_skip ?_
            refine t_n ?_
            refine r_held (fun _ w2 => Ext w w2) mixed ?_
            intro w26 hE26
            have hX := hX.ext hE26
            have hO := hO.ext hE26
            have hB4 := hB4.ext hE26
            have hB2 := hB2.ext hE26
            have hSr9 : (fun _ w2 => Ext w w2) w26 w26 := hX
            refine h_take 0 rfl (by kernel_rfl) (by kernel_rfl) (by kernel_rfl) hSr9 (fun wS hSS => by ( exact (x_fieldAddr fo70_0 sz30 rfl))) ?_
            refine h_take 2 rfl (by kernel_rfl) (by kernel_rfl) (by kernel_rfl) hSr9 (fun wS hSS => by ( exact (x_move (by conv => lhs; whnf)))) ?_
            refine h_take 3 rfl (by kernel_rfl) (by kernel_rfl) (by kernel_rfl) hSr9 (fun wS hSS => by ( exact (x_move (by conv => lhs; whnf)))) ?_
            refine h_take 4 rfl (by kernel_rfl) (by kernel_rfl) (by kernel_rfl) hSr9 (fun wS hSS => by ( exact (x_ixs u30 sz81 rfl rfl ((ha.ext hX).adr kBrA_pos (by omega)) (by omega) (by omega)))) ?_
            refine h_take 5 rfl (by kernel_rfl) (by kernel_rfl) (by kernel_rfl) hSr9 (fun wS hSS => by ( exact (x_fieldAddr fo81_0 sz9 rfl))) ?_
            refine h_take 6 rfl (by kernel_rfl) (by kernel_rfl) (by kernel_rfl) hSr9 (fun wS hSS => by (have hX := hSS; exact (x_load1 un9 rfl (hX.cell hc0_1)))) ?_
            refine h_take 7 rfl (by kernel_rfl) (by kernel_rfl) (by kernel_rfl) hSr9 (fun wS hSS => by ( exact (x_move (by conv => lhs; whnf)))) ?_
            refine h_take 8 rfl (by kernel_rfl) (by kernel_rfl) (by kernel_rfl) hSr9 (fun wS hSS => by ( exact (x_move (by conv => lhs; whnf)))) ?_
            refine h_take 9 rfl (by kernel_rfl) (by kernel_rfl) (by kernel_rfl) hSr9 (fun wS hSS => by ( exact (x_ixs u30 sz81 rfl rfl ((ha.ext hX).adr kBrA_pos (by omega)) (by omega) (by omega)))) ?_
            refine h_take 10 rfl (by kernel_rfl) (by kernel_rfl) (by kernel_rfl) hSr9 (fun wS hSS => by ( exact (x_fieldAddr fo81_1 sz31 rfl))) ?_
            refine h_take 11 rfl (by kernel_rfl) (by kernel_rfl) (by kernel_rfl) hSr9 (fun wS hSS => by (have hX := hSS; exact (x_load1 un31 rfl (hX.cell hc1_1)))) ?_
            refine h_two 1 12 _ _ rfl rfl (by kernel_rfl) (hop_of_list (fun Q1 hQ1 => ?_)) (hop_of_list (fun Q12 hQ12 => ?_))
            · skip
              refine p1 (x_load1 un30 rfl (hB4.cell (rfl))) ?_
              refine hop_end hQ1 ⟨hSr9, ?_⟩
              refine h_one 12 _ rfl (by kernel_rfl) (hop_of_list (fun Q12 hQ12 => ?_))
              have hXs := hX.size
              have hm16 := mayB_len hb7_16
              have hl1 := hS1.len
              refine o_call Try.func114 fn114 fb114 (ref15_own (l.getD i default).1 (l.getD i default).2 _ _ _ _ _ (hS1.ext hX) (by omega)) rfl ?_
              rintro v27 w27 ⟨⟨gO, rfl, hI⟩, hE27⟩
              have hX := hX.ext hE27
              have hO := hO.ext hE27
              have hB4 := hB4.ext hE27
              have hB2 := hB2.ext hE27
              have hSr9 := hSr9.ext hE27
              have hI := hI.brMono (S' := (fun j => w.heap.size ≤ j)) (fun j _ h => Nat.le_trans hXs h)
              refine hop_end hQ12 ⟨hSr9, ?_⟩
              refine h_one 13 _ rfl (by kernel_rfl) (hop_of_list (fun Q13 hQ13 => ?_))
              obtain ⟨css1, hA1, hsr1⟩ := src_kind u30 hI.sl kBr_pos
              have hA1 : (kBr (fun j => w.heap.size ≤ j)).All 0 _ _ css1 := All.imp2 (fun _ _ h => h) hA1
              have hq1 := hX.size
              have hOl := hO.len
              rw [List.length_take] at hOl
              refine o_append (d := (kBr (fun j => w.heap.size ≤ j))) ([(l.getD i default)]) u30 inf81 rfl kBr_pos rfl rfl hO (hsr1) rfl (hA1) (rfl) (by omega) (by omega) (by omega) (by omega) (by simp [kBr]) ?_
              intro p64 c64 w28 hO hM28
              have hX := hX.mod hM28 (Nat.le_refl _)
              have hB4 := hB4.mod hM28 (by decide)
              have hB2 := hB2.mod hM28 (by decide)
              have hSr9 := hSr9.mod hM28 (by first | exact Nat.le_refl _ | exact trivial | omega)
              refine hop_end hQ13 ⟨hSr9, ?_⟩
              refine h_take 14 rfl (by kernel_rfl) (by kernel_rfl) (by kernel_rfl) hSr9 (fun wS hSS => by ( exact (x_fieldAddr fo70_0 sz30 rfl))) ?_
              refine h_one 15 _ rfl (by kernel_rfl) (hop_of_list (fun Q15 hQ15 => ?_))
              refine o_store1 rfl (by conv => lhs; whnf) rfl rfl sz30 hB4 (by simp) ?_
              intro w29 hP29
              have hX := hX.put hP29 (by omega)
              have hB4 := hP29.blk
              simp only [List.setIfInBounds_toArray, List.set_cons_zero, List.set_cons_succ] at hB4
              have hB2 := hP29.keep hB2 (by omega)
              have hSr9 := hX
              have hO := hO.mod (hP29.mod 0 (Nat.zero_le _)) (Nat.zero_le _) (by simp [kBr])
              refine hop_end hQ15 ⟨hSr9, ?_⟩
              refine h_done (by kernel_rfl) ?_
              refine b_n ?_
              refine t_n ?_
              refine r_plain ?_
              refine p1 (x_move (by conv => lhs; whnf)) ?_
              refine p1 (x_add rfl rfl (fits_i64 (by omega) (by omega))) ?_
              refine p1 (x_assign (by conv => lhs; whnf)) ?_
              refine r_nil ?_
              refine t_n (At.mk ((i + 1, p64, m + 1, c64)) (by repeat (first | exact Agr.refl _ _ | exact Agr.hav _ _ _ | refine Agr.upd rfl ?_ | refine Agr.updL ?_ _ rfl | refine Agr.hav' rfl ?_)) ⟨rfl, trivial⟩ ?_)
              exact ⟨⟨hX, ⟨by rw [br_take_succ (by omega)]; exact hO, hB4, hB2, hrn, hon, by omega⟩⟩, by first | (dsimp only; omega) | ((show _ < _); omega)⟩
            · skip
              have hXs := hX.size
              have hm16 := mayB_len hb7_16
              have hl1 := hS1.len
              refine o_call Try.func114 fn114 fb114 (ref15_own (l.getD i default).1 (l.getD i default).2 _ _ _ _ _ (hS1.ext hX) (by omega)) rfl ?_
              rintro v30 w30 ⟨⟨gO, rfl, hI⟩, hE30⟩
              have hX := hX.ext hE30
              have hO := hO.ext hE30
              have hB4 := hB4.ext hE30
              have hB2 := hB2.ext hE30
              have hSr9 := hSr9.ext hE30
              have hI := hI.brMono (S' := (fun j => w.heap.size ≤ j)) (fun j _ h => Nat.le_trans hXs h)
              refine hop_end hQ12 ⟨hSr9, ?_⟩
              refine h_one 1 _ rfl (by kernel_rfl) (hop_of_list (fun Q1 hQ1 => ?_))
              refine p1 (x_load1 un30 rfl (hB4.cell (rfl))) ?_
              refine hop_end hQ1 ⟨hSr9, ?_⟩
              refine h_one 13 _ rfl (by kernel_rfl) (hop_of_list (fun Q13 hQ13 => ?_))
              obtain ⟨css1, hA1, hsr1⟩ := src_kind u30 hI.sl kBr_pos
              have hA1 : (kBr (fun j => w.heap.size ≤ j)).All 0 _ _ css1 := All.imp2 (fun _ _ h => h) hA1
              have hq1 := hX.size
              have hOl := hO.len
              rw [List.length_take] at hOl
              refine o_append (d := (kBr (fun j => w.heap.size ≤ j))) ([(l.getD i default)]) u30 inf81 rfl kBr_pos rfl rfl hO (hsr1) rfl (hA1) (rfl) (by omega) (by omega) (by omega) (by omega) (by simp [kBr]) ?_
              intro p64 c64 w31 hO hM31
              have hX := hX.mod hM31 (Nat.le_refl _)
              have hB4 := hB4.mod hM31 (by decide)
              have hB2 := hB2.mod hM31 (by decide)
              have hSr9 := hSr9.mod hM31 (by first | exact Nat.le_refl _ | exact trivial | omega)
              refine hop_end hQ13 ⟨hSr9, ?_⟩
              refine h_take 14 rfl (by kernel_rfl) (by kernel_rfl) (by kernel_rfl) hSr9 (fun wS hSS => by ( exact (x_fieldAddr fo70_0 sz30 rfl))) ?_
              refine h_one 15 _ rfl (by kernel_rfl) (hop_of_list (fun Q15 hQ15 => ?_))
              refine o_store1 rfl (by conv => lhs; whnf) rfl rfl sz30 hB4 (by simp) ?_
              intro w32 hP32
              have hX := hX.put hP32 (by omega)
              have hB4 := hP32.blk
              simp only [List.setIfInBounds_toArray, List.set_cons_zero, List.set_cons_succ] at hB4
              have hB2 := hP32.keep hB2 (by omega)
              have hSr9 := hX
              have hO := hO.mod (hP32.mod 0 (Nat.zero_le _)) (Nat.zero_le _) (by simp [kBr])
              refine hop_end hQ15 ⟨hSr9, ?_⟩
              refine h_done (by kernel_rfl) ?_
              refine b_n ?_
              refine t_n ?_
              refine r_plain ?_
              refine p1 (x_move (by conv => lhs; whnf)) ?_
              refine p1 (x_add rfl rfl (fits_i64 (by omega) (by omega))) ?_
              refine p1 (x_assign (by conv => lhs; whnf)) ?_
              refine r_nil ?_
              refine t_n (At.mk ((i + 1, p64, m + 1, c64)) (by repeat (first | exact Agr.refl _ _ | exact Agr.hav _ _ _ | refine Agr.upd rfl ?_ | refine Agr.updL ?_ _ rfl | refine Agr.hav' rfl ?_)) ⟨rfl, trivial⟩ ?_)
              exact ⟨⟨hX, ⟨by rw [br_take_succ (by omega)]; exact hO, hB4, hB2, hrn, hon, by omega⟩⟩, by first | (dsimp only; omega) | ((show _ < _); omega)⟩
    · try simp only [decide_eq_true_eq, decide_eq_false_iff_not, Bool.not_eq_true, Bool.not_eq_false, Bool.not_eq_eq_eq_not, Bool.not_true, Bool.not_false, Int.not_lt, Int.not_le] at hc13
      have hin : i = n := by omega
      rw [hin, List.take_of_length_le (by omega)] at hO hri hok
      refine c_exit ?_
      refine t_e ?_
      refine t_e ?_
      refine b_hit ?_
      refine t_n ?_
      refine c_seq ?_
      refine r_plain ?_
      refine p1 (x_loadB ua70 rfl hB4 sz70) ?_
      refine o_storeAll rfl (by conv => lhs; whnf) (by simp [Value.oneCell']) (by exact sz70) hB2 (by rfl) ?_
      intro w33 hP33
      have hX := hX.put hP33 (by rw [hN2.g_eq]; exact hXs2)
      have hO := hO.mod (hP33.mod 0 (Nat.zero_le _)) (Nat.zero_le _) (by simp [kBr])
      have hB4 := hP33.keep hB4 (by omega)
      have hB2 := hP33.blk
      refine p1 (x_assign (by conv => lhs; whnf)) ?_
      refine r_nil ?_
      refine t_n ?_
      refine c_ret ?_
      refine end2c rfl ua70 rfl (by conv => lhs; whnf) hB2 sz70 ?_
      first | exact ⟨.inr ⟨hno, rfl⟩, hX⟩ | exact ⟨.inl ⟨⟨by omega, hri, hok⟩, _, _, _, rfl, hO⟩, hX⟩
theorem ref15_Load_ok (l : List Br) (B : Nat) (p : Option Addr) (n c : Nat) (w : World) (ha : Sl kBrA 81 B w p n c l) (hkk : ∀ x ∈ l, x.1.size ≤ 9223372036854775807) (hok : okL l) : Ret Try.prog 69 [.slice p n c] w (fun v w' => (∃ q m c', v = .tuple #[.agg #[.slice q m c'], .int .i64 0] ∧ Own (kBr (fun j => w.heap.size ≤ j)) 81 0 w.heap.size w' q m c' l) ∧ Ext w w') :=
  (ref15_Load l B p n c w ha hkk).mono fun v w' ⟨h, hx⟩ => ⟨by rcases h with h | h; (· exact h.2); (· exact absurd hok h.1), hx⟩
theorem ref15_Load_no (l : List Br) (B : Nat) (p : Option Addr) (n c : Nat) (w : World) (ha : Sl kBrA 81 B w p n c l) (hkk : ∀ x ∈ l, x.1.size ≤ 9223372036854775807) (hno : ¬ okL l) : Ret Try.prog 69 [.slice p n c] w (fun v w' => v = .tuple #[.agg #[.slice none 0 0], .int .i64 4] ∧ Ext w w') :=
  (ref15_Load l B p n c w ha hkk).mono fun v w' ⟨h, hx⟩ => ⟨by rcases h with h | h; (· exact absurd h.1 hno); (· exact h.2), hx⟩
theorem ref15_Copy (l : List Br) (B : Nat) (p : Option Addr) (n c : Nat) (w : World) (ha : Sl kBrA 81 B w p n c l) (hmm : ∀ x ∈ l, x.2.length ≤ 4398046511104) (hn : n ≤ 3518437208780) :
    Ret Try.prog 67 [.slice p n c] w (fun v w' => (∃ q m c', v = .slice q m c' ∧ Own (kBr (fun j => w.heap.size ≤ j)) 81 0 w.heap.size w' q m c' l) ∧ Ext w w') := by
  have hX := Ext.refl w
  refine enter 25 _ Try.func67 rfl rfl (Nat.le_of_ble_eq_true rfl) ?_
  refine c_seq ?_
  refine r_plain ?_
  refine p1 (x_assign (by conv => lhs; whnf)) ?_
  refine r_nil ?_
  refine t_n ?_
  refine c_seq ?_
  refine r_plain ?_
  refine p1 (x_assign (by conv => lhs; whnf)) ?_
  refine r_nil ?_
  refine t_n ?_
  refine c_seq ?_
  refine c_seq ?_
  refine r_plain ?_
  refine p1 (x_assign (by conv => lhs; whnf)) ?_
  refine r_nil ?_
  refine t_n ?_
  refine c_block ?_
  have hlen := ha.len
  have hcap := ha.cap
  have hfit := ha.fit
  have hO := Own.nil (kBr (fun j => w.heap.size ≤ j)) 81 0 w.heap.size
  refine c_loop (ι := Nat × Option Addr × Nat × Nat) [3, 4, 5, 6, 7, 8, 9, 10, 11, 12, 13, 14, 15, 16, 17, 18, 19, 20, 21, 22, 23] (fun (i, q, m, c1) => [(3, .slice q m c1), (4, .int .i64 (i : Int))]) (fun (i, q, m, c1) w' => Ext w w' ∧ (Own (kBr (fun j => w.heap.size ≤ j)) 81 0 w.heap.size w' q m c1 (l.take i) ∧ i ≤ n)) (fun (i, q, m, c1) => n - i) ((0, none, 0, 0)) ⟨rfl, rfl, trivial⟩ ⟨hX, ⟨hO _, by omega⟩⟩ ?_
  rintro ⟨i, q, m, c1⟩ GL0 w1 ⟨hE1, hO, hi⟩
  have hX := hE1
  refine c_seq ?_
  refine c_seq ?_
  refine r_plain ?_
  refine p1 (x_move (by conv => lhs; whnf)) ?_
  refine p1 (x_move (by conv => lhs; whnf)) ?_
  refine p1 (x_len_slice u30 rfl) ?_
  refine p1 (x_lss rfl rfl) ?_
  refine r_nil ?_
  refine t_n ?_
  first | refine c_dec rfl (fun hc8 => ?_) (fun hc8 => ?_) | refine c_if rfl (fun hc8 => ?_) (fun hc8 => ?_)
  · try simp only [decide_eq_true_eq, decide_eq_false_iff_not, Bool.not_eq_true, Bool.not_eq_false, Bool.not_eq_eq_eq_not, Bool.not_true, Bool.not_false, Int.not_lt, Int.not_le] at hc8
    refine c_skip ?_
    refine t_n ?_
    refine c_seq ?_
    refine c_block ?_
    obtain ⟨q1, m1, c1, hrow1, hc0_1, hc1_1, hS1⟩ := ha.brAt i (by omega)
    have hmem := mem_getD (l := l) (k := i) (by omega)
    have hmx := hmm _ hmem
    have hl1 := hS1.len
    refine r_held (fun _ w2 => Ext w w2) mixed ?_
    intro w2 hE2
    have hX := hX.ext hE2
    have hO := hO.ext hE2
    have hSr5 : (fun _ w2 => Ext w w2) w2 w2 := hX
    refine h_take 0 rfl (by kernel_rfl) (by kernel_rfl) (by kernel_rfl) hSr5 (fun wS hSS => by ( exact (x_move (by conv => lhs; whnf)))) ?_
    refine h_take 1 rfl (by kernel_rfl) (by kernel_rfl) (by kernel_rfl) hSr5 (fun wS hSS => by ( exact (x_move (by conv => lhs; whnf)))) ?_
    refine h_take 2 rfl (by kernel_rfl) (by kernel_rfl) (by kernel_rfl) hSr5 (fun wS hSS => by ( exact (x_move (by conv => lhs; whnf)))) ?_
    refine h_take 3 rfl (by kernel_rfl) (by kernel_rfl) (by kernel_rfl) hSr5 (fun wS hSS => by ( exact (x_ixs u30 sz81 rfl rfl ((ha.ext hX).adr kBrA_pos (by omega)) (by omega) (by omega)))) ?_
    refine h_take 4 rfl (by kernel_rfl) (by kernel_rfl) (by kernel_rfl) hSr5 (fun wS hSS => by ( exact (x_fieldAddr fo81_0 sz9 rfl))) ?_
    refine h_take 5 rfl (by kernel_rfl) (by kernel_rfl) (by kernel_rfl) hSr5 (fun wS hSS => by (have hX := hSS; exact (x_load1 un9 rfl (hX.cell hc0_1)))) ?_
    refine h_take 6 rfl (by kernel_rfl) (by kernel_rfl) (by kernel_rfl) hSr5 (fun wS hSS => by ( exact (x_move (by conv => lhs; whnf)))) ?_
    refine h_take 7 rfl (by kernel_rfl) (by kernel_rfl) (by kernel_rfl) hSr5 (fun wS hSS => by ( exact (x_move (by conv => lhs; whnf)))) ?_
    refine h_take 8 rfl (by kernel_rfl) (by kernel_rfl) (by kernel_rfl) hSr5 (fun wS hSS => by ( exact (x_ixs u30 sz81 rfl rfl ((ha.ext hX).adr kBrA_pos (by omega)) (by omega) (by omega)))) ?_
    refine h_take 9 rfl (by kernel_rfl) (by kernel_rfl) (by kernel_rfl) hSr5 (fun wS hSS => by ( exact (x_fieldAddr fo81_1 sz31 rfl))) ?_
    refine h_take 10 rfl (by kernel_rfl) (by kernel_rfl) (by kernel_rfl) hSr5 (fun wS hSS => by (have hX := hSS; exact (x_load1 un31 rfl (hX.cell hc1_1)))) ?_
    refine h_one 11 _ rfl (by kernel_rfl) (hop_of_list (fun Q11 hQ11 => ?_))
    have hXs := hX.size
    refine o_call Try.func114 fn114 fb114 (ref15_own (l.getD i default).1 (l.getD i default).2 _ _ _ _ _ (hS1.ext hX) (by omega)) rfl ?_
    rintro v3 w3 ⟨⟨gO, rfl, hI⟩, hE3⟩
    have hX := hX.ext hE3
    have hO := hO.ext hE3
    have hSr5 := hSr5.ext hE3
    have hI := hI.brMono (S' := (fun j => w.heap.size ≤ j)) (fun j _ h => Nat.le_trans hXs h)
    refine hop_end hQ11 ⟨hSr5, ?_⟩
    refine h_one 12 _ rfl (by kernel_rfl) (hop_of_list (fun Q12 hQ12 => ?_))
    obtain ⟨css1, hA1, hsr1⟩ := src_kind u30 hI.sl kBr_pos
    have hA1 : (kBr (fun j => w.heap.size ≤ j)).All 0 _ _ css1 := All.imp2 (fun _ _ h => h) hA1
    have hq1 := hX.size
    have hOl := hO.len
    rw [List.length_take] at hOl
    refine o_append (d := (kBr (fun j => w.heap.size ≤ j))) ([(l.getD i default)]) u30 inf81 rfl kBr_pos rfl rfl hO (hsr1) rfl (hA1) (rfl) (by omega) (by omega) (by omega) (by omega) (by simp [kBr]) ?_
    intro p23 c23 w4 hO hM4
    have hX := hX.mod hM4 (Nat.le_refl _)
    have hSr5 := hSr5.mod hM4 (by first | exact Nat.le_refl _ | exact trivial | omega)
    refine hop_end hQ12 ⟨hSr5, ?_⟩
    refine h_take 13 rfl (by kernel_rfl) (by kernel_rfl) (by kernel_rfl) hSr5 (fun wS hSS => by ( exact (x_assign (by conv => lhs; whnf)))) ?_
    refine h_done (by kernel_rfl) ?_
    refine b_n ?_
    refine t_n ?_
    refine r_plain ?_
    refine p1 (x_move (by conv => lhs; whnf)) ?_
    refine p1 (x_add rfl rfl (fits_i64 (by omega) (by omega))) ?_
    refine p1 (x_assign (by conv => lhs; whnf)) ?_
    refine r_nil ?_
    refine t_n (At.mk ((i + 1, p23, m + 1, c23)) (by repeat (first | exact Agr.refl _ _ | exact Agr.hav _ _ _ | refine Agr.upd rfl ?_ | refine Agr.updL ?_ _ rfl | refine Agr.hav' rfl ?_)) ⟨rfl, rfl, trivial⟩ ?_)
    exact ⟨⟨hX, ⟨by rw [br_take_succ (by omega)]; exact hO, by omega⟩⟩, by first | (dsimp only; omega) | ((show _ < _); omega)⟩
  · try simp only [decide_eq_true_eq, decide_eq_false_iff_not, Bool.not_eq_true, Bool.not_eq_false, Bool.not_eq_eq_eq_not, Bool.not_true, Bool.not_false, Int.not_lt, Int.not_le] at hc8
    have hin : i = n := by omega
    rw [hin, List.take_of_length_le (by omega)] at hO
    refine c_exit ?_
    refine t_e ?_
    refine t_e ?_
    refine b_hit ?_
    refine t_n ?_
    refine c_seq ?_
    refine r_plain ?_
    refine p1 (x_move (by conv => lhs; whnf)) ?_
    refine p1 (x_assign (by conv => lhs; whnf)) ?_
    refine r_nil ?_
    refine t_n ?_
    refine c_ret ?_
    refine end1 rfl (by conv => lhs; whnf) ?_
    exact ⟨⟨_, _, _, rfl, hO⟩, hX⟩
end Go.Proofs.Eng
