import Derived.Test.YtjbfgmkemideiaaKI2
/- Merged: D1 D2 D3 P2 P3 P5 P6 P8 T8 A8 D4 -/
section
set_option linter.unusedVariables false
set_option linter.unusedSimpArgs false
set_option maxRecDepth 100000
set_option maxHeartbeats 4000000
namespace Go.Proofs.Eng
open Go.RowKit
open Extern.Stop (cell)
theorem branch_Load (l : List Br) (B : Nat) (p : Option Addr) (n c : Nat) (w : World) (ha : Sl kBrA 81 B w p n c l) (hkk : ∀ x ∈ l, x.1.size ≤ 9223372036854775807) :
    Ret Try.prog 68 [.slice p n c] w (fun v w' => ((okL l ∧ ∃ g r, v = .tuple #[.pointer (some ⟨g, 0, none⟩), .int .i64 0] ∧ Tbl (fun j => w.heap.size ≤ j) w.heap.size w' g r l) ∨ (¬ okL l ∧ v = .tuple #[.pointer none, .int .i64 4])) ∧ Ext w w') := by
  have hX := Ext.refl w
  refine enter 54 _ Try.func68 rfl rfl (Nat.le_of_ble_eq_true rfl) ?_
  refine c_seq ?_
  refine r_plain ?_
  refine p1 (x_assign (by conv => lhs; whnf)) ?_
  refine p1 (x_assign (by conv => lhs; whnf)) ?_
  refine r_nil ?_
  refine t_n ?_
  refine c_seq ?_
  refine c_seq ?_
  refine r_plain ?_
  refine p1 (x_move (by conv => lhs; whnf)) ?_
  refine p1 (x_len_slice u30 rfl) ?_
  refine p1 (x_gtr rfl rfl) ?_
  refine r_nil ?_
  refine t_n ?_
  first | refine c_dec rfl (fun hc9 => ?_) (fun hc9 => ?_) | refine c_if rfl (fun hc9 => ?_) (fun hc9 => ?_)
  · try simp only [decide_eq_true_eq, decide_eq_false_iff_not, Bool.not_eq_true, Bool.not_eq_false, Bool.not_eq_eq_eq_not, Bool.not_true, Bool.not_false, Int.not_lt, Int.not_le] at hc9
    have hno : ¬ okL l := fun h => by have := h.1; have := ha.len; omega
    refine c_seq ?_
    refine r_plain ?_
    refine p1 (x_assign (by conv => lhs; whnf)) ?_
    refine p1 (x_assign (by conv => lhs; whnf)) ?_
    refine r_nil ?_
    refine t_n ?_
    refine c_ret ?_
    refine t_r ?_
    refine end2 rfl (by conv => lhs; whnf) (by conv => lhs; whnf) ?_
    first | exact ⟨.inr ⟨hno, rfl⟩, hX⟩ | exact ⟨.inl ⟨okL_of hT, _, _, rfl, hT⟩, hX⟩
  · try simp only [decide_eq_true_eq, decide_eq_false_iff_not, Bool.not_eq_true, Bool.not_eq_false, Bool.not_eq_eq_eq_not, Bool.not_true, Bool.not_false, Int.not_lt, Int.not_le] at hc9
    refine c_skip ?_
    refine t_n ?_
    refine c_seq ?_
    refine r_plain ?_
    refine o_call Try.func62 fn62 fb62 (branch_New _) rfl ?_
    rintro v1 w1 ⟨⟨gT, rT, rfl, hgT, hT⟩, hE1⟩
    have hX := hX.ext hE1
    have hTb := hT.blk
    refine p1 (x_assign (by conv => lhs; whnf)) ?_
    refine r_nil ?_
    refine t_n ?_
    refine c_seq ?_
    refine c_seq ?_
    refine r_plain ?_
    refine p1 (x_move (by conv => lhs; whnf)) ?_
    refine p1 (x_len_slice u30 rfl) ?_
    refine p1 (x_move (by conv => lhs; whnf)) ?_
    refine r_nil ?_
    refine t_n ?_
    refine c_block ?_
    have hlen := ha.len
    have hcap := ha.cap
    have hfit := ha.fit
    refine c_loop (ι := Nat) [2, 3, 5, 6, 13, 14, 15, 16, 17, 18, 19, 20, 21, 22, 23, 24, 25, 26, 27, 28, 29, 30, 31, 32, 33, 34, 35, 36, 37, 38, 39, 40, 41, 42, 43, 44, 45, 46, 47, 48, 49, 50, 51, 52] (fun i => [(13, .int .i64 (i : Int))]) (fun i w' => Ext w w' ∧ (Tbl (fun j => w.heap.size ≤ j) w.heap.size w' gT rT (l.take i) ∧ Blk w' gT #[.map (some rT)] 124 ∧ i ≤ n)) (fun i => n - i) (0) ⟨rfl, trivial⟩ ⟨hX, ⟨hT.mono (fun j _ h => h.elim), hTb, by omega⟩⟩ ?_
    rintro i GL0 w2 ⟨hE2, hT, hTb, hi⟩
    have hX := hE2
    refine c_seq ?_
    refine r_plain ?_
    refine p1 (x_lss rfl rfl) ?_
    refine r_nil ?_
    refine t_n ?_
    refine c_seq ?_
    first | refine c_dec rfl (fun hc14 => ?_) (fun hc14 => ?_) | refine c_if rfl (fun hc14 => ?_) (fun hc14 => ?_)
    · try simp only [decide_eq_true_eq, decide_eq_false_iff_not, Bool.not_eq_true, Bool.not_eq_false, Bool.not_eq_eq_eq_not, Bool.not_true, Bool.not_false, Int.not_lt, Int.not_le] at hc14
      refine c_skip ?_
      refine t_n ?_
      refine c_seq ?_
      refine c_block ?_
      refine c_seq ?_
      obtain ⟨q1, m1, c1, hrow1, hc0_1, hc1_1, hS1⟩ := ha.brAt i (by omega)
      have hmem := mem_getD (l := l) (k := i) (by omega)
      have ez : ((i : Int) - 1).toNat = i - 1 := by omega
      refine r_plain ?_
      refine p1 (x_move (by conv => lhs; whnf)) ?_
      refine p1 (x_ixs u30 sz81 rfl rfl ((ha.ext hX).adr kBrA_pos (by omega)) (by omega) (by omega)) ?_
      refine p1 (x_loadN ua81 rfl (by exact sz81) (hX.range hrow1)) ?_
      have hXs6 := hX.size
      refine o_alloc zr81 ?_
      intro w3 g6 hN6
      have hE3 := hN6.ext
      have hX := hX.ext hE3
      have hT := hT.ext hE3
      have hTb := hTb.ext hE3
      have hB6 := hN6.blk
      refine p1 (x_assign (by conv => lhs; whnf)) ?_
      refine o_storeAll rfl (by conv => lhs; whnf) (by simp [Value.oneCell']) (by exact sz81) hB6 (by rfl) ?_
      intro w4 hP4
      have hX := hX.put hP4 (by rw [hN6.g_eq]; exact hXs6)
      have hT := hT.mod (hP4.mod 0 (Nat.zero_le _)) (Nat.zero_le _) (by decide)
      have hTb := hTb.mod (hP4.mod 0 (Nat.zero_le _)) (by decide)
      have hB6 := hP4.blk
      refine r_nil ?_
      refine t_n ?_
      refine c_seq ?_
      refine c_seq ?_
      refine r_held (fun w1 w2 => Ext w1 w2) mixed ?_
      intro w5 hE5
      have hX := hX.ext hE5
      have hT := hT.ext hE5
      have hTb := hTb.ext hE5
      have hB6 := hB6.ext hE5
      have hSr7 : (fun w1 w2 => Ext w1 w2) w5 w5 := Ext.refl w5
      refine h_take 0 rfl (by kernel_rfl) (by kernel_rfl) (by kernel_rfl) hSr7 (fun wS hSS => by (have hX := hX.ext hSS; have hT := hT.ext hSS; have hTb := hTb.ext hSS; have hB6 := hB6.ext hSS; exact (x_fieldAddr fo81_0 sz9 rfl))) ?_
      refine h_take 1 rfl (by kernel_rfl) (by kernel_rfl) (by kernel_rfl) hSr7 (fun wS hSS => by (have hX := hX.ext hSS; have hT := hT.ext hSS; have hTb := hTb.ext hSS; have hB6 := hB6.ext hSS; exact (x_load1 un9 rfl (hB6.cell (rfl))))) ?_
      refine h_one 2 _ rfl (by kernel_rfl) (hop_of_list (fun Q2 hQ2 => ?_))
      refine o_call Try.func31 fn31 fb31 (hashes_Name (l.getD i default).1 _ (hkk _ hmem)) rfl ?_
      rintro v6 w6 ⟨rfl, hE6⟩
      have hX := hX.ext hE6
      have hT := hT.ext hE6
      have hTb := hTb.ext hE6
      have hB6 := hB6.ext hE6
      have hSr7 := hSr7.ext hE6
      refine hop_end hQ2 ⟨hSr7, ?_⟩
      refine h_take 3 rfl (by kernel_rfl) (by kernel_rfl) (by kernel_rfl) hSr7 (fun wS hSS => by ( exact (x_not rfl))) ?_
      refine h_takeb 4 rfl (by kernel_rfl) (by kernel_rfl) (by kernel_rfl) hSr7 (fun wS hSS => by ( exact (x_move (by conv => lhs; whnf)))) (fun hb7_4 => ?_) (fun hb7_4 => ?_)
      · try simp only [decide_eq_true_eq, decide_eq_false_iff_not, Bool.not_eq_true, Bool.not_eq_false, Bool.not_eq_eq_eq_not, Bool.not_true, Bool.not_false, Int.not_lt, Int.not_le] at hb7_4
        refine h_skip 5 22 rfl (by first | exact .inl rfl | exact .inr rfl) rfl (by kernel_rfl) (by kernel_rfl) (by kernel_rfl) hSr7 ?_
        refine h_skip 6 22 rfl (by first | exact .inl rfl | exact .inr rfl) rfl (by kernel_rfl) (by kernel_rfl) (by kernel_rfl) hSr7 ?_
        refine h_skip 7 22 rfl (by first | exact .inl rfl | exact .inr rfl) rfl (by kernel_rfl) (by kernel_rfl) (by kernel_rfl) hSr7 ?_
        refine h_skip 8 22 rfl (by first | exact .inl rfl | exact .inr rfl) rfl (by kernel_rfl) (by kernel_rfl) (by kernel_rfl) hSr7 ?_
        refine h_take 9 rfl (by kernel_rfl) (by kernel_rfl) (by kernel_rfl) hSr7 (fun wS hSS => by ( exact (x_pick_t rfl (by conv => lhs; whnf)))) ?_
        refine h_take 10 rfl (by kernel_rfl) (by kernel_rfl) (by kernel_rfl) hSr7 (fun wS hSS => by ( exact (x_move (by conv => lhs; whnf)))) ?_
        refine h_skip 11 28 rfl (by first | exact .inl rfl | exact .inr rfl) rfl (by kernel_rfl) (by kernel_rfl) (by kernel_rfl) hSr7 ?_
        refine h_skip 12 28 rfl (by first | exact .inl rfl | exact .inr rfl) rfl (by kernel_rfl) (by kernel_rfl) (by kernel_rfl) hSr7 ?_
        refine h_skip 13 28 rfl (by first | exact .inl rfl | exact .inr rfl) rfl (by kernel_rfl) (by kernel_rfl) (by kernel_rfl) hSr7 ?_
        refine h_skip 14 31 rfl (by first | exact .inl rfl | exact .inr rfl) rfl (by kernel_rfl) (by kernel_rfl) (by kernel_rfl) hSr7 ?_
        refine h_skip 15 31 rfl (by first | exact .inl rfl | exact .inr rfl) rfl (by kernel_rfl) (by kernel_rfl) (by kernel_rfl) hSr7 ?_
        refine h_skip 16 31 rfl (by first | exact .inl rfl | exact .inr rfl) rfl (by kernel_rfl) (by kernel_rfl) (by kernel_rfl) hSr7 ?_
        refine h_skip 17 31 rfl (by first | exact .inl rfl | exact .inr rfl) rfl (by kernel_rfl) (by kernel_rfl) (by kernel_rfl) hSr7 ?_
        refine h_skip 18 31 rfl (by first | exact .inl rfl | exact .inr rfl) rfl (by kernel_rfl) (by kernel_rfl) (by kernel_rfl) hSr7 ?_
        refine h_skip 19 31 rfl (by first | exact .inl rfl | exact .inr rfl) rfl (by kernel_rfl) (by kernel_rfl) (by kernel_rfl) hSr7 ?_
        refine h_skip 20 31 rfl (by first | exact .inl rfl | exact .inr rfl) rfl (by kernel_rfl) (by kernel_rfl) (by kernel_rfl) hSr7 ?_
        refine h_skip 21 31 rfl (by first | exact .inl rfl | exact .inr rfl) rfl (by kernel_rfl) (by kernel_rfl) (by kernel_rfl) hSr7 ?_
        refine h_skip 22 31 rfl (by first | exact .inl rfl | exact .inr rfl) rfl (by kernel_rfl) (by kernel_rfl) (by kernel_rfl) hSr7 ?_
        refine h_skip 23 28 rfl (by first | exact .inl rfl | exact .inr rfl) rfl (by kernel_rfl) (by kernel_rfl) (by kernel_rfl) hSr7 ?_
        refine h_take 24 rfl (by kernel_rfl) (by kernel_rfl) (by kernel_rfl) hSr7 (fun wS hSS => by ( exact (x_pick_t rfl (by conv => lhs; whnf)))) ?_
        refine h_done (by kernel_rfl) ?_
        refine t_n ?_
        refine c_t rfl ?_
        have hno : ¬ okL l := by
          intro h
          have h1 := (h.2.2 _ (mem_getD (k := i) (by omega))).1
          have h2 := (h.2.2 _ (mem_getD (k := i) (by omega))).2
          first | (rw [hb7_4] at h1; exact absurd h1 (by decide)) | (rw [hb7_10] at h2; exact absurd h2 (by decide)) | exact not_rise_at (k := i) (by omega) (by omega) (by rw [← ez]; simpa using hc42) h.2.1
        refine c_seq ?_
        refine r_plain ?_
        refine p1 (x_assign (by conv => lhs; whnf)) ?_
        refine p1 (x_assign (by conv => lhs; whnf)) ?_
        refine r_nil ?_
        refine t_n ?_
        refine c_ret ?_
        refine t_r ?_
        refine b_r ?_
        refine t_r ?_
        refine t_r ?_
        refine b_r ?_
        refine t_r ?_
        refine end2 rfl (by conv => lhs; whnf) (by conv => lhs; whnf) ?_
        first | exact ⟨.inr ⟨hno, rfl⟩, hX⟩ | exact ⟨.inl ⟨okL_of hT, _, _, rfl, hT⟩, hX⟩
      · try simp only [decide_eq_true_eq, decide_eq_false_iff_not, Bool.not_eq_true, Bool.not_eq_false, Bool.not_eq_eq_eq_not, Bool.not_true, Bool.not_false, Int.not_lt, Int.not_le] at hb7_4
        refine h_takeg 5 22 rfl rfl rfl (by kernel_rfl) (by kernel_rfl) (by kernel_rfl) hSr7 (fun wS hSS => by ( exact (x_fieldAddr fo81_1 sz31 rfl))) ?_
        refine h_one 6 _ rfl (by kernel_rfl) (hop_of_list (fun Q6 hQ6 => ?_))
        refine g1 22 rfl rfl (x_load1 un31 rfl (hB6.cell (rfl))) ?_
        refine hop_end hQ6 ⟨hSr7, ?_⟩
        refine h_one 7 _ rfl (by kernel_rfl) (hop_of_list (fun Q7 hQ7 => ?_))
        refine g_drop 22 rfl rfl ?_
        refine o_call Try.func102 fn102 fb102 (branch_may (l.getD i default).2 _ _ _ _ _ (hS1.ext hX)) rfl ?_
        rintro v7 w7 ⟨rfl, hE7⟩
        have hX := hX.ext hE7
        have hT := hT.ext hE7
        have hTb := hTb.ext hE7
        have hB6 := hB6.ext hE7
        have hSr7 := hSr7.ext hE7
        refine hop_end hQ7 ⟨hSr7, ?_⟩
        refine h_takeg 8 22 rfl rfl rfl (by kernel_rfl) (by kernel_rfl) (by kernel_rfl) hSr7 (fun wS hSS => by ( exact (x_not rfl))) ?_
        refine h_take 9 rfl (by kernel_rfl) (by kernel_rfl) (by kernel_rfl) hSr7 (fun wS hSS => by ( exact (x_pick_f rfl (by conv => lhs; whnf)))) ?_
        refine h_takeb 10 rfl (by kernel_rfl) (by kernel_rfl) (by kernel_rfl) hSr7 (fun wS hSS => by ( exact (x_move (by conv => lhs; whnf)))) (fun hb7_10 => ?_) (fun hb7_10 => ?_)
        · try simp only [decide_eq_true_eq, decide_eq_false_iff_not, Bool.not_eq_true, Bool.not_eq_false, Bool.not_eq_eq_eq_not, Bool.not_true, Bool.not_false, Int.not_lt, Int.not_le] at hb7_10
          refine h_skip 11 28 rfl (by first | exact .inl rfl | exact .inr rfl) rfl (by kernel_rfl) (by kernel_rfl) (by kernel_rfl) hSr7 ?_
          refine h_skip 12 28 rfl (by first | exact .inl rfl | exact .inr rfl) rfl (by kernel_rfl) (by kernel_rfl) (by kernel_rfl) hSr7 ?_
          refine h_skip 13 28 rfl (by first | exact .inl rfl | exact .inr rfl) rfl (by kernel_rfl) (by kernel_rfl) (by kernel_rfl) hSr7 ?_
          refine h_skip 14 31 rfl (by first | exact .inl rfl | exact .inr rfl) rfl (by kernel_rfl) (by kernel_rfl) (by kernel_rfl) hSr7 ?_
          refine h_skip 15 31 rfl (by first | exact .inl rfl | exact .inr rfl) rfl (by kernel_rfl) (by kernel_rfl) (by kernel_rfl) hSr7 ?_
          refine h_skip 16 31 rfl (by first | exact .inl rfl | exact .inr rfl) rfl (by kernel_rfl) (by kernel_rfl) (by kernel_rfl) hSr7 ?_
          refine h_skip 17 31 rfl (by first | exact .inl rfl | exact .inr rfl) rfl (by kernel_rfl) (by kernel_rfl) (by kernel_rfl) hSr7 ?_
          refine h_skip 18 31 rfl (by first | exact .inl rfl | exact .inr rfl) rfl (by kernel_rfl) (by kernel_rfl) (by kernel_rfl) hSr7 ?_
          refine h_skip 19 31 rfl (by first | exact .inl rfl | exact .inr rfl) rfl (by kernel_rfl) (by kernel_rfl) (by kernel_rfl) hSr7 ?_
          refine h_skip 20 31 rfl (by first | exact .inl rfl | exact .inr rfl) rfl (by kernel_rfl) (by kernel_rfl) (by kernel_rfl) hSr7 ?_
          refine h_skip 21 31 rfl (by first | exact .inl rfl | exact .inr rfl) rfl (by kernel_rfl) (by kernel_rfl) (by kernel_rfl) hSr7 ?_
          refine h_skip 22 31 rfl (by first | exact .inl rfl | exact .inr rfl) rfl (by kernel_rfl) (by kernel_rfl) (by kernel_rfl) hSr7 ?_
          refine h_skip 23 28 rfl (by first | exact .inl rfl | exact .inr rfl) rfl (by kernel_rfl) (by kernel_rfl) (by kernel_rfl) hSr7 ?_
          refine h_take 24 rfl (by kernel_rfl) (by kernel_rfl) (by kernel_rfl) hSr7 (fun wS hSS => by ( exact (x_pick_t rfl (by conv => lhs; whnf)))) ?_
          refine h_done (by kernel_rfl) ?_
          refine t_n ?_
          refine c_t rfl ?_
          have hno : ¬ okL l := by
            intro h
            have h1 := (h.2.2 _ (mem_getD (k := i) (by omega))).1
            have h2 := (h.2.2 _ (mem_getD (k := i) (by omega))).2
            first | (rw [hb7_4] at h1; exact absurd h1 (by decide)) | (rw [hb7_10] at h2; exact absurd h2 (by decide)) | exact not_rise_at (k := i) (by omega) (by omega) (by rw [← ez]; simpa using hc42) h.2.1
          refine c_seq ?_
          refine r_plain ?_
          refine p1 (x_assign (by conv => lhs; whnf)) ?_
          refine p1 (x_assign (by conv => lhs; whnf)) ?_
          refine r_nil ?_
          refine t_n ?_
          refine c_ret ?_
          refine t_r ?_
          refine b_r ?_
          refine t_r ?_
          refine t_r ?_
          refine b_r ?_
          refine t_r ?_
          refine end2 rfl (by conv => lhs; whnf) (by conv => lhs; whnf) ?_
          first | exact ⟨.inr ⟨hno, rfl⟩, hX⟩ | exact ⟨.inl ⟨okL_of hT, _, _, rfl, hT⟩, hX⟩
        · try simp only [decide_eq_true_eq, decide_eq_false_iff_not, Bool.not_eq_true, Bool.not_eq_false, Bool.not_eq_eq_eq_not, Bool.not_true, Bool.not_false, Int.not_lt, Int.not_le] at hb7_10
          refine h_takeg 11 28 rfl rfl rfl (by kernel_rfl) (by kernel_rfl) (by kernel_rfl) hSr7 (fun wS hSS => by ( exact (x_move (by conv => lhs; whnf)))) ?_
          refine h_takeg 12 28 rfl rfl rfl (by kernel_rfl) (by kernel_rfl) (by kernel_rfl) hSr7 (fun wS hSS => by ( exact (x_gtr rfl rfl))) ?_
          refine h_takegb 13 28 rfl rfl rfl (by kernel_rfl) (by kernel_rfl) (by kernel_rfl) hSr7 (fun wS hSS => by ( exact (x_move (by conv => lhs; whnf)))) (fun hb7_13 => ?_) (fun hb7_13 => ?_)
          · try simp only [decide_eq_true_eq, decide_eq_false_iff_not, Bool.not_eq_true, Bool.not_eq_false, Bool.not_eq_eq_eq_not, Bool.not_true, Bool.not_false, Int.not_lt, Int.not_le] at hb7_13
            obtain ⟨q2, m2, c2, hrow2, hc0_2, hc1_2, hS2⟩ := ha.brAt ((i : Int) - 1).toNat (by omega)
            refine h_takeg 14 31 rfl rfl rfl (by kernel_rfl) (by kernel_rfl) (by kernel_rfl) hSr7 (fun wS hSS => by ( exact (x_move (by conv => lhs; whnf)))) ?_
            refine h_takeg 15 31 rfl rfl rfl (by kernel_rfl) (by kernel_rfl) (by kernel_rfl) hSr7 (fun wS hSS => by ( exact (x_move (by conv => lhs; whnf)))) ?_
            refine h_takeg 16 31 rfl rfl rfl (by kernel_rfl) (by kernel_rfl) (by kernel_rfl) hSr7 (fun wS hSS => by ( exact (x_sub rfl rfl (fits_i64 (by omega) (by omega))))) ?_
            refine h_takeg 17 31 rfl rfl rfl (by kernel_rfl) (by kernel_rfl) (by kernel_rfl) hSr7 (fun wS hSS => by ( exact (x_ixs u30 sz81 rfl rfl (ha.adr kBrA_pos (by omega)) (by omega) (by omega)))) ?_
            refine h_takeg 18 31 rfl rfl rfl (by kernel_rfl) (by kernel_rfl) (by kernel_rfl) hSr7 (fun wS hSS => by ( exact (x_fieldAddr fo81_0 sz9 rfl))) ?_
            refine h_takeg 20 31 rfl rfl rfl (by kernel_rfl) (by kernel_rfl) (by kernel_rfl) hSr7 (fun wS hSS => by ( exact (x_fieldAddr fo81_0 sz9 rfl))) ?_
            refine h_two 19 21 _ _ rfl rfl (by kernel_rfl) (hop_of_list (fun Q19 hQ19 => ?_)) (hop_of_list (fun Q21 hQ21 => ?_))
            · skip
              refine g1 31 rfl rfl (x_load1 un9 rfl (hX.cell hc0_2)) ?_
              refine hop_end hQ19 ⟨hSr7, ?_⟩
              refine h_one 21 _ rfl (by kernel_rfl) (hop_of_list (fun Q21 hQ21 => ?_))
              refine g1 31 rfl rfl (x_load1 un9 rfl (hB6.cell (rfl))) ?_
              refine hop_end hQ21 ⟨hSr7, ?_⟩
              refine h_takeg 22 31 rfl rfl rfl (by kernel_rfl) (by kernel_rfl) (by kernel_rfl) hSr7 (fun wS hSS => by ( exact (x_geq_str rfl rfl))) ?_
              refine h_takeg 23 28 rfl rfl rfl (by kernel_rfl) (by kernel_rfl) (by kernel_rfl) hSr7 (fun wS hSS => by ( exact (x_pick_t rfl (by conv => lhs; whnf)))) ?_
              refine h_take 24 rfl (by kernel_rfl) (by kernel_rfl) (by kernel_rfl) hSr7 (fun wS hSS => by ( exact (x_pick_f rfl (by conv => lhs; whnf)))) ?_
              refine h_done (by kernel_rfl) ?_
              refine t_n ?_
              first | refine c_dec rfl (fun hc42 => ?_) (fun hc42 => ?_) | refine c_if rfl (fun hc42 => ?_) (fun hc42 => ?_)
              · try simp only [decide_eq_true_eq, decide_eq_false_iff_not, Bool.not_eq_true, Bool.not_eq_false, Bool.not_eq_eq_eq_not, Bool.not_true, Bool.not_false, Int.not_lt, Int.not_le] at hc42
                have hno : ¬ okL l := by
                  intro h
                  have h1 := (h.2.2 _ (mem_getD (k := i) (by omega))).1
                  have h2 := (h.2.2 _ (mem_getD (k := i) (by omega))).2
                  first | (rw [hb7_4] at h1; exact absurd h1 (by decide)) | (rw [hb7_10] at h2; exact absurd h2 (by decide)) | exact not_rise_at (k := i) (by omega) (by omega) (by rw [← ez]; simpa using hc42) h.2.1
                refine c_seq ?_
                refine r_plain ?_
                refine p1 (x_assign (by conv => lhs; whnf)) ?_
                refine p1 (x_assign (by conv => lhs; whnf)) ?_
                refine r_nil ?_
                refine t_n ?_
                refine c_ret ?_
                refine t_r ?_
                refine b_r ?_
                refine t_r ?_
                refine t_r ?_
                refine b_r ?_
                refine t_r ?_
                refine end2 rfl (by conv => lhs; whnf) (by conv => lhs; whnf) ?_
                first | exact ⟨.inr ⟨hno, rfl⟩, hX⟩ | exact ⟨.inl ⟨okL_of hT, _, _, rfl, hT⟩, hX⟩
              · try simp only [decide_eq_true_eq, decide_eq_false_iff_not, Bool.not_eq_true, Bool.not_eq_false, Bool.not_eq_eq_eq_not, Bool.not_true, Bool.not_false, Int.not_lt, Int.not_le] at hc42
                have hord : i = 0 ∨ lssB (l.getD (i - 1) default).1 (l.getD i default).1 = true := by first | (left; omega) | (right; rw [← ez]; simpa using hc42)
                have hrn := riseN_next hT.rise (by omega) hord
                have hon := ok_take_succ hT.ok (by omega) hb7_4 hb7_10
                refine c_skip ?_
                refine t_n ?_
                refine r_held (fun w1 w2 => Mod w.heap.size tMap w1 w2) mixed ?_
                intro w8 hE8
                have hX := hX.ext hE8
                have hT := hT.ext hE8
                have hTb := hTb.ext hE8
                have hB6 := hB6.ext hE8
                have hSr9 : (fun w1 w2 => Mod w.heap.size tMap w1 w2) w8 w8 := Mod.refl _ _ _
                refine h_take 0 rfl (by kernel_rfl) (by kernel_rfl) (by kernel_rfl) hSr9 (fun wS hSS => by ( exact (x_move (by conv => lhs; whnf)))) ?_
                refine h_take 1 rfl (by kernel_rfl) (by kernel_rfl) (by kernel_rfl) hSr9 (fun wS hSS => by ( exact (x_nilCheck rfl))) ?_
                refine h_take 2 rfl (by kernel_rfl) (by kernel_rfl) (by kernel_rfl) hSr9 (fun wS hSS => by ( exact (x_fieldAddr fo124_0 sz122 rfl))) ?_
                refine h_take 3 rfl (by kernel_rfl) (by kernel_rfl) (by kernel_rfl) hSr9 (fun wS hSS => by (have hTb := hTb.mod hSS (by decide); have hB6 := hB6.mod hSS (by decide); exact (x_load1 un122 rfl (hTb.cell (rfl))))) ?_
                refine h_take 4 rfl (by kernel_rfl) (by kernel_rfl) (by kernel_rfl) hSr9 (fun wS hSS => by ( exact (x_fieldAddr fo81_0 sz9 rfl))) ?_
                refine h_take 5 rfl (by kernel_rfl) (by kernel_rfl) (by kernel_rfl) hSr9 (fun wS hSS => by (have hTb := hTb.mod hSS (by decide); have hB6 := hB6.mod hSS (by decide); exact (x_load1 un9 rfl (hB6.cell (rfl))))) ?_
                refine h_take 6 rfl (by kernel_rfl) (by kernel_rfl) (by kernel_rfl) hSr9 (fun wS hSS => by ( exact (x_fieldAddr fo81_1 sz31 rfl))) ?_
                refine h_take 7 rfl (by kernel_rfl) (by kernel_rfl) (by kernel_rfl) hSr9 (fun wS hSS => by (have hTb := hTb.mod hSS (by decide); have hB6 := hB6.mod hSS (by decide); exact (x_load1 un31 rfl (hB6.cell (rfl))))) ?_
                refine h_one 8 _ rfl (by kernel_rfl) (hop_of_list (fun Q8 hQ8 => ?_))
                have hXs := hX.size
                have hm16 := mayB_len hb7_10
                have hl1 := hS1.len
                refine o_call Try.func89 fn89 fb89 (slices_Clone_hash (l.getD i default).2 _ _ _ _ _ (hS1.ext hX) (by omega)) rfl ?_
                rintro v9 w9 ⟨⟨q6, c6, rfl, hO⟩, hE9⟩
                have hX := hX.ext hE9
                have hT := hT.ext hE9
                have hTb := hTb.ext hE9
                have hB6 := hB6.ext hE9
                have hSr9 := hSr9.ext hE9
                have hV : SlS hcs 35 (fun j => w.heap.size ≤ j) _ q6 m1 c6 (l.getD i default).2 := (SlS.ofHash hO).mono (fun j _ h => Nat.le_trans hXs h)
                have hM := hT.map
                have hr0 := hT.rise
                refine hop_end hQ8 ⟨hSr9, ?_⟩
                refine h_one 9 _ rfl (by kernel_rfl) (hop_of_list (fun Q9 hQ9 => ?_))
                refine o_update (a := (l.getD i default).1) (b := (l.getD i default).2) u122 (keyOk_str u9) rfl rfl (by conv => lhs; whnf) hM (⟨_, m1, _, rfl, hV⟩) (Nat.zero_le _) (by simp [vHs, tMap]) ?_
                intro w10 hM hM10
                have hX := hX.mod hM10 (Nat.le_refl _)
                have hTb := hTb.mod hM10 (by decide)
                have hB6 := hB6.mod hM10 (by decide)
                have hSr9 := hSr9.mod hM10 (by first | exact Nat.le_refl _ | exact trivial | omega)
                refine hop_end hQ9 ⟨hSr9, ?_⟩
                refine h_done (by kernel_rfl) ?_
                refine b_n ?_
                refine t_n ?_
                refine r_plain ?_
                refine p1 (x_add rfl rfl (fits_i64 (by omega) (by omega))) ?_
                refine p1 (x_move (by conv => lhs; whnf)) ?_
                refine r_nil ?_
                refine t_n (At.mk (i + 1) (by repeat (first | exact Agr.refl _ _ | exact Agr.hav _ _ _ | refine Agr.upd rfl ?_ | refine Agr.updL ?_ _ rfl | refine Agr.hav' rfl ?_)) ⟨rfl, trivial⟩ ?_)
                exact ⟨⟨hX, ⟨⟨hTb, hM.congr (fun z => by rw [br_take_succ (by omega)]; exact asc_snoc (by rw [← br_take_succ (by omega)]; exact hrn) z), hrn, by rw [List.length_take]; omega, hon⟩, hTb, by omega⟩⟩, by first | (dsimp only; omega) | ((show _ < _); omega)⟩
            · skip
              refine g1 31 rfl rfl (x_load1 un9 rfl (hB6.cell (rfl))) ?_
              refine hop_end hQ21 ⟨hSr7, ?_⟩
              refine h_one 19 _ rfl (by kernel_rfl) (hop_of_list (fun Q19 hQ19 => ?_))
              refine g1 31 rfl rfl (x_load1 un9 rfl (hX.cell hc0_2)) ?_
              refine hop_end hQ19 ⟨hSr7, ?_⟩
              refine h_takeg 22 31 rfl rfl rfl (by kernel_rfl) (by kernel_rfl) (by kernel_rfl) hSr7 (fun wS hSS => by ( exact (x_geq_str rfl rfl))) ?_
              refine h_takeg 23 28 rfl rfl rfl (by kernel_rfl) (by kernel_rfl) (by kernel_rfl) hSr7 (fun wS hSS => by ( exact (x_pick_t rfl (by conv => lhs; whnf)))) ?_
              refine h_take 24 rfl (by kernel_rfl) (by kernel_rfl) (by kernel_rfl) hSr7 (fun wS hSS => by ( exact (x_pick_f rfl (by conv => lhs; whnf)))) ?_
              refine h_done (by kernel_rfl) ?_
              refine t_n ?_
              first | refine c_dec rfl (fun hc42 => ?_) (fun hc42 => ?_) | refine c_if rfl (fun hc42 => ?_) (fun hc42 => ?_)
              · try simp only [decide_eq_true_eq, decide_eq_false_iff_not, Bool.not_eq_true, Bool.not_eq_false, Bool.not_eq_eq_eq_not, Bool.not_true, Bool.not_false, Int.not_lt, Int.not_le] at hc42
                have hno : ¬ okL l := by
                  intro h
                  have h1 := (h.2.2 _ (mem_getD (k := i) (by omega))).1
                  have h2 := (h.2.2 _ (mem_getD (k := i) (by omega))).2
                  first | (rw [hb7_4] at h1; exact absurd h1 (by decide)) | (rw [hb7_10] at h2; exact absurd h2 (by decide)) | exact not_rise_at (k := i) (by omega) (by omega) (by rw [← ez]; simpa using hc42) h.2.1
                refine c_seq ?_
                refine r_plain ?_
                refine p1 (x_assign (by conv => lhs; whnf)) ?_
                refine p1 (x_assign (by conv => lhs; whnf)) ?_
                refine r_nil ?_
                refine t_n ?_
                refine c_ret ?_
                refine t_r ?_
                refine b_r ?_
                refine t_r ?_
                refine t_r ?_
                refine b_r ?_
                refine t_r ?_
                refine end2 rfl (by conv => lhs; whnf) (by conv => lhs; whnf) ?_
                first | exact ⟨.inr ⟨hno, rfl⟩, hX⟩ | exact ⟨.inl ⟨okL_of hT, _, _, rfl, hT⟩, hX⟩
              · try simp only [decide_eq_true_eq, decide_eq_false_iff_not, Bool.not_eq_true, Bool.not_eq_false, Bool.not_eq_eq_eq_not, Bool.not_true, Bool.not_false, Int.not_lt, Int.not_le] at hc42
                have hord : i = 0 ∨ lssB (l.getD (i - 1) default).1 (l.getD i default).1 = true := by first | (left; omega) | (right; rw [← ez]; simpa using hc42)
                have hrn := riseN_next hT.rise (by omega) hord
                have hon := ok_take_succ hT.ok (by omega) hb7_4 hb7_10
                refine c_skip ?_
                refine t_n ?_
                refine r_held (fun w1 w2 => Mod w.heap.size tMap w1 w2) mixed ?_
                intro w11 hE11
                have hX := hX.ext hE11
                have hT := hT.ext hE11
                have hTb := hTb.ext hE11
                have hB6 := hB6.ext hE11
                have hSr9 : (fun w1 w2 => Mod w.heap.size tMap w1 w2) w11 w11 := Mod.refl _ _ _
                refine h_take 0 rfl (by kernel_rfl) (by kernel_rfl) (by kernel_rfl) hSr9 (fun wS hSS => by ( exact (x_move (by conv => lhs; whnf)))) ?_
                refine h_take 1 rfl (by kernel_rfl) (by kernel_rfl) (by kernel_rfl) hSr9 (fun wS hSS => by ( exact (x_nilCheck rfl))) ?_
                refine h_take 2 rfl (by kernel_rfl) (by kernel_rfl) (by kernel_rfl) hSr9 (fun wS hSS => by ( exact (x_fieldAddr fo124_0 sz122 rfl))) ?_
                refine h_take 3 rfl (by kernel_rfl) (by kernel_rfl) (by kernel_rfl) hSr9 (fun wS hSS => by (have hTb := hTb.mod hSS (by decide); have hB6 := hB6.mod hSS (by decide); exact (x_load1 un122 rfl (hTb.cell (rfl))))) ?_
                refine h_take 4 rfl (by kernel_rfl) (by kernel_rfl) (by kernel_rfl) hSr9 (fun wS hSS => by ( exact (x_fieldAddr fo81_0 sz9 rfl))) ?_
                refine h_take 5 rfl (by kernel_rfl) (by kernel_rfl) (by kernel_rfl) hSr9 (fun wS hSS => by (have hTb := hTb.mod hSS (by decide); have hB6 := hB6.mod hSS (by decide); exact (x_load1 un9 rfl (hB6.cell (rfl))))) ?_
                refine h_take 6 rfl (by kernel_rfl) (by kernel_rfl) (by kernel_rfl) hSr9 (fun wS hSS => by ( exact (x_fieldAddr fo81_1 sz31 rfl))) ?_
                refine h_take 7 rfl (by kernel_rfl) (by kernel_rfl) (by kernel_rfl) hSr9 (fun wS hSS => by (have hTb := hTb.mod hSS (by decide); have hB6 := hB6.mod hSS (by decide); exact (x_load1 un31 rfl (hB6.cell (rfl))))) ?_
                refine h_one 8 _ rfl (by kernel_rfl) (hop_of_list (fun Q8 hQ8 => ?_))
                have hXs := hX.size
                have hm16 := mayB_len hb7_10
                have hl1 := hS1.len
                refine o_call Try.func89 fn89 fb89 (slices_Clone_hash (l.getD i default).2 _ _ _ _ _ (hS1.ext hX) (by omega)) rfl ?_
                rintro v12 w12 ⟨⟨q6, c6, rfl, hO⟩, hE12⟩
                have hX := hX.ext hE12
                have hT := hT.ext hE12
                have hTb := hTb.ext hE12
                have hB6 := hB6.ext hE12
                have hSr9 := hSr9.ext hE12
                have hV : SlS hcs 35 (fun j => w.heap.size ≤ j) _ q6 m1 c6 (l.getD i default).2 := (SlS.ofHash hO).mono (fun j _ h => Nat.le_trans hXs h)
                have hM := hT.map
                have hr0 := hT.rise
                refine hop_end hQ8 ⟨hSr9, ?_⟩
                refine h_one 9 _ rfl (by kernel_rfl) (hop_of_list (fun Q9 hQ9 => ?_))
                refine o_update (a := (l.getD i default).1) (b := (l.getD i default).2) u122 (keyOk_str u9) rfl rfl (by conv => lhs; whnf) hM (⟨_, m1, _, rfl, hV⟩) (Nat.zero_le _) (by simp [vHs, tMap]) ?_
                intro w13 hM hM13
                have hX := hX.mod hM13 (Nat.le_refl _)
                have hTb := hTb.mod hM13 (by decide)
                have hB6 := hB6.mod hM13 (by decide)
                have hSr9 := hSr9.mod hM13 (by first | exact Nat.le_refl _ | exact trivial | omega)
                refine hop_end hQ9 ⟨hSr9, ?_⟩
                refine h_done (by kernel_rfl) ?_
                refine b_n ?_
                refine t_n ?_
                refine r_plain ?_
                refine p1 (x_add rfl rfl (fits_i64 (by omega) (by omega))) ?_
                refine p1 (x_move (by conv => lhs; whnf)) ?_
                refine r_nil ?_
                refine t_n (At.mk (i + 1) (by repeat (first | exact Agr.refl _ _ | exact Agr.hav _ _ _ | refine Agr.upd rfl ?_ | refine Agr.updL ?_ _ rfl | refine Agr.hav' rfl ?_)) ⟨rfl, trivial⟩ ?_)
                exact ⟨⟨hX, ⟨⟨hTb, hM.congr (fun z => by rw [br_take_succ (by omega)]; exact asc_snoc (by rw [← br_take_succ (by omega)]; exact hrn) z), hrn, by rw [List.length_take]; omega, hon⟩, hTb, by omega⟩⟩, by first | (dsimp only; omega) | ((show _ < _); omega)⟩
          · try simp only [decide_eq_true_eq, decide_eq_false_iff_not, Bool.not_eq_true, Bool.not_eq_false, Bool.not_eq_eq_eq_not, Bool.not_true, Bool.not_false, Int.not_lt, Int.not_le] at hb7_13
            refine h_skip 14 31 rfl (by first | exact .inl rfl | exact .inr rfl) rfl (by kernel_rfl) (by kernel_rfl) (by kernel_rfl) hSr7 ?_
            refine h_skip 15 31 rfl (by first | exact .inl rfl | exact .inr rfl) rfl (by kernel_rfl) (by kernel_rfl) (by kernel_rfl) hSr7 ?_
            refine h_skip 16 31 rfl (by first | exact .inl rfl | exact .inr rfl) rfl (by kernel_rfl) (by kernel_rfl) (by kernel_rfl) hSr7 ?_
            refine h_skip 17 31 rfl (by first | exact .inl rfl | exact .inr rfl) rfl (by kernel_rfl) (by kernel_rfl) (by kernel_rfl) hSr7 ?_
            refine h_skip 18 31 rfl (by first | exact .inl rfl | exact .inr rfl) rfl (by kernel_rfl) (by kernel_rfl) (by kernel_rfl) hSr7 ?_
            refine h_skip 19 31 rfl (by first | exact .inl rfl | exact .inr rfl) rfl (by kernel_rfl) (by kernel_rfl) (by kernel_rfl) hSr7 ?_
            refine h_skip 20 31 rfl (by first | exact .inl rfl | exact .inr rfl) rfl (by kernel_rfl) (by kernel_rfl) (by kernel_rfl) hSr7 ?_
            refine h_skip 21 31 rfl (by first | exact .inl rfl | exact .inr rfl) rfl (by kernel_rfl) (by kernel_rfl) (by kernel_rfl) hSr7 ?_
            refine h_skip 22 31 rfl (by first | exact .inl rfl | exact .inr rfl) rfl (by kernel_rfl) (by kernel_rfl) (by kernel_rfl) hSr7 ?_
            refine h_takeg 23 28 rfl rfl rfl (by kernel_rfl) (by kernel_rfl) (by kernel_rfl) hSr7 (fun wS hSS => by ( exact (x_pick_f rfl (by conv => lhs; whnf)))) ?_
            refine h_take 24 rfl (by kernel_rfl) (by kernel_rfl) (by kernel_rfl) hSr7 (fun wS hSS => by ( exact (x_pick_f rfl (by conv => lhs; whnf)))) ?_
            refine h_done (by kernel_rfl) ?_
            refine t_n ?_
            refine c_f rfl ?_
            have hord : i = 0 ∨ lssB (l.getD (i - 1) default).1 (l.getD i default).1 = true := by first | (left; omega) | (right; rw [← ez]; simpa using hc42)
            have hrn := riseN_next hT.rise (by omega) hord
            have hon := ok_take_succ hT.ok (by omega) hb7_4 hb7_10
            refine c_skip ?_
            refine t_n ?_
            refine r_held (fun w1 w2 => Mod w.heap.size tMap w1 w2) mixed ?_
            intro w14 hE14
            have hX := hX.ext hE14
            have hT := hT.ext hE14
            have hTb := hTb.ext hE14
            have hB6 := hB6.ext hE14
            have hSr9 : (fun w1 w2 => Mod w.heap.size tMap w1 w2) w14 w14 := Mod.refl _ _ _
            refine h_take 0 rfl (by kernel_rfl) (by kernel_rfl) (by kernel_rfl) hSr9 (fun wS hSS => by ( exact (x_move (by conv => lhs; whnf)))) ?_
            refine h_take 1 rfl (by kernel_rfl) (by kernel_rfl) (by kernel_rfl) hSr9 (fun wS hSS => by ( exact (x_nilCheck rfl))) ?_
            refine h_take 2 rfl (by kernel_rfl) (by kernel_rfl) (by kernel_rfl) hSr9 (fun wS hSS => by ( exact (x_fieldAddr fo124_0 sz122 rfl))) ?_
            refine h_take 3 rfl (by kernel_rfl) (by kernel_rfl) (by kernel_rfl) hSr9 (fun wS hSS => by (have hTb := hTb.mod hSS (by decide); have hB6 := hB6.mod hSS (by decide); exact (x_load1 un122 rfl (hTb.cell (rfl))))) ?_
            refine h_take 4 rfl (by kernel_rfl) (by kernel_rfl) (by kernel_rfl) hSr9 (fun wS hSS => by ( exact (x_fieldAddr fo81_0 sz9 rfl))) ?_
            refine h_take 5 rfl (by kernel_rfl) (by kernel_rfl) (by kernel_rfl) hSr9 (fun wS hSS => by (have hTb := hTb.mod hSS (by decide); have hB6 := hB6.mod hSS (by decide); exact (x_load1 un9 rfl (hB6.cell (rfl))))) ?_
            refine h_take 6 rfl (by kernel_rfl) (by kernel_rfl) (by kernel_rfl) hSr9 (fun wS hSS => by ( exact (x_fieldAddr fo81_1 sz31 rfl))) ?_
            refine h_take 7 rfl (by kernel_rfl) (by kernel_rfl) (by kernel_rfl) hSr9 (fun wS hSS => by (have hTb := hTb.mod hSS (by decide); have hB6 := hB6.mod hSS (by decide); exact (x_load1 un31 rfl (hB6.cell (rfl))))) ?_
            refine h_one 8 _ rfl (by kernel_rfl) (hop_of_list (fun Q8 hQ8 => ?_))
            have hXs := hX.size
            have hm16 := mayB_len hb7_10
            have hl1 := hS1.len
            refine o_call Try.func89 fn89 fb89 (slices_Clone_hash (l.getD i default).2 _ _ _ _ _ (hS1.ext hX) (by omega)) rfl ?_
            rintro v15 w15 ⟨⟨q6, c6, rfl, hO⟩, hE15⟩
            have hX := hX.ext hE15
            have hT := hT.ext hE15
            have hTb := hTb.ext hE15
            have hB6 := hB6.ext hE15
            have hSr9 := hSr9.ext hE15
            have hV : SlS hcs 35 (fun j => w.heap.size ≤ j) _ q6 m1 c6 (l.getD i default).2 := (SlS.ofHash hO).mono (fun j _ h => Nat.le_trans hXs h)
            have hM := hT.map
            have hr0 := hT.rise
            refine hop_end hQ8 ⟨hSr9, ?_⟩
            refine h_one 9 _ rfl (by kernel_rfl) (hop_of_list (fun Q9 hQ9 => ?_))
            refine o_update (a := (l.getD i default).1) (b := (l.getD i default).2) u122 (keyOk_str u9) rfl rfl (by conv => lhs; whnf) hM (⟨_, m1, _, rfl, hV⟩) (Nat.zero_le _) (by simp [vHs, tMap]) ?_
            intro w16 hM hM16
            have hX := hX.mod hM16 (Nat.le_refl _)
            have hTb := hTb.mod hM16 (by decide)
            have hB6 := hB6.mod hM16 (by decide)
            have hSr9 := hSr9.mod hM16 (by first | exact Nat.le_refl _ | exact trivial | omega)
            refine hop_end hQ9 ⟨hSr9, ?_⟩
            refine h_done (by kernel_rfl) ?_
            refine b_n ?_
            refine t_n ?_
            refine r_plain ?_
            refine p1 (x_add rfl rfl (fits_i64 (by omega) (by omega))) ?_
            refine p1 (x_move (by conv => lhs; whnf)) ?_
            refine r_nil ?_
            refine t_n (At.mk (i + 1) (by repeat (first | exact Agr.refl _ _ | exact Agr.hav _ _ _ | refine Agr.upd rfl ?_ | refine Agr.updL ?_ _ rfl | refine Agr.hav' rfl ?_)) ⟨rfl, trivial⟩ ?_)
            exact ⟨⟨hX, ⟨⟨hTb, hM.congr (fun z => by rw [br_take_succ (by omega)]; exact asc_snoc (by rw [← br_take_succ (by omega)]; exact hrn) z), hrn, by rw [List.length_take]; omega, hon⟩, hTb, by omega⟩⟩, by first | (dsimp only; omega) | ((show _ < _); omega)⟩
    · try simp only [decide_eq_true_eq, decide_eq_false_iff_not, Bool.not_eq_true, Bool.not_eq_false, Bool.not_eq_eq_eq_not, Bool.not_true, Bool.not_false, Int.not_lt, Int.not_le] at hc14
      have hin : i = n := by omega
      rw [hin, List.take_of_length_le (by omega)] at hT
      refine c_exit ?_
      refine t_e ?_
      refine t_e ?_
      refine b_hit ?_
      refine t_n ?_
      refine c_seq ?_
      refine r_plain ?_
      refine p1 (x_move (by conv => lhs; whnf)) ?_
      refine p1 (x_assign (by conv => lhs; whnf)) ?_
      refine p1 (x_assign (by conv => lhs; whnf)) ?_
      refine r_nil ?_
      refine t_n ?_
      refine c_ret ?_
      refine end2 rfl (by conv => lhs; whnf) (by conv => lhs; whnf) ?_
      first | exact ⟨.inr ⟨hno, rfl⟩, hX⟩ | exact ⟨.inl ⟨okL_of hT, _, _, rfl, hT⟩, hX⟩
theorem ref15_Load (l : List Br) (B : Nat) (p : Option Addr) (n c : Nat) (w : World) (ha : Sl kBrA 81 B w p n c l) (hkk : ∀ x ∈ l, x.1.size ≤ 9223372036854775807) :
    Ret Try.prog 69 [.slice p n c] w (fun v w' => ((okL l ∧ ∃ q m c', v = .tuple #[.agg #[.slice q m c'], .int .i64 0] ∧ Own (kBr (fun j => w.heap.size ≤ j)) 81 0 w.heap.size w' q m c' l) ∨ (¬ okL l ∧ v = .tuple #[.agg #[.slice none 0 0], .int .i64 4])) ∧ Ext w w') := by
  have hX := Ext.refl w
  refine enter 67 _ Try.func69 rfl rfl (Nat.le_of_ble_eq_true rfl) ?_
  refine c_seq ?_
  refine r_plain ?_
  have hXs2 := hX.size
  refine o_alloc zr70 ?_
  intro w1 g2 hN2
  have hE1 := hN2.ext
  have hX := hX.ext hE1
  have hB2 := hN2.blk
  refine p1 (x_assign (by conv => lhs; whnf)) ?_
  refine r_nil ?_
  refine t_n ?_
  refine c_seq ?_
  refine c_seq ?_
  refine r_plain ?_
  refine p1 (x_move (by conv => lhs; whnf)) ?_
  refine p1 (x_len_slice u30 rfl) ?_
  refine p1 (x_gtr rfl rfl) ?_
  refine r_nil ?_
  refine t_n ?_
  first | refine c_dec rfl (fun hc8 => ?_) (fun hc8 => ?_) | refine c_if rfl (fun hc8 => ?_) (fun hc8 => ?_)
  · try simp only [decide_eq_true_eq, decide_eq_false_iff_not, Bool.not_eq_true, Bool.not_eq_false, Bool.not_eq_eq_eq_not, Bool.not_true, Bool.not_false, Int.not_lt, Int.not_le] at hc8
    have hno : ¬ okL l := fun h => by have := h.1; have := ha.len; omega
    refine c_seq ?_
    refine r_plain ?_
    refine p1 (x_build0 pl70 rfl) ?_
    refine o_storeAll rfl (by conv => lhs; whnf) (by simp [Value.oneCell']) (by exact sz70) hB2 (by rfl) ?_
    intro w2 hP2
    have hX := hX.put hP2 (by rw [hN2.g_eq]; exact hXs2)
    have hB2 := hP2.blk
    refine p1 (x_assign (by conv => lhs; whnf)) ?_
    refine r_nil ?_
    refine t_n ?_
    refine c_ret ?_
    refine t_r ?_
    refine end2c rfl ua70 rfl (by conv => lhs; whnf) hB2 sz70 ?_
    first | exact ⟨.inr ⟨hno, rfl⟩, hX⟩ | exact ⟨.inl ⟨⟨by omega, hri, hok⟩, _, _, _, rfl, hO⟩, hX⟩
  · try simp only [decide_eq_true_eq, decide_eq_false_iff_not, Bool.not_eq_true, Bool.not_eq_false, Bool.not_eq_eq_eq_not, Bool.not_true, Bool.not_false, Int.not_lt, Int.not_le] at hc8
    refine c_skip ?_
    refine t_n ?_
    refine c_seq ?_
    refine r_plain ?_
    have hXs4 := hX.size
    have hB2lt := hB2.lt
    refine o_alloc zr70 ?_
    intro w3 g4 hN4
    have hE3 := hN4.ext
    have hX := hX.ext hE3
    have hB2 := hB2.ext hE3
    have hB4 := hN4.blk
    refine r_nil ?_
    refine t_n ?_
    refine c_seq ?_
    refine c_seq ?_
    refine r_plain ?_
    refine p1 (x_assign (by conv => lhs; whnf)) ?_
    refine r_nil ?_
    refine t_n ?_
    refine c_block ?_
    have hg4 := hN4.g_eq
    have hlen := ha.len
    have hcap := ha.cap
    have hfit := ha.fit
    have hO := Own.nil (kBr (fun j => w.heap.size ≤ j)) 81 0 w.heap.size
    refine c_loop (ι := Nat × Option Addr × Nat × Nat) [3, 5, 10, 11, 12, 13, 14, 15, 16, 17, 18, 19, 20, 21, 22, 23, 24, 25, 26, 27, 28, 29, 30, 31, 32, 33, 34, 35, 36, 37, 38, 39, 40, 41, 42, 43, 44, 45, 46, 47, 48, 49, 50, 51, 52, 53, 54, 55, 56, 57, 58, 59, 60, 61, 62, 63, 64, 65] (fun (i, q, m, c1) => [(5, .int .i64 (i : Int))]) (fun (i, q, m, c1) w' => Ext w w' ∧ (Own (kBr (fun j => w.heap.size ≤ j)) 81 0 w.heap.size w' q m c1 (l.take i) ∧ Blk w' g4 #[.slice q m c1] 70 ∧ Blk w' g2 (Value.agg #[.slice none 0 0]).cells 70 ∧ RiseN (l.take i) ∧ (∀ x ∈ l.take i, isName x.1 = true ∧ mayB x.2 = true) ∧ i ≤ n)) (fun (i, q, m, c1) => n - i) ((0, none, 0, 0)) ⟨rfl, trivial⟩ ⟨hX, ⟨hO _, hB4, hB2, .nil, by simp, by omega⟩⟩ ?_
    rintro ⟨i, q, m, c1⟩ GL0 w4 ⟨hE4, hO, hB4, hB2, hri, hok, hi⟩
    have hX := hE4
    refine c_seq ?_
    refine c_seq ?_
    refine r_plain ?_
    refine p1 (x_move (by conv => lhs; whnf)) ?_
    refine p1 (x_move (by conv => lhs; whnf)) ?_
    refine p1 (x_len_slice u30 rfl) ?_
    refine p1 (x_lss rfl rfl) ?_
    refine r_nil ?_
    refine t_n ?_
    first | refine c_dec rfl (fun hc13 => ?_) (fun hc13 => ?_) | refine c_if rfl (fun hc13 => ?_) (fun hc13 => ?_)
    · try simp only [decide_eq_true_eq, decide_eq_false_iff_not, Bool.not_eq_true, Bool.not_eq_false, Bool.not_eq_eq_eq_not, Bool.not_true, Bool.not_false, Int.not_lt, Int.not_le] at hc13
      refine c_skip ?_
      refine t_n ?_
      refine c_seq ?_
      refine c_block ?_
      refine c_seq ?_
      refine c_seq ?_
      obtain ⟨q1, m1, c1, hrow1, hc0_1, hc1_1, hS1⟩ := ha.brAt i (by omega)
      have hmem := mem_getD (l := l) (k := i) (by omega)
      have ez : ((i : Int) - 1).toNat = i - 1 := by omega
      refine r_held (fun w1 w2 => Ext w1 w2) mixed ?_
      intro w5 hE5
      have hX := hX.ext hE5
      have hO := hO.ext hE5
      have hB4 := hB4.ext hE5
      have hB2 := hB2.ext hE5
      have hSr7 : (fun w1 w2 => Ext w1 w2) w5 w5 := Ext.refl w5
      refine h_take 0 rfl (by kernel_rfl) (by kernel_rfl) (by kernel_rfl) hSr7 (fun wS hSS => by (have hX := hX.ext hSS; have hO := hO.ext hSS; have hB4 := hB4.ext hSS; have hB2 := hB2.ext hSS; exact (x_move (by conv => lhs; whnf)))) ?_
      refine h_take 1 rfl (by kernel_rfl) (by kernel_rfl) (by kernel_rfl) hSr7 (fun wS hSS => by (have hX := hX.ext hSS; have hO := hO.ext hSS; have hB4 := hB4.ext hSS; have hB2 := hB2.ext hSS; exact (x_move (by conv => lhs; whnf)))) ?_
      refine h_take 2 rfl (by kernel_rfl) (by kernel_rfl) (by kernel_rfl) hSr7 (fun wS hSS => by (have hX := hX.ext hSS; have hO := hO.ext hSS; have hB4 := hB4.ext hSS; have hB2 := hB2.ext hSS; exact (x_ixs u30 sz81 rfl rfl ((ha.ext hX).adr kBrA_pos (by omega)) (by omega) (by omega)))) ?_
      refine h_take 3 rfl (by kernel_rfl) (by kernel_rfl) (by kernel_rfl) hSr7 (fun wS hSS => by (have hX := hX.ext hSS; have hO := hO.ext hSS; have hB4 := hB4.ext hSS; have hB2 := hB2.ext hSS; exact (x_fieldAddr fo81_0 sz9 rfl))) ?_
      refine h_take 4 rfl (by kernel_rfl) (by kernel_rfl) (by kernel_rfl) hSr7 (fun wS hSS => by (have hX := hX.ext hSS; have hO := hO.ext hSS; have hB4 := hB4.ext hSS; have hB2 := hB2.ext hSS; exact (x_load1 un9 rfl (hX.cell hc0_1)))) ?_
      refine h_one 5 _ rfl (by kernel_rfl) (hop_of_list (fun Q5 hQ5 => ?_))
      refine o_call Try.func32 fn32 fb32 (ref06_Name (l.getD i default).1 _ (hkk _ hmem)) rfl ?_
      rintro v6 w6 ⟨rfl, hE6⟩
      have hX := hX.ext hE6
      have hO := hO.ext hE6
      have hB4 := hB4.ext hE6
      have hB2 := hB2.ext hE6
      have hSr7 := hSr7.ext hE6
      refine hop_end hQ5 ⟨hSr7, ?_⟩
      refine h_take 6 rfl (by kernel_rfl) (by kernel_rfl) (by kernel_rfl) hSr7 (fun wS hSS => by ( exact (x_not rfl))) ?_
      refine h_takeb 7 rfl (by kernel_rfl) (by kernel_rfl) (by kernel_rfl) hSr7 (fun wS hSS => by ( exact (x_move (by conv => lhs; whnf)))) (fun hb7_7 => ?_) (fun hb7_7 => ?_)
      · try simp only [decide_eq_true_eq, decide_eq_false_iff_not, Bool.not_eq_true, Bool.not_eq_false, Bool.not_eq_eq_eq_not, Bool.not_true, Bool.not_false, Int.not_lt, Int.not_le] at hb7_7
        refine h_skip 8 23 rfl (by first | exact .inl rfl | exact .inr rfl) rfl (by kernel_rfl) (by kernel_rfl) (by kernel_rfl) hSr7 ?_
        refine h_skip 9 23 rfl (by first | exact .inl rfl | exact .inr rfl) rfl (by kernel_rfl) (by kernel_rfl) (by kernel_rfl) hSr7 ?_
        refine h_skip 10 23 rfl (by first | exact .inl rfl | exact .inr rfl) rfl (by kernel_rfl) (by kernel_rfl) (by kernel_rfl) hSr7 ?_
        refine h_skip 11 23 rfl (by first | exact .inl rfl | exact .inr rfl) rfl (by kernel_rfl) (by kernel_rfl) (by kernel_rfl) hSr7 ?_
        refine h_skip 12 23 rfl (by first | exact .inl rfl | exact .inr rfl) rfl (by kernel_rfl) (by kernel_rfl) (by kernel_rfl) hSr7 ?_
        refine h_skip 13 23 rfl (by first | exact .inl rfl | exact .inr rfl) rfl (by kernel_rfl) (by kernel_rfl) (by kernel_rfl) hSr7 ?_
        refine h_skip 14 23 rfl (by first | exact .inl rfl | exact .inr rfl) rfl (by kernel_rfl) (by kernel_rfl) (by kernel_rfl) hSr7 ?_
        refine h_take 15 rfl (by kernel_rfl) (by kernel_rfl) (by kernel_rfl) hSr7 (fun wS hSS => by ( exact (x_pick_t rfl (by conv => lhs; whnf)))) ?_
        refine h_take 16 rfl (by kernel_rfl) (by kernel_rfl) (by kernel_rfl) hSr7 (fun wS hSS => by ( exact (x_move (by conv => lhs; whnf)))) ?_
        refine h_skip 17 32 rfl (by first | exact .inl rfl | exact .inr rfl) rfl (by kernel_rfl) (by kernel_rfl) (by kernel_rfl) hSr7 ?_
        refine h_skip 18 32 rfl (by first | exact .inl rfl | exact .inr rfl) rfl (by kernel_rfl) (by kernel_rfl) (by kernel_rfl) hSr7 ?_
        refine h_skip 19 32 rfl (by first | exact .inl rfl | exact .inr rfl) rfl (by kernel_rfl) (by kernel_rfl) (by kernel_rfl) hSr7 ?_
        refine h_skip 20 35 rfl (by first | exact .inl rfl | exact .inr rfl) rfl (by kernel_rfl) (by kernel_rfl) (by kernel_rfl) hSr7 ?_
        refine h_skip 21 35 rfl (by first | exact .inl rfl | exact .inr rfl) rfl (by kernel_rfl) (by kernel_rfl) (by kernel_rfl) hSr7 ?_
        refine h_skip 22 35 rfl (by first | exact .inl rfl | exact .inr rfl) rfl (by kernel_rfl) (by kernel_rfl) (by kernel_rfl) hSr7 ?_
        refine h_skip 23 35 rfl (by first | exact .inl rfl | exact .inr rfl) rfl (by kernel_rfl) (by kernel_rfl) (by kernel_rfl) hSr7 ?_
        refine h_skip 24 35 rfl (by first | exact .inl rfl | exact .inr rfl) rfl (by kernel_rfl) (by kernel_rfl) (by kernel_rfl) hSr7 ?_
        refine h_skip 25 35 rfl (by first | exact .inl rfl | exact .inr rfl) rfl (by kernel_rfl) (by kernel_rfl) (by kernel_rfl) hSr7 ?_
        refine h_skip 26 35 rfl (by first | exact .inl rfl | exact .inr rfl) rfl (by kernel_rfl) (by kernel_rfl) (by kernel_rfl) hSr7 ?_
        refine h_skip 27 35 rfl (by first | exact .inl rfl | exact .inr rfl) rfl (by kernel_rfl) (by kernel_rfl) (by kernel_rfl) hSr7 ?_
        refine h_skip 28 35 rfl (by first | exact .inl rfl | exact .inr rfl) rfl (by kernel_rfl) (by kernel_rfl) (by kernel_rfl) hSr7 ?_
        refine h_skip 29 35 rfl (by first | exact .inl rfl | exact .inr rfl) rfl (by kernel_rfl) (by kernel_rfl) (by kernel_rfl) hSr7 ?_
        refine h_skip 30 35 rfl (by first | exact .inl rfl | exact .inr rfl) rfl (by kernel_rfl) (by kernel_rfl) (by kernel_rfl) hSr7 ?_
        refine h_skip 31 35 rfl (by first | exact .inl rfl | exact .inr rfl) rfl (by kernel_rfl) (by kernel_rfl) (by kernel_rfl) hSr7 ?_
        refine h_skip 32 32 rfl (by first | exact .inl rfl | exact .inr rfl) rfl (by kernel_rfl) (by kernel_rfl) (by kernel_rfl) hSr7 ?_
        refine h_take 33 rfl (by kernel_rfl) (by kernel_rfl) (by kernel_rfl) hSr7 (fun wS hSS => by ( exact (x_pick_t rfl (by conv => lhs; whnf)))) ?_
        refine h_done (by kernel_rfl) ?_
        refine t_n ?_
        refine c_t rfl ?_
        have hno : ¬ okL l := by
          intro h
          have h1 := (h.2.2 _ (mem_getD (k := i) (by omega))).1
          have h2 := (h.2.2 _ (mem_getD (k := i) (by omega))).2
          first | (rw [hb7_7] at h1; exact absurd h1 (by decide)) | (rw [hb7_16] at h2; exact absurd h2 (by decide)) | exact not_rise_at (k := i) (by omega) (by omega) (by rw [← ez]; simpa using hc49) h.2.1
        refine c_seq ?_
        refine r_plain ?_
        refine p1 (x_build0 pl70 rfl) ?_
        refine o_storeAll rfl (by conv => lhs; whnf) (by simp [Value.oneCell']) (by exact sz70) hB2 (by rfl) ?_
        intro w7 hP7
        have hX := hX.put hP7 (by rw [hN2.g_eq]; exact hXs2)
        have hO := hO.mod (hP7.mod 0 (Nat.zero_le _)) (Nat.zero_le _) (by simp [kBr])
        have hB4 := hP7.keep hB4 (by omega)
        have hB2 := hP7.blk
        refine p1 (x_assign (by conv => lhs; whnf)) ?_
        refine r_nil ?_
        refine t_n ?_
        refine c_ret ?_
        refine t_r ?_
        refine b_r ?_
        refine t_r ?_
        refine t_r ?_
        refine b_r ?_
        refine t_r ?_
        refine end2c rfl ua70 rfl (by conv => lhs; whnf) hB2 sz70 ?_
        first | exact ⟨.inr ⟨hno, rfl⟩, hX⟩ | exact ⟨.inl ⟨⟨by omega, hri, hok⟩, _, _, _, rfl, hO⟩, hX⟩
      · try simp only [decide_eq_true_eq, decide_eq_false_iff_not, Bool.not_eq_true, Bool.not_eq_false, Bool.not_eq_eq_eq_not, Bool.not_true, Bool.not_false, Int.not_lt, Int.not_le] at hb7_7
        refine h_takeg 8 23 rfl rfl rfl (by kernel_rfl) (by kernel_rfl) (by kernel_rfl) hSr7 (fun wS hSS => by ( exact (x_move (by conv => lhs; whnf)))) ?_
        refine h_takeg 9 23 rfl rfl rfl (by kernel_rfl) (by kernel_rfl) (by kernel_rfl) hSr7 (fun wS hSS => by ( exact (x_move (by conv => lhs; whnf)))) ?_
        refine h_takeg 10 23 rfl rfl rfl (by kernel_rfl) (by kernel_rfl) (by kernel_rfl) hSr7 (fun wS hSS => by ( exact (x_ixs u30 sz81 rfl rfl ((ha.ext hX).adr kBrA_pos (by omega)) (by omega) (by omega)))) ?_
        refine h_takeg 11 23 rfl rfl rfl (by kernel_rfl) (by kernel_rfl) (by kernel_rfl) hSr7 (fun wS hSS => by ( exact (x_fieldAddr fo81_1 sz31 rfl))) ?_
        refine h_one 12 _ rfl (by kernel_rfl) (hop_of_list (fun Q12 hQ12 => ?_))
        refine g1 23 rfl rfl (x_load1 un31 rfl (hX.cell hc1_1)) ?_
        refine hop_end hQ12 ⟨hSr7, ?_⟩
        refine h_one 13 _ rfl (by kernel_rfl) (hop_of_list (fun Q13 hQ13 => ?_))
        refine g_drop 23 rfl rfl ?_
        refine o_call Try.func115 fn115 fb115 (ref15_may (l.getD i default).2 _ _ _ _ _ (hS1.ext hX)) rfl ?_
        rintro v8 w8 ⟨rfl, hE8⟩
        have hX := hX.ext hE8
        have hO := hO.ext hE8
        have hB4 := hB4.ext hE8
        have hB2 := hB2.ext hE8
        have hSr7 := hSr7.ext hE8
        refine hop_end hQ13 ⟨hSr7, ?_⟩
        refine h_takeg 14 23 rfl rfl rfl (by kernel_rfl) (by kernel_rfl) (by kernel_rfl) hSr7 (fun wS hSS => by ( exact (x_not rfl))) ?_
        refine h_take 15 rfl (by kernel_rfl) (by kernel_rfl) (by kernel_rfl) hSr7 (fun wS hSS => by ( exact (x_pick_f rfl (by conv => lhs; whnf)))) ?_
        refine h_takeb 16 rfl (by kernel_rfl) (by kernel_rfl) (by kernel_rfl) hSr7 (fun wS hSS => by ( exact (x_move (by conv => lhs; whnf)))) (fun hb7_16 => ?_) (fun hb7_16 => ?_)
        · try simp only [decide_eq_true_eq, decide_eq_false_iff_not, Bool.not_eq_true, Bool.not_eq_false, Bool.not_eq_eq_eq_not, Bool.not_true, Bool.not_false, Int.not_lt, Int.not_le] at hb7_16
          refine h_skip 17 32 rfl (by first | exact .inl rfl | exact .inr rfl) rfl (by kernel_rfl) (by kernel_rfl) (by kernel_rfl) hSr7 ?_
          refine h_skip 18 32 rfl (by first | exact .inl rfl | exact .inr rfl) rfl (by kernel_rfl) (by kernel_rfl) (by kernel_rfl) hSr7 ?_
          refine h_skip 19 32 rfl (by first | exact .inl rfl | exact .inr rfl) rfl (by kernel_rfl) (by kernel_rfl) (by kernel_rfl) hSr7 ?_
          refine h_skip 20 35 rfl (by first | exact .inl rfl | exact .inr rfl) rfl (by kernel_rfl) (by kernel_rfl) (by kernel_rfl) hSr7 ?_
          refine h_skip 21 35 rfl (by first | exact .inl rfl | exact .inr rfl) rfl (by kernel_rfl) (by kernel_rfl) (by kernel_rfl) hSr7 ?_
          refine h_skip 22 35 rfl (by first | exact .inl rfl | exact .inr rfl) rfl (by kernel_rfl) (by kernel_rfl) (by kernel_rfl) hSr7 ?_
          refine h_skip 23 35 rfl (by first | exact .inl rfl | exact .inr rfl) rfl (by kernel_rfl) (by kernel_rfl) (by kernel_rfl) hSr7 ?_
          refine h_skip 24 35 rfl (by first | exact .inl rfl | exact .inr rfl) rfl (by kernel_rfl) (by kernel_rfl) (by kernel_rfl) hSr7 ?_
          refine h_skip 25 35 rfl (by first | exact .inl rfl | exact .inr rfl) rfl (by kernel_rfl) (by kernel_rfl) (by kernel_rfl) hSr7 ?_
          refine h_skip 26 35 rfl (by first | exact .inl rfl | exact .inr rfl) rfl (by kernel_rfl) (by kernel_rfl) (by kernel_rfl) hSr7 ?_
          refine h_skip 27 35 rfl (by first | exact .inl rfl | exact .inr rfl) rfl (by kernel_rfl) (by kernel_rfl) (by kernel_rfl) hSr7 ?_
          refine h_skip 28 35 rfl (by first | exact .inl rfl | exact .inr rfl) rfl (by kernel_rfl) (by kernel_rfl) (by kernel_rfl) hSr7 ?_
          refine h_skip 29 35 rfl (by first | exact .inl rfl | exact .inr rfl) rfl (by kernel_rfl) (by kernel_rfl) (by kernel_rfl) hSr7 ?_
          refine h_skip 30 35 rfl (by first | exact .inl rfl | exact .inr rfl) rfl (by kernel_rfl) (by kernel_rfl) (by kernel_rfl) hSr7 ?_
          refine h_skip 31 35 rfl (by first | exact .inl rfl | exact .inr rfl) rfl (by kernel_rfl) (by kernel_rfl) (by kernel_rfl) hSr7 ?_
          refine h_skip 32 32 rfl (by first | exact .inl rfl | exact .inr rfl) rfl (by kernel_rfl) (by kernel_rfl) (by kernel_rfl) hSr7 ?_
          refine h_take 33 rfl (by kernel_rfl) (by kernel_rfl) (by kernel_rfl) hSr7 (fun wS hSS => by ( exact (x_pick_t rfl (by conv => lhs; whnf)))) ?_
          refine h_done (by kernel_rfl) ?_
          refine t_n ?_
          refine c_t rfl ?_
          have hno : ¬ okL l := by
            intro h
            have h1 := (h.2.2 _ (mem_getD (k := i) (by omega))).1
            have h2 := (h.2.2 _ (mem_getD (k := i) (by omega))).2
            first | (rw [hb7_7] at h1; exact absurd h1 (by decide)) | (rw [hb7_16] at h2; exact absurd h2 (by decide)) | exact not_rise_at (k := i) (by omega) (by omega) (by rw [← ez]; simpa using hc49) h.2.1
          refine c_seq ?_
          refine r_plain ?_
          refine p1 (x_build0 pl70 rfl) ?_
          refine o_storeAll rfl (by conv => lhs; whnf) (by simp [Value.oneCell']) (by exact sz70) hB2 (by rfl) ?_
          intro w9 hP9
          have hX := hX.put hP9 (by rw [hN2.g_eq]; exact hXs2)
          have hO := hO.mod (hP9.mod 0 (Nat.zero_le _)) (Nat.zero_le _) (by simp [kBr])
          have hB4 := hP9.keep hB4 (by omega)
          have hB2 := hP9.blk
          refine p1 (x_assign (by conv => lhs; whnf)) ?_
          refine r_nil ?_
          refine t_n ?_
          refine c_ret ?_
          refine t_r ?_
          refine b_r ?_
          refine t_r ?_
          refine t_r ?_
          refine b_r ?_
          refine t_r ?_
          refine end2c rfl ua70 rfl (by conv => lhs; whnf) hB2 sz70 ?_
          first | exact ⟨.inr ⟨hno, rfl⟩, hX⟩ | exact ⟨.inl ⟨⟨by omega, hri, hok⟩, _, _, _, rfl, hO⟩, hX⟩
        · try simp only [decide_eq_true_eq, decide_eq_false_iff_not, Bool.not_eq_true, Bool.not_eq_false, Bool.not_eq_eq_eq_not, Bool.not_true, Bool.not_false, Int.not_lt, Int.not_le] at hb7_16
          refine h_takeg 17 32 rfl rfl rfl (by kernel_rfl) (by kernel_rfl) (by kernel_rfl) hSr7 (fun wS hSS => by ( exact (x_move (by conv => lhs; whnf)))) ?_
          refine h_takeg 18 32 rfl rfl rfl (by kernel_rfl) (by kernel_rfl) (by kernel_rfl) hSr7 (fun wS hSS => by ( exact (x_gtr rfl rfl))) ?_
          refine h_takegb 19 32 rfl rfl rfl (by kernel_rfl) (by kernel_rfl) (by kernel_rfl) hSr7 (fun wS hSS => by ( exact (x_move (by conv => lhs; whnf)))) (fun hb7_19 => ?_) (fun hb7_19 => ?_)
          · try simp only [decide_eq_true_eq, decide_eq_false_iff_not, Bool.not_eq_true, Bool.not_eq_false, Bool.not_eq_eq_eq_not, Bool.not_true, Bool.not_false, Int.not_lt, Int.not_le] at hb7_19
            obtain ⟨q2, m2, c2, hrow2, hc0_2, hc1_2, hS2⟩ := ha.brAt ((i : Int) - 1).toNat (by omega)
            refine h_takeg 20 35 rfl rfl rfl (by kernel_rfl) (by kernel_rfl) (by kernel_rfl) hSr7 (fun wS hSS => by ( exact (x_move (by conv => lhs; whnf)))) ?_
            refine h_takeg 21 35 rfl rfl rfl (by kernel_rfl) (by kernel_rfl) (by kernel_rfl) hSr7 (fun wS hSS => by ( exact (x_move (by conv => lhs; whnf)))) ?_
            refine h_takeg 22 35 rfl rfl rfl (by kernel_rfl) (by kernel_rfl) (by kernel_rfl) hSr7 (fun wS hSS => by ( exact (x_sub rfl rfl (fits_i64 (by omega) (by omega))))) ?_
            refine h_takeg 23 35 rfl rfl rfl (by kernel_rfl) (by kernel_rfl) (by kernel_rfl) hSr7 (fun wS hSS => by ( exact (x_ixs u30 sz81 rfl rfl (ha.adr kBrA_pos (by omega)) (by omega) (by omega)))) ?_
            refine h_takeg 24 35 rfl rfl rfl (by kernel_rfl) (by kernel_rfl) (by kernel_rfl) hSr7 (fun wS hSS => by ( exact (x_fieldAddr fo81_0 sz9 rfl))) ?_
            refine h_takeg 26 35 rfl rfl rfl (by kernel_rfl) (by kernel_rfl) (by kernel_rfl) hSr7 (fun wS hSS => by ( exact (x_move (by conv => lhs; whnf)))) ?_
            refine h_takeg 27 35 rfl rfl rfl (by kernel_rfl) (by kernel_rfl) (by kernel_rfl) hSr7 (fun wS hSS => by ( exact (x_move (by conv => lhs; whnf)))) ?_
            refine h_takeg 28 35 rfl rfl rfl (by kernel_rfl) (by kernel_rfl) (by kernel_rfl) hSr7 (fun wS hSS => by ( exact (x_ixs u30 sz81 rfl rfl ((ha.ext hX).adr kBrA_pos (by omega)) (by omega) (by omega)))) ?_
            refine h_takeg 29 35 rfl rfl rfl (by kernel_rfl) (by kernel_rfl) (by kernel_rfl) hSr7 (fun wS hSS => by ( exact (x_fieldAddr fo81_0 sz9 rfl))) ?_
            refine h_two 25 30 _ _ rfl rfl (by kernel_rfl) (hop_of_list (fun Q25 hQ25 => ?_)) (hop_of_list (fun Q30 hQ30 => ?_))
            · skip
              refine g1 35 rfl rfl (x_load1 un9 rfl (hX.cell hc0_2)) ?_
              refine hop_end hQ25 ⟨hSr7, ?_⟩
              refine h_one 30 _ rfl (by kernel_rfl) (hop_of_list (fun Q30 hQ30 => ?_))
              refine g1 35 rfl rfl (x_load1 un9 rfl (hX.cell hc0_1)) ?_
              refine hop_end hQ30 ⟨hSr7, ?_⟩
              refine h_takeg 31 35 rfl rfl rfl (by kernel_rfl) (by kernel_rfl) (by kernel_rfl) hSr7 (fun wS hSS => by ( exact (x_geq_str rfl rfl))) ?_
              refine h_takeg 32 32 rfl rfl rfl (by kernel_rfl) (by kernel_rfl) (by kernel_rfl) hSr7 (fun wS hSS => by ( exact (x_pick_t rfl (by conv => lhs; whnf)))) ?_
              refine h_take 33 rfl (by kernel_rfl) (by kernel_rfl) (by kernel_rfl) hSr7 (fun wS hSS => by ( exact (x_pick_f rfl (by conv => lhs; whnf)))) ?_
              refine h_done (by kernel_rfl) ?_
              refine t_n ?_
              first | refine c_dec rfl (fun hc49 => ?_) (fun hc49 => ?_) | refine c_if rfl (fun hc49 => ?_) (fun hc49 => ?_)
              · try simp only [decide_eq_true_eq, decide_eq_false_iff_not, Bool.not_eq_true, Bool.not_eq_false, Bool.not_eq_eq_eq_not, Bool.not_true, Bool.not_false, Int.not_lt, Int.not_le] at hc49
                have hno : ¬ okL l := by
                  intro h
                  have h1 := (h.2.2 _ (mem_getD (k := i) (by omega))).1
                  have h2 := (h.2.2 _ (mem_getD (k := i) (by omega))).2
                  first | (rw [hb7_7] at h1; exact absurd h1 (by decide)) | (rw [hb7_16] at h2; exact absurd h2 (by decide)) | exact not_rise_at (k := i) (by omega) (by omega) (by rw [← ez]; simpa using hc49) h.2.1
                refine c_seq ?_
                refine r_plain ?_
                refine p1 (x_build0 pl70 rfl) ?_
                refine o_storeAll rfl (by conv => lhs; whnf) (by simp [Value.oneCell']) (by exact sz70) hB2 (by rfl) ?_
                intro w10 hP10
                have hX := hX.put hP10 (by rw [hN2.g_eq]; exact hXs2)
                have hO := hO.mod (hP10.mod 0 (Nat.zero_le _)) (Nat.zero_le _) (by simp [kBr])
                have hB4 := hP10.keep hB4 (by omega)
                have hB2 := hP10.blk
                refine p1 (x_assign (by conv => lhs; whnf)) ?_
                refine r_nil ?_
                refine t_n ?_
                refine c_ret ?_
                refine t_r ?_
                refine b_r ?_
                refine t_r ?_
                refine t_r ?_
                refine b_r ?_
                refine t_r ?_
                refine end2c rfl ua70 rfl (by conv => lhs; whnf) hB2 sz70 ?_
                first | exact ⟨.inr ⟨hno, rfl⟩, hX⟩ | exact ⟨.inl ⟨⟨by omega, hri, hok⟩, _, _, _, rfl, hO⟩, hX⟩
              · try simp only [decide_eq_true_eq, decide_eq_false_iff_not, Bool.not_eq_true, Bool.not_eq_false, Bool.not_eq_eq_eq_not, Bool.not_true, Bool.not_false, Int.not_lt, Int.not_le] at hc49
                have hord : i = 0 ∨ lssB (l.getD (i - 1) default).1 (l.getD i default).1 = true := by first | (left; omega) | (right; rw [← ez]; simpa using hc49)
                have hrn := riseN_next hri (by omega) hord
                have hon := ok_take_succ hok (by omega) hb7_7 hb7_16
                refine c_skip ?_
                refine t_n ?_
                refine r_held (fun _ w2 => Ext w w2) mixed ?_
                intro w11 hE11
                have hX := hX.ext hE11
                have hO := hO.ext hE11
                have hB4 := hB4.ext hE11
                have hB2 := hB2.ext hE11
                have hSr9 : (fun _ w2 => Ext w w2) w11 w11 := hX
                refine h_take 0 rfl (by kernel_rfl) (by kernel_rfl) (by kernel_rfl) hSr9 (fun wS hSS => by ( exact (x_fieldAddr fo70_0 sz30 rfl))) ?_
                refine h_take 2 rfl (by kernel_rfl) (by kernel_rfl) (by kernel_rfl) hSr9 (fun wS hSS => by ( exact (x_move (by conv => lhs; whnf)))) ?_
                refine h_take 3 rfl (by kernel_rfl) (by kernel_rfl) (by kernel_rfl) hSr9 (fun wS hSS => by ( exact (x_move (by conv => lhs; whnf)))) ?_
                refine h_take 4 rfl (by kernel_rfl) (by kernel_rfl) (by kernel_rfl) hSr9 (fun wS hSS => by ( exact (x_ixs u30 sz81 rfl rfl ((ha.ext hX).adr kBrA_pos (by omega)) (by omega) (by omega)))) ?_
                refine h_take 5 rfl (by kernel_rfl) (by kernel_rfl) (by kernel_rfl) hSr9 (fun wS hSS => by ( exact (x_fieldAddr fo81_0 sz9 rfl))) ?_
                refine h_take 6 rfl (by kernel_rfl) (by kernel_rfl) (by kernel_rfl) hSr9 (fun wS hSS => by (have hX := hSS; exact (x_load1 un9 rfl (hX.cell hc0_1)))) ?_
                refine h_take 7 rfl (by kernel_rfl) (by kernel_rfl) (by kernel_rfl) hSr9 (fun wS hSS => by ( exact (x_move (by conv => lhs; whnf)))) ?_
                refine h_take 8 rfl (by kernel_rfl) (by kernel_rfl) (by kernel_rfl) hSr9 (fun wS hSS => by ( exact (x_move (by conv => lhs; whnf)))) ?_
                refine h_take 9 rfl (by kernel_rfl) (by kernel_rfl) (by kernel_rfl) hSr9 (fun wS hSS => by ( exact (x_ixs u30 sz81 rfl rfl ((ha.ext hX).adr kBrA_pos (by omega)) (by omega) (by omega)))) ?_
                refine h_take 10 rfl (by kernel_rfl) (by kernel_rfl) (by kernel_rfl) hSr9 (fun wS hSS => by ( exact (x_fieldAddr fo81_1 sz31 rfl))) ?_
                refine h_take 11 rfl (by kernel_rfl) (by kernel_rfl) (by kernel_rfl) hSr9 (fun wS hSS => by (have hX := hSS; exact (x_load1 un31 rfl (hX.cell hc1_1)))) ?_
                refine h_two 1 12 _ _ rfl rfl (by kernel_rfl) (hop_of_list (fun Q1 hQ1 => ?_)) (hop_of_list (fun Q12 hQ12 => ?_))
                · skip
                  refine p1 (x_load1 un30 rfl (hB4.cell (rfl))) ?_
                  refine hop_end hQ1 ⟨hSr9, ?_⟩
                  refine h_one 12 _ rfl (by kernel_rfl) (hop_of_list (fun Q12 hQ12 => ?_))
                  have hXs := hX.size
                  have hm16 := mayB_len hb7_16
                  have hl1 := hS1.len
                  refine o_call Try.func114 fn114 fb114 (ref15_own (l.getD i default).1 (l.getD i default).2 _ _ _ _ _ (hS1.ext hX) (by omega)) rfl ?_
                  rintro v12 w12 ⟨⟨gO, rfl, hI⟩, hE12⟩
                  have hX := hX.ext hE12
                  have hO := hO.ext hE12
                  have hB4 := hB4.ext hE12
                  have hB2 := hB2.ext hE12
                  have hSr9 := hSr9.ext hE12
                  have hI := hI.brMono (S' := (fun j => w.heap.size ≤ j)) (fun j _ h => Nat.le_trans hXs h)
                  refine hop_end hQ12 ⟨hSr9, ?_⟩
                  refine h_one 13 _ rfl (by kernel_rfl) (hop_of_list (fun Q13 hQ13 => ?_))
                  obtain ⟨css1, hA1, hsr1⟩ := src_kind u30 hI.sl kBr_pos
                  have hA1 : (kBr (fun j => w.heap.size ≤ j)).All 0 _ _ css1 := All.imp2 (fun _ _ h => h) hA1
                  have hq1 := hX.size
                  have hOl := hO.len
                  rw [List.length_take] at hOl
                  refine o_append (d := (kBr (fun j => w.heap.size ≤ j))) ([(l.getD i default)]) u30 inf81 rfl kBr_pos rfl rfl hO (hsr1) rfl (hA1) (rfl) (by omega) (by omega) (by omega) (by omega) (by simp [kBr]) ?_
                  intro p64 c64 w13 hO hM13
                  have hX := hX.mod hM13 (Nat.le_refl _)
                  have hB4 := hB4.mod hM13 (by decide)
                  have hB2 := hB2.mod hM13 (by decide)
                  have hSr9 := hSr9.mod hM13 (by first | exact Nat.le_refl _ | exact trivial | omega)
                  refine hop_end hQ13 ⟨hSr9, ?_⟩
                  refine h_take 14 rfl (by kernel_rfl) (by kernel_rfl) (by kernel_rfl) hSr9 (fun wS hSS => by ( exact (x_fieldAddr fo70_0 sz30 rfl))) ?_
                  refine h_one 15 _ rfl (by kernel_rfl) (hop_of_list (fun Q15 hQ15 => ?_))
                  refine o_store1 rfl (by conv => lhs; whnf) rfl rfl sz30 hB4 (by simp) ?_
                  intro w14 hP14
                  have hX := hX.put hP14 (by omega)
                  have hB4 := hP14.blk
                  simp only [List.setIfInBounds_toArray, List.set_cons_zero, List.set_cons_succ] at hB4
                  have hB2 := hP14.keep hB2 (by omega)
                  have hSr9 := hX
                  have hO := hO.mod (hP14.mod 0 (Nat.zero_le _)) (Nat.zero_le _) (by simp [kBr])
                  refine hop_end hQ15 ⟨hSr9, ?_⟩
                  refine h_done (by kernel_rfl) ?_
                  refine b_n ?_
                  refine t_n ?_
                  refine r_plain ?_
                  refine p1 (x_move (by conv => lhs; whnf)) ?_
                  refine p1 (x_add rfl rfl (fits_i64 (by omega) (by omega))) ?_
                  refine p1 (x_assign (by conv => lhs; whnf)) ?_
                  refine r_nil ?_
                  refine t_n (At.mk ((i + 1, p64, m + 1, c64)) (by repeat (first | exact Agr.refl _ _ | exact Agr.hav _ _ _ | refine Agr.upd rfl ?_ | refine Agr.updL ?_ _ rfl | refine Agr.hav' rfl ?_)) ⟨rfl, trivial⟩ ?_)
                  exact ⟨⟨hX, ⟨by rw [br_take_succ (by omega)]; exact hO, hB4, hB2, hrn, hon, by omega⟩⟩, by first | (dsimp only; omega) | ((show _ < _); omega)⟩
                · skip
                  have hXs := hX.size
                  have hm16 := mayB_len hb7_16
                  have hl1 := hS1.len
                  refine o_call Try.func114 fn114 fb114 (ref15_own (l.getD i default).1 (l.getD i default).2 _ _ _ _ _ (hS1.ext hX) (by omega)) rfl ?_
                  rintro v15 w15 ⟨⟨gO, rfl, hI⟩, hE15⟩
                  have hX := hX.ext hE15
                  have hO := hO.ext hE15
                  have hB4 := hB4.ext hE15
                  have hB2 := hB2.ext hE15
                  have hSr9 := hSr9.ext hE15
                  have hI := hI.brMono (S' := (fun j => w.heap.size ≤ j)) (fun j _ h => Nat.le_trans hXs h)
                  refine hop_end hQ12 ⟨hSr9, ?_⟩
                  refine h_one 1 _ rfl (by kernel_rfl) (hop_of_list (fun Q1 hQ1 => ?_))
                  refine p1 (x_load1 un30 rfl (hB4.cell (rfl))) ?_
                  refine hop_end hQ1 ⟨hSr9, ?_⟩
                  refine h_one 13 _ rfl (by kernel_rfl) (hop_of_list (fun Q13 hQ13 => ?_))
                  obtain ⟨css1, hA1, hsr1⟩ := src_kind u30 hI.sl kBr_pos
                  have hA1 : (kBr (fun j => w.heap.size ≤ j)).All 0 _ _ css1 := All.imp2 (fun _ _ h => h) hA1
                  have hq1 := hX.size
                  have hOl := hO.len
                  rw [List.length_take] at hOl
                  refine o_append (d := (kBr (fun j => w.heap.size ≤ j))) ([(l.getD i default)]) u30 inf81 rfl kBr_pos rfl rfl hO (hsr1) rfl (hA1) (rfl) (by omega) (by omega) (by omega) (by omega) (by simp [kBr]) ?_
                  intro p64 c64 w16 hO hM16
                  have hX := hX.mod hM16 (Nat.le_refl _)
                  have hB4 := hB4.mod hM16 (by decide)
                  have hB2 := hB2.mod hM16 (by decide)
                  have hSr9 := hSr9.mod hM16 (by first | exact Nat.le_refl _ | exact trivial | omega)
                  refine hop_end hQ13 ⟨hSr9, ?_⟩
                  refine h_take 14 rfl (by kernel_rfl) (by kernel_rfl) (by kernel_rfl) hSr9 (fun wS hSS => by ( exact (x_fieldAddr fo70_0 sz30 rfl))) ?_
                  refine h_one 15 _ rfl (by kernel_rfl) (hop_of_list (fun Q15 hQ15 => ?_))
                  refine o_store1 rfl (by conv => lhs; whnf) rfl rfl sz30 hB4 (by simp) ?_
                  intro w17 hP17
                  have hX := hX.put hP17 (by omega)
                  have hB4 := hP17.blk
                  simp only [List.setIfInBounds_toArray, List.set_cons_zero, List.set_cons_succ] at hB4
                  have hB2 := hP17.keep hB2 (by omega)
                  have hSr9 := hX
                  have hO := hO.mod (hP17.mod 0 (Nat.zero_le _)) (Nat.zero_le _) (by simp [kBr])
                  refine hop_end hQ15 ⟨hSr9, ?_⟩
                  refine h_done (by kernel_rfl) ?_
                  refine b_n ?_
                  refine t_n ?_
                  refine r_plain ?_
                  refine p1 (x_move (by conv => lhs; whnf)) ?_
                  refine p1 (x_add rfl rfl (fits_i64 (by omega) (by omega))) ?_
                  refine p1 (x_assign (by conv => lhs; whnf)) ?_
                  refine r_nil ?_
                  refine t_n (At.mk ((i + 1, p64, m + 1, c64)) (by repeat (first | exact Agr.refl _ _ | exact Agr.hav _ _ _ | refine Agr.upd rfl ?_ | refine Agr.updL ?_ _ rfl | refine Agr.hav' rfl ?_)) ⟨rfl, trivial⟩ ?_)
                  exact ⟨⟨hX, ⟨by rw [br_take_succ (by omega)]; exact hO, hB4, hB2, hrn, hon, by omega⟩⟩, by first | (dsimp only; omega) | ((show _ < _); omega)⟩
            · skip
              refine g1 35 rfl rfl (x_load1 un9 rfl (hX.cell hc0_1)) ?_
              refine hop_end hQ30 ⟨hSr7, ?_⟩
              refine h_one 25 _ rfl (by kernel_rfl) (hop_of_list (fun Q25 hQ25 => ?_))
              refine g1 35 rfl rfl (x_load1 un9 rfl (hX.cell hc0_2)) ?_
              refine hop_end hQ25 ⟨hSr7, ?_⟩
              refine h_takeg 31 35 rfl rfl rfl (by kernel_rfl) (by kernel_rfl) (by kernel_rfl) hSr7 (fun wS hSS => by ( exact (x_geq_str rfl rfl))) ?_
              refine h_takeg 32 32 rfl rfl rfl (by kernel_rfl) (by kernel_rfl) (by kernel_rfl) hSr7 (fun wS hSS => by ( exact (x_pick_t rfl (by conv => lhs; whnf)))) ?_
              refine h_take 33 rfl (by kernel_rfl) (by kernel_rfl) (by kernel_rfl) hSr7 (fun wS hSS => by ( exact (x_pick_f rfl (by conv => lhs; whnf)))) ?_
              refine h_done (by kernel_rfl) ?_
              refine t_n ?_
              first | refine c_dec rfl (fun hc49 => ?_) (fun hc49 => ?_) | refine c_if rfl (fun hc49 => ?_) (fun hc49 => ?_)
              · try simp only [decide_eq_true_eq, decide_eq_false_iff_not, Bool.not_eq_true, Bool.not_eq_false, Bool.not_eq_eq_eq_not, Bool.not_true, Bool.not_false, Int.not_lt, Int.not_le] at hc49
                have hno : ¬ okL l := by
                  intro h
                  have h1 := (h.2.2 _ (mem_getD (k := i) (by omega))).1
                  have h2 := (h.2.2 _ (mem_getD (k := i) (by omega))).2
                  first | (rw [hb7_7] at h1; exact absurd h1 (by decide)) | (rw [hb7_16] at h2; exact absurd h2 (by decide)) | exact not_rise_at (k := i) (by omega) (by omega) (by rw [← ez]; simpa using hc49) h.2.1
                refine c_seq ?_
                refine r_plain ?_
                refine p1 (x_build0 pl70 rfl) ?_
                refine o_storeAll rfl (by conv => lhs; whnf) (by simp [Value.oneCell']) (by exact sz70) hB2 (by rfl) ?_
                intro w18 hP18
                have hX := hX.put hP18 (by rw [hN2.g_eq]; exact hXs2)
                have hO := hO.mod (hP18.mod 0 (Nat.zero_le _)) (Nat.zero_le _) (by simp [kBr])
                have hB4 := hP18.keep hB4 (by omega)
                have hB2 := hP18.blk
                refine p1 (x_assign (by conv => lhs; whnf)) ?_
                refine r_nil ?_
                refine t_n ?_
                refine c_ret ?_
                refine t_r ?_
                refine b_r ?_
                refine t_r ?_
                refine t_r ?_
                refine b_r ?_
                refine t_r ?_
                refine end2c rfl ua70 rfl (by conv => lhs; whnf) hB2 sz70 ?_
                first | exact ⟨.inr ⟨hno, rfl⟩, hX⟩ | exact ⟨.inl ⟨⟨by omega, hri, hok⟩, _, _, _, rfl, hO⟩, hX⟩
              · try simp only [decide_eq_true_eq, decide_eq_false_iff_not, Bool.not_eq_true, Bool.not_eq_false, Bool.not_eq_eq_eq_not, Bool.not_true, Bool.not_false, Int.not_lt, Int.not_le] at hc49
                have hord : i = 0 ∨ lssB (l.getD (i - 1) default).1 (l.getD i default).1 = true := by first | (left; omega) | (right; rw [← ez]; simpa using hc49)
                have hrn := riseN_next hri (by omega) hord
                have hon := ok_take_succ hok (by omega) hb7_7 hb7_16
                refine c_skip ?_
                refine t_n ?_
                refine r_held (fun _ w2 => Ext w w2) mixed ?_
                intro w19 hE19
                have hX := hX.ext hE19
                have hO := hO.ext hE19
                have hB4 := hB4.ext hE19
                have hB2 := hB2.ext hE19
                have hSr9 : (fun _ w2 => Ext w w2) w19 w19 := hX
                refine h_take 0 rfl (by kernel_rfl) (by kernel_rfl) (by kernel_rfl) hSr9 (fun wS hSS => by ( exact (x_fieldAddr fo70_0 sz30 rfl))) ?_
                refine h_take 2 rfl (by kernel_rfl) (by kernel_rfl) (by kernel_rfl) hSr9 (fun wS hSS => by ( exact (x_move (by conv => lhs; whnf)))) ?_
                refine h_take 3 rfl (by kernel_rfl) (by kernel_rfl) (by kernel_rfl) hSr9 (fun wS hSS => by ( exact (x_move (by conv => lhs; whnf)))) ?_
                refine h_take 4 rfl (by kernel_rfl) (by kernel_rfl) (by kernel_rfl) hSr9 (fun wS hSS => by ( exact (x_ixs u30 sz81 rfl rfl ((ha.ext hX).adr kBrA_pos (by omega)) (by omega) (by omega)))) ?_
                refine h_take 5 rfl (by kernel_rfl) (by kernel_rfl) (by kernel_rfl) hSr9 (fun wS hSS => by ( exact (x_fieldAddr fo81_0 sz9 rfl))) ?_
                refine h_take 6 rfl (by kernel_rfl) (by kernel_rfl) (by kernel_rfl) hSr9 (fun wS hSS => by (have hX := hSS; exact (x_load1 un9 rfl (hX.cell hc0_1)))) ?_
                refine h_take 7 rfl (by kernel_rfl) (by kernel_rfl) (by kernel_rfl) hSr9 (fun wS hSS => by ( exact (x_move (by conv => lhs; whnf)))) ?_
                refine h_take 8 rfl (by kernel_rfl) (by kernel_rfl) (by kernel_rfl) hSr9 (fun wS hSS => by ( exact (x_move (by conv => lhs; whnf)))) ?_
                refine h_take 9 rfl (by kernel_rfl) (by kernel_rfl) (by kernel_rfl) hSr9 (fun wS hSS => by ( exact (x_ixs u30 sz81 rfl rfl ((ha.ext hX).adr kBrA_pos (by omega)) (by omega) (by omega)))) ?_
                refine h_take 10 rfl (by kernel_rfl) (by kernel_rfl) (by kernel_rfl) hSr9 (fun wS hSS => by ( exact (x_fieldAddr fo81_1 sz31 rfl))) ?_
                refine h_take 11 rfl (by kernel_rfl) (by kernel_rfl) (by kernel_rfl) hSr9 (fun wS hSS => by (have hX := hSS; exact (x_load1 un31 rfl (hX.cell hc1_1)))) ?_
                refine h_two 1 12 _ _ rfl rfl (by kernel_rfl) (hop_of_list (fun Q1 hQ1 => ?_)) (hop_of_list (fun Q12 hQ12 => ?_))
                · skip
                  refine p1 (x_load1 un30 rfl (hB4.cell (rfl))) ?_
                  refine hop_end hQ1 ⟨hSr9, ?_⟩
                  refine h_one 12 _ rfl (by kernel_rfl) (hop_of_list (fun Q12 hQ12 => ?_))
                  have hXs := hX.size
                  have hm16 := mayB_len hb7_16
                  have hl1 := hS1.len
                  refine o_call Try.func114 fn114 fb114 (ref15_own (l.getD i default).1 (l.getD i default).2 _ _ _ _ _ (hS1.ext hX) (by omega)) rfl ?_
                  rintro v20 w20 ⟨⟨gO, rfl, hI⟩, hE20⟩
                  have hX := hX.ext hE20
                  have hO := hO.ext hE20
                  have hB4 := hB4.ext hE20
                  have hB2 := hB2.ext hE20
                  have hSr9 := hSr9.ext hE20
                  have hI := hI.brMono (S' := (fun j => w.heap.size ≤ j)) (fun j _ h => Nat.le_trans hXs h)
                  refine hop_end hQ12 ⟨hSr9, ?_⟩
                  refine h_one 13 _ rfl (by kernel_rfl) (hop_of_list (fun Q13 hQ13 => ?_))
                  obtain ⟨css1, hA1, hsr1⟩ := src_kind u30 hI.sl kBr_pos
                  have hA1 : (kBr (fun j => w.heap.size ≤ j)).All 0 _ _ css1 := All.imp2 (fun _ _ h => h) hA1
                  have hq1 := hX.size
                  have hOl := hO.len
                  rw [List.length_take] at hOl
                  refine o_append (d := (kBr (fun j => w.heap.size ≤ j))) ([(l.getD i default)]) u30 inf81 rfl kBr_pos rfl rfl hO (hsr1) rfl (hA1) (rfl) (by omega) (by omega) (by omega) (by omega) (by simp [kBr]) ?_
                  intro p64 c64 w21 hO hM21
                  have hX := hX.mod hM21 (Nat.le_refl _)
                  have hB4 := hB4.mod hM21 (by decide)
                  have hB2 := hB2.mod hM21 (by decide)
                  have hSr9 := hSr9.mod hM21 (by first | exact Nat.le_refl _ | exact trivial | omega)
                  refine hop_end hQ13 ⟨hSr9, ?_⟩
                  refine h_take 14 rfl (by kernel_rfl) (by kernel_rfl) (by kernel_rfl) hSr9 (fun wS hSS => by ( exact (x_fieldAddr fo70_0 sz30 rfl))) ?_
                  refine h_one 15 _ rfl (by kernel_rfl) (hop_of_list (fun Q15 hQ15 => ?_))
                  refine o_store1 rfl (by conv => lhs; whnf) rfl rfl sz30 hB4 (by simp) ?_
                  intro w22 hP22
                  have hX := hX.put hP22 (by omega)
                  have hB4 := hP22.blk
                  simp only [List.setIfInBounds_toArray, List.set_cons_zero, List.set_cons_succ] at hB4
                  have hB2 := hP22.keep hB2 (by omega)
                  have hSr9 := hX
                  have hO := hO.mod (hP22.mod 0 (Nat.zero_le _)) (Nat.zero_le _) (by simp [kBr])
                  refine hop_end hQ15 ⟨hSr9, ?_⟩
                  refine h_done (by kernel_rfl) ?_
                  refine b_n ?_
                  refine t_n ?_
                  refine r_plain ?_
                  refine p1 (x_move (by conv => lhs; whnf)) ?_
                  refine p1 (x_add rfl rfl (fits_i64 (by omega) (by omega))) ?_
                  refine p1 (x_assign (by conv => lhs; whnf)) ?_
                  refine r_nil ?_
                  refine t_n (At.mk ((i + 1, p64, m + 1, c64)) (by repeat (first | exact Agr.refl _ _ | exact Agr.hav _ _ _ | refine Agr.upd rfl ?_ | refine Agr.updL ?_ _ rfl | refine Agr.hav' rfl ?_)) ⟨rfl, trivial⟩ ?_)
                  exact ⟨⟨hX, ⟨by rw [br_take_succ (by omega)]; exact hO, hB4, hB2, hrn, hon, by omega⟩⟩, by first | (dsimp only; omega) | ((show _ < _); omega)⟩
                · skip
                  have hXs := hX.size
                  have hm16 := mayB_len hb7_16
                  have hl1 := hS1.len
                  refine o_call Try.func114 fn114 fb114 (ref15_own (l.getD i default).1 (l.getD i default).2 _ _ _ _ _ (hS1.ext hX) (by omega)) rfl ?_
                  rintro v23 w23 ⟨⟨gO, rfl, hI⟩, hE23⟩
                  have hX := hX.ext hE23
                  have hO := hO.ext hE23
                  have hB4 := hB4.ext hE23
                  have hB2 := hB2.ext hE23
                  have hSr9 := hSr9.ext hE23
                  have hI := hI.brMono (S' := (fun j => w.heap.size ≤ j)) (fun j _ h => Nat.le_trans hXs h)
                  refine hop_end hQ12 ⟨hSr9, ?_⟩
                  refine h_one 1 _ rfl (by kernel_rfl) (hop_of_list (fun Q1 hQ1 => ?_))
                  refine p1 (x_load1 un30 rfl (hB4.cell (rfl))) ?_
                  refine hop_end hQ1 ⟨hSr9, ?_⟩
                  refine h_one 13 _ rfl (by kernel_rfl) (hop_of_list (fun Q13 hQ13 => ?_))
                  obtain ⟨css1, hA1, hsr1⟩ := src_kind u30 hI.sl kBr_pos
                  have hA1 : (kBr (fun j => w.heap.size ≤ j)).All 0 _ _ css1 := All.imp2 (fun _ _ h => h) hA1
                  have hq1 := hX.size
                  have hOl := hO.len
                  rw [List.length_take] at hOl
                  refine o_append (d := (kBr (fun j => w.heap.size ≤ j))) ([(l.getD i default)]) u30 inf81 rfl kBr_pos rfl rfl hO (hsr1) rfl (hA1) (rfl) (by omega) (by omega) (by omega) (by omega) (by simp [kBr]) ?_
                  intro p64 c64 w24 hO hM24
                  have hX := hX.mod hM24 (Nat.le_refl _)
                  have hB4 := hB4.mod hM24 (by decide)
                  have hB2 := hB2.mod hM24 (by decide)
                  have hSr9 := hSr9.mod hM24 (by first | exact Nat.le_refl _ | exact trivial | omega)
                  refine hop_end hQ13 ⟨hSr9, ?_⟩
                  refine h_take 14 rfl (by kernel_rfl) (by kernel_rfl) (by kernel_rfl) hSr9 (fun wS hSS => by ( exact (x_fieldAddr fo70_0 sz30 rfl))) ?_
                  refine h_one 15 _ rfl (by kernel_rfl) (hop_of_list (fun Q15 hQ15 => ?_))
                  refine o_store1 rfl (by conv => lhs; whnf) rfl rfl sz30 hB4 (by simp) ?_
                  intro w25 hP25
                  have hX := hX.put hP25 (by omega)
                  have hB4 := hP25.blk
                  simp only [List.setIfInBounds_toArray, List.set_cons_zero, List.set_cons_succ] at hB4
                  have hB2 := hP25.keep hB2 (by omega)
                  have hSr9 := hX
                  have hO := hO.mod (hP25.mod 0 (Nat.zero_le _)) (Nat.zero_le _) (by simp [kBr])
                  refine hop_end hQ15 ⟨hSr9, ?_⟩
                  refine h_done (by kernel_rfl) ?_
                  refine b_n ?_
                  refine t_n ?_
                  refine r_plain ?_
                  refine p1 (x_move (by conv => lhs; whnf)) ?_
                  refine p1 (x_add rfl rfl (fits_i64 (by omega) (by omega))) ?_
                  refine p1 (x_assign (by conv => lhs; whnf)) ?_
                  refine r_nil ?_
                  refine t_n (At.mk ((i + 1, p64, m + 1, c64)) (by repeat (first | exact Agr.refl _ _ | exact Agr.hav _ _ _ | refine Agr.upd rfl ?_ | refine Agr.updL ?_ _ rfl | refine Agr.hav' rfl ?_)) ⟨rfl, trivial⟩ ?_)
                  exact ⟨⟨hX, ⟨by rw [br_take_succ (by omega)]; exact hO, hB4, hB2, hrn, hon, by omega⟩⟩, by first | (dsimp only; omega) | ((show _ < _); omega)⟩
          · try simp only [decide_eq_true_eq, decide_eq_false_iff_not, Bool.not_eq_true, Bool.not_eq_false, Bool.not_eq_eq_eq_not, Bool.not_true, Bool.not_false, Int.not_lt, Int.not_le] at hb7_19
            refine h_skip 20 35 rfl (by first | exact .inl rfl | exact .inr rfl) rfl (by kernel_rfl) (by kernel_rfl) (by kernel_rfl) hSr7 ?_
            refine h_skip 21 35 rfl (by first | exact .inl rfl | exact .inr rfl) rfl (by kernel_rfl) (by kernel_rfl) (by kernel_rfl) hSr7 ?_
            refine h_skip 22 35 rfl (by first | exact .inl rfl | exact .inr rfl) rfl (by kernel_rfl) (by kernel_rfl) (by kernel_rfl) hSr7 ?_
            refine h_skip 23 35 rfl (by first | exact .inl rfl | exact .inr rfl) rfl (by kernel_rfl) (by kernel_rfl) (by kernel_rfl) hSr7 ?_
            refine h_skip 24 35 rfl (by first | exact .inl rfl | exact .inr rfl) rfl (by kernel_rfl) (by kernel_rfl) (by kernel_rfl) hSr7 ?_
            refine h_skip 25 35 rfl (by first | exact .inl rfl | exact .inr rfl) rfl (by kernel_rfl) (by kernel_rfl) (by kernel_rfl) hSr7 ?_
            refine h_skip 26 35 rfl (by first | exact .inl rfl | exact .inr rfl) rfl (by kernel_rfl) (by kernel_rfl) (by kernel_rfl) hSr7 ?_
            refine h_skip 27 35 rfl (by first | exact .inl rfl | exact .inr rfl) rfl (by kernel_rfl) (by kernel_rfl) (by kernel_rfl) hSr7 ?_
            refine h_skip 28 35 rfl (by first | exact .inl rfl | exact .inr rfl) rfl (by kernel_rfl) (by kernel_rfl) (by kernel_rfl) hSr7 ?_
            refine h_skip 29 35 rfl (by first | exact .inl rfl | exact .inr rfl) rfl (by kernel_rfl) (by kernel_rfl) (by kernel_rfl) hSr7 ?_
            refine h_skip 30 35 rfl (by first | exact .inl rfl | exact .inr rfl) rfl (by kernel_rfl) (by kernel_rfl) (by kernel_rfl) hSr7 ?_
            refine h_skip 31 35 rfl (by first | exact .inl rfl | exact .inr rfl) rfl (by kernel_rfl) (by kernel_rfl) (by kernel_rfl) hSr7 ?_
            refine h_takeg 32 32 rfl rfl rfl (by kernel_rfl) (by kernel_rfl) (by kernel_rfl) hSr7 (fun wS hSS => by ( exact (x_pick_f rfl (by conv => lhs; whnf)))) ?_
            refine h_take 33 rfl (by kernel_rfl) (by kernel_rfl) (by kernel_rfl) hSr7 (fun wS hSS => by ( exact (x_pick_f rfl (by conv => lhs; whnf)))) ?_
            refine h_done (by kernel_rfl) ?_
            refine t_n ?_
            refine c_f rfl ?_
            have hord : i = 0 ∨ lssB (l.getD (i - 1) default).1 (l.getD i default).1 = true := by first | (left; omega) | (right; rw [← ez]; simpa using hc49)
            have hrn := riseN_next hri (by omega) hord
            have hon := ok_take_succ hok (by omega) hb7_7 hb7_16
            refine c_skip ?_
            refine t_n ?_
            refine r_held (fun _ w2 => Ext w w2) mixed ?_
            intro w26 hE26
            have hX := hX.ext hE26
            have hO := hO.ext hE26
            have hB4 := hB4.ext hE26
            have hB2 := hB2.ext hE26
            have hSr9 : (fun _ w2 => Ext w w2) w26 w26 := hX
            refine h_take 0 rfl (by kernel_rfl) (by kernel_rfl) (by kernel_rfl) hSr9 (fun wS hSS => by ( exact (x_fieldAddr fo70_0 sz30 rfl))) ?_
            refine h_take 2 rfl (by kernel_rfl) (by kernel_rfl) (by kernel_rfl) hSr9 (fun wS hSS => by ( exact (x_move (by conv => lhs; whnf)))) ?_
            refine h_take 3 rfl (by kernel_rfl) (by kernel_rfl) (by kernel_rfl) hSr9 (fun wS hSS => by ( exact (x_move (by conv => lhs; whnf)))) ?_
            refine h_take 4 rfl (by kernel_rfl) (by kernel_rfl) (by kernel_rfl) hSr9 (fun wS hSS => by ( exact (x_ixs u30 sz81 rfl rfl ((ha.ext hX).adr kBrA_pos (by omega)) (by omega) (by omega)))) ?_
            refine h_take 5 rfl (by kernel_rfl) (by kernel_rfl) (by kernel_rfl) hSr9 (fun wS hSS => by ( exact (x_fieldAddr fo81_0 sz9 rfl))) ?_
            refine h_take 6 rfl (by kernel_rfl) (by kernel_rfl) (by kernel_rfl) hSr9 (fun wS hSS => by (have hX := hSS; exact (x_load1 un9 rfl (hX.cell hc0_1)))) ?_
            refine h_take 7 rfl (by kernel_rfl) (by kernel_rfl) (by kernel_rfl) hSr9 (fun wS hSS => by ( exact (x_move (by conv => lhs; whnf)))) ?_
            refine h_take 8 rfl (by kernel_rfl) (by kernel_rfl) (by kernel_rfl) hSr9 (fun wS hSS => by ( exact (x_move (by conv => lhs; whnf)))) ?_
            refine h_take 9 rfl (by kernel_rfl) (by kernel_rfl) (by kernel_rfl) hSr9 (fun wS hSS => by ( exact (x_ixs u30 sz81 rfl rfl ((ha.ext hX).adr kBrA_pos (by omega)) (by omega) (by omega)))) ?_
            refine h_take 10 rfl (by kernel_rfl) (by kernel_rfl) (by kernel_rfl) hSr9 (fun wS hSS => by ( exact (x_fieldAddr fo81_1 sz31 rfl))) ?_
            refine h_take 11 rfl (by kernel_rfl) (by kernel_rfl) (by kernel_rfl) hSr9 (fun wS hSS => by (have hX := hSS; exact (x_load1 un31 rfl (hX.cell hc1_1)))) ?_
            refine h_two 1 12 _ _ rfl rfl (by kernel_rfl) (hop_of_list (fun Q1 hQ1 => ?_)) (hop_of_list (fun Q12 hQ12 => ?_))
            · skip
              refine p1 (x_load1 un30 rfl (hB4.cell (rfl))) ?_
              refine hop_end hQ1 ⟨hSr9, ?_⟩
              refine h_one 12 _ rfl (by kernel_rfl) (hop_of_list (fun Q12 hQ12 => ?_))
              have hXs := hX.size
              have hm16 := mayB_len hb7_16
              have hl1 := hS1.len
              refine o_call Try.func114 fn114 fb114 (ref15_own (l.getD i default).1 (l.getD i default).2 _ _ _ _ _ (hS1.ext hX) (by omega)) rfl ?_
              rintro v27 w27 ⟨⟨gO, rfl, hI⟩, hE27⟩
              have hX := hX.ext hE27
              have hO := hO.ext hE27
              have hB4 := hB4.ext hE27
              have hB2 := hB2.ext hE27
              have hSr9 := hSr9.ext hE27
              have hI := hI.brMono (S' := (fun j => w.heap.size ≤ j)) (fun j _ h => Nat.le_trans hXs h)
              refine hop_end hQ12 ⟨hSr9, ?_⟩
              refine h_one 13 _ rfl (by kernel_rfl) (hop_of_list (fun Q13 hQ13 => ?_))
              obtain ⟨css1, hA1, hsr1⟩ := src_kind u30 hI.sl kBr_pos
              have hA1 : (kBr (fun j => w.heap.size ≤ j)).All 0 _ _ css1 := All.imp2 (fun _ _ h => h) hA1
              have hq1 := hX.size
              have hOl := hO.len
              rw [List.length_take] at hOl
              refine o_append (d := (kBr (fun j => w.heap.size ≤ j))) ([(l.getD i default)]) u30 inf81 rfl kBr_pos rfl rfl hO (hsr1) rfl (hA1) (rfl) (by omega) (by omega) (by omega) (by omega) (by simp [kBr]) ?_
              intro p64 c64 w28 hO hM28
              have hX := hX.mod hM28 (Nat.le_refl _)
              have hB4 := hB4.mod hM28 (by decide)
              have hB2 := hB2.mod hM28 (by decide)
              have hSr9 := hSr9.mod hM28 (by first | exact Nat.le_refl _ | exact trivial | omega)
              refine hop_end hQ13 ⟨hSr9, ?_⟩
              refine h_take 14 rfl (by kernel_rfl) (by kernel_rfl) (by kernel_rfl) hSr9 (fun wS hSS => by ( exact (x_fieldAddr fo70_0 sz30 rfl))) ?_
              refine h_one 15 _ rfl (by kernel_rfl) (hop_of_list (fun Q15 hQ15 => ?_))
              refine o_store1 rfl (by conv => lhs; whnf) rfl rfl sz30 hB4 (by simp) ?_
              intro w29 hP29
              have hX := hX.put hP29 (by omega)
              have hB4 := hP29.blk
              simp only [List.setIfInBounds_toArray, List.set_cons_zero, List.set_cons_succ] at hB4
              have hB2 := hP29.keep hB2 (by omega)
              have hSr9 := hX
              have hO := hO.mod (hP29.mod 0 (Nat.zero_le _)) (Nat.zero_le _) (by simp [kBr])
              refine hop_end hQ15 ⟨hSr9, ?_⟩
              refine h_done (by kernel_rfl) ?_
              refine b_n ?_
              refine t_n ?_
              refine r_plain ?_
              refine p1 (x_move (by conv => lhs; whnf)) ?_
              refine p1 (x_add rfl rfl (fits_i64 (by omega) (by omega))) ?_
              refine p1 (x_assign (by conv => lhs; whnf)) ?_
              refine r_nil ?_
              refine t_n (At.mk ((i + 1, p64, m + 1, c64)) (by repeat (first | exact Agr.refl _ _ | exact Agr.hav _ _ _ | refine Agr.upd rfl ?_ | refine Agr.updL ?_ _ rfl | refine Agr.hav' rfl ?_)) ⟨rfl, trivial⟩ ?_)
              exact ⟨⟨hX, ⟨by rw [br_take_succ (by omega)]; exact hO, hB4, hB2, hrn, hon, by omega⟩⟩, by first | (dsimp only; omega) | ((show _ < _); omega)⟩
            · skip
              have hXs := hX.size
              have hm16 := mayB_len hb7_16
              have hl1 := hS1.len
              refine o_call Try.func114 fn114 fb114 (ref15_own (l.getD i default).1 (l.getD i default).2 _ _ _ _ _ (hS1.ext hX) (by omega)) rfl ?_
              rintro v30 w30 ⟨⟨gO, rfl, hI⟩, hE30⟩
              have hX := hX.ext hE30
              have hO := hO.ext hE30
              have hB4 := hB4.ext hE30
              have hB2 := hB2.ext hE30
              have hSr9 := hSr9.ext hE30
              have hI := hI.brMono (S' := (fun j => w.heap.size ≤ j)) (fun j _ h => Nat.le_trans hXs h)
              refine hop_end hQ12 ⟨hSr9, ?_⟩
              refine h_one 1 _ rfl (by kernel_rfl) (hop_of_list (fun Q1 hQ1 => ?_))
              refine p1 (x_load1 un30 rfl (hB4.cell (rfl))) ?_
              refine hop_end hQ1 ⟨hSr9, ?_⟩
              refine h_one 13 _ rfl (by kernel_rfl) (hop_of_list (fun Q13 hQ13 => ?_))
              obtain ⟨css1, hA1, hsr1⟩ := src_kind u30 hI.sl kBr_pos
              have hA1 : (kBr (fun j => w.heap.size ≤ j)).All 0 _ _ css1 := All.imp2 (fun _ _ h => h) hA1
              have hq1 := hX.size
              have hOl := hO.len
              rw [List.length_take] at hOl
              refine o_append (d := (kBr (fun j => w.heap.size ≤ j))) ([(l.getD i default)]) u30 inf81 rfl kBr_pos rfl rfl hO (hsr1) rfl (hA1) (rfl) (by omega) (by omega) (by omega) (by omega) (by simp [kBr]) ?_
              intro p64 c64 w31 hO hM31
              have hX := hX.mod hM31 (Nat.le_refl _)
              have hB4 := hB4.mod hM31 (by decide)
              have hB2 := hB2.mod hM31 (by decide)
              have hSr9 := hSr9.mod hM31 (by first | exact Nat.le_refl _ | exact trivial | omega)
              refine hop_end hQ13 ⟨hSr9, ?_⟩
              refine h_take 14 rfl (by kernel_rfl) (by kernel_rfl) (by kernel_rfl) hSr9 (fun wS hSS => by ( exact (x_fieldAddr fo70_0 sz30 rfl))) ?_
              refine h_one 15 _ rfl (by kernel_rfl) (hop_of_list (fun Q15 hQ15 => ?_))
              refine o_store1 rfl (by conv => lhs; whnf) rfl rfl sz30 hB4 (by simp) ?_
              intro w32 hP32
              have hX := hX.put hP32 (by omega)
              have hB4 := hP32.blk
              simp only [List.setIfInBounds_toArray, List.set_cons_zero, List.set_cons_succ] at hB4
              have hB2 := hP32.keep hB2 (by omega)
              have hSr9 := hX
              have hO := hO.mod (hP32.mod 0 (Nat.zero_le _)) (Nat.zero_le _) (by simp [kBr])
              refine hop_end hQ15 ⟨hSr9, ?_⟩
              refine h_done (by kernel_rfl) ?_
              refine b_n ?_
              refine t_n ?_
              refine r_plain ?_
              refine p1 (x_move (by conv => lhs; whnf)) ?_
              refine p1 (x_add rfl rfl (fits_i64 (by omega) (by omega))) ?_
              refine p1 (x_assign (by conv => lhs; whnf)) ?_
              refine r_nil ?_
              refine t_n (At.mk ((i + 1, p64, m + 1, c64)) (by repeat (first | exact Agr.refl _ _ | exact Agr.hav _ _ _ | refine Agr.upd rfl ?_ | refine Agr.updL ?_ _ rfl | refine Agr.hav' rfl ?_)) ⟨rfl, trivial⟩ ?_)
              exact ⟨⟨hX, ⟨by rw [br_take_succ (by omega)]; exact hO, hB4, hB2, hrn, hon, by omega⟩⟩, by first | (dsimp only; omega) | ((show _ < _); omega)⟩
    · try simp only [decide_eq_true_eq, decide_eq_false_iff_not, Bool.not_eq_true, Bool.not_eq_false, Bool.not_eq_eq_eq_not, Bool.not_true, Bool.not_false, Int.not_lt, Int.not_le] at hc13
      have hin : i = n := by omega
      rw [hin, List.take_of_length_le (by omega)] at hO hri hok
      refine c_exit ?_
      refine t_e ?_
      refine t_e ?_
      refine b_hit ?_
      refine t_n ?_
      refine c_seq ?_
      refine r_plain ?_
      refine p1 (x_loadB ua70 rfl hB4 sz70) ?_
      refine o_storeAll rfl (by conv => lhs; whnf) (by simp [Value.oneCell']) (by exact sz70) hB2 (by rfl) ?_
      intro w33 hP33
      have hX := hX.put hP33 (by rw [hN2.g_eq]; exact hXs2)
      have hO := hO.mod (hP33.mod 0 (Nat.zero_le _)) (Nat.zero_le _) (by simp [kBr])
      have hB4 := hP33.keep hB4 (by omega)
      have hB2 := hP33.blk
      refine p1 (x_assign (by conv => lhs; whnf)) ?_
      refine r_nil ?_
      refine t_n ?_
      refine c_ret ?_
      refine end2c rfl ua70 rfl (by conv => lhs; whnf) hB2 sz70 ?_
      first | exact ⟨.inr ⟨hno, rfl⟩, hX⟩ | exact ⟨.inl ⟨⟨by omega, hri, hok⟩, _, _, _, rfl, hO⟩, hX⟩
theorem ref15_Copy (l : List Br) (B : Nat) (p : Option Addr) (n c : Nat) (w : World) (ha : Sl kBrA 81 B w p n c l) (hmm : ∀ x ∈ l, x.2.length ≤ 4398046511104) (hn : n ≤ 3518437208780) :
    Ret Try.prog 67 [.slice p n c] w (fun v w' => (∃ q m c', v = .slice q m c' ∧ Own (kBr (fun j => w.heap.size ≤ j)) 81 0 w.heap.size w' q m c' l) ∧ Ext w w') := by
  have hX := Ext.refl w
  refine enter 25 _ Try.func67 rfl rfl (Nat.le_of_ble_eq_true rfl) ?_
  refine c_seq ?_
  refine r_plain ?_
  refine p1 (x_assign (by conv => lhs; whnf)) ?_
  refine r_nil ?_
  refine t_n ?_
  refine c_seq ?_
  refine r_plain ?_
  refine p1 (x_assign (by conv => lhs; whnf)) ?_
  refine r_nil ?_
  refine t_n ?_
  refine c_seq ?_
  refine c_seq ?_
  refine r_plain ?_
  refine p1 (x_assign (by conv => lhs; whnf)) ?_
  refine r_nil ?_
  refine t_n ?_
  refine c_block ?_
  have hlen := ha.len
  have hcap := ha.cap
  have hfit := ha.fit
  have hO := Own.nil (kBr (fun j => w.heap.size ≤ j)) 81 0 w.heap.size
  refine c_loop (ι := Nat × Option Addr × Nat × Nat) [3, 4, 5, 6, 7, 8, 9, 10, 11, 12, 13, 14, 15, 16, 17, 18, 19, 20, 21, 22, 23] (fun (i, q, m, c1) => [(3, .slice q m c1), (4, .int .i64 (i : Int))]) (fun (i, q, m, c1) w' => Ext w w' ∧ (Own (kBr (fun j => w.heap.size ≤ j)) 81 0 w.heap.size w' q m c1 (l.take i) ∧ i ≤ n)) (fun (i, q, m, c1) => n - i) ((0, none, 0, 0)) ⟨rfl, rfl, trivial⟩ ⟨hX, ⟨hO _, by omega⟩⟩ ?_
  rintro ⟨i, q, m, c1⟩ GL0 w1 ⟨hE1, hO, hi⟩
  have hX := hE1
  refine c_seq ?_
  refine c_seq ?_
  refine r_plain ?_
  refine p1 (x_move (by conv => lhs; whnf)) ?_
  refine p1 (x_move (by conv => lhs; whnf)) ?_
  refine p1 (x_len_slice u30 rfl) ?_
  refine p1 (x_lss rfl rfl) ?_
  refine r_nil ?_
  refine t_n ?_
  first | refine c_dec rfl (fun hc8 => ?_) (fun hc8 => ?_) | refine c_if rfl (fun hc8 => ?_) (fun hc8 => ?_)
  · try simp only [decide_eq_true_eq, decide_eq_false_iff_not, Bool.not_eq_true, Bool.not_eq_false, Bool.not_eq_eq_eq_not, Bool.not_true, Bool.not_false, Int.not_lt, Int.not_le] at hc8
    refine c_skip ?_
    refine t_n ?_
    refine c_seq ?_
    refine c_block ?_
    obtain ⟨q1, m1, c1, hrow1, hc0_1, hc1_1, hS1⟩ := ha.brAt i (by omega)
    have hmem := mem_getD (l := l) (k := i) (by omega)
    have hmx := hmm _ hmem
    have hl1 := hS1.len
    refine r_held (fun _ w2 => Ext w w2) mixed ?_
    intro w2 hE2
    have hX := hX.ext hE2
    have hO := hO.ext hE2
    have hSr5 : (fun _ w2 => Ext w w2) w2 w2 := hX
    refine h_take 0 rfl (by kernel_rfl) (by kernel_rfl) (by kernel_rfl) hSr5 (fun wS hSS => by ( exact (x_move (by conv => lhs; whnf)))) ?_
    refine h_take 1 rfl (by kernel_rfl) (by kernel_rfl) (by kernel_rfl) hSr5 (fun wS hSS => by ( exact (x_move (by conv => lhs; whnf)))) ?_
    refine h_take 2 rfl (by kernel_rfl) (by kernel_rfl) (by kernel_rfl) hSr5 (fun wS hSS => by ( exact (x_move (by conv => lhs; whnf)))) ?_
    refine h_take 3 rfl (by kernel_rfl) (by kernel_rfl) (by kernel_rfl) hSr5 (fun wS hSS => by ( exact (x_ixs u30 sz81 rfl rfl ((ha.ext hX).adr kBrA_pos (by omega)) (by omega) (by omega)))) ?_
    refine h_take 4 rfl (by kernel_rfl) (by kernel_rfl) (by kernel_rfl) hSr5 (fun wS hSS => by ( exact (x_fieldAddr fo81_0 sz9 rfl))) ?_
    refine h_take 5 rfl (by kernel_rfl) (by kernel_rfl) (by kernel_rfl) hSr5 (fun wS hSS => by (have hX := hSS; exact (x_load1 un9 rfl (hX.cell hc0_1)))) ?_
    refine h_take 6 rfl (by kernel_rfl) (by kernel_rfl) (by kernel_rfl) hSr5 (fun wS hSS => by ( exact (x_move (by conv => lhs; whnf)))) ?_
    refine h_take 7 rfl (by kernel_rfl) (by kernel_rfl) (by kernel_rfl) hSr5 (fun wS hSS => by ( exact (x_move (by conv => lhs; whnf)))) ?_
    refine h_take 8 rfl (by kernel_rfl) (by kernel_rfl) (by kernel_rfl) hSr5 (fun wS hSS => by ( exact (x_ixs u30 sz81 rfl rfl ((ha.ext hX).adr kBrA_pos (by omega)) (by omega) (by omega)))) ?_
    refine h_take 9 rfl (by kernel_rfl) (by kernel_rfl) (by kernel_rfl) hSr5 (fun wS hSS => by ( exact (x_fieldAddr fo81_1 sz31 rfl))) ?_
    refine h_take 10 rfl (by kernel_rfl) (by kernel_rfl) (by kernel_rfl) hSr5 (fun wS hSS => by (have hX := hSS; exact (x_load1 un31 rfl (hX.cell hc1_1)))) ?_
    refine h_one 11 _ rfl (by kernel_rfl) (hop_of_list (fun Q11 hQ11 => ?_))
    have hXs := hX.size
    refine o_call Try.func114 fn114 fb114 (ref15_own (l.getD i default).1 (l.getD i default).2 _ _ _ _ _ (hS1.ext hX) (by omega)) rfl ?_
    rintro v3 w3 ⟨⟨gO, rfl, hI⟩, hE3⟩
    have hX := hX.ext hE3
    have hO := hO.ext hE3
    have hSr5 := hSr5.ext hE3
    have hI := hI.brMono (S' := (fun j => w.heap.size ≤ j)) (fun j _ h => Nat.le_trans hXs h)
    refine hop_end hQ11 ⟨hSr5, ?_⟩
    refine h_one 12 _ rfl (by kernel_rfl) (hop_of_list (fun Q12 hQ12 => ?_))
    obtain ⟨css1, hA1, hsr1⟩ := src_kind u30 hI.sl kBr_pos
    have hA1 : (kBr (fun j => w.heap.size ≤ j)).All 0 _ _ css1 := All.imp2 (fun _ _ h => h) hA1
    have hq1 := hX.size
    have hOl := hO.len
    rw [List.length_take] at hOl
    refine o_append (d := (kBr (fun j => w.heap.size ≤ j))) ([(l.getD i default)]) u30 inf81 rfl kBr_pos rfl rfl hO (hsr1) rfl (hA1) (rfl) (by omega) (by omega) (by omega) (by omega) (by simp [kBr]) ?_
    intro p23 c23 w4 hO hM4
    have hX := hX.mod hM4 (Nat.le_refl _)
    have hSr5 := hSr5.mod hM4 (by first | exact Nat.le_refl _ | exact trivial | omega)
    refine hop_end hQ12 ⟨hSr5, ?_⟩
    refine h_take 13 rfl (by kernel_rfl) (by kernel_rfl) (by kernel_rfl) hSr5 (fun wS hSS => by ( exact (x_assign (by conv => lhs; whnf)))) ?_
    refine h_done (by kernel_rfl) ?_
    refine b_n ?_
    refine t_n ?_
    refine r_plain ?_
    refine p1 (x_move (by conv => lhs; whnf)) ?_
    refine p1 (x_add rfl rfl (fits_i64 (by omega) (by omega))) ?_
    refine p1 (x_assign (by conv => lhs; whnf)) ?_
    refine r_nil ?_
    refine t_n (At.mk ((i + 1, p23, m + 1, c23)) (by repeat (first | exact Agr.refl _ _ | exact Agr.hav _ _ _ | refine Agr.upd rfl ?_ | refine Agr.updL ?_ _ rfl | refine Agr.hav' rfl ?_)) ⟨rfl, rfl, trivial⟩ ?_)
    exact ⟨⟨hX, ⟨by rw [br_take_succ (by omega)]; exact hO, by omega⟩⟩, by first | (dsimp only; omega) | ((show _ < _); omega)⟩
  · try simp only [decide_eq_true_eq, decide_eq_false_iff_not, Bool.not_eq_true, Bool.not_eq_false, Bool.not_eq_eq_eq_not, Bool.not_true, Bool.not_false, Int.not_lt, Int.not_le] at hc8
    have hin : i = n := by omega
    rw [hin, List.take_of_length_le (by omega)] at hO
    refine c_exit ?_
    refine t_e ?_
    refine t_e ?_
    refine b_hit ?_
    refine t_n ?_
    refine c_seq ?_
    refine r_plain ?_
    refine p1 (x_move (by conv => lhs; whnf)) ?_
    refine p1 (x_assign (by conv => lhs; whnf)) ?_
    refine r_nil ?_
    refine t_n ?_
    refine c_ret ?_
    refine end1 rfl (by conv => lhs; whnf) ?_
    exact ⟨⟨_, _, _, rfl, hO⟩, hX⟩
end Go.Proofs.Eng
end
section
set_option linter.unusedVariables false
set_option linter.unusedSimpArgs false
set_option maxRecDepth 100000
set_option maxHeartbeats 4000000
namespace Go.Proofs.Eng
open Go.RowKit
open Extern.Stop (cell)
end Go.Proofs.Eng
end
section
set_option linter.unusedVariables false
set_option linter.unusedSimpArgs false
set_option maxRecDepth 100000
set_option maxHeartbeats 4000000
namespace Go.Proofs.Eng
open Go.RowKit
open Extern.Stop (cell)
end Go.Proofs.Eng
end
section
set_option linter.unusedSimpArgs false
set_option linter.unusedVariables false
namespace Go.Proofs.Eng
open Extern.Stop (cell)
/-! ### a number off bytes -/
def getUF (i n : Nat) : List UInt8 → Nat × Nat × Int
  | [] => (0, 0, 3)
  | x :: r => if (i = 9 ∧ 1 < x.toNat) ∨ (0 < i ∧ x.toNat = 0) then (0, 0, 4) else
    if x.toNat < 128 then (n + x.toNat % 128 * 2 ^ (7 * i), i + 1, 0) else getUF (i + 1) (n + x.toNat % 128 * 2 ^ (7 * i)) r
def getU (b : List UInt8) : Nat × Nat × Int := getUF 0 0 b
theorem drop_cons {b : List UInt8} {i : Nat} (h : i < b.length) : b.drop i = b.getD i 0 :: b.drop (i + 1) := by
  rw [List.drop_eq_getElem_cons h]; simp [h]
theorem andNot128 (x : UInt8) : bitsOf .andNot .u8 (x.toNat : Int) 128 = ((x.toNat % 128 : Nat) : Int) := by
  have hx : x.toNat < 256 := x.toNat_lt
  unfold bitsOf
  rw [wrap_u8]
  have key : ∀ r : Nat, r < 256 → (((BitVec.ofInt 8 (r : Int) &&& ~~~ BitVec.ofInt 8 128).toNat : Int) % 256) = ((r % 128 : Nat) : Int) := by decide +kernel
  exact key _ hx
theorem wrap_u64 (a : Int) : IntKind.u64.wrap a = a % 18446744073709551616 := by
  unfold IntKind.wrap; simp [IntKind.bits, IntKind.signed]
theorem shl7 {r i : Nat} (hi : i ≤ 9) (hr : r < 128) (h9 : i = 9 → r ≤ 1) : IntKind.u64.wrap ((r : Int) * 2 ^ min (7 * (i : Int)).toNat IntKind.u64.bits) = ((r * 2 ^ (7 * i) : Nat) : Int) := by
  have e1 : (7 * (i : Int)).toNat = 7 * i := by omega
  have e2 : min (7 * i) IntKind.u64.bits = 7 * i := by show min (7 * i) 64 = 7 * i; omega
  rw [e1, e2, wrap_u64]
  have e3 : (r : Int) * 2 ^ (7 * i) = ((r * 2 ^ (7 * i) : Nat) : Int) := by push_cast; rfl
  rw [e3]
  have hb : r * 2 ^ (7 * i) < 18446744073709551616 := by
    by_cases h : i = 9
    · subst h; have := h9 rfl; omega
    · have hp : 2 ^ (7 * i) ≤ 2 ^ 56 := Nat.pow_le_pow_right (by omega) (by omega)
      have : r * 2 ^ (7 * i) ≤ 127 * 2 ^ 56 := Nat.mul_le_mul (by omega) hp
      omega
  omega
theorem ofInt_toNat {n : Nat} (h : n < 18446744073709551616) : (BitVec.ofInt 64 (n : Int)).toNat = n := by
  simp [BitVec.toNat_ofInt]; omega
theorem or_sum {n r k : Nat} (hn : n < 2 ^ k) (hs : n + r * 2 ^ k < 18446744073709551616) : bitsOf .or .u64 (n : Int) ((r * 2 ^ k : Nat) : Int) = ((n + r * 2 ^ k : Nat) : Int) := by
  show IntKind.u64.wrap _ = _
  have e1 : (BitVec.ofInt IntKind.u64.bits (n : Int) ||| BitVec.ofInt IntKind.u64.bits ((r * 2 ^ k : Nat) : Int)).toNat = n + r * 2 ^ k := by
    show (BitVec.ofInt 64 (n : Int) ||| BitVec.ofInt 64 ((r * 2 ^ k : Nat) : Int)).toNat = _
    rw [BitVec.toNat_or, ofInt_toNat (by omega), ofInt_toNat (by omega), Nat.or_comm, Nat.mul_comm r, ← Nat.two_pow_add_eq_or_of_lt hn]
    omega
  rw [e1, wrap_u64]; omega
theorem pow_step (i : Nat) : 2 ^ (7 * (i + 1)) = 128 * 2 ^ (7 * i) := by rw [Nat.mul_add, Nat.pow_add]; omega
theorem getU_sum {n r i : Nat} (hn : n < 2 ^ (7 * i)) (hr : r < 128) : n + r * 2 ^ (7 * i) < 2 ^ (7 * (i + 1)) := by
  rw [pow_step]
  have : r * 2 ^ (7 * i) ≤ 127 * 2 ^ (7 * i) := Nat.mul_le_mul_right _ (by omega)
  omega
theorem getU_fit {n r i : Nat} (hn : n < 2 ^ (7 * i)) (hi : i ≤ 9) (hr : r < 128) (h9 : i = 9 → r ≤ 1) : n + r * 2 ^ (7 * i) < 18446744073709551616 := by
  by_cases h : i = 9
  · subst h; have := h9 rfl
    have : r * 2 ^ (7 * 9) ≤ 1 * 2 ^ (7 * 9) := Nat.mul_le_mul_right _ this
    omega
  · have := getU_sum hn hr
    have hp : 2 ^ (7 * (i + 1)) ≤ 2 ^ 63 := Nat.pow_le_pow_right (by omega) (by omega)
    omega
theorem getUF_bounds : ∀ (l : List UInt8) (i n : Nat), n < 2 ^ (7 * i) → i ≤ 9 → (getUF i n l).2.2 = 0 → (getUF i n l).2.1 ≤ i + l.length ∧ (getUF i n l).2.1 ≤ 10 ∧ i < (getUF i n l).2.1 ∧ (getUF i n l).1 < 18446744073709551616
  | [], i, n, _, _, h => by simp [getUF] at h
  | x :: r, i, n, hn, hi, h => by
    have hx : x.toNat % 128 < 128 := Nat.mod_lt _ (by omega)
    unfold getUF at h ⊢
    by_cases c1 : (i = 9 ∧ 1 < x.toNat) ∨ (0 < i ∧ x.toNat = 0)
    · rw [if_pos c1] at h; cases h
    · rw [if_neg c1] at h ⊢
      have h9 : i = 9 → x.toNat % 128 ≤ 1 := by intro e; have : ¬ 1 < x.toNat := fun h => c1 (.inl ⟨e, h⟩); omega
      by_cases c2 : x.toNat < 128
      · rw [if_pos c2] at h ⊢
        simp only [List.length_cons]
        have := getU_fit hn hi hx h9
        omega
      · rw [if_neg c2] at h ⊢
        have hi' : i + 1 ≤ 9 := by
          apply Classical.byContradiction
          intro hc
          exact c1 (.inl ⟨by omega, by omega⟩)
        have := getUF_bounds r (i + 1) _ (getU_sum hn hx) hi' h
        simp only [List.length_cons]
        omega
theorem getUF_zero : ∀ (l : List UInt8) (i n : Nat), (getUF i n l).2.2 ≠ 0 → (getUF i n l).1 = 0 ∧ (getUF i n l).2.1 = 0 ∧ ((getUF i n l).2.2 = 3 ∨ (getUF i n l).2.2 = 4)
  | [], i, n, _ => by simp [getUF]
  | x :: r, i, n, h => by
    unfold getUF at h ⊢
    by_cases c1 : (i = 9 ∧ 1 < x.toNat) ∨ (0 < i ∧ x.toNat = 0)
    · rw [if_pos c1]; simp
    · rw [if_neg c1] at h ⊢
      by_cases c2 : x.toNat < 128
      · rw [if_pos c2] at h; simp at h
      · rw [if_neg c2] at h ⊢; exact getUF_zero r _ _ h
theorem getU_bounds {b : List UInt8} (h : (getU b).2.2 = 0) : (getU b).2.1 ≤ b.length ∧ (getU b).2.1 ≤ 10 ∧ 0 < (getU b).2.1 ∧ (getU b).1 < 18446744073709551616 := by
  have := getUF_bounds b 0 0 (by simp) (by omega) h
  unfold getU; omega
theorem getU_zero {b : List UInt8} (h : (getU b).2.2 ≠ 0) : (getU b).1 = 0 ∧ (getU b).2.1 = 0 ∧ ((getU b).2.2 = 3 ∨ (getU b).2.2 = 4) := getUF_zero b 0 0 h
/-! the reference's way: groups first, then the value, then what is laid again -/
def grpF : Nat → Nat → List UInt8 → Nat × Int
  | 0, _, _ => (0, 4)
  | _ + 1, _, [] => (0, 3)
  | k + 1, i, x :: r => if x.toNat < 128 then (i + 1, 0) else grpF k (i + 1) r
def grp (b : List UInt8) : Nat × Int := grpF 10 0 b
def rv : List UInt8 → Nat
  | [] => 0
  | x :: r => (x.toNat % 128 + 128 * rv r) % 18446744073709551616
theorem rv_lt : ∀ l, rv l < 18446744073709551616
  | [] => by simp [rv]
  | x :: r => by unfold rv; omega
end Go.Proofs.Eng
end
section
set_option linter.unusedVariables false
set_option linter.unusedSimpArgs false
namespace Go.Proofs.Eng
/-! ### a number off bytes: the two ways are one -/
def V : List UInt8 → Nat
  | [] => 0
  | x :: r => x.toNat % 128 + 128 * V r
theorem rv_V : ∀ l, rv l = V l % 18446744073709551616
  | [] => rfl
  | x :: r => by unfold rv V; rw [rv_V r]; omega
/-- Groups: the last byte below 128, those ahead not. -/
def Gp : List UInt8 → Prop
  | [] => False
  | [x] => x.toNat < 128
  | x :: y :: r => 128 ≤ x.toNat ∧ Gp (y :: r)
def lastB : List UInt8 → Nat
  | [] => 0
  | [x] => x.toNat
  | _ :: y :: r => lastB (y :: r)
theorem V_lebU (m : Nat) : V (lebU m) = m := by
  induction m using Nat.strongRecOn with
  | _ m ih =>
    by_cases h : m < 128
    · rw [lebU_lt h]
      have e : (UInt8.ofNat m).toNat = m := by simp; omega
      simp only [V, e]; omega
    · rw [lebU_ge h]
      have e : (UInt8.ofNat (m % 128 + 128)).toNat = m % 128 + 128 := by simp; omega
      simp only [V, e, ih (m / 128) (by omega)]; omega
theorem V_split : ∀ s, Gp s → ∃ v, V s = v + lastB s * 2 ^ (7 * (s.length - 1)) ∧ v < 2 ^ (7 * (s.length - 1)) ∧ lastB s < 128
  | [x], h => ⟨0, by simp only [V, lastB, List.length_singleton]; have : x.toNat < 128 := h; simp; omega, by simp, h⟩
  | x :: y :: r, h => by
    obtain ⟨v, h1, h2, h3⟩ := V_split (y :: r) h.2
    have e : 7 * ((x :: y :: r).length - 1) = 7 * ((y :: r).length - 1 + 1) := by simp
    refine ⟨x.toNat % 128 + 128 * v, ?_, ?_, h3⟩
    · rw [e, pow_step]
      show x.toNat % 128 + 128 * V (y :: r) = x.toNat % 128 + 128 * v + lastB (y :: r) * (128 * 2 ^ (7 * ((y :: r).length - 1)))
      rw [h1, Nat.mul_left_comm (lastB (y :: r)) 128]; omega
    · rw [e, pow_step]; omega
theorem leb_V : ∀ s, Gp s → (s.length = 1 ∨ lastB s ≠ 0) → lebU (V s) = s
  | [x], h, _ => by
    have hx : x.toNat < 128 := h
    have e : V [x] = x.toNat := by simp only [V]; omega
    rw [e, lebU_lt hx]; simp
  | x :: y :: r, h, hl => by
    have hx : 128 ≤ x.toNat := h.1
    have hx2 := x.toNat_lt
    have hl' : lastB (y :: r) ≠ 0 := by rcases hl with hl | hl; (· simp at hl); (· exact hl)
    obtain ⟨v, h1, h2, h3⟩ := V_split (y :: r) h.2
    have hp : 0 < 2 ^ (7 * ((y :: r).length - 1)) := Nat.two_pow_pos _
    have hpos : 0 < V (y :: r) := by
      have : 1 * 1 ≤ lastB (y :: r) * 2 ^ (7 * ((y :: r).length - 1)) := Nat.mul_le_mul (by omega) hp
      omega
    have e : V (x :: y :: r) = x.toNat % 128 + 128 * V (y :: r) := rfl
    rw [e, lebU_ge (by omega), show (x.toNat % 128 + 128 * V (y :: r)) / 128 = V (y :: r) from by omega, leb_V (y :: r) h.2 (.inr hl')]
    congr 1
    have e2 : (x.toNat % 128 + 128 * V (y :: r)) % 128 + 128 = x.toNat := by omega
    rw [e2]; simp
theorem lebU_last (m : Nat) : m = 0 ∨ lastB (lebU m) ≠ 0 := by
  induction m using Nat.strongRecOn with
  | _ m ih =>
    by_cases h : m < 128
    · rcases Nat.eq_zero_or_pos m with h0 | h0
      · exact .inl h0
      · right
        rw [lebU_lt h]
        have e : (UInt8.ofNat m).toNat = m := by simp; omega
        simp only [lastB, e]; omega
    · right
      have h1 := ih (m / 128) (by omega)
      rw [lebU_ge h]
      have hp := lebU_pos (m / 128)
      cases hl : lebU (m / 128) with
      | nil => rw [hl] at hp; simp at hp
      | cons y r =>
        rw [hl] at h1
        show lastB (y :: r) ≠ 0
        rcases h1 with h1 | h1
        · omega
        · exact h1
theorem leb_not {s : List UInt8} {m : Nat} (hs : 1 < s.length) (hl : lastB s = 0) : lebU m ≠ s := by
  intro e
  rcases lebU_last m with h | h
  · subst h
    rw [lebU_lt (by omega)] at e
    rw [← e] at hs; simp at hs
  · rw [e] at h; exact h hl
def okLast (k x : Nat) : Prop := (k = 10 → x ≤ 1) ∧ (k = 1 ∨ x ≠ 0)
instance (k x : Nat) : Decidable (okLast k x) := inferInstanceAs (Decidable (_ ∧ _))
theorem leb_rv {s : List UInt8} (h : Gp s) (hl : s.length ≤ 10) : (lebU (rv s) = s ↔ okLast s.length (lastB s)) ∧ (okLast s.length (lastB s) → rv s = V s) := by
  obtain ⟨v, h1, h2, h3⟩ := V_split s h
  have hpos : 0 < s.length := by cases s with | nil => exact h.elim | cons => simp
  have hV : V s < 18446744073709551616 ↔ (s.length = 10 → lastB s ≤ 1) := by
    by_cases e : s.length = 10
    · rw [e] at h1 h2
      have p : 2 ^ (7 * (10 - 1)) = 9223372036854775808 := by decide
      rw [p] at h1 h2
      constructor
      · intro hv _; omega
      · intro hv; have := hv e; omega
    · have hle : 7 * (s.length - 1) + 7 ≤ 63 := by omega
      have p : 2 ^ (7 * (s.length - 1)) * 128 ≤ 2 ^ 63 := by
        have : 2 ^ (7 * (s.length - 1)) * 2 ^ 7 = 2 ^ (7 * (s.length - 1) + 7) := (Nat.pow_add _ _ _).symm
        rw [show (128 : Nat) = 2 ^ 7 from rfl, this]
        exact Nat.pow_le_pow_right (by omega) hle
      have q : lastB s * 2 ^ (7 * (s.length - 1)) ≤ 127 * 2 ^ (7 * (s.length - 1)) := Nat.mul_le_mul_right _ (by omega)
      constructor
      · intro _ h; exact absurd h e
      · intro _; omega
  have key : okLast s.length (lastB s) → rv s = V s := fun hk => by rw [rv_V, Nat.mod_eq_of_lt (hV.2 hk.1)]
  refine ⟨⟨fun e => ?_, fun hk => ?_⟩, key⟩
  · have hv : V s = rv s := by rw [← e, V_lebU, e]
    have := rv_lt s
    refine ⟨hV.1 (by omega), ?_⟩
    rcases Nat.lt_or_ge 1 s.length with h4 | h4
    · right; intro h5; exact leb_not h4 h5 e
    · left; omega
  · rw [key hk]
    exact leb_V s h hk.2
theorem grpF_bounds : ∀ (m i : Nat) (l : List UInt8), (grpF m i l).2 = 0 → i < (grpF m i l).1 ∧ (grpF m i l).1 ≤ i + m ∧ (grpF m i l).1 - i ≤ l.length ∧ Gp (l.take ((grpF m i l).1 - i)) ∧ lastB (l.take ((grpF m i l).1 - i)) = (l.getD ((grpF m i l).1 - 1 - i) 0).toNat
  | 0, i, l, h => by simp [grpF] at h
  | m + 1, i, [], h => by simp [grpF] at h
  | m + 1, i, x :: r, h => by
    unfold grpF at h ⊢
    by_cases hx : x.toNat < 128
    · rw [if_pos hx] at h ⊢
      simp only [List.length_cons]
      refine ⟨by omega, by omega, by omega, ?_, ?_⟩
      · rw [show i + 1 - i = 1 from by omega]; simpa [Gp] using hx
      · rw [show i + 1 - i = 1 from by omega, show i + 1 - 1 - i = 0 from by omega]; simp [lastB]
    · rw [if_neg hx] at h ⊢
      obtain ⟨h1, h2, h3, h4, h5⟩ := grpF_bounds m (i + 1) r h
      generalize (grpF m (i + 1) r).1 = k at *
      obtain ⟨j, rfl⟩ : ∃ j, k = i + 1 + (j + 1) := ⟨k - (i + 1) - 1, by omega⟩
      rw [show i + 1 + (j + 1) - (i + 1) = j + 1 from by omega] at h3 h4 h5
      rw [show i + 1 + (j + 1) - 1 - (i + 1) = j from by omega] at h5
      rw [show i + 1 + (j + 1) - i = j + 1 + 1 from by omega, show i + 1 + (j + 1) - 1 - i = j + 1 from by omega]
      refine ⟨by omega, by omega, by simp; omega, ?_, ?_⟩
      · rw [List.take_succ_cons]
        cases hr : r.take (j + 1) with
        | nil => rw [hr] at h4; exact h4.elim
        | cons y q => rw [hr] at h4; exact ⟨by omega, h4⟩
      · rw [List.take_succ_cons, List.getD_cons_succ, ← h5]
        cases hr : r.take (j + 1) with
        | nil => rw [hr] at h4; exact h4.elim
        | cons y q => rfl
theorem getUF_grp : ∀ (l : List UInt8) (i n : Nat), i ≤ 9 → getUF i n l = if (grpF (10 - i) i l).2 ≠ 0 then (0, 0, (grpF (10 - i) i l).2) else
    if okLast (grpF (10 - i) i l).1 (l.getD ((grpF (10 - i) i l).1 - 1 - i) 0).toNat then (n + V (l.take ((grpF (10 - i) i l).1 - i)) * 2 ^ (7 * i), (grpF (10 - i) i l).1, 0) else (0, 0, 4)
  | [], i, n, hi => by
    obtain ⟨m, hm⟩ : ∃ m, 10 - i = m + 1 := ⟨9 - i, by omega⟩
    rw [hm]; simp [getUF, grpF]
  | x :: r, i, n, hi => by
    obtain ⟨m, hm⟩ : ∃ m, 10 - i = m + 1 := ⟨9 - i, by omega⟩
    rw [hm]
    unfold getUF grpF
    by_cases hx : x.toNat < 128
    · rw [if_pos hx, if_pos hx]
      simp only [show i + 1 - 1 - i = 0 from by omega, show i + 1 - i = 1 from by omega, List.getD_cons_zero, ne_eq, not_true_eq_false, if_false, List.take_succ_cons, List.take_zero, V, Nat.mul_zero, Nat.add_zero]
      by_cases c : (i = 9 ∧ 1 < x.toNat) ∨ (0 < i ∧ x.toNat = 0)
      · rw [if_pos c, if_neg (by unfold okLast; omega)]
      · rw [if_neg c, if_pos (by unfold okLast; omega)]
    · rw [if_neg hx, if_neg hx]
      by_cases h9 : i = 9
      · subst h9
        have : m = 0 := by omega
        subst this
        rw [if_pos (.inl ⟨rfl, by omega⟩)]
        simp [grpF]
      · rw [if_neg (by omega), getUF_grp r (i + 1) _ (by omega), show 10 - (i + 1) = m from by omega]
        by_cases he : (grpF m (i + 1) r).2 = 0
        · obtain ⟨h1, h2, h3, h4, h5⟩ := grpF_bounds m (i + 1) r he
          generalize (grpF m (i + 1) r).1 = k at *
          obtain ⟨j, rfl⟩ : ∃ j, k = i + 1 + (j + 1) := ⟨k - (i + 1) - 1, by omega⟩
          simp only [he, ne_eq, not_true_eq_false, if_false]
          rw [show i + 1 + (j + 1) - (i + 1) = j + 1 from by omega, show i + 1 + (j + 1) - 1 - (i + 1) = j from by omega, show i + 1 + (j + 1) - i = j + 1 + 1 from by omega, show i + 1 + (j + 1) - 1 - i = j + 1 from by omega]
          rw [List.getD_cons_succ, List.take_succ_cons]
          have e : n + x.toNat % 128 * 2 ^ (7 * i) + V (r.take (j + 1)) * 2 ^ (7 * (i + 1)) = n + V (x :: r.take (j + 1)) * 2 ^ (7 * i) := by
            rw [pow_step]
            show _ = n + (x.toNat % 128 + 128 * V (r.take (j + 1))) * 2 ^ (7 * i)
            rw [Nat.add_mul, Nat.mul_assoc, Nat.mul_left_comm (V _) 128]; omega
          rw [e]
        · simp [he]
/-- The reference's way. -/
def refU (b : List UInt8) : Nat × Nat × Int :=
  if (grp b).2 ≠ 0 then (0, 0, (grp b).2) else if lebU (rv (b.take (grp b).1)) = b.take (grp b).1 then (rv (b.take (grp b).1), (grp b).1, 0) else (0, 0, 4)
theorem getU_refU (b : List UInt8) : getU b = refU b := by
  unfold getU refU grp
  rw [getUF_grp b 0 0 (by omega)]
  simp only [Nat.sub_zero, Nat.mul_zero, Nat.pow_zero, Nat.mul_one, Nat.zero_add]
  by_cases he : (grpF 10 0 b).2 = 0
  · obtain ⟨h1, h2, h3, h4, h5⟩ := grpF_bounds 10 0 b he
    simp only [Nat.sub_zero] at h3 h4 h5
    simp only [he, ne_eq, not_true_eq_false, if_false]
    have hlen : (b.take (grpF 10 0 b).1).length = (grpF 10 0 b).1 := by simp; omega
    obtain ⟨k1, k2⟩ := leb_rv h4 (by omega)
    rw [hlen, h5] at k1 k2
    by_cases c : okLast (grpF 10 0 b).1 (b.getD ((grpF 10 0 b).1 - 1) 0).toNat
    · rw [if_pos c, if_pos (k1.2 c), k2 c]
    · rw [if_neg c, if_neg (fun e => c (k1.1 e))]
  · simp [he]
theorem grpF_nil {i : Nat} (hi : i < 10) : grpF (10 - i) i [] = (0, 3) := by
  obtain ⟨m, hm⟩ : ∃ m, 10 - i = m + 1 := ⟨9 - i, by omega⟩
  rw [hm]; rfl
theorem grpF_lt {i : Nat} (hi : i < 10) {x : UInt8} {r : List UInt8} (hx : x.toNat < 128) : grpF (10 - i) i (x :: r) = (i + 1, 0) := by
  obtain ⟨m, hm⟩ : ∃ m, 10 - i = m + 1 := ⟨9 - i, by omega⟩
  rw [hm]; unfold grpF; rw [if_pos hx]
theorem grpF_ge {i : Nat} (hi : i < 10) {x : UInt8} {r : List UInt8} (hx : ¬ x.toNat < 128) : grpF (10 - i) i (x :: r) = grpF (10 - (i + 1)) (i + 1) r := by
  obtain ⟨m, hm⟩ : ∃ m, 10 - i = m + 1 := ⟨9 - i, by omega⟩
  rw [hm, show 10 - (i + 1) = m from by omega]
  conv => lhs; unfold grpF
  rw [if_neg hx]
theorem or_rv (m r : Nat) (hr : r < 128) : bitsOf .or .u64 (IntKind.u64.wrap ((m : Int) * 2 ^ min (7 : Int).toNat IntKind.u64.bits)) ((r : Nat) : Int) = (((r + 128 * m) % 18446744073709551616 : Nat) : Int) := by
  have e0 : IntKind.u64.wrap ((m : Int) * 2 ^ min (7 : Int).toNat IntKind.u64.bits) = ((m % 144115188075855872 * 2 ^ 7 : Nat) : Int) := by
    show IntKind.u64.wrap ((m : Int) * 2 ^ 7) = _
    rw [wrap_u64]; omega
  rw [e0, show bitsOf .or .u64 ((m % 144115188075855872 * 2 ^ 7 : Nat) : Int) (r : Int) = bitsOf .or .u64 (r : Int) ((m % 144115188075855872 * 2 ^ 7 : Nat) : Int) from ?_, or_sum (k := 7) (by omega) (by omega)]
  · congr 1; omega
  · show IntKind.u64.wrap _ = IntKind.u64.wrap _
    congr 2
    exact congrArg BitVec.toNat (BitVec.or_comm _ _)
theorem toStr_inj {a b : List UInt8} (h : toStr a = toStr b) : a = b := by
  unfold toStr at h
  injection h with h
  injection h
theorem rv_step {xs : List UInt8} {j k : Nat} (hj : j + 1 ≤ k) (hk : k ≤ xs.length) : rv ((xs.drop j).take (k - j)) = ((xs.getD j 0).toNat % 128 + 128 * rv ((xs.drop (j + 1)).take (k - (j + 1)))) % 18446744073709551616 := by
  rw [drop_cons (by omega), show k - j = k - (j + 1) + 1 from by omega, List.take_succ_cons]
  rfl
theorem grp_bounds {b : List UInt8} (h : (grp b).2 = 0) : 0 < (grp b).1 ∧ (grp b).1 ≤ 10 ∧ (grp b).1 ≤ b.length := by
  unfold grp at h ⊢
  obtain ⟨h1, h2, h3, _⟩ := grpF_bounds 10 0 b h
  omega
end Go.Proofs.Eng
end
section
set_option linter.unusedVariables false
namespace Go.Proofs.Eng
/-- A list that is taken off bytes: the document's answer. -/
def gets (b : List UInt8) (most : Int) : List Hash × Nat × Int :=
  if (getU b).2.2 ≠ 0 then ([], 0, (getU b).2.2) else if most < 0 ∨ most < ((getU b).1 : Int) then ([], 0, 5) else
  if (b.length - (getU b).2.1) / 32 < (getU b).1 then ([], 0, 3) else if rising (hashesAt b (getU b).2.1 (getU b).1) = false then ([], 0, 4) else (hashesAt b (getU b).2.1 (getU b).1, (getU b).2.1 + 32 * (getU b).1, 0)
def hZero : Hash := ⟨List.replicate 32 0, by simp⟩
theorem hv_put (h : Hash) (j : Nat) (b : UInt8) : (hv h).setIfInBounds j (.int .u8 b.toNat) = hv (h.put j b) := by
  apply Array.toList_inj.1
  rw [Array.toList_setIfInBounds]
  show (hcs h).set j _ = hcs (h.put j b)
  unfold hcs Hash.put
  rw [List.map_set]; rfl
theorem hashAt_step {h : Hash} {b : List UInt8} {o c : Nat} (hc : c < 32) (ht : h.1.take c = (hashAt b o).1.take c) : (h.put c (b.getD (o + c) 0)).1.take (c + 1) = (hashAt b o).1.take (c + 1) := by
  have h2 := h.2
  rw [List.take_succ_eq_append_getElem (show c < (hashAt b o).1.length by rw [(hashAt b o).2]; exact hc), ← ht]
  show (h.1.set c _).take (c + 1) = _
  rw [List.take_succ_eq_append_getElem (by rw [List.length_set]; omega), List.getElem_set_self, List.take_set_of_le (Nat.le_refl _)]
  congr 2
  simp [hashAt]
theorem hash_of_take {h k : Hash} (ht : h.1.take 32 = k.1.take 32) : h = k := by
  apply Subtype.ext
  rw [List.take_of_length_le (by rw [h.2]; omega), List.take_of_length_le (by rw [k.2]; omega)] at ht
  exact ht
end Go.Proofs.Eng
end
section
set_option linter.unusedVariables false
set_option linter.unusedSimpArgs false
namespace Go.Proofs.Eng
/-! ### what is laid is taken off as it was -/
def putB (s : List Hash) : List UInt8 := lebU s.length ++ s.flatMap (·.1)
theorem flat32 : ∀ s : List Hash, (s.flatMap (·.1)).length = 32 * s.length
  | [] => rfl
  | x :: s => by rw [List.flatMap_cons, List.length_append, x.2, flat32 s, List.length_cons]; omega
theorem getUF_lebU (t : List UInt8) : ∀ (m i acc : Nat), acc < 2 ^ (7 * i) → acc + m * 2 ^ (7 * i) < 18446744073709551616 → i ≤ 9 → (i = 0 ∨ m ≠ 0) → getUF i acc (lebU m ++ t) = (acc + m * 2 ^ (7 * i), i + (lebU m).length, 0) := by
  intro m
  induction m using Nat.strongRecOn with
  | _ m ih =>
    intro i acc ha hs hi h0
    by_cases hm : m < 128
    · rw [lebU_lt hm]
      have e : (UInt8.ofNat m).toNat = m := by simp; omega
      show getUF i acc (UInt8.ofNat m :: ([] ++ t)) = _
      unfold getUF
      simp only [e]
      have hc : ¬ ((i = 9 ∧ 1 < m) ∨ (0 < i ∧ m = 0)) := by
        rintro (⟨h1, h2⟩ | ⟨h1, h2⟩)
        · subst h1
          have : 2 * 2 ^ (7 * 9) ≤ m * 2 ^ (7 * 9) := Nat.mul_le_mul_right _ (by omega)
          omega
        · omega
      rw [if_neg hc, if_pos hm, Nat.mod_eq_of_lt hm]; rfl
    · have hp : 2 ^ (7 * (i + 1)) = 128 * 2 ^ (7 * i) := pow_step i
      have hpos : 0 < 2 ^ (7 * i) := Nat.two_pow_pos _
      have hle : 128 * 2 ^ (7 * i) ≤ m * 2 ^ (7 * i) := Nat.mul_le_mul_right _ (by omega)
      have hi8 : i ≤ 8 := by
        rcases Nat.lt_or_ge i 9 with h | h
        · omega
        · have : i = 9 := by omega
          subst this; omega
      rw [lebU_ge hm]
      have e : (UInt8.ofNat (m % 128 + 128)).toNat = m % 128 + 128 := by simp; omega
      show getUF i acc (UInt8.ofNat (m % 128 + 128) :: (lebU (m / 128) ++ t)) = _
      unfold getUF
      simp only [e]
      rw [if_neg (by omega), if_neg (by omega)]
      have hd : m = m / 128 * 128 + m % 128 := by omega
      have hmm : m * 2 ^ (7 * i) = m / 128 * (128 * 2 ^ (7 * i)) + m % 128 * 2 ^ (7 * i) := by
        conv => lhs; rw [hd]
        rw [Nat.add_mul, Nat.mul_assoc]
      have e2 : (m % 128 + 128) % 128 = m % 128 := by omega
      rw [e2]
      have hr : m % 128 * 2 ^ (7 * i) ≤ 127 * 2 ^ (7 * i) := Nat.mul_le_mul_right _ (by omega)
      rw [ih (m / 128) (by omega) (i + 1) _ (by rw [hp]; omega) (by rw [hp]; omega) (by omega) (.inr (by omega)), hp]
      simp only [List.length_cons, Prod.mk.injEq, and_true]
      omega
theorem getU_lebU {n : Nat} (t : List UInt8) (h : n < 18446744073709551616) : getU (lebU n ++ t) = (n, (lebU n).length, 0) := by
  unfold getU
  rw [getUF_lebU t n 0 0 (by simp) (by simp; exact h) (by omega) (.inl rfl)]
  simp
theorem flat_take32 : ∀ (s : List Hash) (i : Nat) (t : List UInt8), i < s.length → ((s.flatMap (·.1) ++ t).drop (32 * i)).take 32 = (s.getD i default).1
  | x :: s, 0, t, _ => by
    rw [Nat.mul_zero, List.drop_zero, List.flatMap_cons, List.append_assoc, List.take_append_of_le_length (by rw [x.2]; omega), List.take_of_length_le (by rw [x.2]; omega)]; rfl
  | x :: s, i + 1, t, h => by
    rw [List.flatMap_cons, List.append_assoc, show 32 * (i + 1) = x.1.length + 32 * i from by rw [x.2]; omega, ← List.drop_drop, List.drop_left, List.getD_cons_succ]
    exact flat_take32 s i t (by simpa using h)
  | [], i, t, h => by simp at h
theorem hashesAt_flat (s : List Hash) (pre t : List UInt8) : hashesAt (pre ++ (s.flatMap (·.1) ++ t)) pre.length s.length = s := by
  apply list_eq_of_all (z := default) (by rw [hashesAt_len])
  intro i hi
  rw [hashesAt_len] at hi
  have e : (hashesAt (pre ++ (s.flatMap (·.1) ++ t)) pre.length s.length).getD i default = hashAt (pre ++ (s.flatMap (·.1) ++ t)) (pre.length + 32 * i) := by
    unfold hashesAt
    rw [List.getD_eq_getElem?_getD, List.getElem?_map, List.getElem?_range hi]; rfl
  rw [e]
  apply Subtype.ext
  have hf := flat32 s
  rw [← hashAt_take (by simp only [List.length_append, hf]; omega), ← List.drop_drop, List.drop_left]
  exact flat_take32 s i t hi
theorem flat_hashesAt {b : List UInt8} {k : Nat} : ∀ n, k + 32 * n ≤ b.length → (hashesAt b k n).flatMap (·.1) = (b.drop k).take (32 * n)
  | 0, _ => by simp [hashesAt]
  | n + 1, h => by
    rw [hashesAt_succ, List.flatMap_append, flat_hashesAt n (by omega), show 32 * (n + 1) = 32 * n + 32 from by omega, List.take_add, List.drop_drop, hashAt_take (by omega)]
    simp
theorem put_gets {b : List UInt8} {most : Int} (h : (gets b most).2.2 = 0) : (gets b most).2.1 ≤ b.length ∧ putB (gets b most).1 = b.take (gets b most).2.1 := by
  unfold gets at h ⊢
  by_cases h1 : (getU b).2.2 ≠ 0
  · rw [if_pos h1] at h; exact absurd h h1
  · rw [if_neg h1] at h ⊢
    have h1' : (getU b).2.2 = 0 := Classical.byContradiction h1
    obtain ⟨k1, k2, k3, k4⟩ := getU_bounds h1'
    by_cases h2 : most < 0 ∨ most < ((getU b).1 : Int)
    · rw [if_pos h2] at h; cases h
    · rw [if_neg h2] at h ⊢
      by_cases h3 : (b.length - (getU b).2.1) / 32 < (getU b).1
      · rw [if_pos h3] at h; cases h
      · rw [if_neg h3] at h ⊢
        by_cases h4 : rising (hashesAt b (getU b).2.1 (getU b).1) = false
        · rw [if_pos h4] at h; cases h
        · rw [if_neg h4]
          have hle : (getU b).2.1 + 32 * (getU b).1 ≤ b.length := by omega
          refine ⟨hle, ?_⟩
          have hl : lebU (getU b).1 = b.take (getU b).2.1 := by
            have hr := getU_refU b
            unfold refU at hr
            by_cases g1 : (grp b).2 ≠ 0
            · rw [if_pos g1] at hr; rw [hr] at h1'; exact absurd h1' g1
            · rw [if_neg g1] at hr
              by_cases g2 : lebU (rv (b.take (grp b).1)) = b.take (grp b).1
              · rw [if_pos g2] at hr; rw [hr]; exact g2
              · rw [if_neg g2] at hr; rw [hr] at h1'; cases h1'
          show putB (hashesAt b (getU b).2.1 (getU b).1) = b.take ((getU b).2.1 + 32 * (getU b).1)
          unfold putB
          rw [hashesAt_len, hl, flat_hashesAt _ hle, List.take_add]
end Go.Proofs.Eng
end
section
set_option linter.unusedVariables false
set_option linter.unusedSimpArgs false
namespace Go.Proofs.Eng
open Go.RowKit
/-! ### records as bytes -/
abbrev Rec := ByteArray × List Br × List Hash
instance : Inhabited Rec := ⟨(ByteArray.empty, [], [])⟩
def txtL (s : ByteArray) : List UInt8 := lebU s.size ++ s.data.toList
def brB (x : Br) : List UInt8 := txtL x.1 ++ putB x.2
def brsB (l : List Br) : List UInt8 := (l.map brB).flatten
def recB (x : Rec) : List UInt8 := txtL x.1 ++ lebU x.2.1.length ++ brsB x.2.1 ++ putB x.2.2
def recsB (l : List Rec) : List UInt8 := (l.map recB).flatten
instance (l : List Br) : Decidable (RiseN l) := by unfold RiseN; infer_instance
instance (l : List Br) : Decidable (okL l) := by unfold okL; infer_instance
/-- Records that may be. -/
def rightP (x : Rec) : Prop := isName x.1 = true ∧ okL x.2.1 ∧ x.2.2.length ≤ 4096 ∧ rising x.2.2 = true
instance (x : Rec) : Decidable (rightP x) := by unfold rightP; infer_instance
def RiseR (l : List Rec) : Prop := l.Pairwise fun a b => lssB a.1 b.1 = true
instance (l : List Rec) : Decidable (RiseR l) := by unfold RiseR; infer_instance
def recsOk (l : List Rec) : Prop := (∀ x ∈ l, rightP x) ∧ RiseR l
instance (l : List Rec) : Decidable (recsOk l) := by unfold recsOk; infer_instance
def outB (l : List Rec) : List UInt8 := 1 :: lebU l.length ++ recsB l
def putI (l : List Rec) : List UInt8 × Int :=
  if 64 < l.length ∨ ¬ recsOk l then ([], 4) else if 524288 < (outB l).length then ([], 5) else (outB l, 0)
theorem txtL_len {s : ByteArray} (h : s.size ≤ 32) : (txtL s).length ≤ 42 := by
  have := lebU_len10 (n := s.size) (by omega)
  unfold txtL; rw [List.length_append]
  have e : s.data.toList.length = s.size := by simp
  omega
theorem putB_len {hs : List Hash} (h : hs.length < 18446744073709551616) : (putB hs).length ≤ 10 + 32 * hs.length := by
  have := lebU_len10 (n := hs.length) h
  unfold putB; rw [List.length_append, flat32]; omega
theorem name_size {s : ByteArray} (h : isName s = true) : s.size ≤ 32 := by
  unfold isName at h
  simp only [decide_eq_true_eq, Bool.and_eq_true] at h
  omega
theorem brB_len {x : Br} (h1 : isName x.1 = true) (h2 : mayB x.2 = true) : (brB x).length ≤ 564 := by
  have a := txtL_len (name_size h1)
  have b := putB_len (hs := x.2) (by have := mayB_len h2; omega)
  have c := mayB_len h2
  unfold brB; rw [List.length_append]; omega
theorem brsB_len : ∀ {l : List Br}, (∀ x ∈ l, isName x.1 = true ∧ mayB x.2 = true) → (brsB l).length ≤ l.length * 564
  | [], _ => by simp [brsB]
  | x :: l, h => by
    have a := brB_len (h x (by simp)).1 (h x (by simp)).2
    have b := brsB_len (l := l) fun y hy => h y (by simp [hy])
    unfold brsB at b ⊢
    simp only [List.map_cons, List.flatten_cons, List.length_append, List.length_cons]
    omega
theorem brsB_take_len {l : List Br} (h : okL l) (k : Nat) : (brsB (l.take k)).length ≤ 36096 := by
  have := brsB_len (l := l.take k) fun x hx => h.2.2 x (List.mem_of_mem_take hx)
  have h1 := h.1
  have : (l.take k).length ≤ 64 := by rw [List.length_take]; omega
  omega
theorem recB_len {x : Rec} (h : rightP x) : (recB x).length ≤ 167310 := by
  have a := txtL_len (name_size h.1)
  have b := lebU_len10 (n := x.2.1.length) (by have := h.2.1.1; omega)
  have c := brsB_take_len h.2.1 x.2.1.length
  rw [List.take_length] at c
  have d := putB_len (hs := x.2.2) (by have := h.2.2.1; omega)
  have e := h.2.2.1
  unfold recB
  simp only [List.length_append]
  omega
theorem brsB_succ {l : List Br} {k : Nat} (h : k < l.length) : brsB (l.take (k + 1)) = brsB (l.take k) ++ brB (l.getD k default) := by
  unfold brsB; rw [br_take_succ h, List.map_append, List.flatten_append]; simp
theorem rec_take_succ {l : List Rec} {k : Nat} (h : k < l.length) : l.take (k + 1) = l.take k ++ [l.getD k default] := by
  rw [List.take_succ_eq_append_getElem h, List.getD_eq_getElem?_getD, List.getElem?_eq_getElem h]; rfl
theorem recsB_succ {l : List Rec} {k : Nat} (h : k < l.length) : recsB (l.take (k + 1)) = recsB (l.take k) ++ recB (l.getD k default) := by
  unfold recsB; rw [rec_take_succ h, List.map_append, List.flatten_append]; simp
theorem rec_mem {l : List Rec} {k : Nat} (h : k < l.length) : l.getD k default ∈ l := by
  rw [List.getD_eq_getElem?_getD, List.getElem?_eq_getElem h]; exact List.getElem_mem _
theorem riseR_next {l : List Rec} {k : Nat} (h : RiseR (l.take k)) (hk : k < l.length) (hx : k = 0 ∨ lssB (l.getD (k - 1) default).1 (l.getD k default).1 = true) : RiseR (l.take (k + 1)) := by
  rw [rec_take_succ hk]
  refine List.pairwise_append.2 ⟨h, List.pairwise_singleton _ _, fun y hy b hb => ?_⟩
  simp only [List.mem_singleton] at hb
  subst hb
  rcases hx with h0 | hx
  · subst h0; simp at hy
  · rcases Nat.eq_zero_or_pos k with h0 | h0
    · subst h0; simp at hy
    · have h1 := rec_take_succ (l := l) (k := k - 1) (by omega)
      rw [show k - 1 + 1 = k from by omega] at h1
      rw [h1] at hy h
      have hp := List.pairwise_append.1 h
      rcases List.mem_append.1 hy with hy | hy
      · exact ls_trans (hp.2.2 y hy _ (by simp)) hx
      · simp only [List.mem_singleton] at hy; rw [hy]; exact hx
theorem not_riseR_at {l : List Rec} {k : Nat} (h0 : 0 < k) (hk : k < l.length) (hx : lssB (l.getD (k - 1) default).1 (l.getD k default).1 = false) : ¬ RiseR l := fun hr => by
  have h := List.pairwise_iff_getElem.1 hr (k - 1) k (by omega) hk (by omega)
  have eg : ∀ t (ht : t < l.length), l.getD t default = l[t] := fun t ht => by rw [List.getD_eq_getElem?_getD, List.getElem?_eq_getElem ht]; rfl
  rw [eg k hk, eg (k - 1) (by omega)] at hx
  rw [h] at hx; cases hx
theorem right_take_succ {l : List Rec} {k : Nat} (h : ∀ x ∈ l.take k, rightP x) (hk : k < l.length) (h1 : rightP (l.getD k default)) : ∀ x ∈ l.take (k + 1), rightP x := by
  rw [rec_take_succ hk]
  intro x hx
  rcases List.mem_append.1 hx with hx | hx
  · exact h x hx
  · simp only [List.mem_singleton] at hx; rw [hx]; exact h1
/-! ### records in memory -/
def kRecA : Kind Rec where
  sz := 3
  E := [81, 35]
  K := fun B w x cs => ∃ p n c q m c2, cs = [.string x.1, .slice p n c, .slice q m c2] ∧ Sl kBrA 81 B w p n c x.2.1 ∧ Sl kHash 35 B w q m c2 x.2.2
  len := by rintro _ _ _ _ ⟨p, n, c, q, m, c2, rfl, _⟩; rfl
  one := by
    rintro _ _ _ _ ⟨p, n, c, q, m, c2, rfl, _⟩ v hv
    simp only [List.mem_cons, List.not_mem_nil, or_false] at hv
    rcases hv with rfl | rfl | rfl <;> rfl
  keep := fun hs ⟨p, n, c, q, m, c2, h1, h2, h3⟩ => ⟨p, n, c, q, m, c2, h1, h2.keep (hs.sub (by simp [kBrA])), h3.keep (hs.sub (by intro t ht; have e : t = 35 := (by simpa [kHash, Kind.pure] using ht); simp [e]))⟩
  mono := fun hB ⟨p, n, c, q, m, c2, h1, h2, h3⟩ => ⟨p, n, c, q, m, c2, h1, h2.mono hB, h3.mono hB⟩
theorem kRecA_pos : 0 < kRecA.sz := by decide
theorem Sl.recAt {e : TypeId} {B : Nat} {w : World} {p : Option Addr} {n c : Nat} {l : List Rec} (h : Sl kRecA e B w p n c l) (i : Nat) (hi : i < n) : ∃ p1 n1 c1 p2 n2 c2, w.rangeAt (ab p) (ao p + i * 3) [.string (l.getD i default).1, .slice p1 n1 c1, .slice p2 n2 c2] ∧ Sl kBrA 81 B w p1 n1 c1 (l.getD i default).2.1 ∧ Sl kHash 35 B w p2 n2 c2 (l.getD i default).2.2 := by
  obtain ⟨cs, ⟨p1, n1, c1, p2, n2, c2, rfl, h1, h2⟩, hr⟩ := h.get default i hi
  exact ⟨p1, n1, c1, p2, n2, c2, hr, h1, h2⟩
end Go.Proofs.Eng
end
section
set_option linter.unusedVariables false
set_option linter.unusedSimpArgs false
set_option maxRecDepth 100000
set_option maxHeartbeats 4000000
namespace Go.Proofs.Eng
open Go.RowKit
open Extern.Stop (cell)
theorem fb118 : Try.f118.body.isNone = false := by kernel_rfl
theorem fb119 : Try.f119.body.isNone = false := by kernel_rfl
theorem fb27 : Try.f27.body.isNone = false := by kernel_rfl
theorem fb80 : Try.f80.body.isNone = false := by kernel_rfl
theorem fb83 : Try.f83.body.isNone = false := by kernel_rfl
theorem fb84 : Try.f84.body.isNone = false := by kernel_rfl
theorem fb85 : Try.f85.body.isNone = false := by kernel_rfl
theorem fn118 : (Try.f118.name == "runtime.NumGoroutine") = false := by kernel_rfl
theorem fn119 : (Try.f119.name == "runtime.NumGoroutine") = false := by kernel_rfl
theorem fn27 : (Try.f27.name == "runtime.NumGoroutine") = false := by kernel_rfl
theorem fn80 : (Try.f80.name == "runtime.NumGoroutine") = false := by kernel_rfl
theorem fn83 : (Try.f83.name == "runtime.NumGoroutine") = false := by kernel_rfl
theorem fn84 : (Try.f84.name == "runtime.NumGoroutine") = false := by kernel_rfl
theorem fn85 : (Try.f85.name == "runtime.NumGoroutine") = false := by kernel_rfl
theorem fo33_0 : fieldOf Try.prog 33 0 = some (9, 0) := by kernel_rfl
theorem fo33_1 : fieldOf Try.prog 33 1 = some (30, 1) := by kernel_rfl
theorem fo33_2 : fieldOf Try.prog 33 2 = some (31, 2) := by kernel_rfl
theorem inf22 : (Try.prog.info? 22).map (fun i => (i.zero, i.size, i.bytes)) = some (some (.slice none 0 0), 1, 24) := by kernel_rfl
theorem sz22 : (Try.prog.info? 22).map (·.size) = some 1 := by kernel_rfl
theorem sz33 : (Try.prog.info? 33).map (·.size) = some 3 := by kernel_rfl
theorem u141 : Try.prog.underlying 141 = some (.slice 22) := by kernel_rfl
theorem u23 : Try.prog.underlying 23 = some (.slice 33) := by kernel_rfl
theorem ua33 : (Try.prog.underlying 33).map TypeDesc.isRow = some true := by kernel_rfl
theorem un22 : (Try.prog.underlying 22).map TypeDesc.isRow = some false := by kernel_rfl
theorem zr33 : (Try.prog.info? 33).map (·.zero) = some (some (.agg #[.string ByteArray.empty, .slice none 0 0, .slice none 0 0])) := by kernel_rfl
end Go.Proofs.Eng
end
section
set_option linter.unusedVariables false
set_option linter.unusedSimpArgs false
set_option maxRecDepth 100000
set_option maxHeartbeats 4000000
namespace Go.Proofs.Eng
open Go.RowKit
open Extern.Stop (cell)
theorem hashes_Put (xs : List Hash) (B : Nat) (p : Option Addr) (n c : Nat) (w : World) (hl : Sl kHash 35 B w p n c xs) (hs : 32 * n ≤ 140737488351232) :
    Ret Try.prog 45 [.slice p n c] w (fun v w' => (∃ p l c, v = .slice p l c ∧ Own kByte 5 0 w.heap.size w' p l c (lebU n ++ xs.flatMap (·.1))) ∧ Ext w w') := by
  have hX := Ext.refl w
  refine enter 21 _ Try.func45 rfl rfl (Nat.le_of_ble_eq_true rfl) ?_
  refine c_seq ?_
  refine r_plain ?_
  refine p1 (x_assign (by conv => lhs; whnf)) ?_
  refine r_nil ?_
  refine t_n ?_
  refine c_seq ?_
  refine r_plain ?_
  refine p1 (x_move (by conv => lhs; whnf)) ?_
  refine p1 (x_len_slice u31 rfl) ?_
  refine p1 (x_convf u95 us3 rfl (fits_u64 (by omega) (by omega))) ?_
  have hB0 := hX.size
  have hlen := hl.len
  have hfit := hl.fit
  have hcap := hl.cap
  refine o_call Try.func82 fn82 fb82 (leb_Uint n (by omega) _) rfl ?_
  rintro v1 w1 ⟨⟨q, l, c1, rfl, hO⟩, hE1⟩
  have hX := hX.ext hE1
  have hO := hO.lower hB0
  have hl10 := lebU_len10 (n := n) (by omega)
  have hl0 := hO.len
  refine p1 (x_assign (by conv => lhs; whnf)) ?_
  refine r_nil ?_
  refine t_n ?_
  refine c_seq ?_
  refine c_seq ?_
  refine r_plain ?_
  refine p1 (x_move (by conv => lhs; whnf)) ?_
  refine p1 (x_len_slice u31 rfl) ?_
  refine p1 (x_move (by conv => lhs; whnf)) ?_
  refine r_nil ?_
  refine t_n ?_
  refine c_block ?_
  refine c_loop (ι := Nat × Option Addr × Nat × Nat) [3, 5, 12, 13, 14, 15, 16, 17, 18, 19] (fun (k, q, l, c1) => [(3, .slice q l c1), (12, .int .i64 (k : Int))]) (fun (k, q, l, c1) w' => Ext w w' ∧ (Own kByte 5 0 w.heap.size w' q l c1 (lebU n ++ (xs.take k).flatMap (·.1)) ∧ k ≤ n ∧ l ≤ 10 + 32 * k)) (fun (k, q, l, c1) => n - k) ((0, q, l, c1)) ⟨rfl, rfl, trivial⟩ ⟨hX, ⟨by simpa using hO, by omega, by omega⟩⟩ ?_
  rintro ⟨k, q, l, c1⟩ GL0 w2 ⟨hE2, hO, hk, hlk⟩
  have hX := hE2
  refine c_seq ?_
  refine r_plain ?_
  refine p1 (x_lss rfl rfl) ?_
  refine r_nil ?_
  refine t_n ?_
  refine c_seq ?_
  first | refine c_dec rfl (fun hc13 => ?_) (fun hc13 => ?_) | refine c_if rfl (fun hc13 => ?_) (fun hc13 => ?_)
  · try simp only [decide_eq_true_eq, decide_eq_false_iff_not, Bool.not_eq_true, Bool.not_eq_false, Bool.not_eq_eq_eq_not, Bool.not_true, Bool.not_false, Int.not_lt, Int.not_le] at hc13
    refine c_skip ?_
    refine t_n ?_
    refine c_seq ?_
    refine c_block ?_
    refine c_seq ?_
    refine r_plain ?_
    refine p1 (x_ixs u31 sz35 rfl rfl ((hl.ext hX).adr kHash_pos (by omega)) (by omega) (by omega)) ?_
    refine p1 (x_loadN ua35 rfl (hcs_sz sz35 _) ((hl.ext hX).hashAt _ (by omega) (by omega))) ?_
    have hsz := hX.size
    refine o_alloc zr35 ?_
    intro w3 g5 hN5
    have hE3 := hN5.ext
    have hX := hX.ext hE3
    have hO := hO.ext hE3
    have hB5 := hN5.blk
    refine o_storeAll rfl rfl (kHash_one _) (hv_sz sz35 _) hB5 (hv_size _) ?_
    intro w4 hP4
    have hX := hX.put hP4 (by have := hN5.g_eq; omega)
    have hO := hO.mod (hP4.mod 0 (Nat.zero_le _)) (Nat.zero_le _) (by decide)
    have hB5 := hP4.blk
    refine r_nil ?_
    refine t_n ?_
    refine r_plain ?_
    refine p1 (x_move (by conv => lhs; whnf)) ?_
    refine p1 (x_slice_arr u35 sz5 rfl) ?_
    have hB1 := hX.size
    refine o_append (d := kByte) ((xs.getD k default).1) u22 inf5 rfl kByte_pos rfl rfl hO (src_hash u22 hB5) (xs.getD k default).2 (byte_all _ _ _) (flat_single _) (by omega) (by omega) (by omega) (by omega) (by decide) ?_
    intro p18 c18 w5 hO hM5
    have hX := hX.mod hM5 (Nat.le_refl _)
    refine p1 (x_assign (by conv => lhs; whnf)) ?_
    refine r_nil ?_
    refine b_n ?_
    refine t_n ?_
    refine r_plain ?_
    refine p1 (x_add rfl rfl (fits_i64 (by omega) (by omega))) ?_
    refine p1 (x_move (by conv => lhs; whnf)) ?_
    refine r_nil ?_
    refine t_n (At.mk ((k + 1, p18, l + 32, c18)) (by repeat (first | exact Agr.refl _ _ | exact Agr.hav _ _ _ | refine Agr.upd rfl ?_ | refine Agr.updL ?_ _ rfl | refine Agr.hav' rfl ?_)) ⟨rfl, rfl, trivial⟩ ?_)
    exact ⟨⟨hX, ⟨by rw [getD_take_succ (by omega), List.flatMap_append, ← List.append_assoc]; simpa using hO, by omega, by omega⟩⟩, by first | (dsimp only; omega) | ((show _ < _); omega)⟩
  · try simp only [decide_eq_true_eq, decide_eq_false_iff_not, Bool.not_eq_true, Bool.not_eq_false, Bool.not_eq_eq_eq_not, Bool.not_true, Bool.not_false, Int.not_lt, Int.not_le] at hc13
    have hkn : k = n := by omega
    rw [hkn, List.take_of_length_le (by omega)] at hO
    refine c_exit ?_
    refine t_e ?_
    refine t_e ?_
    refine b_hit ?_
    refine t_n ?_
    refine c_seq ?_
    refine r_plain ?_
    refine p1 (x_move (by conv => lhs; whnf)) ?_
    refine p1 (x_assign (by conv => lhs; whnf)) ?_
    refine r_nil ?_
    refine t_n ?_
    refine c_ret ?_
    refine end1 rfl (by conv => lhs; whnf) ?_
    exact ⟨⟨_, _, _, rfl, hO⟩, hX⟩
theorem ref06_Put (xs : List Hash) (B : Nat) (p : Option Addr) (n c : Nat) (w : World) (hl : Sl kHash 35 B w p n c xs) (hs : 32 * n ≤ 140737488351232) :
    Ret Try.prog 46 [.slice p n c] w (fun v w' => (∃ p l c, v = .slice p l c ∧ Own kByte 5 0 w.heap.size w' p l c (lebU n ++ xs.flatMap (·.1))) ∧ Ext w w') := by
  have hX := Ext.refl w
  refine enter 22 _ Try.func46 rfl rfl (Nat.le_of_ble_eq_true rfl) ?_
  refine c_seq ?_
  refine r_plain ?_
  refine p1 (x_assign (by conv => lhs; whnf)) ?_
  refine r_nil ?_
  refine t_n ?_
  refine c_seq ?_
  refine r_plain ?_
  refine p1 (x_move (by conv => lhs; whnf)) ?_
  refine p1 (x_len_slice u31 rfl) ?_
  refine p1 (x_convf u95 us3 rfl (fits_u64 (by omega) (by omega))) ?_
  have hB0 := hX.size
  have hlen := hl.len
  have hfit := hl.fit
  have hcap := hl.cap
  refine o_call Try.func98 fn98 fb98 (ref02_Uint n (by omega) _) rfl ?_
  rintro v1 w1 ⟨⟨q, l, c1, rfl, hO⟩, hE1⟩
  have hX := hX.ext hE1
  have hO := hO.lower hB0
  have hl10 := lebU_len10 (n := n) (by omega)
  have hl0 := hO.len
  refine p1 (x_assign (by conv => lhs; whnf)) ?_
  refine r_nil ?_
  refine t_n ?_
  refine c_seq ?_
  refine c_seq ?_
  refine r_plain ?_
  refine p1 (x_assign (by conv => lhs; whnf)) ?_
  refine r_nil ?_
  refine t_n ?_
  refine c_block ?_
  refine c_loop (ι := Nat × Option Addr × Nat × Nat) [3, 4, 9, 10, 11, 12, 13, 14, 15, 16, 17, 18, 19, 20] (fun (k, q, l, c1) => [(3, .slice q l c1), (4, .int .i64 (k : Int))]) (fun (k, q, l, c1) w' => Ext w w' ∧ (Own kByte 5 0 w.heap.size w' q l c1 (lebU n ++ (xs.take k).flatMap (·.1)) ∧ k ≤ n ∧ l ≤ 10 + 32 * k)) (fun (k, q, l, c1) => n - k) ((0, q, l, c1)) ⟨rfl, rfl, trivial⟩ ⟨hX, ⟨by simpa using hO, by omega, by omega⟩⟩ ?_
  rintro ⟨k, q, l, c1⟩ GL0 w2 ⟨hE2, hO, hk, hlk⟩
  have hX := hE2
  refine c_seq ?_
  refine c_seq ?_
  refine r_plain ?_
  refine p1 (x_move (by conv => lhs; whnf)) ?_
  refine p1 (x_move (by conv => lhs; whnf)) ?_
  refine p1 (x_len_slice u31 rfl) ?_
  refine p1 (x_lss rfl rfl) ?_
  refine r_nil ?_
  refine t_n ?_
  first | refine c_dec rfl (fun hc12 => ?_) (fun hc12 => ?_) | refine c_if rfl (fun hc12 => ?_) (fun hc12 => ?_)
  · try simp only [decide_eq_true_eq, decide_eq_false_iff_not, Bool.not_eq_true, Bool.not_eq_false, Bool.not_eq_eq_eq_not, Bool.not_true, Bool.not_false, Int.not_lt, Int.not_le] at hc12
    refine c_skip ?_
    refine t_n ?_
    refine c_seq ?_
    refine c_block ?_
    refine r_plain ?_
    refine p1 (x_move (by conv => lhs; whnf)) ?_
    refine p1 (x_move (by conv => lhs; whnf)) ?_
    refine p1 (x_move (by conv => lhs; whnf)) ?_
    refine p1 (x_ixs u31 sz35 rfl rfl ((hl.ext hX).adr kHash_pos (by omega)) (by omega) (by omega)) ?_
    refine p1 (x_slice_arr u35 sz5 rfl) ?_
    have hB1 := hX.size
    refine o_append (d := kByte) ((xs.getD k default).1) u22 inf5 rfl kByte_pos rfl rfl hO (src_range u22 ((hl.ext hX).hashAt (k : Int) (by omega) (by omega))) (xs.getD k default).2 (byte_all _ _ _) (flat_single _) (by omega) (by omega) (by omega) (by omega) (by decide) ?_
    intro p20 c20 w3 hO hM3
    have hX := hX.mod hM3 (Nat.le_refl _)
    refine p1 (x_assign (by conv => lhs; whnf)) ?_
    refine r_nil ?_
    refine b_n ?_
    refine t_n ?_
    refine r_plain ?_
    refine p1 (x_move (by conv => lhs; whnf)) ?_
    refine p1 (x_add rfl rfl (fits_i64 (by omega) (by omega))) ?_
    refine p1 (x_assign (by conv => lhs; whnf)) ?_
    refine r_nil ?_
    refine t_n (At.mk ((k + 1, p20, l + 32, c20)) (by repeat (first | exact Agr.refl _ _ | exact Agr.hav _ _ _ | refine Agr.upd rfl ?_ | refine Agr.updL ?_ _ rfl | refine Agr.hav' rfl ?_)) ⟨rfl, rfl, trivial⟩ ?_)
    exact ⟨⟨hX, ⟨by rw [getD_take_succ (by omega), List.flatMap_append, ← List.append_assoc]; simpa using hO, by omega, by omega⟩⟩, by first | (dsimp only; omega) | ((show _ < _); omega)⟩
  · try simp only [decide_eq_true_eq, decide_eq_false_iff_not, Bool.not_eq_true, Bool.not_eq_false, Bool.not_eq_eq_eq_not, Bool.not_true, Bool.not_false, Int.not_lt, Int.not_le] at hc12
    have hkn : k = n := by omega
    rw [hkn, List.take_of_length_le (by omega)] at hO
    refine c_exit ?_
    refine t_e ?_
    refine t_e ?_
    refine b_hit ?_
    refine t_n ?_
    refine c_seq ?_
    refine r_plain ?_
    refine p1 (x_move (by conv => lhs; whnf)) ?_
    refine p1 (x_assign (by conv => lhs; whnf)) ?_
    refine r_nil ?_
    refine t_n ?_
    refine c_ret ?_
    refine end1 rfl (by conv => lhs; whnf) ?_
    exact ⟨⟨_, _, _, rfl, hO⟩, hX⟩
end Go.Proofs.Eng
end
section
set_option linter.unusedVariables false
set_option linter.unusedSimpArgs false
set_option maxRecDepth 100000
set_option maxHeartbeats 4000000
namespace Go.Proofs.Eng
open Go.RowKit
open Extern.Stop (cell)
theorem slices_Concat_byte_grow (m : Nat) (w : World) (hs : m ≤ 225179981368000) :
    Ret Try.prog 119 [.slice none 0 0, .int .i64 (m : Int)] w (fun v w' => (∃ p c', v = .slice p 0 c' ∧ Own kByte 5 0 w.heap.size w' p 0 c' []) ∧ Ext w w') := by
  have hX := Ext.refl w
  refine enter 27 _ Try.func119 rfl rfl (Nat.le_of_ble_eq_true rfl) ?_
  refine c_seq ?_
  refine r_plain ?_
  refine p1 (x_assign (by conv => lhs; whnf)) ?_
  refine r_nil ?_
  refine t_n ?_
  refine c_seq ?_
  refine c_seq ?_
  refine r_plain ?_
  refine p1 (x_move (by conv => lhs; whnf)) ?_
  refine p1 ((x_lss rfl rfl).cast (congrArg _ (decide_eq_false (by omega)))) ?_
  refine r_nil ?_
  refine t_n ?_
  refine c_f rfl ?_
  refine c_skip ?_
  refine t_n ?_
  refine c_seq ?_
  refine c_seq ?_
  refine r_plain ?_
  refine p1 (x_move (by conv => lhs; whnf)) ?_
  refine p1 (x_move (by conv => lhs; whnf)) ?_
  refine p1 (x_cap_slice u22 rfl) ?_
  refine p1 (x_move (by conv => lhs; whnf)) ?_
  refine p1 (x_len_slice u22 rfl) ?_
  refine p1 (x_sub rfl rfl (fits_i64 (by omega) (by omega))) ?_
  refine p1 ((x_sub rfl rfl (fits_i64 (by omega) (by omega))).cast (congrArg (Value.int .i64) (show _ = (m : Int) by omega))) ?_
  refine p1 (x_assign (by conv => lhs; whnf)) ?_
  refine r_nil ?_
  refine t_n ?_
  refine c_seq ?_
  refine r_plain ?_
  refine p1 (x_move (by conv => lhs; whnf)) ?_
  refine p1 (x_gtr rfl rfl) ?_
  refine r_nil ?_
  refine t_n ?_
  first | refine c_dec rfl (fun hc16 => ?_) (fun hc16 => ?_) | refine c_if rfl (fun hc16 => ?_) (fun hc16 => ?_)
  · try simp only [decide_eq_true_eq, decide_eq_false_iff_not, Bool.not_eq_true, Bool.not_eq_false, Bool.not_eq_eq_eq_not, Bool.not_true, Bool.not_false, Int.not_lt, Int.not_le] at hc16
    refine r_plain ?_
    refine p1 (x_move (by conv => lhs; whnf)) ?_
    refine p1 (x_move (by conv => lhs; whnf)) ?_
    refine p1 (x_cap_slice u22 rfl) ?_
    refine p1 (x_slice_hN u22 sz5 rfl rfl (Nat.le_refl _)) ?_
    refine p1 (x_move (by conv => lhs; whnf)) ?_
    have hXs := hX.size
    refine o_growNil (kByte) (m := m) u22 u3 inf5 rfl kByte_pos rfl rfl (by omega) (by omega) (by omega) ?_
    intro p22 c22 w1 hK22 hge22 hE1
    have hX := hX.ext hE1
    have hO := hK22 0 w.heap.size (hXs)
    refine p1 (x_move (by conv => lhs; whnf)) ?_
    refine p1 (x_len_slice u22 rfl) ?_
    refine p1 (x_slice_hN u22 sz5 rfl rfl (Nat.zero_le _)) ?_
    refine p1 (x_assign (by conv => lhs; whnf)) ?_
    refine r_nil ?_
    refine t_n ?_
    refine c_seq ?_
    refine r_plain ?_
    refine p1 (x_move (by conv => lhs; whnf)) ?_
    refine p1 (x_assign (by conv => lhs; whnf)) ?_
    refine r_nil ?_
    refine t_n ?_
    refine c_ret ?_
    refine end1 rfl (by conv => lhs; whnf) ?_
    first | exact ⟨⟨_, _, rfl, hO⟩, hX⟩ | exact ⟨⟨_, _, rfl, Own.nil _ _ _ _ _⟩, hX⟩
  · try simp only [decide_eq_true_eq, decide_eq_false_iff_not, Bool.not_eq_true, Bool.not_eq_false, Bool.not_eq_eq_eq_not, Bool.not_true, Bool.not_false, Int.not_lt, Int.not_le] at hc16
    refine c_skip ?_
    refine t_n ?_
    refine c_seq ?_
    refine r_plain ?_
    refine p1 (x_move (by conv => lhs; whnf)) ?_
    refine p1 (x_assign (by conv => lhs; whnf)) ?_
    refine r_nil ?_
    refine t_n ?_
    refine c_ret ?_
    refine end1 rfl (by conv => lhs; whnf) ?_
    first | exact ⟨⟨_, _, rfl, hO⟩, hX⟩ | exact ⟨⟨_, _, rfl, Own.nil _ _ _ _ _⟩, hX⟩
theorem slices_Concat_byte {B : Nat} (xss : List _) (p : Option Addr) (n c : Nat) (w : World) (hl : Sl (kSl kByte 5) 22 B w p n c xss) (hs : xss.flatten.length ≤ 225179981368000) :
    Ret Try.prog 84 [.slice p n c] w (fun v w' => (∃ q m c', v = .slice q m c' ∧ Own kByte 5 0 w.heap.size w' q m c' xss.flatten) ∧ Ext w w') := by
  have hX := Ext.refl w
  refine enter 36 _ Try.func84 rfl rfl (Nat.le_of_ble_eq_true rfl) ?_
  refine c_seq ?_
  refine r_plain ?_
  refine p1 (x_assign (by conv => lhs; whnf)) ?_
  refine r_nil ?_
  refine t_n ?_
  refine c_seq ?_
  refine r_plain ?_
  refine p1 (x_assign (by conv => lhs; whnf)) ?_
  refine r_nil ?_
  refine t_n ?_
  refine c_seq ?_
  refine c_seq ?_
  refine r_plain ?_
  refine p1 (x_move (by conv => lhs; whnf)) ?_
  refine p1 (x_len_slice u141 rfl) ?_
  refine p1 (x_move (by conv => lhs; whnf)) ?_
  refine r_nil ?_
  refine t_n ?_
  refine c_block ?_
  have hWL0 := Ext.refl w
  have hlen := hl.len
  have hfit := hl.fit
  have hcap := hl.cap
  refine c_loop (ι := Nat) [3, 5, 11, 12, 13, 14, 15, 16, 17, 18, 19, 20, 21, 22] (fun k => [(3, .int .i64 (((xss.take k).flatten.length : Nat) : Int)), (11, .int .i64 (k : Int))]) (fun k w' => Ext w w' ∧ (k ≤ n)) (fun k => n - k) (0) ⟨rfl, rfl, trivial⟩ ⟨Ext.refl _, by omega⟩ ?_
  rintro k GL0 w1 ⟨hE1, hL⟩
  have hX := hX.ext hE1
  have hWL0 := hE1
  refine c_seq ?_
  refine r_plain ?_
  refine p1 (x_lss rfl rfl) ?_
  refine r_nil ?_
  refine t_n ?_
  refine c_seq ?_
  first | refine c_dec rfl (fun hc12 => ?_) (fun hc12 => ?_) | refine c_if rfl (fun hc12 => ?_) (fun hc12 => ?_)
  · try simp only [decide_eq_true_eq, decide_eq_false_iff_not, Bool.not_eq_true, Bool.not_eq_false, Bool.not_eq_eq_eq_not, Bool.not_true, Bool.not_false, Int.not_lt, Int.not_le] at hc12
    refine c_skip ?_
    refine t_n ?_
    refine c_seq ?_
    refine c_block ?_
    refine c_seq ?_
    obtain ⟨q1, m1, c1, hcell1, hS1⟩ := (hl.ext hX).slAt k (by omega)
    have hS1l := hS1.len
    have hadd := flat_take_add (xss := xss) (k := k) (by omega)
    have hsuc := congrArg List.length (flat_take_succ (xss := xss) (k := k) (by omega))
    rw [List.length_append] at hsuc
    refine r_plain ?_
    refine p1 (x_ixs0 u141 sz22 rfl rfl ((hl.ext hX).adr kSl_pos (by omega)) (by omega)) ?_
    refine p1 (x_load1 un22 rfl hcell1) ?_
    refine p1 (x_assign (by conv => lhs; whnf)) ?_
    refine r_nil ?_
    refine t_n ?_
    refine c_seq ?_
    refine r_plain ?_
    refine p1 (x_move (by conv => lhs; whnf)) ?_
    refine p1 (x_move (by conv => lhs; whnf)) ?_
    refine p1 (x_len_slice u22 rfl) ?_
    refine p1 ((x_add rfl rfl (fits_i64 (by omega) (by omega))).cast (congrArg (Value.int .i64) (show _ = (((xss.take (k + 1)).flatten.length : Nat) : Int) by omega))) ?_
    refine p1 (x_assign (by conv => lhs; whnf)) ?_
    refine r_nil ?_
    refine t_n ?_
    refine c_seq ?_
    refine r_plain ?_
    refine p1 (x_move (by conv => lhs; whnf)) ?_
    refine p1 ((x_lss rfl rfl).cast (congrArg _ (decide_eq_false (by omega)))) ?_
    refine r_nil ?_
    refine t_n ?_
    refine c_f rfl ?_
    refine c_skip ?_
    refine b_n ?_
    refine t_n ?_
    refine r_plain ?_
    refine p1 (x_add rfl rfl (fits_i64 (by omega) (by omega))) ?_
    refine p1 (x_move (by conv => lhs; whnf)) ?_
    refine r_nil ?_
    refine t_n (At.mk (k + 1) (by repeat (first | exact Agr.refl _ _ | exact Agr.hav _ _ _ | refine Agr.upd rfl ?_ | refine Agr.updL ?_ _ rfl | refine Agr.hav' rfl ?_)) ⟨rfl, rfl, trivial⟩ ?_)
    exact ⟨⟨hWL0, by omega⟩, by first | (dsimp only; omega) | ((show _ < _); omega)⟩
  · try simp only [decide_eq_true_eq, decide_eq_false_iff_not, Bool.not_eq_true, Bool.not_eq_false, Bool.not_eq_eq_eq_not, Bool.not_true, Bool.not_false, Int.not_lt, Int.not_le] at hc12
    refine c_exit ?_
    refine t_e ?_
    refine t_e ?_
    refine b_hit ?_
    refine t_n ?_
    refine c_seq ?_
    have hle9 := flat_take_le xss k
    have hXs := hX.size
    refine r_plain ?_
    refine p1 (x_move (by conv => lhs; whnf)) ?_
    refine o_call Try.func119 fn119 fb119 (slices_Concat_byte_grow ((xss.take k).flatten.length : Nat) _ (by omega)) rfl ?_
    rintro v2 w2 ⟨⟨pG, cG, rfl, hO⟩, hE2⟩
    have hX := hX.ext hE2
    have hO := hO.lower hXs
    refine p1 (x_assign (by conv => lhs; whnf)) ?_
    refine r_nil ?_
    refine t_n ?_
    refine c_seq ?_
    refine c_seq ?_
    refine r_plain ?_
    refine p1 (x_move (by conv => lhs; whnf)) ?_
    refine p1 (x_len_slice u141 rfl) ?_
    refine p1 (x_move (by conv => lhs; whnf)) ?_
    refine r_nil ?_
    refine t_n ?_
    refine c_block ?_
    refine c_loop (ι := Nat × Option Addr × Nat × Nat) [6, 8, 27, 28, 29, 30, 31, 32, 33, 34] (fun (k2, q, m, c2) => [(6, .slice q m c2), (27, .int .i64 (k2 : Int))]) (fun (k2, q, m, c2) w' => Ext w w' ∧ (Own kByte 5 0 w.heap.size w' q m c2 (xss.take k2).flatten ∧ k2 ≤ n)) (fun (k2, q, m, c2) => n - k2) ((0, pG, 0, cG)) ⟨rfl, rfl, trivial⟩ ⟨hX, ⟨by simpa using hO, by omega⟩⟩ ?_
    rintro ⟨k2, q, m, c2⟩ GL2 w3 ⟨hE3, hO, hk2⟩
    have hX := hE3
    refine c_seq ?_
    refine r_plain ?_
    refine p1 (x_lss rfl rfl) ?_
    refine r_nil ?_
    refine t_n ?_
    refine c_seq ?_
    first | refine c_dec rfl (fun hc28 => ?_) (fun hc28 => ?_) | refine c_if rfl (fun hc28 => ?_) (fun hc28 => ?_)
    · try simp only [decide_eq_true_eq, decide_eq_false_iff_not, Bool.not_eq_true, Bool.not_eq_false, Bool.not_eq_eq_eq_not, Bool.not_true, Bool.not_false, Int.not_lt, Int.not_le] at hc28
      refine c_skip ?_
      refine t_n ?_
      refine c_seq ?_
      refine c_block ?_
      refine c_seq ?_
      obtain ⟨q2, m2, c3, hcell2, hS2⟩ := (hl.ext hX).slAt k2 (by omega)
      have hS2l := hS2.len
      have hOl := hO.len
      have hadd2 := flat_take_add (xss := xss) (k := k2) (by omega)
      refine r_plain ?_
      refine p1 (x_ixs0 u141 sz22 rfl rfl ((hl.ext hX).adr kSl_pos (by omega)) (by omega)) ?_
      refine p1 (x_load1 un22 rfl hcell2) ?_
      refine p1 (x_assign (by conv => lhs; whnf)) ?_
      refine r_nil ?_
      refine t_n ?_
      refine r_plain ?_
      refine p1 (x_move (by conv => lhs; whnf)) ?_
      refine p1 (x_move (by conv => lhs; whnf)) ?_
      have hq1 := hX.size
      refine o_append (d := kByte) (xss.getD k2 []) u22 inf5 rfl kByte_pos rfl rfl hO (src_pure u22 hS2 (by decide)) hS2.len (byte_all _ _ _) (rfl) (by omega) (by omega) (by omega) (by omega) (by decide) ?_
      intro p33 c33 w4 hO hM4
      have hX := hX.mod hM4 (Nat.le_refl _)
      refine p1 (x_assign (by conv => lhs; whnf)) ?_
      refine r_nil ?_
      refine b_n ?_
      refine t_n ?_
      refine r_plain ?_
      refine p1 (x_add rfl rfl (fits_i64 (by omega) (by omega))) ?_
      refine p1 (x_move (by conv => lhs; whnf)) ?_
      refine r_nil ?_
      refine t_n (At.mk ((k2 + 1, p33, m + m2, c33)) (by repeat (first | exact Agr.refl _ _ | exact Agr.hav _ _ _ | refine Agr.upd rfl ?_ | refine Agr.updL ?_ _ rfl | refine Agr.hav' rfl ?_)) ⟨rfl, rfl, trivial⟩ ?_)
      exact ⟨⟨hX, ⟨by rw [flat_take_succ (by omega)]; exact hO, by omega⟩⟩, by first | (dsimp only; omega) | ((show _ < _); omega)⟩
    · try simp only [decide_eq_true_eq, decide_eq_false_iff_not, Bool.not_eq_true, Bool.not_eq_false, Bool.not_eq_eq_eq_not, Bool.not_true, Bool.not_false, Int.not_lt, Int.not_le] at hc28
      have hkn : k2 = n := by omega
      rw [hkn, List.take_of_length_le (by omega)] at hO
      refine c_exit ?_
      refine t_e ?_
      refine t_e ?_
      refine b_hit ?_
      refine t_n ?_
      refine c_seq ?_
      refine r_plain ?_
      refine p1 (x_move (by conv => lhs; whnf)) ?_
      refine p1 (x_assign (by conv => lhs; whnf)) ?_
      refine r_nil ?_
      refine t_n ?_
      refine c_ret ?_
      refine end1 rfl (by conv => lhs; whnf) ?_
      exact ⟨⟨_, _, _, rfl, hO⟩, hX⟩
theorem branch_Load_e (l : List Br) (B : Nat) (p : Option Addr) (n c : Nat) (w : World) (ha : Sl kBrA 81 B w p n c l) (hkk : ∀ x ∈ l, x.1.size ≤ 9223372036854775807) : Ret Try.prog 68 [.slice p n c] w (fun v w' => (∃ v1 e, v = .tuple #[v1, .int .i64 e] ∧ (e = 0 ↔ okL l)) ∧ Ext w w') :=
  (branch_Load l B p n c w ha hkk).mono fun v w' ⟨h, hx⟩ => ⟨by rcases h with ⟨h1, g, r, rfl, _⟩ | ⟨h1, rfl⟩; (· exact ⟨_, _, rfl, ⟨fun _ => h1, fun _ => rfl⟩⟩); (· exact ⟨_, _, rfl, ⟨fun h => (by cases h), fun h => absurd h h1⟩⟩), hx⟩
theorem ref15_Load_e (l : List Br) (B : Nat) (p : Option Addr) (n c : Nat) (w : World) (ha : Sl kBrA 81 B w p n c l) (hkk : ∀ x ∈ l, x.1.size ≤ 9223372036854775807) : Ret Try.prog 69 [.slice p n c] w (fun v w' => (∃ q m c' e, v = .tuple #[.agg #[.slice q m c'], .int .i64 e] ∧ (e = 0 ↔ okL l)) ∧ Ext w w') :=
  (ref15_Load l B p n c w ha hkk).mono fun v w' ⟨h, hx⟩ => ⟨by rcases h with ⟨h1, q, m, c', rfl, _⟩ | ⟨h1, rfl⟩; (· exact ⟨_, _, _, _, rfl, ⟨fun _ => h1, fun _ => rfl⟩⟩); (· exact ⟨_, _, _, _, rfl, ⟨fun h => (by cases h), fun h => absurd h h1⟩⟩), hx⟩
theorem index_right (nm : ByteArray) (brs : List Br) (chs : List Hash) (B : Nat) (p q : Option Addr) (n c m c2 : Nat) (w : World) (ha : Sl kBrA 81 B w p n c brs) (hb : Sl kHash 35 B w q m c2 chs) (hkk : ∀ x ∈ brs, x.1.size ≤ 9223372036854775807) (hnm : nm.size ≤ 9223372036854775807) :
    Ret Try.prog 83 [.agg #[.string nm, .slice p n c, .slice q m c2]] w (fun v w' => v = .bool (decide (rightP (nm, brs, chs))) ∧ Ext w w') := by
  have hX := Ext.refl w
  refine enter 29 _ Try.func83 rfl rfl (Nat.le_of_ble_eq_true rfl) ?_
  refine c_seq ?_
  refine r_plain ?_
  refine o_boxA (by conv => lhs; whnf) ?_
  intro w1 g1 hN1
  have hE1 := hN1.ext
  have hX := hX.ext hE1
  have hB1 := hN1.blk
  refine p1 (x_assign (by conv => lhs; whnf)) ?_
  refine r_nil ?_
  refine t_n ?_
  refine c_seq ?_
  refine r_plain ?_
  refine p1 (x_fieldAddr fo33_1 sz30 rfl) ?_
  refine p1 (x_load1 un30 rfl (hB1.cell (rfl))) ?_
  refine o_call Try.func68 fn68 fb68 (branch_Load_e brs _ _ _ _ _ (ha.ext hX) hkk) rfl ?_
  rintro v2 w2 ⟨⟨v1, e1, rfl, he1⟩, hE2⟩
  have hX := hX.ext hE2
  have hB1 := hB1.ext hE2
  refine p1 (x_move (by conv => lhs; whnf)) ?_
  refine p1 (x_extract rfl rfl) ?_
  refine p1 (x_extract rfl rfl) ?_
  refine p1 (x_assign (by conv => lhs; whnf)) ?_
  refine p1 (x_assign (by conv => lhs; whnf)) ?_
  refine r_nil ?_
  refine t_n ?_
  refine c_seq ?_
  refine r_plain ?_
  refine p1 (x_fieldAddr fo33_0 sz9 rfl) ?_
  refine p1 (x_load1 un9 rfl (hB1.cell (rfl))) ?_
  refine o_call Try.func31 fn31 fb31 (hashes_Name nm _ hnm) rfl ?_
  rintro v3 w3 ⟨rfl, hE3⟩
  have hX := hX.ext hE3
  have hB1 := hB1.ext hE3
  refine p1b (x_move (by conv => lhs; whnf)) (fun hb2_3 => ?_) (fun hb2_3 => ?_)
  · try simp only [decide_eq_true_eq, decide_eq_false_iff_not, Bool.not_eq_true, Bool.not_eq_false, Bool.not_eq_eq_eq_not, Bool.not_true, Bool.not_false, Int.not_lt, Int.not_le] at hb2_3
    refine Eng.g1 14 rfl rfl (x_move (by conv => lhs; whnf)) ?_
    refine Eng.g1 14 rfl rfl (x_eql rfl rfl) ?_
    refine p1 (x_pick_t rfl (by conv => lhs; whnf)) ?_
    refine p1b (x_move (by conv => lhs; whnf)) (fun hb2_7 => ?_) (fun hb2_7 => ?_)
    · try simp only [decide_eq_true_eq, decide_eq_false_iff_not, Bool.not_eq_true, Bool.not_eq_false, Bool.not_eq_eq_eq_not, Bool.not_true, Bool.not_false, Int.not_lt, Int.not_le] at hb2_7
      refine Eng.g1 18 rfl rfl (x_fieldAddr fo33_2 sz31 rfl) ?_
      refine Eng.g1 18 rfl rfl (x_load1 un31 rfl (hB1.cell (rfl))) ?_
      refine Eng.g1 18 rfl rfl (x_len_slice u31 rfl) ?_
      refine Eng.g1 18 rfl rfl (x_leq rfl rfl) ?_
      refine p1 (x_pick_t rfl (by conv => lhs; whnf)) ?_
      refine p1b (x_move (by conv => lhs; whnf)) (fun hb2_13 => ?_) (fun hb2_13 => ?_)
      · try simp only [decide_eq_true_eq, decide_eq_false_iff_not, Bool.not_eq_true, Bool.not_eq_false, Bool.not_eq_eq_eq_not, Bool.not_true, Bool.not_false, Int.not_lt, Int.not_le] at hb2_13
        refine Eng.g1 24 rfl rfl (x_fieldAddr fo33_2 sz31 rfl) ?_
        refine Eng.g1 24 rfl rfl (x_load1 un31 rfl (hB1.cell (rfl))) ?_
        refine g_drop 24 rfl rfl ?_
        refine o_call Try.func38 fn38 fb38 (hashes_Rising chs _ _ _ _ _ (hb.ext hX)) rfl ?_
        rintro v4 w4 ⟨rfl, hE4⟩
        have hX := hX.ext hE4
        have hB1 := hB1.ext hE4
        refine p1 (x_pick_t rfl (by conv => lhs; whnf)) ?_
        refine p1 (x_assign (by conv => lhs; whnf)) ?_
        refine r_nil ?_
        refine t_n ?_
        refine c_ret ?_
        refine end1 rfl (by conv => lhs; whnf) ?_
        have hlen := hb.len
        exact ⟨congrArg Value.bool (by
          first
          | (refine (decide_eq_false ?_).symm; rintro ⟨r1, r2, r3, r4⟩; dsimp only at r1 r2 r3 r4; first | (exfalso; omega) | exact absurd (he1.2 r2) hb2_7 | (rw [r1] at hb2_3; cases hb2_3))
          | (have r2 := he1.1 hb2_7; have r3 : chs.length ≤ 4096 := (by omega); unfold rightP; dsimp only; rw [eq_comm]; simp [hb2_3, r2, r3])), hX⟩
      · try simp only [decide_eq_true_eq, decide_eq_false_iff_not, Bool.not_eq_true, Bool.not_eq_false, Bool.not_eq_eq_eq_not, Bool.not_true, Bool.not_false, Int.not_lt, Int.not_le] at hb2_13
        refine Eng.g0 24 rfl (by first | exact .inl rfl | exact .inr rfl) ?_
        refine Eng.g0 24 rfl (by first | exact .inl rfl | exact .inr rfl) ?_
        refine Eng.g0 24 rfl (by first | exact .inl rfl | exact .inr rfl) ?_
        refine p1 (x_pick_f rfl (by conv => lhs; whnf)) ?_
        refine p1 (x_assign (by conv => lhs; whnf)) ?_
        refine r_nil ?_
        refine t_n ?_
        refine c_ret ?_
        refine end1 rfl (by conv => lhs; whnf) ?_
        have hlen := hb.len
        exact ⟨congrArg Value.bool (by
          first
          | (refine (decide_eq_false ?_).symm; rintro ⟨r1, r2, r3, r4⟩; dsimp only at r1 r2 r3 r4; first | (exfalso; omega) | exact absurd (he1.2 r2) hb2_7 | (rw [r1] at hb2_3; cases hb2_3))
          | (have r2 := he1.1 hb2_7; have r3 : chs.length ≤ 4096 := (by omega); unfold rightP; dsimp only; rw [eq_comm]; simp [hb2_3, r2, r3])), hX⟩
    · try simp only [decide_eq_true_eq, decide_eq_false_iff_not, Bool.not_eq_true, Bool.not_eq_false, Bool.not_eq_eq_eq_not, Bool.not_true, Bool.not_false, Int.not_lt, Int.not_le] at hb2_7
      refine Eng.g0 18 rfl (by first | exact .inl rfl | exact .inr rfl) ?_
      refine Eng.g0 18 rfl (by first | exact .inl rfl | exact .inr rfl) ?_
      refine Eng.g0 18 rfl (by first | exact .inl rfl | exact .inr rfl) ?_
      refine Eng.g0 18 rfl (by first | exact .inl rfl | exact .inr rfl) ?_
      refine p1 (x_pick_f rfl (by conv => lhs; whnf)) ?_
      refine p1 (x_move (by conv => lhs; whnf)) ?_
      refine Eng.g0 24 rfl (by first | exact .inl rfl | exact .inr rfl) ?_
      refine Eng.g0 24 rfl (by first | exact .inl rfl | exact .inr rfl) ?_
      refine Eng.g0 24 rfl (by first | exact .inl rfl | exact .inr rfl) ?_
      refine p1 (x_pick_f rfl (by conv => lhs; whnf)) ?_
      refine p1 (x_assign (by conv => lhs; whnf)) ?_
      refine r_nil ?_
      refine t_n ?_
      refine c_ret ?_
      refine end1 rfl (by conv => lhs; whnf) ?_
      have hlen := hb.len
      exact ⟨congrArg Value.bool (by
        first
        | (refine (decide_eq_false ?_).symm; rintro ⟨r1, r2, r3, r4⟩; dsimp only at r1 r2 r3 r4; first | (exfalso; omega) | exact absurd (he1.2 r2) hb2_7 | (rw [r1] at hb2_3; cases hb2_3))
        | (have r2 := he1.1 hb2_7; have r3 : chs.length ≤ 4096 := (by omega); unfold rightP; dsimp only; rw [eq_comm]; simp [hb2_3, r2, r3])), hX⟩
  · try simp only [decide_eq_true_eq, decide_eq_false_iff_not, Bool.not_eq_true, Bool.not_eq_false, Bool.not_eq_eq_eq_not, Bool.not_true, Bool.not_false, Int.not_lt, Int.not_le] at hb2_3
    refine Eng.g0 14 rfl (by first | exact .inl rfl | exact .inr rfl) ?_
    refine Eng.g0 14 rfl (by first | exact .inl rfl | exact .inr rfl) ?_
    refine p1 (x_pick_f rfl (by conv => lhs; whnf)) ?_
    refine p1 (x_move (by conv => lhs; whnf)) ?_
    refine Eng.g0 18 rfl (by first | exact .inl rfl | exact .inr rfl) ?_
    refine Eng.g0 18 rfl (by first | exact .inl rfl | exact .inr rfl) ?_
    refine Eng.g0 18 rfl (by first | exact .inl rfl | exact .inr rfl) ?_
    refine Eng.g0 18 rfl (by first | exact .inl rfl | exact .inr rfl) ?_
    refine p1 (x_pick_f rfl (by conv => lhs; whnf)) ?_
    refine p1 (x_move (by conv => lhs; whnf)) ?_
    refine Eng.g0 24 rfl (by first | exact .inl rfl | exact .inr rfl) ?_
    refine Eng.g0 24 rfl (by first | exact .inl rfl | exact .inr rfl) ?_
    refine Eng.g0 24 rfl (by first | exact .inl rfl | exact .inr rfl) ?_
    refine p1 (x_pick_f rfl (by conv => lhs; whnf)) ?_
    refine p1 (x_assign (by conv => lhs; whnf)) ?_
    refine r_nil ?_
    refine t_n ?_
    refine c_ret ?_
    refine end1 rfl (by conv => lhs; whnf) ?_
    have hlen := hb.len
    exact ⟨congrArg Value.bool (by
      first
      | (refine (decide_eq_false ?_).symm; rintro ⟨r1, r2, r3, r4⟩; dsimp only at r1 r2 r3 r4; first | (exfalso; omega) | exact absurd (he1.2 r2) hb2_7 | (rw [r1] at hb2_3; cases hb2_3))
      | (have r2 := he1.1 hb2_7; have r3 : chs.length ≤ 4096 := (by omega); unfold rightP; dsimp only; rw [eq_comm]; simp [hb2_3, r2, r3])), hX⟩
theorem index_Put (l : List Rec) (B : Nat) (p : Option Addr) (n c : Nat) (w : World) (hl : Sl kRecA 33 B w p n c l) (hkk : ∀ x ∈ l, x.1.size ≤ 9223372036854775807 ∧ ∀ y ∈ x.2.1, y.1.size ≤ 9223372036854775807) :
    Ret Try.prog 27 [.slice p n c] w (fun v w' => (∃ q m c', v = .tuple #[.slice q m c', .int .i64 (putI l).2] ∧ Own kByte 5 0 w.heap.size w' q m c' (putI l).1) ∧ Ext w w') := by
  have hX := Ext.refl w
  refine enter 81 _ Try.func27 rfl rfl (Nat.le_of_ble_eq_true rfl) ?_
  refine c_seq ?_
  refine r_plain ?_
  refine p1 (x_assign (by conv => lhs; whnf)) ?_
  refine p1 (x_assign (by conv => lhs; whnf)) ?_
  refine r_nil ?_
  refine t_n ?_
  refine c_seq ?_
  refine c_seq ?_
  refine r_plain ?_
  refine p1 (x_move (by conv => lhs; whnf)) ?_
  refine p1 (x_len_slice u23 rfl) ?_
  refine p1 (x_gtr rfl rfl) ?_
  refine r_nil ?_
  refine t_n ?_
  first | refine c_dec rfl (fun hc11 => ?_) (fun hc11 => ?_) | refine c_if rfl (fun hc11 => ?_) (fun hc11 => ?_)
  · try simp only [decide_eq_true_eq, decide_eq_false_iff_not, Bool.not_eq_true, Bool.not_eq_false, Bool.not_eq_eq_eq_not, Bool.not_true, Bool.not_false, Int.not_lt, Int.not_le] at hc11
    have hlen := hl.len
    have hp : putI l = ([], 4) := by unfold putI; rw [if_pos (.inl (by omega))]
    refine c_seq ?_
    refine r_plain ?_
    refine p1 (x_assign (by conv => lhs; whnf)) ?_
    refine p1 (x_assign (by conv => lhs; whnf)) ?_
    refine r_nil ?_
    refine t_n ?_
    refine c_ret ?_
    refine t_r ?_
    refine end2 rfl (by conv => lhs; whnf) (by conv => lhs; whnf) ?_
    first | exact ⟨⟨none, 0, 0, by rw [hp], (by rw [hp]; exact Own.nil _ _ _ _ _)⟩, hX⟩ | exact ⟨⟨_, _, _, by rw [hp], by rw [hp]; exact hO⟩, hX⟩
  · try simp only [decide_eq_true_eq, decide_eq_false_iff_not, Bool.not_eq_true, Bool.not_eq_false, Bool.not_eq_eq_eq_not, Bool.not_true, Bool.not_false, Int.not_lt, Int.not_le] at hc11
    refine c_skip ?_
    refine t_n ?_
    refine c_seq ?_
    refine r_plain ?_
    have hXs := hX.size
    have hlen := hl.len
    refine o_buildSlice u22 inf5 rfl (by decide) (fun base hb => fill_one (by rfl) base hb) ?_
    intro w1 g12 hN12
    have hE1 := hN12.ext
    have hX := hX.ext hE1
    have hO : Own kByte 5 0 w.heap.size w1 (some ⟨g12, 0, none⟩) 1 1 [1] := (own_lit [1] hN12 hXs (by decide))
    refine p1 (x_move (by conv => lhs; whnf)) ?_
    refine p1 (x_len_slice u23 rfl) ?_
    refine p1 (x_convf u95 us3 rfl (fits_u64 (by omega) (by omega))) ?_
    have hXs := hX.size
    refine o_call Try.func82 fn82 fb82 (leb_Uint n (by omega) _) rfl ?_
    rintro v2 w2 ⟨⟨qU, lU, cU, rfl, hU⟩, hE2⟩
    have hX := hX.ext hE2
    have hO := hO.ext hE2
    have hU := hU.lower hXs
    have hlU := lebU_len10 (n := n) (by omega)
    have hUl := hU.len
    have hq1 := hX.size
    obtain ⟨Bu, hBu⟩ : ∃ x, x = w2.heap.size := ⟨_, rfl⟩
    refine o_append (d := kByte) (lebU n) u22 inf5 rfl kByte_pos rfl rfl hO (src_pure u22 hU.sl (by decide)) hU.len (byte_all _ _ _) (rfl) (by omega) (by omega) (by omega) (by omega) (by decide) ?_
    intro p17 c17 w3 hO hM3
    have hX := hX.mod hM3 (Nat.le_refl _)
    refine p1 (x_assign (by conv => lhs; whnf)) ?_
    refine r_nil ?_
    refine t_n ?_
    refine c_seq ?_
    refine c_seq ?_
    refine r_plain ?_
    refine p1 (x_move (by conv => lhs; whnf)) ?_
    refine p1 (x_len_slice u23 rfl) ?_
    refine p1 (x_move (by conv => lhs; whnf)) ?_
    refine r_nil ?_
    refine t_n ?_
    refine c_block ?_
    have hcap := hl.cap
    have hfit := hl.fit
    have hn64 : n ≤ 64 := by omega
    refine c_loop (ι := Nat × Option Addr × Nat × Nat) [2, 3, 4, 5, 6, 8, 20, 21, 22, 23, 24, 25, 26, 27, 28, 29, 30, 31, 32, 33, 34, 35, 36, 37, 38, 39, 40, 41, 42, 43, 44, 45, 46, 47, 48, 49, 50, 51, 52, 53, 54, 55, 56, 57, 58, 59, 60, 61, 62, 63, 64, 65, 66, 67, 68, 69, 70, 71, 72, 73, 74, 75, 76] (fun (i, q, m, c1) => [(4, .slice q m c1), (20, .int .i64 (i : Int))]) (fun (i, q, m, c1) w' => Ext w w' ∧ (Own kByte 5 0 w.heap.size w' q m c1 (1 :: lebU n ++ recsB (l.take i)) ∧ (∀ x ∈ l.take i, rightP x) ∧ RiseR (l.take i) ∧ i ≤ n ∧ m ≤ 11 + i * 167310)) (fun (i, q, m, c1) => n - i) ((0, p17, 1 + lU, c17)) ⟨rfl, rfl, trivial⟩ ⟨hX, ⟨by simpa [recsB] using hO, by simp, .nil, by omega, by omega⟩⟩ ?_
    rintro ⟨i, q, m, c1⟩ GL0 w4 ⟨hE4, hO, hro, hrs, hi, hmb⟩
    have hX := hE4
    refine c_seq ?_
    refine r_plain ?_
    refine p1 (x_lss rfl rfl) ?_
    refine r_nil ?_
    refine t_n ?_
    refine c_seq ?_
    first | refine c_dec rfl (fun hc21 => ?_) (fun hc21 => ?_) | refine c_if rfl (fun hc21 => ?_) (fun hc21 => ?_)
    · try simp only [decide_eq_true_eq, decide_eq_false_iff_not, Bool.not_eq_true, Bool.not_eq_false, Bool.not_eq_eq_eq_not, Bool.not_true, Bool.not_false, Int.not_lt, Int.not_le] at hc21
      refine c_skip ?_
      refine t_n ?_
      refine c_seq ?_
      refine c_block ?_
      refine c_seq ?_
      obtain ⟨pb1, n1, cc1, pb2, n2, cc2, hrow1, hS1, hS2⟩ := hl.recAt i (by omega)
      have hmem := rec_mem (l := l) (k := i) (by omega)
      have hkm := hkk _ hmem
      have hl1 := hS1.len
      have hl2 := hS2.len
      have ez : ((i : Int) - 1).toNat = i - 1 := by omega
      refine r_plain ?_
      refine p1 (x_move (by conv => lhs; whnf)) ?_
      refine p1 (x_ixs u23 sz33 rfl rfl ((hl.ext hX).adr kRecA_pos (by omega)) (by omega) (by omega)) ?_
      refine p1 (x_loadN ua33 rfl (by exact sz33) (hX.range hrow1)) ?_
      have hXs6 := hX.size
      refine o_alloc zr33 ?_
      intro w5 g6 hN6
      have hE5 := hN6.ext
      have hX := hX.ext hE5
      have hO := hO.ext hE5
      have hB6 := hN6.blk
      refine p1 (x_assign (by conv => lhs; whnf)) ?_
      refine o_storeAll rfl (by conv => lhs; whnf) (by simp [Value.oneCell']) (by exact sz33) hB6 (by rfl) ?_
      intro w6 hP6
      have hX := hX.put hP6 (by rw [hN6.g_eq]; exact hXs6)
      have hO := hO.mod (hP6.mod 0 (Nat.zero_le _)) (Nat.zero_le _) (by decide)
      have hB6 := hP6.blk
      refine r_nil ?_
      refine t_n ?_
      refine c_seq ?_
      refine c_seq ?_
      refine r_held (fun w1 w2 => Ext w1 w2) mixed ?_
      intro w7 hE7
      have hX := hX.ext hE7
      have hO := hO.ext hE7
      have hB6 := hB6.ext hE7
      have hSr7 : (fun w1 w2 => Ext w1 w2) w7 w7 := Ext.refl w7
      refine h_take 0 rfl (by kernel_rfl) (by kernel_rfl) (by kernel_rfl) hSr7 (fun wS hSS => by (have hX := hX.ext hSS; have hO := hO.ext hSS; have hB6 := hB6.ext hSS; exact (x_loadB ua33 rfl hB6 sz33))) ?_
      refine h_one 1 _ rfl (by kernel_rfl) (hop_of_list (fun Q1 hQ1 => ?_))
      refine o_call Try.func83 fn83 fb83 (index_right (l.getD i default).1 (l.getD i default).2.1 (l.getD i default).2.2 _ _ _ _ _ _ _ _ (hS1.ext hX) (hS2.ext hX) hkm.2 hkm.1) rfl ?_
      rintro v8 w8 ⟨rfl, hE8⟩
      have hX := hX.ext hE8
      have hO := hO.ext hE8
      have hB6 := hB6.ext hE8
      have hSr7 := hSr7.ext hE8
      refine hop_end hQ1 ⟨hSr7, ?_⟩
      refine h_take 2 rfl (by kernel_rfl) (by kernel_rfl) (by kernel_rfl) hSr7 (fun wS hSS => by ( exact (x_not rfl))) ?_
      refine h_takeb 3 rfl (by kernel_rfl) (by kernel_rfl) (by kernel_rfl) hSr7 (fun wS hSS => by ( exact (x_move (by conv => lhs; whnf)))) (fun hb7_3 => ?_) (fun hb7_3 => ?_)
      · try simp only [decide_eq_true_eq, decide_eq_false_iff_not, Bool.not_eq_true, Bool.not_eq_false, Bool.not_eq_eq_eq_not, Bool.not_true, Bool.not_false, Int.not_lt, Int.not_le] at hb7_3
        refine h_skip 4 28 rfl (by first | exact .inl rfl | exact .inr rfl) rfl (by kernel_rfl) (by kernel_rfl) (by kernel_rfl) hSr7 ?_
        refine h_skip 5 28 rfl (by first | exact .inl rfl | exact .inr rfl) rfl (by kernel_rfl) (by kernel_rfl) (by kernel_rfl) hSr7 ?_
        refine h_skip 6 28 rfl (by first | exact .inl rfl | exact .inr rfl) rfl (by kernel_rfl) (by kernel_rfl) (by kernel_rfl) hSr7 ?_
        refine h_skip 7 31 rfl (by first | exact .inl rfl | exact .inr rfl) rfl (by kernel_rfl) (by kernel_rfl) (by kernel_rfl) hSr7 ?_
        refine h_skip 8 31 rfl (by first | exact .inl rfl | exact .inr rfl) rfl (by kernel_rfl) (by kernel_rfl) (by kernel_rfl) hSr7 ?_
        refine h_skip 9 31 rfl (by first | exact .inl rfl | exact .inr rfl) rfl (by kernel_rfl) (by kernel_rfl) (by kernel_rfl) hSr7 ?_
        refine h_skip 10 31 rfl (by first | exact .inl rfl | exact .inr rfl) rfl (by kernel_rfl) (by kernel_rfl) (by kernel_rfl) hSr7 ?_
        refine h_skip 11 31 rfl (by first | exact .inl rfl | exact .inr rfl) rfl (by kernel_rfl) (by kernel_rfl) (by kernel_rfl) hSr7 ?_
        refine h_skip 12 31 rfl (by first | exact .inl rfl | exact .inr rfl) rfl (by kernel_rfl) (by kernel_rfl) (by kernel_rfl) hSr7 ?_
        refine h_skip 13 31 rfl (by first | exact .inl rfl | exact .inr rfl) rfl (by kernel_rfl) (by kernel_rfl) (by kernel_rfl) hSr7 ?_
        refine h_skip 14 31 rfl (by first | exact .inl rfl | exact .inr rfl) rfl (by kernel_rfl) (by kernel_rfl) (by kernel_rfl) hSr7 ?_
        refine h_skip 15 31 rfl (by first | exact .inl rfl | exact .inr rfl) rfl (by kernel_rfl) (by kernel_rfl) (by kernel_rfl) hSr7 ?_
        refine h_skip 16 28 rfl (by first | exact .inl rfl | exact .inr rfl) rfl (by kernel_rfl) (by kernel_rfl) (by kernel_rfl) hSr7 ?_
        refine h_take 17 rfl (by kernel_rfl) (by kernel_rfl) (by kernel_rfl) hSr7 (fun wS hSS => by ( exact (x_pick_t rfl (by conv => lhs; whnf)))) ?_
        refine h_done (by kernel_rfl) ?_
        refine t_n ?_
        refine c_t rfl ?_
        have hno : ¬ recsOk l := by
          intro h
          have h1 := h.1 _ hmem
          first | exact absurd h1 hb7_3 | exact not_riseR_at (k := i) (by omega) (by omega) (by rw [← ez]; simpa using hc42) h.2
        have hp : putI l = ([], 4) := by unfold putI; rw [if_pos (.inr hno)]
        refine c_seq ?_
        refine r_plain ?_
        refine p1 (x_assign (by conv => lhs; whnf)) ?_
        refine p1 (x_assign (by conv => lhs; whnf)) ?_
        refine r_nil ?_
        refine t_n ?_
        refine c_ret ?_
        refine t_r ?_
        refine b_r ?_
        refine t_r ?_
        refine t_r ?_
        refine b_r ?_
        refine t_r ?_
        refine end2 rfl (by conv => lhs; whnf) (by conv => lhs; whnf) ?_
        first | exact ⟨⟨none, 0, 0, by rw [hp], (by rw [hp]; exact Own.nil _ _ _ _ _)⟩, hX⟩ | exact ⟨⟨_, _, _, by rw [hp], by rw [hp]; exact hO⟩, hX⟩
      · try simp only [decide_eq_true_eq, decide_eq_false_iff_not, Bool.not_eq_true, Bool.not_eq_false, Bool.not_eq_eq_eq_not, Bool.not_true, Bool.not_false, Int.not_lt, Int.not_le] at hb7_3
        refine h_takeg 4 28 rfl rfl rfl (by kernel_rfl) (by kernel_rfl) (by kernel_rfl) hSr7 (fun wS hSS => by ( exact (x_move (by conv => lhs; whnf)))) ?_
        refine h_takeg 5 28 rfl rfl rfl (by kernel_rfl) (by kernel_rfl) (by kernel_rfl) hSr7 (fun wS hSS => by ( exact (x_gtr rfl rfl))) ?_
        refine h_takegb 6 28 rfl rfl rfl (by kernel_rfl) (by kernel_rfl) (by kernel_rfl) hSr7 (fun wS hSS => by ( exact (x_move (by conv => lhs; whnf)))) (fun hb7_6 => ?_) (fun hb7_6 => ?_)
        · try simp only [decide_eq_true_eq, decide_eq_false_iff_not, Bool.not_eq_true, Bool.not_eq_false, Bool.not_eq_eq_eq_not, Bool.not_true, Bool.not_false, Int.not_lt, Int.not_le] at hb7_6
          obtain ⟨pb3, n3, c3, pb4, n4, c4, hrow3, _, _⟩ := hl.recAt ((i : Int) - 1).toNat (by omega)
          refine h_takeg 7 31 rfl rfl rfl (by kernel_rfl) (by kernel_rfl) (by kernel_rfl) hSr7 (fun wS hSS => by ( exact (x_move (by conv => lhs; whnf)))) ?_
          refine h_takeg 8 31 rfl rfl rfl (by kernel_rfl) (by kernel_rfl) (by kernel_rfl) hSr7 (fun wS hSS => by ( exact (x_move (by conv => lhs; whnf)))) ?_
          refine h_takeg 9 31 rfl rfl rfl (by kernel_rfl) (by kernel_rfl) (by kernel_rfl) hSr7 (fun wS hSS => by ( exact (x_sub rfl rfl (fits_i64 (by omega) (by omega))))) ?_
          refine h_takeg 10 31 rfl rfl rfl (by kernel_rfl) (by kernel_rfl) (by kernel_rfl) hSr7 (fun wS hSS => by ( exact (x_ixs u23 sz33 rfl rfl (hl.adr kRecA_pos (by omega)) (by omega) (by omega)))) ?_
          refine h_takeg 11 31 rfl rfl rfl (by kernel_rfl) (by kernel_rfl) (by kernel_rfl) hSr7 (fun wS hSS => by ( exact (x_fieldAddr fo33_0 sz9 rfl))) ?_
          refine h_takeg 13 31 rfl rfl rfl (by kernel_rfl) (by kernel_rfl) (by kernel_rfl) hSr7 (fun wS hSS => by ( exact (x_fieldAddr fo33_0 sz9 rfl))) ?_
          refine h_two 12 14 _ _ rfl rfl (by kernel_rfl) (hop_of_list (fun Q12 hQ12 => ?_)) (hop_of_list (fun Q14 hQ14 => ?_))
          · skip
            refine g1 31 rfl rfl (x_load1 un9 rfl (hX.cell (hrow3 0 _ rfl))) ?_
            refine hop_end hQ12 ⟨hSr7, ?_⟩
            refine h_one 14 _ rfl (by kernel_rfl) (hop_of_list (fun Q14 hQ14 => ?_))
            refine g1 31 rfl rfl (x_load1 un9 rfl (hB6.cell (rfl))) ?_
            refine hop_end hQ14 ⟨hSr7, ?_⟩
            refine h_takeg 15 31 rfl rfl rfl (by kernel_rfl) (by kernel_rfl) (by kernel_rfl) hSr7 (fun wS hSS => by ( exact (x_geq_str rfl rfl))) ?_
            refine h_takeg 16 28 rfl rfl rfl (by kernel_rfl) (by kernel_rfl) (by kernel_rfl) hSr7 (fun wS hSS => by ( exact (x_pick_t rfl (by conv => lhs; whnf)))) ?_
            refine h_take 17 rfl (by kernel_rfl) (by kernel_rfl) (by kernel_rfl) hSr7 (fun wS hSS => by ( exact (x_pick_f rfl (by conv => lhs; whnf)))) ?_
            refine h_done (by kernel_rfl) ?_
            refine t_n ?_
            first | refine c_dec rfl (fun hc42 => ?_) (fun hc42 => ?_) | refine c_if rfl (fun hc42 => ?_) (fun hc42 => ?_)
            · try simp only [decide_eq_true_eq, decide_eq_false_iff_not, Bool.not_eq_true, Bool.not_eq_false, Bool.not_eq_eq_eq_not, Bool.not_true, Bool.not_false, Int.not_lt, Int.not_le] at hc42
              have hno : ¬ recsOk l := by
                intro h
                have h1 := h.1 _ hmem
                first | exact absurd h1 hb7_3 | exact not_riseR_at (k := i) (by omega) (by omega) (by rw [← ez]; simpa using hc42) h.2
              have hp : putI l = ([], 4) := by unfold putI; rw [if_pos (.inr hno)]
              refine c_seq ?_
              refine r_plain ?_
              refine p1 (x_assign (by conv => lhs; whnf)) ?_
              refine p1 (x_assign (by conv => lhs; whnf)) ?_
              refine r_nil ?_
              refine t_n ?_
              refine c_ret ?_
              refine t_r ?_
              refine b_r ?_
              refine t_r ?_
              refine t_r ?_
              refine b_r ?_
              refine t_r ?_
              refine end2 rfl (by conv => lhs; whnf) (by conv => lhs; whnf) ?_
              first | exact ⟨⟨none, 0, 0, by rw [hp], (by rw [hp]; exact Own.nil _ _ _ _ _)⟩, hX⟩ | exact ⟨⟨_, _, _, by rw [hp], by rw [hp]; exact hO⟩, hX⟩
            · try simp only [decide_eq_true_eq, decide_eq_false_iff_not, Bool.not_eq_true, Bool.not_eq_false, Bool.not_eq_eq_eq_not, Bool.not_true, Bool.not_false, Int.not_lt, Int.not_le] at hc42
              have hord : i = 0 ∨ lssB (l.getD (i - 1) default).1 (l.getD i default).1 = true := by first | (left; omega) | (right; rw [← ez]; simpa using hc42)
              have hrn := riseR_next hrs (by omega) hord
              have hrg : rightP (l.getD i default) := hb7_3
              have hon := right_take_succ hro (by omega) hrg
              have hbl := recB_len hrg
              have hlt := txtL_len (name_size hrg.1)
              have hb64 := hrg.2.1.1
              have hlu := lebU_len10 (n := n1) (by omega)
              refine c_skip ?_
              refine t_n ?_
              refine c_seq ?_
              refine r_held (fun w1 w2 => Ext w1 w2) mixed ?_
              intro w9 hE9
              have hX := hX.ext hE9
              have hO := hO.ext hE9
              have hB6 := hB6.ext hE9
              have hSr9 : (fun w1 w2 => Ext w1 w2) w9 w9 := Ext.refl w9
              refine h_take 0 rfl (by kernel_rfl) (by kernel_rfl) (by kernel_rfl) hSr9 (fun wS hSS => by (have hX := hX.ext hSS; have hO := hO.ext hSS; have hB6 := hB6.ext hSS; exact (x_move (by conv => lhs; whnf)))) ?_
              refine h_take 1 rfl (by kernel_rfl) (by kernel_rfl) (by kernel_rfl) hSr9 (fun wS hSS => by (have hX := hX.ext hSS; have hO := hO.ext hSS; have hB6 := hB6.ext hSS; exact (x_fieldAddr fo33_0 sz9 rfl))) ?_
              refine h_take 2 rfl (by kernel_rfl) (by kernel_rfl) (by kernel_rfl) hSr9 (fun wS hSS => by (have hX := hX.ext hSS; have hO := hO.ext hSS; have hB6 := hB6.ext hSS; exact (x_load1 un9 rfl (hB6.cell (rfl))))) ?_
              refine h_take 4 rfl (by kernel_rfl) (by kernel_rfl) (by kernel_rfl) hSr9 (fun wS hSS => by (have hX := hX.ext hSS; have hO := hO.ext hSS; have hB6 := hB6.ext hSS; exact (x_fieldAddr fo33_1 sz30 rfl))) ?_
              refine h_take 5 rfl (by kernel_rfl) (by kernel_rfl) (by kernel_rfl) hSr9 (fun wS hSS => by (have hX := hX.ext hSS; have hO := hO.ext hSS; have hB6 := hB6.ext hSS; exact (x_load1 un30 rfl (hB6.cell (rfl))))) ?_
              refine h_take 6 rfl (by kernel_rfl) (by kernel_rfl) (by kernel_rfl) hSr9 (fun wS hSS => by (have hX := hX.ext hSS; have hO := hO.ext hSS; have hB6 := hB6.ext hSS; exact (x_len_slice u30 rfl))) ?_
              refine h_take 7 rfl (by kernel_rfl) (by kernel_rfl) (by kernel_rfl) hSr9 (fun wS hSS => by (have hX := hX.ext hSS; have hO := hO.ext hSS; have hB6 := hB6.ext hSS; exact (x_convf u95 us3 rfl (fits_u64 (by omega) (by omega))))) ?_
              refine h_one 3 _ rfl (by kernel_rfl) (hop_of_list (fun Q3 hQ3 => ?_))
              have hXs := hX.size
              refine o_call Try.func85 fn85 fb85 (leb_Text (l.getD i default).1 (by have := name_size hrg.1; omega) _) rfl ?_
              rintro v10 w10 ⟨⟨qT, lT, cT, rfl, hT⟩, hE10⟩
              have hX := hX.ext hE10
              have hO := hO.ext hE10
              have hB6 := hB6.ext hE10
              have hSr9 := hSr9.ext hE10
              have hlT := hT.len
              have hT : Own kByte 5 0 _ _ qT lT cT (txtL (l.getD i default).1) := hT
              have hlT : (txtL (l.getD i default).1).length = lT := hT.len
              refine hop_end hQ3 ⟨hSr9, ?_⟩
              refine h_one 8 _ rfl (by kernel_rfl) (hop_of_list (fun Q8 hQ8 => ?_))
              have hXs := hX.size
              refine o_call Try.func82 fn82 fb82 (leb_Uint n1 (by omega) _) rfl ?_
              rintro v11 w11 ⟨⟨qU, lU2, cU, rfl, hU⟩, hE11⟩
              have hX := hX.ext hE11
              have hO := hO.ext hE11
              have hB6 := hB6.ext hE11
              have hSr9 := hSr9.ext hE11
              have hT := hT.ext hE11
              have hlU2 := hU.len
              refine hop_end hQ8 ⟨hSr9, ?_⟩
              refine h_one 9 _ rfl (by kernel_rfl) (hop_of_list (fun Q9 hQ9 => ?_))
              refine o_buildSlice u141 inf22 rfl (by decide) (fun base hb => fill_kn [.slice q m c1, .slice qT lT cT, .slice qU lU2 cU] (by intro v hv'; simp only [List.mem_cons, List.not_mem_nil, or_false] at hv'; rcases hv' with rfl | rfl | rfl <;> rfl) base hb) ?_
              intro w12 g52 hN52
              have hE12 := hN52.ext
              have hX := hX.ext hE12
              have hO := hO.ext hE12
              have hB6 := hB6.ext hE12
              have hSr9 := hSr9.ext hE12
              have hT := hT.ext hE12
              have hU := hU.ext hE12
              have hI : Own (kSl kByte 5) 22 0 0 w12 (some ⟨g52, 0, none⟩) 3 3 [_, _, _] := Own.made (kSl kByte 5) 22 0 0 hN52 [_, _, _] [[.slice q m c1], [.slice qT lT cT], [.slice qU lU2 cU]] 3 3 rfl ⟨⟨_, _, _, rfl, hO.sl⟩, ⟨_, _, _, rfl, hT.sl⟩, ⟨_, _, _, rfl, hU.sl⟩, trivial⟩ (Nat.zero_le _) (by omega) (by omega) rfl rfl
              refine hop_end hQ9 ⟨hSr9, ?_⟩
              refine h_one 10 _ rfl (by kernel_rfl) (hop_of_list (fun Q10 hQ10 => ?_))
              have hXs := hX.size
              have hOl := hO.len
              simp only [List.length_append, List.length_cons] at hOl
              refine o_call Try.func84 fn84 fb84 (slices_Concat_byte _ _ _ _ _ hI.sl (by simp only [List.flatten_cons, List.flatten_nil, List.append_nil, List.length_append, List.length_cons]; omega)) rfl ?_
              rintro v13 w13 ⟨⟨q3, m3, c3, rfl, hO2⟩, hE13⟩
              have hX := hX.ext hE13
              have hO := hO.ext hE13
              have hB6 := hB6.ext hE13
              have hSr9 := hSr9.ext hE13
              have hT := hT.ext hE13
              have hU := hU.ext hE13
              have hI := hI.ext hE13
              have hO2 := hO2.lower hXs
              have hO2l := hO2.len
              simp only [List.flatten_cons, List.flatten_nil, List.append_nil, List.length_append, List.length_cons] at hO2 hO2l
              have hm3 : m3 ≤ m + 52 := by omega
              refine hop_end hQ10 ⟨hSr9, ?_⟩
              refine h_take 11 rfl (by kernel_rfl) (by kernel_rfl) (by kernel_rfl) hSr9 (fun wS hSS => by ( exact (x_assign (by conv => lhs; whnf)))) ?_
              refine h_done (by kernel_rfl) ?_
              refine t_n ?_
              refine c_seq ?_
              refine c_seq ?_
              refine r_plain ?_
              refine p1 (x_fieldAddr fo33_1 sz30 rfl) ?_
              refine p1 (x_load1 un30 rfl (hB6.cell (rfl))) ?_
              refine p1 (x_len_slice u30 rfl) ?_
              refine p1 (x_move (by conv => lhs; whnf)) ?_
              refine r_nil ?_
              refine t_n ?_
              refine c_block ?_
              have hokb := hrg.2.1
              have hcb := hS1.cap
              have hfb := hS1.fit
              refine c_loop (ι := Nat × Option Addr × Nat × Nat) [4, 8, 57, 58, 59, 60, 61, 62, 63, 64, 65, 66, 67, 68, 69, 70] (fun (k, q4, m4, c4) => [(4, .slice q4 m4 c4), (57, .int .i64 (k : Int))]) (fun (k, q4, m4, c4) w' => Ext w w' ∧ (Own kByte 5 0 w.heap.size w' q4 m4 c4 (1 :: lebU n ++ recsB (l.take i) ++ (txtL (l.getD i default).1 ++ lebU n1) ++ brsB ((l.getD i default).2.1.take k)) ∧ Blk w' g6 #[.string (l.getD i default).1, .slice pb1 n1 cc1, .slice pb2 n2 cc2] 33 ∧ k ≤ n1)) (fun (k, q4, m4, c4) => n1 - k) ((0, q3, m3, c3)) ⟨rfl, rfl, trivial⟩ ⟨hX, ⟨by simpa [brsB] using hO2, hB6, by omega⟩⟩ ?_
              rintro ⟨k, q4, m4, c4⟩ GL2 w14 ⟨hE14, hO, hB6, hk⟩
              have hX := hE14
              have hOl4 := hO.len
              have hbk := brsB_take_len hokb k
              simp only [List.length_append, List.length_cons] at hOl4
              refine c_seq ?_
              refine r_plain ?_
              refine p1 (x_lss rfl rfl) ?_
              refine r_nil ?_
              refine t_n ?_
              refine c_seq ?_
              first | refine c_dec rfl (fun hc58 => ?_) (fun hc58 => ?_) | refine c_if rfl (fun hc58 => ?_) (fun hc58 => ?_)
              · try simp only [decide_eq_true_eq, decide_eq_false_iff_not, Bool.not_eq_true, Bool.not_eq_false, Bool.not_eq_eq_eq_not, Bool.not_true, Bool.not_false, Int.not_lt, Int.not_le] at hc58
                refine c_skip ?_
                refine t_n ?_
                refine c_seq ?_
                refine c_block ?_
                refine c_seq ?_
                obtain ⟨q5, m5, c5x, hrow5, hc0_5, hc1_5, hS5⟩ := hS1.brAt k (by omega)
                have hmb2 := mem_getD (l := (l.getD i default).2.1) (k := k) (by omega)
                have hnb := (hokb.2.2 _ hmb2).1
                have hmb3 := mayB_len (hokb.2.2 _ hmb2).2
                have hl5 := hS5.len
                have hbb := brB_len hnb (hokb.2.2 _ hmb2).2
                refine r_plain ?_
                refine p1 (x_ixs u30 sz81 rfl rfl ((hS1.ext hX).adr kBrA_pos (by omega)) (by omega) (by omega)) ?_
                refine p1 (x_loadN ua81 rfl (by exact sz81) (hX.range hrow5)) ?_
                have hXs8 := hX.size
                have hB6lt := hB6.lt
                refine o_alloc zr81 ?_
                intro w15 g8 hN8
                have hE15 := hN8.ext
                have hX := hX.ext hE15
                have hO := hO.ext hE15
                have hB6 := hB6.ext hE15
                have hB8 := hN8.blk
                refine o_storeAll rfl (by conv => lhs; whnf) (by simp [Value.oneCell']) (by exact sz81) hB8 (by rfl) ?_
                intro w16 hP16
                have hX := hX.put hP16 (by rw [hN8.g_eq]; exact hXs8)
                have hO := hO.mod (hP16.mod 0 (Nat.zero_le _)) (Nat.zero_le _) (by decide)
                have hB6 := hB6.mod (hP16.mod 0 (Nat.zero_le _)) (by decide)
                have hB8 := hP16.blk
                refine r_nil ?_
                refine t_n ?_
                refine r_held (fun w1 w2 => Ext w1 w2) mixed ?_
                intro w17 hE17
                have hX := hX.ext hE17
                have hO := hO.ext hE17
                have hB6 := hB6.ext hE17
                have hB8 := hB8.ext hE17
                have hSr13 : (fun w1 w2 => Ext w1 w2) w17 w17 := Ext.refl w17
                refine h_take 0 rfl (by kernel_rfl) (by kernel_rfl) (by kernel_rfl) hSr13 (fun wS hSS => by (have hX := hX.ext hSS; have hO := hO.ext hSS; have hB6 := hB6.ext hSS; have hB8 := hB8.ext hSS; exact (x_move (by conv => lhs; whnf)))) ?_
                refine h_take 1 rfl (by kernel_rfl) (by kernel_rfl) (by kernel_rfl) hSr13 (fun wS hSS => by (have hX := hX.ext hSS; have hO := hO.ext hSS; have hB6 := hB6.ext hSS; have hB8 := hB8.ext hSS; exact (x_fieldAddr fo81_0 sz9 rfl))) ?_
                refine h_take 2 rfl (by kernel_rfl) (by kernel_rfl) (by kernel_rfl) hSr13 (fun wS hSS => by (have hX := hX.ext hSS; have hO := hO.ext hSS; have hB6 := hB6.ext hSS; have hB8 := hB8.ext hSS; exact (x_load1 un9 rfl (hB8.cell (rfl))))) ?_
                refine h_take 4 rfl (by kernel_rfl) (by kernel_rfl) (by kernel_rfl) hSr13 (fun wS hSS => by (have hX := hX.ext hSS; have hO := hO.ext hSS; have hB6 := hB6.ext hSS; have hB8 := hB8.ext hSS; exact (x_fieldAddr fo81_1 sz31 rfl))) ?_
                refine h_take 5 rfl (by kernel_rfl) (by kernel_rfl) (by kernel_rfl) hSr13 (fun wS hSS => by (have hX := hX.ext hSS; have hO := hO.ext hSS; have hB6 := hB6.ext hSS; have hB8 := hB8.ext hSS; exact (x_load1 un31 rfl (hB8.cell (rfl))))) ?_
                refine h_one 3 _ rfl (by kernel_rfl) (hop_of_list (fun Q3 hQ3 => ?_))
                refine o_call Try.func85 fn85 fb85 (leb_Text ((l.getD i default).2.1.getD k default).1 (by have := name_size hnb; omega) _) rfl ?_
                rintro v18 w18 ⟨⟨qT, lT, cT, rfl, hT⟩, hE18⟩
                have hX := hX.ext hE18
                have hO := hO.ext hE18
                have hB6 := hB6.ext hE18
                have hB8 := hB8.ext hE18
                have hSr13 := hSr13.ext hE18
                have hT : Own kByte 5 0 _ _ qT lT cT (txtL ((l.getD i default).2.1.getD k default).1) := hT
                have hlT : (txtL ((l.getD i default).2.1.getD k default).1).length = lT := hT.len
                have hlT2 := txtL_len (name_size hnb)
                refine hop_end hQ3 ⟨hSr13, ?_⟩
                refine h_one 6 _ rfl (by kernel_rfl) (hop_of_list (fun Q6 hQ6 => ?_))
                refine o_call Try.func45 fn45 fb45 (hashes_Put ((l.getD i default).2.1.getD k default).2 _ _ _ _ _ (hS5.ext hX) (by omega)) rfl ?_
                rintro v19 w19 ⟨⟨qU, lU2, cU, rfl, hU⟩, hE19⟩
                have hX := hX.ext hE19
                have hO := hO.ext hE19
                have hB6 := hB6.ext hE19
                have hB8 := hB8.ext hE19
                have hSr13 := hSr13.ext hE19
                have hT := hT.ext hE19
                rw [← hl5] at hU
                have hU : Own kByte 5 0 _ _ qU lU2 cU (putB ((l.getD i default).2.1.getD k default).2) := hU
                have hlU2 : (putB ((l.getD i default).2.1.getD k default).2).length = lU2 := hU.len
                have hlU3 := putB_len (hs := ((l.getD i default).2.1.getD k default).2) (by omega)
                refine hop_end hQ6 ⟨hSr13, ?_⟩
                refine h_one 7 _ rfl (by kernel_rfl) (hop_of_list (fun Q7 hQ7 => ?_))
                refine o_buildSlice u141 inf22 rfl (by decide) (fun base hb => fill_kn [.slice q4 m4 c4, .slice qT lT cT, .slice qU lU2 cU] (by intro v hv'; simp only [List.mem_cons, List.not_mem_nil, or_false] at hv'; rcases hv' with rfl | rfl | rfl <;> rfl) base hb) ?_
                intro w20 g68 hN68
                have hE20 := hN68.ext
                have hX := hX.ext hE20
                have hO := hO.ext hE20
                have hB6 := hB6.ext hE20
                have hB8 := hB8.ext hE20
                have hSr13 := hSr13.ext hE20
                have hT := hT.ext hE20
                have hU := hU.ext hE20
                have hI : Own (kSl kByte 5) 22 0 0 w20 (some ⟨g68, 0, none⟩) 3 3 [_, _, _] := Own.made (kSl kByte 5) 22 0 0 hN68 [_, _, _] [[.slice q4 m4 c4], [.slice qT lT cT], [.slice qU lU2 cU]] 3 3 rfl ⟨⟨_, _, _, rfl, hO.sl⟩, ⟨_, _, _, rfl, hT.sl⟩, ⟨_, _, _, rfl, hU.sl⟩, trivial⟩ (Nat.zero_le _) (by omega) (by omega) rfl rfl
                refine hop_end hQ7 ⟨hSr13, ?_⟩
                refine h_one 8 _ rfl (by kernel_rfl) (hop_of_list (fun Q8 hQ8 => ?_))
                have hXs := hX.size
                have hOl5 := hO.len
                refine o_call Try.func84 fn84 fb84 (slices_Concat_byte _ _ _ _ _ hI.sl (by simp only [List.flatten_cons, List.flatten_nil, List.append_nil, List.length_append, List.length_cons] at hOl5 ⊢; omega)) rfl ?_
                rintro v21 w21 ⟨⟨q6, m6, c6, rfl, hO2⟩, hE21⟩
                have hX := hX.ext hE21
                have hO := hO.ext hE21
                have hB6 := hB6.ext hE21
                have hB8 := hB8.ext hE21
                have hSr13 := hSr13.ext hE21
                have hT := hT.ext hE21
                have hU := hU.ext hE21
                have hI := hI.ext hE21
                have hO2 := hO2.lower hXs
                simp only [List.flatten_cons, List.flatten_nil, List.append_nil] at hO2
                refine hop_end hQ8 ⟨hSr13, ?_⟩
                refine h_take 9 rfl (by kernel_rfl) (by kernel_rfl) (by kernel_rfl) hSr13 (fun wS hSS => by ( exact (x_assign (by conv => lhs; whnf)))) ?_
                refine h_done (by kernel_rfl) ?_
                refine b_n ?_
                refine t_n ?_
                refine r_plain ?_
                refine p1 (x_add rfl rfl (fits_i64 (by omega) (by omega))) ?_
                refine p1 (x_move (by conv => lhs; whnf)) ?_
                refine r_nil ?_
                refine t_n (At.mk ((k + 1, q6, m6, c6)) (by repeat (first | exact Agr.refl _ _ | exact Agr.hav _ _ _ | refine Agr.upd rfl ?_ | refine Agr.updL ?_ _ rfl | refine Agr.hav' rfl ?_)) ⟨rfl, rfl, trivial⟩ ?_)
                exact ⟨⟨hX, ⟨by rw [brsB_succ (by omega)]; unfold brB; simpa only [List.append_assoc] using hO2, hB6, by omega⟩⟩, by first | (dsimp only; omega) | ((show _ < _); omega)⟩
              · try simp only [decide_eq_true_eq, decide_eq_false_iff_not, Bool.not_eq_true, Bool.not_eq_false, Bool.not_eq_eq_eq_not, Bool.not_true, Bool.not_false, Int.not_lt, Int.not_le] at hc58
                have hkn : k = n1 := by omega
                rw [hkn, show (l.getD i default).2.1.take n1 = (l.getD i default).2.1 from List.take_of_length_le (by omega)] at hO hOl4
                refine c_exit ?_
                refine t_e ?_
                refine t_e ?_
                refine b_hit ?_
                refine t_n ?_
                refine r_plain ?_
                refine p1 (x_move (by conv => lhs; whnf)) ?_
                refine p1 (x_fieldAddr fo33_2 sz31 rfl) ?_
                refine p1 (x_load1 un31 rfl (hB6.cell (rfl))) ?_
                refine o_call Try.func45 fn45 fb45 (hashes_Put (l.getD i default).2.2 _ _ _ _ _ (hS2.ext hX) (by have := hrg.2.2.1; omega)) rfl ?_
                rintro v22 w22 ⟨⟨qU, lU2, cU, rfl, hU⟩, hE22⟩
                have hX := hX.ext hE22
                have hO := hO.ext hE22
                have hB6 := hB6.ext hE22
                rw [← hl2] at hU
                have hU : Own kByte 5 0 _ _ qU lU2 cU (putB (l.getD i default).2.2) := hU
                have hlU2 : (putB (l.getD i default).2.2).length = lU2 := hU.len
                have hlU3 := putB_len (hs := (l.getD i default).2.2) (by have := hrg.2.2.1; omega)
                have h4096 := hrg.2.2.1
                obtain ⟨Bz, hBz⟩ : ∃ x, x = w22.heap.size := ⟨_, rfl⟩
                have hbk := brsB_take_len hokb n1
                rw [show (l.getD i default).2.1.take n1 = (l.getD i default).2.1 from List.take_of_length_le (by omega)] at hbk
                have hq1 := hX.size
                refine o_append (d := kByte) (putB (l.getD i default).2.2) u22 inf5 rfl kByte_pos rfl rfl hO (src_pure u22 hU.sl (by decide)) hU.len (byte_all _ _ _) (rfl) (by omega) (by omega) (by omega) (by omega) (by decide) ?_
                intro p75 c75 w23 hO hM23
                have hX := hX.mod hM23 (Nat.le_refl _)
                have hB6 := hB6.mod hM23 (by decide)
                refine p1 (x_assign (by conv => lhs; whnf)) ?_
                refine r_nil ?_
                refine b_n ?_
                refine t_n ?_
                refine r_plain ?_
                refine p1 (x_add rfl rfl (fits_i64 (by omega) (by omega))) ?_
                refine p1 (x_move (by conv => lhs; whnf)) ?_
                refine r_nil ?_
                refine t_n (At.mk ((i + 1, p75, m4 + lU2, c75)) (by repeat (first | exact Agr.refl _ _ | exact Agr.hav _ _ _ | refine Agr.upd rfl ?_ | refine Agr.updL ?_ _ rfl | refine Agr.hav' rfl ?_)) ⟨rfl, rfl, trivial⟩ ?_)
                exact ⟨⟨hX, ⟨by rw [recsB_succ (by omega)]; unfold recB; rw [hl1]; simpa only [List.append_assoc] using hO, hon, hrn, by omega, by have h9 := hO.len; have h8 : (recB (l.getD i default)).length = (txtL (l.getD i default).1).length + (lebU n1).length + (brsB (l.getD i default).2.1).length + (putB (l.getD i default).2.2).length := (by unfold recB; rw [hl1]; first | done | simp only [List.length_append]); simp only [List.length_append, List.length_cons] at h9; omega⟩⟩, by first | (dsimp only; omega) | ((show _ < _); omega)⟩
          · skip
            refine g1 31 rfl rfl (x_load1 un9 rfl (hB6.cell (rfl))) ?_
            refine hop_end hQ14 ⟨hSr7, ?_⟩
            refine h_one 12 _ rfl (by kernel_rfl) (hop_of_list (fun Q12 hQ12 => ?_))
            refine g1 31 rfl rfl (x_load1 un9 rfl (hX.cell (hrow3 0 _ rfl))) ?_
            refine hop_end hQ12 ⟨hSr7, ?_⟩
            refine h_takeg 15 31 rfl rfl rfl (by kernel_rfl) (by kernel_rfl) (by kernel_rfl) hSr7 (fun wS hSS => by ( exact (x_geq_str rfl rfl))) ?_
            refine h_takeg 16 28 rfl rfl rfl (by kernel_rfl) (by kernel_rfl) (by kernel_rfl) hSr7 (fun wS hSS => by ( exact (x_pick_t rfl (by conv => lhs; whnf)))) ?_
            refine h_take 17 rfl (by kernel_rfl) (by kernel_rfl) (by kernel_rfl) hSr7 (fun wS hSS => by ( exact (x_pick_f rfl (by conv => lhs; whnf)))) ?_
            refine h_done (by kernel_rfl) ?_
            refine t_n ?_
            first | refine c_dec rfl (fun hc42 => ?_) (fun hc42 => ?_) | refine c_if rfl (fun hc42 => ?_) (fun hc42 => ?_)
            · try simp only [decide_eq_true_eq, decide_eq_false_iff_not, Bool.not_eq_true, Bool.not_eq_false, Bool.not_eq_eq_eq_not, Bool.not_true, Bool.not_false, Int.not_lt, Int.not_le] at hc42
              have hno : ¬ recsOk l := by
                intro h
                have h1 := h.1 _ hmem
                first | exact absurd h1 hb7_3 | exact not_riseR_at (k := i) (by omega) (by omega) (by rw [← ez]; simpa using hc42) h.2
              have hp : putI l = ([], 4) := by unfold putI; rw [if_pos (.inr hno)]
              refine c_seq ?_
              refine r_plain ?_
              refine p1 (x_assign (by conv => lhs; whnf)) ?_
              refine p1 (x_assign (by conv => lhs; whnf)) ?_
              refine r_nil ?_
              refine t_n ?_
              refine c_ret ?_
              refine t_r ?_
              refine b_r ?_
              refine t_r ?_
              refine t_r ?_
              refine b_r ?_
              refine t_r ?_
              refine end2 rfl (by conv => lhs; whnf) (by conv => lhs; whnf) ?_
              first | exact ⟨⟨none, 0, 0, by rw [hp], (by rw [hp]; exact Own.nil _ _ _ _ _)⟩, hX⟩ | exact ⟨⟨_, _, _, by rw [hp], by rw [hp]; exact hO⟩, hX⟩
            · try simp only [decide_eq_true_eq, decide_eq_false_iff_not, Bool.not_eq_true, Bool.not_eq_false, Bool.not_eq_eq_eq_not, Bool.not_true, Bool.not_false, Int.not_lt, Int.not_le] at hc42
              have hord : i = 0 ∨ lssB (l.getD (i - 1) default).1 (l.getD i default).1 = true := by first | (left; omega) | (right; rw [← ez]; simpa using hc42)
              have hrn := riseR_next hrs (by omega) hord
              have hrg : rightP (l.getD i default) := hb7_3
              have hon := right_take_succ hro (by omega) hrg
              have hbl := recB_len hrg
              have hlt := txtL_len (name_size hrg.1)
              have hb64 := hrg.2.1.1
              have hlu := lebU_len10 (n := n1) (by omega)
              refine c_skip ?_
              refine t_n ?_
              refine c_seq ?_
              refine r_held (fun w1 w2 => Ext w1 w2) mixed ?_
              intro w24 hE24
              have hX := hX.ext hE24
              have hO := hO.ext hE24
              have hB6 := hB6.ext hE24
              have hSr9 : (fun w1 w2 => Ext w1 w2) w24 w24 := Ext.refl w24
              refine h_take 0 rfl (by kernel_rfl) (by kernel_rfl) (by kernel_rfl) hSr9 (fun wS hSS => by (have hX := hX.ext hSS; have hO := hO.ext hSS; have hB6 := hB6.ext hSS; exact (x_move (by conv => lhs; whnf)))) ?_
              refine h_take 1 rfl (by kernel_rfl) (by kernel_rfl) (by kernel_rfl) hSr9 (fun wS hSS => by (have hX := hX.ext hSS; have hO := hO.ext hSS; have hB6 := hB6.ext hSS; exact (x_fieldAddr fo33_0 sz9 rfl))) ?_
              refine h_take 2 rfl (by kernel_rfl) (by kernel_rfl) (by kernel_rfl) hSr9 (fun wS hSS => by (have hX := hX.ext hSS; have hO := hO.ext hSS; have hB6 := hB6.ext hSS; exact (x_load1 un9 rfl (hB6.cell (rfl))))) ?_
              refine h_take 4 rfl (by kernel_rfl) (by kernel_rfl) (by kernel_rfl) hSr9 (fun wS hSS => by (have hX := hX.ext hSS; have hO := hO.ext hSS; have hB6 := hB6.ext hSS; exact (x_fieldAddr fo33_1 sz30 rfl))) ?_
              refine h_take 5 rfl (by kernel_rfl) (by kernel_rfl) (by kernel_rfl) hSr9 (fun wS hSS => by (have hX := hX.ext hSS; have hO := hO.ext hSS; have hB6 := hB6.ext hSS; exact (x_load1 un30 rfl (hB6.cell (rfl))))) ?_
              refine h_take 6 rfl (by kernel_rfl) (by kernel_rfl) (by kernel_rfl) hSr9 (fun wS hSS => by (have hX := hX.ext hSS; have hO := hO.ext hSS; have hB6 := hB6.ext hSS; exact (x_len_slice u30 rfl))) ?_
              refine h_take 7 rfl (by kernel_rfl) (by kernel_rfl) (by kernel_rfl) hSr9 (fun wS hSS => by (have hX := hX.ext hSS; have hO := hO.ext hSS; have hB6 := hB6.ext hSS; exact (x_convf u95 us3 rfl (fits_u64 (by omega) (by omega))))) ?_
              refine h_one 3 _ rfl (by kernel_rfl) (hop_of_list (fun Q3 hQ3 => ?_))
              have hXs := hX.size
              refine o_call Try.func85 fn85 fb85 (leb_Text (l.getD i default).1 (by have := name_size hrg.1; omega) _) rfl ?_
              rintro v25 w25 ⟨⟨qT, lT, cT, rfl, hT⟩, hE25⟩
              have hX := hX.ext hE25
              have hO := hO.ext hE25
              have hB6 := hB6.ext hE25
              have hSr9 := hSr9.ext hE25
              have hlT := hT.len
              have hT : Own kByte 5 0 _ _ qT lT cT (txtL (l.getD i default).1) := hT
              have hlT : (txtL (l.getD i default).1).length = lT := hT.len
              refine hop_end hQ3 ⟨hSr9, ?_⟩
              refine h_one 8 _ rfl (by kernel_rfl) (hop_of_list (fun Q8 hQ8 => ?_))
              have hXs := hX.size
              refine o_call Try.func82 fn82 fb82 (leb_Uint n1 (by omega) _) rfl ?_
              rintro v26 w26 ⟨⟨qU, lU2, cU, rfl, hU⟩, hE26⟩
              have hX := hX.ext hE26
              have hO := hO.ext hE26
              have hB6 := hB6.ext hE26
              have hSr9 := hSr9.ext hE26
              have hT := hT.ext hE26
              have hlU2 := hU.len
              refine hop_end hQ8 ⟨hSr9, ?_⟩
              refine h_one 9 _ rfl (by kernel_rfl) (hop_of_list (fun Q9 hQ9 => ?_))
              refine o_buildSlice u141 inf22 rfl (by decide) (fun base hb => fill_kn [.slice q m c1, .slice qT lT cT, .slice qU lU2 cU] (by intro v hv'; simp only [List.mem_cons, List.not_mem_nil, or_false] at hv'; rcases hv' with rfl | rfl | rfl <;> rfl) base hb) ?_
              intro w27 g52 hN52
              have hE27 := hN52.ext
              have hX := hX.ext hE27
              have hO := hO.ext hE27
              have hB6 := hB6.ext hE27
              have hSr9 := hSr9.ext hE27
              have hT := hT.ext hE27
              have hU := hU.ext hE27
              have hI : Own (kSl kByte 5) 22 0 0 w27 (some ⟨g52, 0, none⟩) 3 3 [_, _, _] := Own.made (kSl kByte 5) 22 0 0 hN52 [_, _, _] [[.slice q m c1], [.slice qT lT cT], [.slice qU lU2 cU]] 3 3 rfl ⟨⟨_, _, _, rfl, hO.sl⟩, ⟨_, _, _, rfl, hT.sl⟩, ⟨_, _, _, rfl, hU.sl⟩, trivial⟩ (Nat.zero_le _) (by omega) (by omega) rfl rfl
              refine hop_end hQ9 ⟨hSr9, ?_⟩
              refine h_one 10 _ rfl (by kernel_rfl) (hop_of_list (fun Q10 hQ10 => ?_))
              have hXs := hX.size
              have hOl := hO.len
              simp only [List.length_append, List.length_cons] at hOl
              refine o_call Try.func84 fn84 fb84 (slices_Concat_byte _ _ _ _ _ hI.sl (by simp only [List.flatten_cons, List.flatten_nil, List.append_nil, List.length_append, List.length_cons]; omega)) rfl ?_
              rintro v28 w28 ⟨⟨q3, m3, c3, rfl, hO2⟩, hE28⟩
              have hX := hX.ext hE28
              have hO := hO.ext hE28
              have hB6 := hB6.ext hE28
              have hSr9 := hSr9.ext hE28
              have hT := hT.ext hE28
              have hU := hU.ext hE28
              have hI := hI.ext hE28
              have hO2 := hO2.lower hXs
              have hO2l := hO2.len
              simp only [List.flatten_cons, List.flatten_nil, List.append_nil, List.length_append, List.length_cons] at hO2 hO2l
              have hm3 : m3 ≤ m + 52 := by omega
              refine hop_end hQ10 ⟨hSr9, ?_⟩
              refine h_take 11 rfl (by kernel_rfl) (by kernel_rfl) (by kernel_rfl) hSr9 (fun wS hSS => by ( exact (x_assign (by conv => lhs; whnf)))) ?_
              refine h_done (by kernel_rfl) ?_
              refine t_n ?_
              refine c_seq ?_
              refine c_seq ?_
              refine r_plain ?_
              refine p1 (x_fieldAddr fo33_1 sz30 rfl) ?_
              refine p1 (x_load1 un30 rfl (hB6.cell (rfl))) ?_
              refine p1 (x_len_slice u30 rfl) ?_
              refine p1 (x_move (by conv => lhs; whnf)) ?_
              refine r_nil ?_
              refine t_n ?_
              refine c_block ?_
              have hokb := hrg.2.1
              have hcb := hS1.cap
              have hfb := hS1.fit
              refine c_loop (ι := Nat × Option Addr × Nat × Nat) [4, 8, 57, 58, 59, 60, 61, 62, 63, 64, 65, 66, 67, 68, 69, 70] (fun (k, q4, m4, c4) => [(4, .slice q4 m4 c4), (57, .int .i64 (k : Int))]) (fun (k, q4, m4, c4) w' => Ext w w' ∧ (Own kByte 5 0 w.heap.size w' q4 m4 c4 (1 :: lebU n ++ recsB (l.take i) ++ (txtL (l.getD i default).1 ++ lebU n1) ++ brsB ((l.getD i default).2.1.take k)) ∧ Blk w' g6 #[.string (l.getD i default).1, .slice pb1 n1 cc1, .slice pb2 n2 cc2] 33 ∧ k ≤ n1)) (fun (k, q4, m4, c4) => n1 - k) ((0, q3, m3, c3)) ⟨rfl, rfl, trivial⟩ ⟨hX, ⟨by simpa [brsB] using hO2, hB6, by omega⟩⟩ ?_
              rintro ⟨k, q4, m4, c4⟩ GL2 w29 ⟨hE29, hO, hB6, hk⟩
              have hX := hE29
              have hOl4 := hO.len
              have hbk := brsB_take_len hokb k
              simp only [List.length_append, List.length_cons] at hOl4
              refine c_seq ?_
              refine r_plain ?_
              refine p1 (x_lss rfl rfl) ?_
              refine r_nil ?_
              refine t_n ?_
              refine c_seq ?_
              first | refine c_dec rfl (fun hc58 => ?_) (fun hc58 => ?_) | refine c_if rfl (fun hc58 => ?_) (fun hc58 => ?_)
              · try simp only [decide_eq_true_eq, decide_eq_false_iff_not, Bool.not_eq_true, Bool.not_eq_false, Bool.not_eq_eq_eq_not, Bool.not_true, Bool.not_false, Int.not_lt, Int.not_le] at hc58
                refine c_skip ?_
                refine t_n ?_
                refine c_seq ?_
                refine c_block ?_
                refine c_seq ?_
                obtain ⟨q5, m5, c5x, hrow5, hc0_5, hc1_5, hS5⟩ := hS1.brAt k (by omega)
                have hmb2 := mem_getD (l := (l.getD i default).2.1) (k := k) (by omega)
                have hnb := (hokb.2.2 _ hmb2).1
                have hmb3 := mayB_len (hokb.2.2 _ hmb2).2
                have hl5 := hS5.len
                have hbb := brB_len hnb (hokb.2.2 _ hmb2).2
                refine r_plain ?_
                refine p1 (x_ixs u30 sz81 rfl rfl ((hS1.ext hX).adr kBrA_pos (by omega)) (by omega) (by omega)) ?_
                refine p1 (x_loadN ua81 rfl (by exact sz81) (hX.range hrow5)) ?_
                have hXs8 := hX.size
                have hB6lt := hB6.lt
                refine o_alloc zr81 ?_
                intro w30 g8 hN8
                have hE30 := hN8.ext
                have hX := hX.ext hE30
                have hO := hO.ext hE30
                have hB6 := hB6.ext hE30
                have hB8 := hN8.blk
                refine o_storeAll rfl (by conv => lhs; whnf) (by simp [Value.oneCell']) (by exact sz81) hB8 (by rfl) ?_
                intro w31 hP31
                have hX := hX.put hP31 (by rw [hN8.g_eq]; exact hXs8)
                have hO := hO.mod (hP31.mod 0 (Nat.zero_le _)) (Nat.zero_le _) (by decide)
                have hB6 := hB6.mod (hP31.mod 0 (Nat.zero_le _)) (by decide)
                have hB8 := hP31.blk
                refine r_nil ?_
                refine t_n ?_
                refine r_held (fun w1 w2 => Ext w1 w2) mixed ?_
                intro w32 hE32
                have hX := hX.ext hE32
                have hO := hO.ext hE32
                have hB6 := hB6.ext hE32
                have hB8 := hB8.ext hE32
                have hSr13 : (fun w1 w2 => Ext w1 w2) w32 w32 := Ext.refl w32
                refine h_take 0 rfl (by kernel_rfl) (by kernel_rfl) (by kernel_rfl) hSr13 (fun wS hSS => by (have hX := hX.ext hSS; have hO := hO.ext hSS; have hB6 := hB6.ext hSS; have hB8 := hB8.ext hSS; exact (x_move (by conv => lhs; whnf)))) ?_
                refine h_take 1 rfl (by kernel_rfl) (by kernel_rfl) (by kernel_rfl) hSr13 (fun wS hSS => by (have hX := hX.ext hSS; have hO := hO.ext hSS; have hB6 := hB6.ext hSS; have hB8 := hB8.ext hSS; exact (x_fieldAddr fo81_0 sz9 rfl))) ?_
                refine h_take 2 rfl (by kernel_rfl) (by kernel_rfl) (by kernel_rfl) hSr13 (fun wS hSS => by (have hX := hX.ext hSS; have hO := hO.ext hSS; have hB6 := hB6.ext hSS; have hB8 := hB8.ext hSS; exact (x_load1 un9 rfl (hB8.cell (rfl))))) ?_
                refine h_take 4 rfl (by kernel_rfl) (by kernel_rfl) (by kernel_rfl) hSr13 (fun wS hSS => by (have hX := hX.ext hSS; have hO := hO.ext hSS; have hB6 := hB6.ext hSS; have hB8 := hB8.ext hSS; exact (x_fieldAddr fo81_1 sz31 rfl))) ?_
                refine h_take 5 rfl (by kernel_rfl) (by kernel_rfl) (by kernel_rfl) hSr13 (fun wS hSS => by (have hX := hX.ext hSS; have hO := hO.ext hSS; have hB6 := hB6.ext hSS; have hB8 := hB8.ext hSS; exact (x_load1 un31 rfl (hB8.cell (rfl))))) ?_
                refine h_one 3 _ rfl (by kernel_rfl) (hop_of_list (fun Q3 hQ3 => ?_))
                refine o_call Try.func85 fn85 fb85 (leb_Text ((l.getD i default).2.1.getD k default).1 (by have := name_size hnb; omega) _) rfl ?_
                rintro v33 w33 ⟨⟨qT, lT, cT, rfl, hT⟩, hE33⟩
                have hX := hX.ext hE33
                have hO := hO.ext hE33
                have hB6 := hB6.ext hE33
                have hB8 := hB8.ext hE33
                have hSr13 := hSr13.ext hE33
                have hT : Own kByte 5 0 _ _ qT lT cT (txtL ((l.getD i default).2.1.getD k default).1) := hT
                have hlT : (txtL ((l.getD i default).2.1.getD k default).1).length = lT := hT.len
                have hlT2 := txtL_len (name_size hnb)
                refine hop_end hQ3 ⟨hSr13, ?_⟩
                refine h_one 6 _ rfl (by kernel_rfl) (hop_of_list (fun Q6 hQ6 => ?_))
                refine o_call Try.func45 fn45 fb45 (hashes_Put ((l.getD i default).2.1.getD k default).2 _ _ _ _ _ (hS5.ext hX) (by omega)) rfl ?_
                rintro v34 w34 ⟨⟨qU, lU2, cU, rfl, hU⟩, hE34⟩
                have hX := hX.ext hE34
                have hO := hO.ext hE34
                have hB6 := hB6.ext hE34
                have hB8 := hB8.ext hE34
                have hSr13 := hSr13.ext hE34
                have hT := hT.ext hE34
                rw [← hl5] at hU
                have hU : Own kByte 5 0 _ _ qU lU2 cU (putB ((l.getD i default).2.1.getD k default).2) := hU
                have hlU2 : (putB ((l.getD i default).2.1.getD k default).2).length = lU2 := hU.len
                have hlU3 := putB_len (hs := ((l.getD i default).2.1.getD k default).2) (by omega)
                refine hop_end hQ6 ⟨hSr13, ?_⟩
                refine h_one 7 _ rfl (by kernel_rfl) (hop_of_list (fun Q7 hQ7 => ?_))
                refine o_buildSlice u141 inf22 rfl (by decide) (fun base hb => fill_kn [.slice q4 m4 c4, .slice qT lT cT, .slice qU lU2 cU] (by intro v hv'; simp only [List.mem_cons, List.not_mem_nil, or_false] at hv'; rcases hv' with rfl | rfl | rfl <;> rfl) base hb) ?_
                intro w35 g68 hN68
                have hE35 := hN68.ext
                have hX := hX.ext hE35
                have hO := hO.ext hE35
                have hB6 := hB6.ext hE35
                have hB8 := hB8.ext hE35
                have hSr13 := hSr13.ext hE35
                have hT := hT.ext hE35
                have hU := hU.ext hE35
                have hI : Own (kSl kByte 5) 22 0 0 w35 (some ⟨g68, 0, none⟩) 3 3 [_, _, _] := Own.made (kSl kByte 5) 22 0 0 hN68 [_, _, _] [[.slice q4 m4 c4], [.slice qT lT cT], [.slice qU lU2 cU]] 3 3 rfl ⟨⟨_, _, _, rfl, hO.sl⟩, ⟨_, _, _, rfl, hT.sl⟩, ⟨_, _, _, rfl, hU.sl⟩, trivial⟩ (Nat.zero_le _) (by omega) (by omega) rfl rfl
                refine hop_end hQ7 ⟨hSr13, ?_⟩
                refine h_one 8 _ rfl (by kernel_rfl) (hop_of_list (fun Q8 hQ8 => ?_))
                have hXs := hX.size
                have hOl5 := hO.len
                refine o_call Try.func84 fn84 fb84 (slices_Concat_byte _ _ _ _ _ hI.sl (by simp only [List.flatten_cons, List.flatten_nil, List.append_nil, List.length_append, List.length_cons] at hOl5 ⊢; omega)) rfl ?_
                rintro v36 w36 ⟨⟨q6, m6, c6, rfl, hO2⟩, hE36⟩
                have hX := hX.ext hE36
                have hO := hO.ext hE36
                have hB6 := hB6.ext hE36
                have hB8 := hB8.ext hE36
                have hSr13 := hSr13.ext hE36
                have hT := hT.ext hE36
                have hU := hU.ext hE36
                have hI := hI.ext hE36
                have hO2 := hO2.lower hXs
                simp only [List.flatten_cons, List.flatten_nil, List.append_nil] at hO2
                refine hop_end hQ8 ⟨hSr13, ?_⟩
                refine h_take 9 rfl (by kernel_rfl) (by kernel_rfl) (by kernel_rfl) hSr13 (fun wS hSS => by ( exact (x_assign (by conv => lhs; whnf)))) ?_
                refine h_done (by kernel_rfl) ?_
                refine b_n ?_
                refine t_n ?_
                refine r_plain ?_
                refine p1 (x_add rfl rfl (fits_i64 (by omega) (by omega))) ?_
                refine p1 (x_move (by conv => lhs; whnf)) ?_
                refine r_nil ?_
                refine t_n (At.mk ((k + 1, q6, m6, c6)) (by repeat (first | exact Agr.refl _ _ | exact Agr.hav _ _ _ | refine Agr.upd rfl ?_ | refine Agr.updL ?_ _ rfl | refine Agr.hav' rfl ?_)) ⟨rfl, rfl, trivial⟩ ?_)
                exact ⟨⟨hX, ⟨by rw [brsB_succ (by omega)]; unfold brB; simpa only [List.append_assoc] using hO2, hB6, by omega⟩⟩, by first | (dsimp only; omega) | ((show _ < _); omega)⟩
              · try simp only [decide_eq_true_eq, decide_eq_false_iff_not, Bool.not_eq_true, Bool.not_eq_false, Bool.not_eq_eq_eq_not, Bool.not_true, Bool.not_false, Int.not_lt, Int.not_le] at hc58
                have hkn : k = n1 := by omega
                rw [hkn, show (l.getD i default).2.1.take n1 = (l.getD i default).2.1 from List.take_of_length_le (by omega)] at hO hOl4
                refine c_exit ?_
                refine t_e ?_
                refine t_e ?_
                refine b_hit ?_
                refine t_n ?_
                refine r_plain ?_
                refine p1 (x_move (by conv => lhs; whnf)) ?_
                refine p1 (x_fieldAddr fo33_2 sz31 rfl) ?_
                refine p1 (x_load1 un31 rfl (hB6.cell (rfl))) ?_
                refine o_call Try.func45 fn45 fb45 (hashes_Put (l.getD i default).2.2 _ _ _ _ _ (hS2.ext hX) (by have := hrg.2.2.1; omega)) rfl ?_
                rintro v37 w37 ⟨⟨qU, lU2, cU, rfl, hU⟩, hE37⟩
                have hX := hX.ext hE37
                have hO := hO.ext hE37
                have hB6 := hB6.ext hE37
                rw [← hl2] at hU
                have hU : Own kByte 5 0 _ _ qU lU2 cU (putB (l.getD i default).2.2) := hU
                have hlU2 : (putB (l.getD i default).2.2).length = lU2 := hU.len
                have hlU3 := putB_len (hs := (l.getD i default).2.2) (by have := hrg.2.2.1; omega)
                have h4096 := hrg.2.2.1
                obtain ⟨Bz, hBz⟩ : ∃ x, x = w37.heap.size := ⟨_, rfl⟩
                have hbk := brsB_take_len hokb n1
                rw [show (l.getD i default).2.1.take n1 = (l.getD i default).2.1 from List.take_of_length_le (by omega)] at hbk
                have hq1 := hX.size
                refine o_append (d := kByte) (putB (l.getD i default).2.2) u22 inf5 rfl kByte_pos rfl rfl hO (src_pure u22 hU.sl (by decide)) hU.len (byte_all _ _ _) (rfl) (by omega) (by omega) (by omega) (by omega) (by decide) ?_
                intro p75 c75 w38 hO hM38
                have hX := hX.mod hM38 (Nat.le_refl _)
                have hB6 := hB6.mod hM38 (by decide)
                refine p1 (x_assign (by conv => lhs; whnf)) ?_
                refine r_nil ?_
                refine b_n ?_
                refine t_n ?_
                refine r_plain ?_
                refine p1 (x_add rfl rfl (fits_i64 (by omega) (by omega))) ?_
                refine p1 (x_move (by conv => lhs; whnf)) ?_
                refine r_nil ?_
                refine t_n (At.mk ((i + 1, p75, m4 + lU2, c75)) (by repeat (first | exact Agr.refl _ _ | exact Agr.hav _ _ _ | refine Agr.upd rfl ?_ | refine Agr.updL ?_ _ rfl | refine Agr.hav' rfl ?_)) ⟨rfl, rfl, trivial⟩ ?_)
                exact ⟨⟨hX, ⟨by rw [recsB_succ (by omega)]; unfold recB; rw [hl1]; simpa only [List.append_assoc] using hO, hon, hrn, by omega, by have h9 := hO.len; have h8 : (recB (l.getD i default)).length = (txtL (l.getD i default).1).length + (lebU n1).length + (brsB (l.getD i default).2.1).length + (putB (l.getD i default).2.2).length := (by unfold recB; rw [hl1]; first | done | simp only [List.length_append]); simp only [List.length_append, List.length_cons] at h9; omega⟩⟩, by first | (dsimp only; omega) | ((show _ < _); omega)⟩
        · try simp only [decide_eq_true_eq, decide_eq_false_iff_not, Bool.not_eq_true, Bool.not_eq_false, Bool.not_eq_eq_eq_not, Bool.not_true, Bool.not_false, Int.not_lt, Int.not_le] at hb7_6
          refine h_skip 7 31 rfl (by first | exact .inl rfl | exact .inr rfl) rfl (by kernel_rfl) (by kernel_rfl) (by kernel_rfl) hSr7 ?_
          refine h_skip 8 31 rfl (by first | exact .inl rfl | exact .inr rfl) rfl (by kernel_rfl) (by kernel_rfl) (by kernel_rfl) hSr7 ?_
          refine h_skip 9 31 rfl (by first | exact .inl rfl | exact .inr rfl) rfl (by kernel_rfl) (by kernel_rfl) (by kernel_rfl) hSr7 ?_
          refine h_skip 10 31 rfl (by first | exact .inl rfl | exact .inr rfl) rfl (by kernel_rfl) (by kernel_rfl) (by kernel_rfl) hSr7 ?_
          refine h_skip 11 31 rfl (by first | exact .inl rfl | exact .inr rfl) rfl (by kernel_rfl) (by kernel_rfl) (by kernel_rfl) hSr7 ?_
          refine h_skip 12 31 rfl (by first | exact .inl rfl | exact .inr rfl) rfl (by kernel_rfl) (by kernel_rfl) (by kernel_rfl) hSr7 ?_
          refine h_skip 13 31 rfl (by first | exact .inl rfl | exact .inr rfl) rfl (by kernel_rfl) (by kernel_rfl) (by kernel_rfl) hSr7 ?_
          refine h_skip 14 31 rfl (by first | exact .inl rfl | exact .inr rfl) rfl (by kernel_rfl) (by kernel_rfl) (by kernel_rfl) hSr7 ?_
          refine h_skip 15 31 rfl (by first | exact .inl rfl | exact .inr rfl) rfl (by kernel_rfl) (by kernel_rfl) (by kernel_rfl) hSr7 ?_
          refine h_takeg 16 28 rfl rfl rfl (by kernel_rfl) (by kernel_rfl) (by kernel_rfl) hSr7 (fun wS hSS => by ( exact (x_pick_f rfl (by conv => lhs; whnf)))) ?_
          refine h_take 17 rfl (by kernel_rfl) (by kernel_rfl) (by kernel_rfl) hSr7 (fun wS hSS => by ( exact (x_pick_f rfl (by conv => lhs; whnf)))) ?_
          refine h_done (by kernel_rfl) ?_
          refine t_n ?_
          refine c_f rfl ?_
          have hord : i = 0 ∨ lssB (l.getD (i - 1) default).1 (l.getD i default).1 = true := by first | (left; omega) | (right; rw [← ez]; simpa using hc42)
          have hrn := riseR_next hrs (by omega) hord
          have hrg : rightP (l.getD i default) := hb7_3
          have hon := right_take_succ hro (by omega) hrg
          have hbl := recB_len hrg
          have hlt := txtL_len (name_size hrg.1)
          have hb64 := hrg.2.1.1
          have hlu := lebU_len10 (n := n1) (by omega)
          refine c_skip ?_
          refine t_n ?_
          refine c_seq ?_
          refine r_held (fun w1 w2 => Ext w1 w2) mixed ?_
          intro w39 hE39
          have hX := hX.ext hE39
          have hO := hO.ext hE39
          have hB6 := hB6.ext hE39
          have hSr9 : (fun w1 w2 => Ext w1 w2) w39 w39 := Ext.refl w39
          refine h_take 0 rfl (by kernel_rfl) (by kernel_rfl) (by kernel_rfl) hSr9 (fun wS hSS => by (have hX := hX.ext hSS; have hO := hO.ext hSS; have hB6 := hB6.ext hSS; exact (x_move (by conv => lhs; whnf)))) ?_
          refine h_take 1 rfl (by kernel_rfl) (by kernel_rfl) (by kernel_rfl) hSr9 (fun wS hSS => by (have hX := hX.ext hSS; have hO := hO.ext hSS; have hB6 := hB6.ext hSS; exact (x_fieldAddr fo33_0 sz9 rfl))) ?_
          refine h_take 2 rfl (by kernel_rfl) (by kernel_rfl) (by kernel_rfl) hSr9 (fun wS hSS => by (have hX := hX.ext hSS; have hO := hO.ext hSS; have hB6 := hB6.ext hSS; exact (x_load1 un9 rfl (hB6.cell (rfl))))) ?_
          refine h_take 4 rfl (by kernel_rfl) (by kernel_rfl) (by kernel_rfl) hSr9 (fun wS hSS => by (have hX := hX.ext hSS; have hO := hO.ext hSS; have hB6 := hB6.ext hSS; exact (x_fieldAddr fo33_1 sz30 rfl))) ?_
          refine h_take 5 rfl (by kernel_rfl) (by kernel_rfl) (by kernel_rfl) hSr9 (fun wS hSS => by (have hX := hX.ext hSS; have hO := hO.ext hSS; have hB6 := hB6.ext hSS; exact (x_load1 un30 rfl (hB6.cell (rfl))))) ?_
          refine h_take 6 rfl (by kernel_rfl) (by kernel_rfl) (by kernel_rfl) hSr9 (fun wS hSS => by (have hX := hX.ext hSS; have hO := hO.ext hSS; have hB6 := hB6.ext hSS; exact (x_len_slice u30 rfl))) ?_
          refine h_take 7 rfl (by kernel_rfl) (by kernel_rfl) (by kernel_rfl) hSr9 (fun wS hSS => by (have hX := hX.ext hSS; have hO := hO.ext hSS; have hB6 := hB6.ext hSS; exact (x_convf u95 us3 rfl (fits_u64 (by omega) (by omega))))) ?_
          refine h_one 3 _ rfl (by kernel_rfl) (hop_of_list (fun Q3 hQ3 => ?_))
          have hXs := hX.size
          refine o_call Try.func85 fn85 fb85 (leb_Text (l.getD i default).1 (by have := name_size hrg.1; omega) _) rfl ?_
          rintro v40 w40 ⟨⟨qT, lT, cT, rfl, hT⟩, hE40⟩
          have hX := hX.ext hE40
          have hO := hO.ext hE40
          have hB6 := hB6.ext hE40
          have hSr9 := hSr9.ext hE40
          have hlT := hT.len
          have hT : Own kByte 5 0 _ _ qT lT cT (txtL (l.getD i default).1) := hT
          have hlT : (txtL (l.getD i default).1).length = lT := hT.len
          refine hop_end hQ3 ⟨hSr9, ?_⟩
          refine h_one 8 _ rfl (by kernel_rfl) (hop_of_list (fun Q8 hQ8 => ?_))
          have hXs := hX.size
          refine o_call Try.func82 fn82 fb82 (leb_Uint n1 (by omega) _) rfl ?_
          rintro v41 w41 ⟨⟨qU, lU2, cU, rfl, hU⟩, hE41⟩
          have hX := hX.ext hE41
          have hO := hO.ext hE41
          have hB6 := hB6.ext hE41
          have hSr9 := hSr9.ext hE41
          have hT := hT.ext hE41
          have hlU2 := hU.len
          refine hop_end hQ8 ⟨hSr9, ?_⟩
          refine h_one 9 _ rfl (by kernel_rfl) (hop_of_list (fun Q9 hQ9 => ?_))
          refine o_buildSlice u141 inf22 rfl (by decide) (fun base hb => fill_kn [.slice q m c1, .slice qT lT cT, .slice qU lU2 cU] (by intro v hv'; simp only [List.mem_cons, List.not_mem_nil, or_false] at hv'; rcases hv' with rfl | rfl | rfl <;> rfl) base hb) ?_
          intro w42 g52 hN52
          have hE42 := hN52.ext
          have hX := hX.ext hE42
          have hO := hO.ext hE42
          have hB6 := hB6.ext hE42
          have hSr9 := hSr9.ext hE42
          have hT := hT.ext hE42
          have hU := hU.ext hE42
          have hI : Own (kSl kByte 5) 22 0 0 w42 (some ⟨g52, 0, none⟩) 3 3 [_, _, _] := Own.made (kSl kByte 5) 22 0 0 hN52 [_, _, _] [[.slice q m c1], [.slice qT lT cT], [.slice qU lU2 cU]] 3 3 rfl ⟨⟨_, _, _, rfl, hO.sl⟩, ⟨_, _, _, rfl, hT.sl⟩, ⟨_, _, _, rfl, hU.sl⟩, trivial⟩ (Nat.zero_le _) (by omega) (by omega) rfl rfl
          refine hop_end hQ9 ⟨hSr9, ?_⟩
          refine h_one 10 _ rfl (by kernel_rfl) (hop_of_list (fun Q10 hQ10 => ?_))
          have hXs := hX.size
          have hOl := hO.len
          simp only [List.length_append, List.length_cons] at hOl
          refine o_call Try.func84 fn84 fb84 (slices_Concat_byte _ _ _ _ _ hI.sl (by simp only [List.flatten_cons, List.flatten_nil, List.append_nil, List.length_append, List.length_cons]; omega)) rfl ?_
          rintro v43 w43 ⟨⟨q3, m3, c3, rfl, hO2⟩, hE43⟩
          have hX := hX.ext hE43
          have hO := hO.ext hE43
          have hB6 := hB6.ext hE43
          have hSr9 := hSr9.ext hE43
          have hT := hT.ext hE43
          have hU := hU.ext hE43
          have hI := hI.ext hE43
          have hO2 := hO2.lower hXs
          have hO2l := hO2.len
          simp only [List.flatten_cons, List.flatten_nil, List.append_nil, List.length_append, List.length_cons] at hO2 hO2l
          have hm3 : m3 ≤ m + 52 := by omega
          refine hop_end hQ10 ⟨hSr9, ?_⟩
          refine h_take 11 rfl (by kernel_rfl) (by kernel_rfl) (by kernel_rfl) hSr9 (fun wS hSS => by ( exact (x_assign (by conv => lhs; whnf)))) ?_
          refine h_done (by kernel_rfl) ?_
          refine t_n ?_
          refine c_seq ?_
          refine c_seq ?_
          refine r_plain ?_
          refine p1 (x_fieldAddr fo33_1 sz30 rfl) ?_
          refine p1 (x_load1 un30 rfl (hB6.cell (rfl))) ?_
          refine p1 (x_len_slice u30 rfl) ?_
          refine p1 (x_move (by conv => lhs; whnf)) ?_
          refine r_nil ?_
          refine t_n ?_
          refine c_block ?_
          have hokb := hrg.2.1
          have hcb := hS1.cap
          have hfb := hS1.fit
          refine c_loop (ι := Nat × Option Addr × Nat × Nat) [4, 8, 57, 58, 59, 60, 61, 62, 63, 64, 65, 66, 67, 68, 69, 70] (fun (k, q4, m4, c4) => [(4, .slice q4 m4 c4), (57, .int .i64 (k : Int))]) (fun (k, q4, m4, c4) w' => Ext w w' ∧ (Own kByte 5 0 w.heap.size w' q4 m4 c4 (1 :: lebU n ++ recsB (l.take i) ++ (txtL (l.getD i default).1 ++ lebU n1) ++ brsB ((l.getD i default).2.1.take k)) ∧ Blk w' g6 #[.string (l.getD i default).1, .slice pb1 n1 cc1, .slice pb2 n2 cc2] 33 ∧ k ≤ n1)) (fun (k, q4, m4, c4) => n1 - k) ((0, q3, m3, c3)) ⟨rfl, rfl, trivial⟩ ⟨hX, ⟨by simpa [brsB] using hO2, hB6, by omega⟩⟩ ?_
          rintro ⟨k, q4, m4, c4⟩ GL2 w44 ⟨hE44, hO, hB6, hk⟩
          have hX := hE44
          have hOl4 := hO.len
          have hbk := brsB_take_len hokb k
          simp only [List.length_append, List.length_cons] at hOl4
          refine c_seq ?_
          refine r_plain ?_
          refine p1 (x_lss rfl rfl) ?_
          refine r_nil ?_
          refine t_n ?_
          refine c_seq ?_
          first | refine c_dec rfl (fun hc58 => ?_) (fun hc58 => ?_) | refine c_if rfl (fun hc58 => ?_) (fun hc58 => ?_)
          · try simp only [decide_eq_true_eq, decide_eq_false_iff_not, Bool.not_eq_true, Bool.not_eq_false, Bool.not_eq_eq_eq_not, Bool.not_true, Bool.not_false, Int.not_lt, Int.not_le] at hc58
            refine c_skip ?_
            refine t_n ?_
            refine c_seq ?_
            refine c_block ?_
            refine c_seq ?_
            obtain ⟨q5, m5, c5x, hrow5, hc0_5, hc1_5, hS5⟩ := hS1.brAt k (by omega)
            have hmb2 := mem_getD (l := (l.getD i default).2.1) (k := k) (by omega)
            have hnb := (hokb.2.2 _ hmb2).1
            have hmb3 := mayB_len (hokb.2.2 _ hmb2).2
            have hl5 := hS5.len
            have hbb := brB_len hnb (hokb.2.2 _ hmb2).2
            refine r_plain ?_
            refine p1 (x_ixs u30 sz81 rfl rfl ((hS1.ext hX).adr kBrA_pos (by omega)) (by omega) (by omega)) ?_
            refine p1 (x_loadN ua81 rfl (by exact sz81) (hX.range hrow5)) ?_
            have hXs8 := hX.size
            have hB6lt := hB6.lt
            refine o_alloc zr81 ?_
            intro w45 g8 hN8
            have hE45 := hN8.ext
            have hX := hX.ext hE45
            have hO := hO.ext hE45
            have hB6 := hB6.ext hE45
            have hB8 := hN8.blk
            refine o_storeAll rfl (by conv => lhs; whnf) (by simp [Value.oneCell']) (by exact sz81) hB8 (by rfl) ?_
            intro w46 hP46
            have hX := hX.put hP46 (by rw [hN8.g_eq]; exact hXs8)
            have hO := hO.mod (hP46.mod 0 (Nat.zero_le _)) (Nat.zero_le _) (by decide)
            have hB6 := hB6.mod (hP46.mod 0 (Nat.zero_le _)) (by decide)
            have hB8 := hP46.blk
            refine r_nil ?_
            refine t_n ?_
            refine r_held (fun w1 w2 => Ext w1 w2) mixed ?_
            intro w47 hE47
            have hX := hX.ext hE47
            have hO := hO.ext hE47
            have hB6 := hB6.ext hE47
            have hB8 := hB8.ext hE47
            have hSr13 : (fun w1 w2 => Ext w1 w2) w47 w47 := Ext.refl w47
            refine h_take 0 rfl (by kernel_rfl) (by kernel_rfl) (by kernel_rfl) hSr13 (fun wS hSS => by (have hX := hX.ext hSS; have hO := hO.ext hSS; have hB6 := hB6.ext hSS; have hB8 := hB8.ext hSS; exact (x_move (by conv => lhs; whnf)))) ?_
            refine h_take 1 rfl (by kernel_rfl) (by kernel_rfl) (by kernel_rfl) hSr13 (fun wS hSS => by (have hX := hX.ext hSS; have hO := hO.ext hSS; have hB6 := hB6.ext hSS; have hB8 := hB8.ext hSS; exact (x_fieldAddr fo81_0 sz9 rfl))) ?_
            refine h_take 2 rfl (by kernel_rfl) (by kernel_rfl) (by kernel_rfl) hSr13 (fun wS hSS => by (have hX := hX.ext hSS; have hO := hO.ext hSS; have hB6 := hB6.ext hSS; have hB8 := hB8.ext hSS; exact (x_load1 un9 rfl (hB8.cell (rfl))))) ?_
            refine h_take 4 rfl (by kernel_rfl) (by kernel_rfl) (by kernel_rfl) hSr13 (fun wS hSS => by (have hX := hX.ext hSS; have hO := hO.ext hSS; have hB6 := hB6.ext hSS; have hB8 := hB8.ext hSS; exact (x_fieldAddr fo81_1 sz31 rfl))) ?_
            refine h_take 5 rfl (by kernel_rfl) (by kernel_rfl) (by kernel_rfl) hSr13 (fun wS hSS => by (have hX := hX.ext hSS; have hO := hO.ext hSS; have hB6 := hB6.ext hSS; have hB8 := hB8.ext hSS; exact (x_load1 un31 rfl (hB8.cell (rfl))))) ?_
            refine h_one 3 _ rfl (by kernel_rfl) (hop_of_list (fun Q3 hQ3 => ?_))
            refine o_call Try.func85 fn85 fb85 (leb_Text ((l.getD i default).2.1.getD k default).1 (by have := name_size hnb; omega) _) rfl ?_
            rintro v48 w48 ⟨⟨qT, lT, cT, rfl, hT⟩, hE48⟩
            have hX := hX.ext hE48
            have hO := hO.ext hE48
            have hB6 := hB6.ext hE48
            have hB8 := hB8.ext hE48
            have hSr13 := hSr13.ext hE48
            have hT : Own kByte 5 0 _ _ qT lT cT (txtL ((l.getD i default).2.1.getD k default).1) := hT
            have hlT : (txtL ((l.getD i default).2.1.getD k default).1).length = lT := hT.len
            have hlT2 := txtL_len (name_size hnb)
            refine hop_end hQ3 ⟨hSr13, ?_⟩
            refine h_one 6 _ rfl (by kernel_rfl) (hop_of_list (fun Q6 hQ6 => ?_))
            refine o_call Try.func45 fn45 fb45 (hashes_Put ((l.getD i default).2.1.getD k default).2 _ _ _ _ _ (hS5.ext hX) (by omega)) rfl ?_
            rintro v49 w49 ⟨⟨qU, lU2, cU, rfl, hU⟩, hE49⟩
            have hX := hX.ext hE49
            have hO := hO.ext hE49
            have hB6 := hB6.ext hE49
            have hB8 := hB8.ext hE49
            have hSr13 := hSr13.ext hE49
            have hT := hT.ext hE49
            rw [← hl5] at hU
            have hU : Own kByte 5 0 _ _ qU lU2 cU (putB ((l.getD i default).2.1.getD k default).2) := hU
            have hlU2 : (putB ((l.getD i default).2.1.getD k default).2).length = lU2 := hU.len
            have hlU3 := putB_len (hs := ((l.getD i default).2.1.getD k default).2) (by omega)
            refine hop_end hQ6 ⟨hSr13, ?_⟩
            refine h_one 7 _ rfl (by kernel_rfl) (hop_of_list (fun Q7 hQ7 => ?_))
            refine o_buildSlice u141 inf22 rfl (by decide) (fun base hb => fill_kn [.slice q4 m4 c4, .slice qT lT cT, .slice qU lU2 cU] (by intro v hv'; simp only [List.mem_cons, List.not_mem_nil, or_false] at hv'; rcases hv' with rfl | rfl | rfl <;> rfl) base hb) ?_
            intro w50 g68 hN68
            have hE50 := hN68.ext
            have hX := hX.ext hE50
            have hO := hO.ext hE50
            have hB6 := hB6.ext hE50
            have hB8 := hB8.ext hE50
            have hSr13 := hSr13.ext hE50
            have hT := hT.ext hE50
            have hU := hU.ext hE50
            have hI : Own (kSl kByte 5) 22 0 0 w50 (some ⟨g68, 0, none⟩) 3 3 [_, _, _] := Own.made (kSl kByte 5) 22 0 0 hN68 [_, _, _] [[.slice q4 m4 c4], [.slice qT lT cT], [.slice qU lU2 cU]] 3 3 rfl ⟨⟨_, _, _, rfl, hO.sl⟩, ⟨_, _, _, rfl, hT.sl⟩, ⟨_, _, _, rfl, hU.sl⟩, trivial⟩ (Nat.zero_le _) (by omega) (by omega) rfl rfl
            refine hop_end hQ7 ⟨hSr13, ?_⟩
            refine h_one 8 _ rfl (by kernel_rfl) (hop_of_list (fun Q8 hQ8 => ?_))
            have hXs := hX.size
            have hOl5 := hO.len
            refine o_call Try.func84 fn84 fb84 (slices_Concat_byte _ _ _ _ _ hI.sl (by simp only [List.flatten_cons, List.flatten_nil, List.append_nil, List.length_append, List.length_cons] at hOl5 ⊢; omega)) rfl ?_
            rintro v51 w51 ⟨⟨q6, m6, c6, rfl, hO2⟩, hE51⟩
            have hX := hX.ext hE51
            have hO := hO.ext hE51
            have hB6 := hB6.ext hE51
            have hB8 := hB8.ext hE51
            have hSr13 := hSr13.ext hE51
            have hT := hT.ext hE51
            have hU := hU.ext hE51
            have hI := hI.ext hE51
            have hO2 := hO2.lower hXs
            simp only [List.flatten_cons, List.flatten_nil, List.append_nil] at hO2
            refine hop_end hQ8 ⟨hSr13, ?_⟩
            refine h_take 9 rfl (by kernel_rfl) (by kernel_rfl) (by kernel_rfl) hSr13 (fun wS hSS => by ( exact (x_assign (by conv => lhs; whnf)))) ?_
            refine h_done (by kernel_rfl) ?_
            refine b_n ?_
            refine t_n ?_
            refine r_plain ?_
            refine p1 (x_add rfl rfl (fits_i64 (by omega) (by omega))) ?_
            refine p1 (x_move (by conv => lhs; whnf)) ?_
            refine r_nil ?_
            refine t_n (At.mk ((k + 1, q6, m6, c6)) (by repeat (first | exact Agr.refl _ _ | exact Agr.hav _ _ _ | refine Agr.upd rfl ?_ | refine Agr.updL ?_ _ rfl | refine Agr.hav' rfl ?_)) ⟨rfl, rfl, trivial⟩ ?_)
            exact ⟨⟨hX, ⟨by rw [brsB_succ (by omega)]; unfold brB; simpa only [List.append_assoc] using hO2, hB6, by omega⟩⟩, by first | (dsimp only; omega) | ((show _ < _); omega)⟩
          · try simp only [decide_eq_true_eq, decide_eq_false_iff_not, Bool.not_eq_true, Bool.not_eq_false, Bool.not_eq_eq_eq_not, Bool.not_true, Bool.not_false, Int.not_lt, Int.not_le] at hc58
            have hkn : k = n1 := by omega
            rw [hkn, show (l.getD i default).2.1.take n1 = (l.getD i default).2.1 from List.take_of_length_le (by omega)] at hO hOl4
            refine c_exit ?_
            refine t_e ?_
            refine t_e ?_
            refine b_hit ?_
            refine t_n ?_
            refine r_plain ?_
            refine p1 (x_move (by conv => lhs; whnf)) ?_
            refine p1 (x_fieldAddr fo33_2 sz31 rfl) ?_
            refine p1 (x_load1 un31 rfl (hB6.cell (rfl))) ?_
            refine o_call Try.func45 fn45 fb45 (hashes_Put (l.getD i default).2.2 _ _ _ _ _ (hS2.ext hX) (by have := hrg.2.2.1; omega)) rfl ?_
            rintro v52 w52 ⟨⟨qU, lU2, cU, rfl, hU⟩, hE52⟩
            have hX := hX.ext hE52
            have hO := hO.ext hE52
            have hB6 := hB6.ext hE52
            rw [← hl2] at hU
            have hU : Own kByte 5 0 _ _ qU lU2 cU (putB (l.getD i default).2.2) := hU
            have hlU2 : (putB (l.getD i default).2.2).length = lU2 := hU.len
            have hlU3 := putB_len (hs := (l.getD i default).2.2) (by have := hrg.2.2.1; omega)
            have h4096 := hrg.2.2.1
            obtain ⟨Bz, hBz⟩ : ∃ x, x = w52.heap.size := ⟨_, rfl⟩
            have hbk := brsB_take_len hokb n1
            rw [show (l.getD i default).2.1.take n1 = (l.getD i default).2.1 from List.take_of_length_le (by omega)] at hbk
            have hq1 := hX.size
            refine o_append (d := kByte) (putB (l.getD i default).2.2) u22 inf5 rfl kByte_pos rfl rfl hO (src_pure u22 hU.sl (by decide)) hU.len (byte_all _ _ _) (rfl) (by omega) (by omega) (by omega) (by omega) (by decide) ?_
            intro p75 c75 w53 hO hM53
            have hX := hX.mod hM53 (Nat.le_refl _)
            have hB6 := hB6.mod hM53 (by decide)
            refine p1 (x_assign (by conv => lhs; whnf)) ?_
            refine r_nil ?_
            refine b_n ?_
            refine t_n ?_
            refine r_plain ?_
            refine p1 (x_add rfl rfl (fits_i64 (by omega) (by omega))) ?_
            refine p1 (x_move (by conv => lhs; whnf)) ?_
            refine r_nil ?_
            refine t_n (At.mk ((i + 1, p75, m4 + lU2, c75)) (by repeat (first | exact Agr.refl _ _ | exact Agr.hav _ _ _ | refine Agr.upd rfl ?_ | refine Agr.updL ?_ _ rfl | refine Agr.hav' rfl ?_)) ⟨rfl, rfl, trivial⟩ ?_)
            exact ⟨⟨hX, ⟨by rw [recsB_succ (by omega)]; unfold recB; rw [hl1]; simpa only [List.append_assoc] using hO, hon, hrn, by omega, by have h9 := hO.len; have h8 : (recB (l.getD i default)).length = (txtL (l.getD i default).1).length + (lebU n1).length + (brsB (l.getD i default).2.1).length + (putB (l.getD i default).2.2).length := (by unfold recB; rw [hl1]; first | done | simp only [List.length_append]); simp only [List.length_append, List.length_cons] at h9; omega⟩⟩, by first | (dsimp only; omega) | ((show _ < _); omega)⟩
    · try simp only [decide_eq_true_eq, decide_eq_false_iff_not, Bool.not_eq_true, Bool.not_eq_false, Bool.not_eq_eq_eq_not, Bool.not_true, Bool.not_false, Int.not_lt, Int.not_le] at hc21
      have hin : i = n := by omega
      rw [hin, List.take_of_length_le (by omega)] at hO hro hrs
      have hok : ¬ (64 < l.length ∨ ¬ recsOk l) := fun h => h.elim (fun h => by omega) (fun h => h ⟨hro, hrs⟩)
      have hob : 1 :: lebU n ++ recsB l = outB l := by unfold outB; rw [hlen]
      rw [hob] at hO
      have hOl := hO.len
      refine c_exit ?_
      refine t_e ?_
      refine t_e ?_
      refine b_hit ?_
      refine t_n ?_
      refine c_seq ?_
      refine c_seq ?_
      refine r_plain ?_
      refine p1 (x_move (by conv => lhs; whnf)) ?_
      refine p1 (x_len_slice u22 rfl) ?_
      refine p1 (x_gtr rfl rfl) ?_
      refine r_nil ?_
      refine t_n ?_
      first | refine c_dec rfl (fun hc79 => ?_) (fun hc79 => ?_) | refine c_if rfl (fun hc79 => ?_) (fun hc79 => ?_)
      · try simp only [decide_eq_true_eq, decide_eq_false_iff_not, Bool.not_eq_true, Bool.not_eq_false, Bool.not_eq_eq_eq_not, Bool.not_true, Bool.not_false, Int.not_lt, Int.not_le] at hc79
        have hp : putI l = ([], 5) := by unfold putI; rw [if_neg hok, if_pos (by omega)]
        refine c_seq ?_
        refine r_plain ?_
        refine p1 (x_assign (by conv => lhs; whnf)) ?_
        refine p1 (x_assign (by conv => lhs; whnf)) ?_
        refine r_nil ?_
        refine t_n ?_
        refine c_ret ?_
        refine t_r ?_
        refine end2 rfl (by conv => lhs; whnf) (by conv => lhs; whnf) ?_
        first | exact ⟨⟨none, 0, 0, by rw [hp], (by rw [hp]; exact Own.nil _ _ _ _ _)⟩, hX⟩ | exact ⟨⟨_, _, _, by rw [hp], by rw [hp]; exact hO⟩, hX⟩
      · try simp only [decide_eq_true_eq, decide_eq_false_iff_not, Bool.not_eq_true, Bool.not_eq_false, Bool.not_eq_eq_eq_not, Bool.not_true, Bool.not_false, Int.not_lt, Int.not_le] at hc79
        have hp : putI l = (outB l, 0) := by unfold putI; rw [if_neg hok, if_neg (by omega)]
        refine c_skip ?_
        refine t_n ?_
        refine c_seq ?_
        refine r_plain ?_
        refine p1 (x_move (by conv => lhs; whnf)) ?_
        refine p1 (x_assign (by conv => lhs; whnf)) ?_
        refine p1 (x_assign (by conv => lhs; whnf)) ?_
        refine r_nil ?_
        refine t_n ?_
        refine c_ret ?_
        refine end2 rfl (by conv => lhs; whnf) (by conv => lhs; whnf) ?_
        first | exact ⟨⟨none, 0, 0, by rw [hp], (by rw [hp]; exact Own.nil _ _ _ _ _)⟩, hX⟩ | exact ⟨⟨_, _, _, by rw [hp], by rw [hp]; exact hO⟩, hX⟩
theorem index_Check (l : List Rec) (B : Nat) (p : Option Addr) (n c : Nat) (w : World) (hl : Sl kRecA 33 B w p n c l) (hkk : ∀ x ∈ l, x.1.size ≤ 9223372036854775807 ∧ ∀ y ∈ x.2.1, y.1.size ≤ 9223372036854775807) :
    Ret Try.prog 29 [.slice p n c] w (fun v w' => v = .int .i64 (putI l).2 ∧ Ext w w') := by
  have hX := Ext.refl w
  refine enter 11 _ Try.func29 rfl rfl (Nat.le_of_ble_eq_true rfl) ?_
  refine c_seq ?_
  refine r_plain ?_
  refine p1 (x_assign (by conv => lhs; whnf)) ?_
  refine r_nil ?_
  refine t_n ?_
  refine c_seq ?_
  refine r_plain ?_
  refine p1 (x_move (by conv => lhs; whnf)) ?_
  refine o_call Try.func27 fn27 fb27 (index_Put l _ _ _ _ _ (hl.ext hX) hkk) rfl ?_
  rintro v1 w1 ⟨⟨q1, m1, c1, rfl, hO⟩, hE1⟩
  have hX := hX.ext hE1
  refine p1 (x_move (by conv => lhs; whnf)) ?_
  refine p1 (x_extract rfl rfl) ?_
  refine p1 (x_extract rfl rfl) ?_
  refine p1 (x_assign (by conv => lhs; whnf)) ?_
  refine p1 (x_assign (by conv => lhs; whnf)) ?_
  refine r_nil ?_
  refine t_n ?_
  refine c_seq ?_
  refine r_plain ?_
  refine p1 (x_move (by conv => lhs; whnf)) ?_
  refine p1 (x_assign (by conv => lhs; whnf)) ?_
  refine r_nil ?_
  refine t_n ?_
  refine c_ret ?_
  refine end1 rfl (by conv => lhs; whnf) ?_
  exact ⟨rfl, hX⟩
end Go.Proofs.Eng
end
