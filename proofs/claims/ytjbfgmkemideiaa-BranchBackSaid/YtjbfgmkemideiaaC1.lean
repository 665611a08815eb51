import Derived.Test.YtjbfgmkemideiaaF2
import Derived.Test.YtjbfgmkemideiaaT2
import Derived.Test.YtjbfgmkemideiaaA4
import Derived.Test.YtjbfgmkemideiaaM1
set_option linter.unusedVariables false
set_option linter.unusedSimpArgs false
set_option maxRecDepth 100000
set_option maxHeartbeats 4000000
namespace Go.Proofs.Eng
open Go.RowKit
open Extern.Stop (cell)
theorem branch_New (w : World) :
    Ret Try.prog 62 [] w (fun v w' => (∃ g r, v = .pointer (some ⟨g, 0, none⟩) ∧ w.heap.size ≤ g ∧ Tbl nS w.heap.size w' g r []) ∧ Ext w w') := by
  have hX := Ext.refl w
  refine enter 4 _ Try.func62 rfl rfl (Nat.le_of_ble_eq_true rfl) ?_
  refine c_seq ?_
  refine r_plain ?_
  refine p1 (x_assign (by conv => lhs; whnf)) ?_
  refine r_nil ?_
  refine t_n ?_
  refine c_seq ?_
  refine r_plain ?_
  have hXs := hX.size
  refine o_makeMap0 (κ := ByteArray) (ν := List Hash) ?_
  intro w1 g1 hE1 hK1
  have hX := hX.ext hE1
  have hM := hK1 kkStr (vHs nS) 0 w.heap.size (hXs)
  refine p1 (x_build1 pl124 (by conv => lhs; whnf) rfl) ?_
  have hXs := hX.size
  refine o_boxA (by conv => lhs; whnf) ?_
  intro w2 g3 hN3
  have hE2 := hN3.ext
  have hX := hX.ext hE2
  have hM := hM.ext hE2
  have hB3 := hN3.blk
  refine p1 (x_assign (by conv => lhs; whnf)) ?_
  refine r_nil ?_
  refine t_n ?_
  refine c_ret ?_
  refine end1 rfl (by conv => lhs; whnf) ?_
  exact ⟨⟨g3, g1, rfl, by rw [hN3.g_eq]; exact hXs, ⟨hB3, hM.congr (fun k => rfl), .nil, by simp, by simp⟩⟩, hX⟩
theorem branch_there (S : Nat → Prop) (B0 g r : Nat) (l : List Br) (k : ByteArray) (w : World) (hT : Tbl S B0 w g r l) :
    Ret Try.prog 101 [.pointer (some ⟨g, 0, none⟩), .string k] w (fun v w' => v = .bool (decide (asc l k ≠ none)) ∧ Ext w w') := by
  have hTb := hT.blk
  have hX := Ext.refl w
  refine enter 17 _ Try.func101 rfl rfl (Nat.le_of_ble_eq_true rfl) ?_
  refine c_seq ?_
  refine r_plain ?_
  refine p1 (x_assign (by conv => lhs; whnf)) ?_
  refine r_nil ?_
  refine t_n ?_
  refine c_seq ?_
  refine r_plain ?_
  refine p1 (x_move (by conv => lhs; whnf)) ?_
  refine p1 (x_nilCheck rfl) ?_
  refine p1 (x_fieldAddr fo124_0 sz122 rfl) ?_
  refine p1 (x_load1 un122 rfl (hTb.cell (rfl))) ?_
  refine p1 (x_move (by conv => lhs; whnf)) ?_
  obtain ⟨v5, hv5, hL5⟩ := look u122 zr31 (keyOk_str u9) hT.map k
  refine p1 ((hL5 rfl rfl).2) ?_
  refine p1 (x_move (by conv => lhs; whnf)) ?_
  refine p1 (x_extract rfl rfl) ?_
  refine p1 (x_extract rfl rfl) ?_
  refine p1 (x_assign (by conv => lhs; whnf)) ?_
  refine p1 (x_assign (by conv => lhs; whnf)) ?_
  refine r_nil ?_
  refine t_n ?_
  refine c_seq ?_
  refine r_plain ?_
  refine p1 (x_move (by conv => lhs; whnf)) ?_
  refine p1 (x_assign (by conv => lhs; whnf)) ?_
  refine r_nil ?_
  refine t_n ?_
  refine c_ret ?_
  refine end1 rfl (by conv => lhs; whnf) ?_
  exact ⟨rfl, hX⟩
theorem branch_may (hs : List Hash) (B : Nat) (p : Option Addr) (n c : Nat) (w : World) (hl : Sl kHash 35 B w p n c hs) :
    Ret Try.prog 102 [.slice p n c] w (fun v w' => v = .bool (mayB hs) ∧ Ext w w') := by
  have hX := Ext.refl w
  refine enter 10 _ Try.func102 rfl rfl (Nat.le_of_ble_eq_true rfl) ?_
  refine c_seq ?_
  refine r_plain ?_
  refine p1 (x_assign (by conv => lhs; whnf)) ?_
  refine r_nil ?_
  refine t_n ?_
  refine c_seq ?_
  refine r_plain ?_
  refine p1 (x_move (by conv => lhs; whnf)) ?_
  refine p1 (x_len_slice u31 rfl) ?_
  refine p1 (x_leq rfl rfl) ?_
  refine p1b (x_move (by conv => lhs; whnf)) (fun hb1_3 => ?_) (fun hb1_3 => ?_)
  · try simp only [decide_eq_true_eq, decide_eq_false_iff_not, Bool.not_eq_true, Bool.not_eq_false, Bool.not_eq_eq_eq_not, Bool.not_true, Bool.not_false, Int.not_lt, Int.not_le] at hb1_3
    refine g1 6 rfl rfl (x_move (by conv => lhs; whnf)) ?_
    refine g_drop 6 rfl rfl ?_
    refine o_call Try.func38 fn38 fb38 (hashes_Rising hs _ _ _ _ _ (hl.ext hX)) rfl ?_
    rintro v1 w1 ⟨rfl, hE1⟩
    have hX := hX.ext hE1
    refine p1 (x_pick_t rfl (by conv => lhs; whnf)) ?_
    refine p1 (x_assign (by conv => lhs; whnf)) ?_
    refine r_nil ?_
    refine t_n ?_
    refine c_ret ?_
    refine end1 rfl (by conv => lhs; whnf) ?_
    have hlen := hl.len
    first | exact ⟨congrArg Value.bool (by unfold mayB; rw [decide_eq_true (by omega), Bool.true_and]), hX⟩ | exact ⟨congrArg Value.bool (by unfold mayB; rw [decide_eq_false (by omega), Bool.false_and]), hX⟩
  · try simp only [decide_eq_true_eq, decide_eq_false_iff_not, Bool.not_eq_true, Bool.not_eq_false, Bool.not_eq_eq_eq_not, Bool.not_true, Bool.not_false, Int.not_lt, Int.not_le] at hb1_3
    refine g0 6 rfl (by first | exact .inl rfl | exact .inr rfl) ?_
    refine g0 6 rfl (by first | exact .inl rfl | exact .inr rfl) ?_
    refine p1 (x_pick_f rfl (by conv => lhs; whnf)) ?_
    refine p1 (x_assign (by conv => lhs; whnf)) ?_
    refine r_nil ?_
    refine t_n ?_
    refine c_ret ?_
    refine end1 rfl (by conv => lhs; whnf) ?_
    have hlen := hl.len
    first | exact ⟨congrArg Value.bool (by unfold mayB; rw [decide_eq_true (by omega), Bool.true_and]), hX⟩ | exact ⟨congrArg Value.bool (by unfold mayB; rw [decide_eq_false (by omega), Bool.false_and]), hX⟩
theorem ref15_may (hs : List Hash) (B : Nat) (p : Option Addr) (n c : Nat) (w : World) (hl : Sl kHash 35 B w p n c hs) :
    Ret Try.prog 115 [.slice p n c] w (fun v w' => v = .bool (mayB hs) ∧ Ext w w') := by
  have hX := Ext.refl w
  refine enter 10 _ Try.func115 rfl rfl (Nat.le_of_ble_eq_true rfl) ?_
  refine c_seq ?_
  refine r_plain ?_
  refine p1 (x_assign (by conv => lhs; whnf)) ?_
  refine r_nil ?_
  refine t_n ?_
  refine c_seq ?_
  refine r_plain ?_
  refine p1 (x_move (by conv => lhs; whnf)) ?_
  refine p1 (x_len_slice u31 rfl) ?_
  refine p1 (x_leq rfl rfl) ?_
  refine p1b (x_move (by conv => lhs; whnf)) (fun hb1_3 => ?_) (fun hb1_3 => ?_)
  · try simp only [decide_eq_true_eq, decide_eq_false_iff_not, Bool.not_eq_true, Bool.not_eq_false, Bool.not_eq_eq_eq_not, Bool.not_true, Bool.not_false, Int.not_lt, Int.not_le] at hb1_3
    refine g1 6 rfl rfl (x_move (by conv => lhs; whnf)) ?_
    refine g_drop 6 rfl rfl ?_
    refine o_call Try.func39 fn39 fb39 (ref06_Rising hs _ _ _ _ _ (hl.ext hX)) rfl ?_
    rintro v1 w1 ⟨rfl, hE1⟩
    have hX := hX.ext hE1
    refine p1 (x_pick_t rfl (by conv => lhs; whnf)) ?_
    refine p1 (x_assign (by conv => lhs; whnf)) ?_
    refine r_nil ?_
    refine t_n ?_
    refine c_ret ?_
    refine end1 rfl (by conv => lhs; whnf) ?_
    have hlen := hl.len
    first | exact ⟨congrArg Value.bool (by unfold mayB; rw [decide_eq_true (by omega), Bool.true_and]), hX⟩ | exact ⟨congrArg Value.bool (by unfold mayB; rw [decide_eq_false (by omega), Bool.false_and]), hX⟩
  · try simp only [decide_eq_true_eq, decide_eq_false_iff_not, Bool.not_eq_true, Bool.not_eq_false, Bool.not_eq_eq_eq_not, Bool.not_true, Bool.not_false, Int.not_lt, Int.not_le] at hb1_3
    refine g0 6 rfl (by first | exact .inl rfl | exact .inr rfl) ?_
    refine g0 6 rfl (by first | exact .inl rfl | exact .inr rfl) ?_
    refine p1 (x_pick_f rfl (by conv => lhs; whnf)) ?_
    refine p1 (x_assign (by conv => lhs; whnf)) ?_
    refine r_nil ?_
    refine t_n ?_
    refine c_ret ?_
    refine end1 rfl (by conv => lhs; whnf) ?_
    have hlen := hl.len
    first | exact ⟨congrArg Value.bool (by unfold mayB; rw [decide_eq_true (by omega), Bool.true_and]), hX⟩ | exact ⟨congrArg Value.bool (by unfold mayB; rw [decide_eq_false (by omega), Bool.false_and]), hX⟩
theorem branch_Create (S : Nat → Prop) (B0 g r : Nat) (l : List Br) (k : ByteArray) (hs : List Hash) (B : Nat) (p : Option Addr) (n c : Nat) (w : World) (hT : Tbl S B0 w g r l) (ha : Sl kHash 35 B w p n c hs) (hk : k.size ≤ 9223372036854775807) :
    Ret Try.prog 50 [.pointer (some ⟨g, 0, none⟩), .string k, .slice p n c] w (fun v w' => v = .int .i64 (brCreate l k hs).2 ∧ Tbl (fun j => S j ∨ w.heap.size ≤ j) B0 w' g r (brCreate l k hs).1 ∧ Mod B0 tMap w w') := by
  have hTb := hT.blk
  have hX := Mod.refl B0 tMap w
  refine enter 36 _ Try.func50 rfl rfl (Nat.le_of_ble_eq_true rfl) ?_
  refine c_seq ?_
  refine r_plain ?_
  refine p1 (x_assign (by conv => lhs; whnf)) ?_
  refine r_nil ?_
  refine t_n ?_
  refine c_seq ?_
  refine c_block ?_
  refine c_seq ?_
  refine r_plain ?_
  refine p1 (x_move (by conv => lhs; whnf)) ?_
  refine p1 ((x_eql_ptrnil u59 rfl rfl).cast (congrArg Value.bool (decide_eq_false (by simp)))) ?_
  refine p1 (x_assign (by conv => lhs; whnf)) ?_
  refine r_nil ?_
  refine t_n ?_
  refine c_f rfl ?_
  refine c_seq ?_
  refine r_plain ?_
  refine p1 (x_move (by conv => lhs; whnf)) ?_
  refine o_call Try.func31 fn31 fb31 (hashes_Name k _ hk) rfl ?_
  rintro v1 w1 ⟨rfl, hE1⟩
  have hX := hX.ext hE1
  have ha := ha.ext hE1
  have hT := hT.ext hE1
  have hTb := hTb.ext hE1
  first | refine p1 (x_notd rfl) ?_ | refine p1 (x_not rfl) ?_
  refine p1 (x_assign (by conv => lhs; whnf)) ?_
  refine r_nil ?_
  refine t_n ?_
  first | refine c_dec rfl (fun hc10 => ?_) (fun hc10 => ?_) | refine c_if rfl (fun hc10 => ?_) (fun hc10 => ?_)
  · try simp only [decide_eq_true_eq, decide_eq_false_iff_not, Bool.not_eq_true, Bool.not_eq_false, Bool.not_eq_eq_eq_not, Bool.not_true, Bool.not_false, Int.not_lt, Int.not_le] at hc10
    have hp : brCreate l k hs = (l, 30) := by unfold brCreate; rw [if_pos hc10]
    refine c_seq ?_
    refine r_plain ?_
    refine p1 (x_assign (by conv => lhs; whnf)) ?_
    refine r_nil ?_
    refine t_n ?_
    refine c_ret ?_
    refine b_r ?_
    refine t_r ?_
    refine end1 rfl (by conv => lhs; whnf) ?_
    first | exact ⟨by rw [hp], by rw [hp]; exact hT.mono (fun j _ h => .inl h), hX⟩ | exact ⟨by rw [hp], by rw [hp]; exact ⟨hTb, hM.congr (asc_ins hr0 k (some hs)), hri, hli, hoi⟩, hX⟩
  · try simp only [decide_eq_true_eq, decide_eq_false_iff_not, Bool.not_eq_true, Bool.not_eq_false, Bool.not_eq_eq_eq_not, Bool.not_true, Bool.not_false, Int.not_lt, Int.not_le] at hc10
    refine c_seq ?_
    refine r_plain ?_
    refine p1 (x_move (by conv => lhs; whnf)) ?_
    refine o_call Try.func102 fn102 fb102 (branch_may hs _ _ _ _ _ ha) rfl ?_
    rintro v2 w2 ⟨rfl, hE2⟩
    have hX := hX.ext hE2
    have ha := ha.ext hE2
    have hT := hT.ext hE2
    have hTb := hTb.ext hE2
    first | refine p1 (x_notd rfl) ?_ | refine p1 (x_not rfl) ?_
    refine p1 (x_assign (by conv => lhs; whnf)) ?_
    refine r_nil ?_
    refine t_n ?_
    first | refine c_dec rfl (fun hc14 => ?_) (fun hc14 => ?_) | refine c_if rfl (fun hc14 => ?_) (fun hc14 => ?_)
    · try simp only [decide_eq_true_eq, decide_eq_false_iff_not, Bool.not_eq_true, Bool.not_eq_false, Bool.not_eq_eq_eq_not, Bool.not_true, Bool.not_false, Int.not_lt, Int.not_le] at hc14
      have hp : brCreate l k hs = (l, 41) := by unfold brCreate; rw [if_neg (by simp [hc10]), if_pos hc14]
      refine c_seq ?_
      refine r_plain ?_
      refine p1 (x_assign (by conv => lhs; whnf)) ?_
      refine r_nil ?_
      refine t_n ?_
      refine c_ret ?_
      refine b_r ?_
      refine t_r ?_
      refine end1 rfl (by conv => lhs; whnf) ?_
      first | exact ⟨by rw [hp], by rw [hp]; exact hT.mono (fun j _ h => .inl h), hX⟩ | exact ⟨by rw [hp], by rw [hp]; exact ⟨hTb, hM.congr (asc_ins hr0 k (some hs)), hri, hli, hoi⟩, hX⟩
    · try simp only [decide_eq_true_eq, decide_eq_false_iff_not, Bool.not_eq_true, Bool.not_eq_false, Bool.not_eq_eq_eq_not, Bool.not_true, Bool.not_false, Int.not_lt, Int.not_le] at hc14
      have hn : n ≤ 4194304000 := by have h16 := mayB_len hc14; have := ha.len; omega
      refine c_seq ?_
      refine r_plain ?_
      refine p1 (x_move (by conv => lhs; whnf)) ?_
      refine p1 (x_move (by conv => lhs; whnf)) ?_
      refine o_call Try.func101 fn101 fb101 (branch_there S B0 g r l k _ hT) rfl ?_
      rintro v3 w3 ⟨rfl, hE3⟩
      have hX := hX.ext hE3
      have ha := ha.ext hE3
      have hT := hT.ext hE3
      have hTb := hTb.ext hE3
      refine p1 (x_assign (by conv => lhs; whnf)) ?_
      refine r_nil ?_
      refine t_n ?_
      first | refine c_dec rfl (fun hc18 => ?_) (fun hc18 => ?_) | refine c_if rfl (fun hc18 => ?_) (fun hc18 => ?_)
      · try simp only [decide_eq_true_eq, decide_eq_false_iff_not, Bool.not_eq_true, Bool.not_eq_false, Bool.not_eq_eq_eq_not, Bool.not_true, Bool.not_false, Int.not_lt, Int.not_le] at hc18
        have hp : brCreate l k hs = (l, 23) := by unfold brCreate; rw [if_neg (by simp [hc10]), if_neg (by simp [hc14]), if_pos hc18]
        refine c_seq ?_
        refine r_plain ?_
        refine p1 (x_assign (by conv => lhs; whnf)) ?_
        refine r_nil ?_
        refine t_n ?_
        refine c_ret ?_
        refine b_r ?_
        refine t_r ?_
        refine end1 rfl (by conv => lhs; whnf) ?_
        first | exact ⟨by rw [hp], by rw [hp]; exact hT.mono (fun j _ h => .inl h), hX⟩ | exact ⟨by rw [hp], by rw [hp]; exact ⟨hTb, hM.congr (asc_ins hr0 k (some hs)), hri, hli, hoi⟩, hX⟩
      · try simp only [decide_eq_true_eq, decide_eq_false_iff_not, Bool.not_eq_true, Bool.not_eq_false, Bool.not_eq_eq_eq_not, Bool.not_true, Bool.not_false, Int.not_lt, Int.not_le] at hc18
        refine c_seq ?_
        refine r_plain ?_
        refine p1 (x_move (by conv => lhs; whnf)) ?_
        refine p1 (x_nilCheck rfl) ?_
        refine p1 (x_fieldAddr fo124_0 sz122 rfl) ?_
        refine p1 (x_load1 un122 rfl (hTb.cell (rfl))) ?_
        obtain ⟨ks, hks1, hks2, hksx⟩ := hT.map.count
        have hkl := count_len hT.rise hks1 hks2
        refine p1 (hksx u122 rfl) ?_
        refine p1 (x_geq rfl rfl) ?_
        refine p1 (x_assign (by conv => lhs; whnf)) ?_
        refine r_nil ?_
        refine t_n ?_
        first | refine c_dec rfl (fun hc22 => ?_) (fun hc22 => ?_) | refine c_if rfl (fun hc22 => ?_) (fun hc22 => ?_)
        · try simp only [decide_eq_true_eq, decide_eq_false_iff_not, Bool.not_eq_true, Bool.not_eq_false, Bool.not_eq_eq_eq_not, Bool.not_true, Bool.not_false, Int.not_lt, Int.not_le] at hc22
          have hp : brCreate l k hs = (l, 21) := by unfold brCreate; rw [if_neg (by simp [hc10]), if_neg (by simp [hc14]), if_neg hc18, if_pos (by omega)]
          refine c_seq ?_
          refine r_plain ?_
          refine p1 (x_assign (by conv => lhs; whnf)) ?_
          refine r_nil ?_
          refine t_n ?_
          refine c_ret ?_
          refine b_r ?_
          refine t_r ?_
          refine end1 rfl (by conv => lhs; whnf) ?_
          first | exact ⟨by rw [hp], by rw [hp]; exact hT.mono (fun j _ h => .inl h), hX⟩ | exact ⟨by rw [hp], by rw [hp]; exact ⟨hTb, hM.congr (asc_ins hr0 k (some hs)), hri, hli, hoi⟩, hX⟩
        · try simp only [decide_eq_true_eq, decide_eq_false_iff_not, Bool.not_eq_true, Bool.not_eq_false, Bool.not_eq_eq_eq_not, Bool.not_true, Bool.not_false, Int.not_lt, Int.not_le] at hc22
          have hp : brCreate l k hs = (ins l k (some hs), 0) := by unfold brCreate; rw [if_neg (by simp [hc10]), if_neg (by simp [hc14]), if_neg hc18, if_neg (by omega)]
          have hri := rise_ins hT.rise k (some hs)
          have hoi := ok_ins hT.ok hc10 hc14
          have hli : (ins l k (some hs)).length ≤ 64 := by have := ins_len_le l k (some hs); omega
          have hr0 := hT.rise
          refine c_skip ?_
          refine b_n ?_
          refine t_n ?_
          refine c_seq ?_
          refine r_held (fun w1 w2 => Mod B0 tMap w1 w2) mixed ?_
          intro w4 hE4
          have hX := hX.ext hE4
          have ha := ha.ext hE4
          have hT := hT.ext hE4
          have hTb := hTb.ext hE4
          have hSr11 : (fun w1 w2 => Mod B0 tMap w1 w2) w4 w4 := Mod.refl _ _ _
          refine h_take 0 rfl (by kernel_rfl) (by kernel_rfl) (by kernel_rfl) hSr11 (fun wS hSS => by ( exact (x_move (by conv => lhs; whnf)))) ?_
          refine h_take 1 rfl (by kernel_rfl) (by kernel_rfl) (by kernel_rfl) hSr11 (fun wS hSS => by ( exact (x_nilCheck rfl))) ?_
          refine h_take 2 rfl (by kernel_rfl) (by kernel_rfl) (by kernel_rfl) hSr11 (fun wS hSS => by ( exact (x_fieldAddr fo124_0 sz122 rfl))) ?_
          refine h_take 3 rfl (by kernel_rfl) (by kernel_rfl) (by kernel_rfl) hSr11 (fun wS hSS => by (have hTb := hTb.mod hSS (by decide); exact (x_load1 un122 rfl (hTb.cell (rfl))))) ?_
          refine h_take 4 rfl (by kernel_rfl) (by kernel_rfl) (by kernel_rfl) hSr11 (fun wS hSS => by ( exact (x_move (by conv => lhs; whnf)))) ?_
          refine h_take 5 rfl (by kernel_rfl) (by kernel_rfl) (by kernel_rfl) hSr11 (fun wS hSS => by ( exact (x_move (by conv => lhs; whnf)))) ?_
          refine h_one 6 _ rfl (by kernel_rfl) (hop_of_list (fun Q6 hQ6 => ?_))
          have hXs := hX.size
          refine o_call Try.func89 fn89 fb89 (slices_Clone_hash hs _ _ _ _ _ ha hn) rfl ?_
          rintro v5 w5 ⟨⟨q6, c6, rfl, hO⟩, hE5⟩
          have hX := hX.ext hE5
          have ha := ha.ext hE5
          have hT := hT.ext hE5
          have hTb := hTb.ext hE5
          have hSr11 := hSr11.ext hE5
          have hV : SlS hcs 35 (fun j => S j ∨ w.heap.size ≤ j) _ q6 n c6 hs := (SlS.ofHash hO).mono (fun j _ h => .inr (Nat.le_trans hXs h))
          have hM := hT.map.brMono (S' := (fun j => S j ∨ w.heap.size ≤ j)) (fun j _ h => .inl h)
          refine hop_end hQ6 ⟨hSr11, ?_⟩
          refine h_one 7 _ rfl (by kernel_rfl) (hop_of_list (fun Q7 hQ7 => ?_))
          refine o_update (a := k) (b := hs) u122 (keyOk_str u9) rfl rfl (by conv => lhs; whnf) hM (⟨_, n, _, rfl, hV⟩) (Nat.zero_le _) (by simp [vHs, tMap]) ?_
          intro w6 hM hM6
          have hX := hX.mod hM6 (trivial)
          have hTb := hTb.mod hM6 (by decide)
          have hSr11 := hSr11.mod hM6 (by first | exact Nat.le_refl _ | exact trivial | omega)
          refine hop_end hQ7 ⟨hSr11, ?_⟩
          refine h_done (by kernel_rfl) ?_
          refine t_n ?_
          refine c_seq ?_
          refine r_plain ?_
          refine p1 (x_assign (by conv => lhs; whnf)) ?_
          refine r_nil ?_
          refine t_n ?_
          refine c_ret ?_
          refine end1 rfl (by conv => lhs; whnf) ?_
          first | exact ⟨by rw [hp], by rw [hp]; exact hT.mono (fun j _ h => .inl h), hX⟩ | exact ⟨by rw [hp], by rw [hp]; exact ⟨hTb, hM.congr (asc_ins hr0 k (some hs)), hri, hli, hoi⟩, hX⟩
theorem branch_Move (S : Nat → Prop) (B0 g r : Nat) (l : List Br) (k : ByteArray) (hs : List Hash) (B : Nat) (p : Option Addr) (n c : Nat) (w : World) (hT : Tbl S B0 w g r l) (ha : Sl kHash 35 B w p n c hs) (hk : k.size ≤ 9223372036854775807) :
    Ret Try.prog 51 [.pointer (some ⟨g, 0, none⟩), .string k, .slice p n c] w (fun v w' => v = .int .i64 (brMove l k hs).2 ∧ Tbl (fun j => S j ∨ w.heap.size ≤ j) B0 w' g r (brMove l k hs).1 ∧ Mod B0 tMap w w') := by
  have hTb := hT.blk
  have hX := Mod.refl B0 tMap w
  refine enter 26 _ Try.func51 rfl rfl (Nat.le_of_ble_eq_true rfl) ?_
  refine c_seq ?_
  refine r_plain ?_
  refine p1 (x_assign (by conv => lhs; whnf)) ?_
  refine r_nil ?_
  refine t_n ?_
  refine c_seq ?_
  refine c_block ?_
  refine c_seq ?_
  refine r_plain ?_
  refine p1 (x_move (by conv => lhs; whnf)) ?_
  refine p1 ((x_eql_ptrnil u59 rfl rfl).cast (congrArg Value.bool (decide_eq_false (by simp)))) ?_
  refine p1 (x_assign (by conv => lhs; whnf)) ?_
  refine r_nil ?_
  refine t_n ?_
  refine c_f rfl ?_
  refine c_seq ?_
  refine r_plain ?_
  refine p1 (x_move (by conv => lhs; whnf)) ?_
  refine p1 (x_move (by conv => lhs; whnf)) ?_
  refine o_call Try.func101 fn101 fb101 (branch_there S B0 g r l k _ hT) rfl ?_
  rintro v1 w1 ⟨rfl, hE1⟩
  have hX := hX.ext hE1
  have ha := ha.ext hE1
  have hT := hT.ext hE1
  have hTb := hTb.ext hE1
  first | refine p1 (x_notd rfl) ?_ | refine p1 (x_not rfl) ?_
  refine p1 (x_assign (by conv => lhs; whnf)) ?_
  refine r_nil ?_
  refine t_n ?_
  first | refine c_dec rfl (fun hc10 => ?_) (fun hc10 => ?_) | refine c_if rfl (fun hc10 => ?_) (fun hc10 => ?_)
  · try simp only [decide_eq_true_eq, decide_eq_false_iff_not, Bool.not_eq_true, Bool.not_eq_false, Bool.not_eq_eq_eq_not, Bool.not_true, Bool.not_false, Int.not_lt, Int.not_le] at hc10
    have hn0 : asc l k = none := by simpa using hc10
    have hp : brMove l k hs = (l, 45) := by unfold brMove; rw [if_pos hn0]
    refine c_seq ?_
    refine r_plain ?_
    refine p1 (x_assign (by conv => lhs; whnf)) ?_
    refine r_nil ?_
    refine t_n ?_
    refine c_ret ?_
    refine b_r ?_
    refine t_r ?_
    refine end1 rfl (by conv => lhs; whnf) ?_
    first | exact ⟨by rw [hp], by rw [hp]; exact hT.mono (fun j _ h => .inl h), hX⟩ | exact ⟨by rw [hp], by rw [hp]; exact ⟨hTb, hM.congr (asc_ins hr0 k (some hs)), hri, hli, hoi⟩, hX⟩
  · try simp only [decide_eq_true_eq, decide_eq_false_iff_not, Bool.not_eq_true, Bool.not_eq_false, Bool.not_eq_eq_eq_not, Bool.not_true, Bool.not_false, Int.not_lt, Int.not_le] at hc10
    have hn0 : asc l k ≠ none := by simpa using hc10
    refine c_seq ?_
    refine r_plain ?_
    refine p1 (x_move (by conv => lhs; whnf)) ?_
    refine o_call Try.func102 fn102 fb102 (branch_may hs _ _ _ _ _ ha) rfl ?_
    rintro v2 w2 ⟨rfl, hE2⟩
    have hX := hX.ext hE2
    have ha := ha.ext hE2
    have hT := hT.ext hE2
    have hTb := hTb.ext hE2
    first | refine p1 (x_notd rfl) ?_ | refine p1 (x_not rfl) ?_
    refine p1 (x_assign (by conv => lhs; whnf)) ?_
    refine r_nil ?_
    refine t_n ?_
    first | refine c_dec rfl (fun hc15 => ?_) (fun hc15 => ?_) | refine c_if rfl (fun hc15 => ?_) (fun hc15 => ?_)
    · try simp only [decide_eq_true_eq, decide_eq_false_iff_not, Bool.not_eq_true, Bool.not_eq_false, Bool.not_eq_eq_eq_not, Bool.not_true, Bool.not_false, Int.not_lt, Int.not_le] at hc15
      have hp : brMove l k hs = (l, 41) := by unfold brMove; rw [if_neg hn0, if_pos hc15]
      refine c_seq ?_
      refine r_plain ?_
      refine p1 (x_assign (by conv => lhs; whnf)) ?_
      refine r_nil ?_
      refine t_n ?_
      refine c_ret ?_
      refine b_r ?_
      refine t_r ?_
      refine end1 rfl (by conv => lhs; whnf) ?_
      first | exact ⟨by rw [hp], by rw [hp]; exact hT.mono (fun j _ h => .inl h), hX⟩ | exact ⟨by rw [hp], by rw [hp]; exact ⟨hTb, hM.congr (asc_ins hr0 k (some hs)), hri, hli, hoi⟩, hX⟩
    · try simp only [decide_eq_true_eq, decide_eq_false_iff_not, Bool.not_eq_true, Bool.not_eq_false, Bool.not_eq_eq_eq_not, Bool.not_true, Bool.not_false, Int.not_lt, Int.not_le] at hc15
      have hn : n ≤ 4194304000 := by have h16 := mayB_len hc15; have := ha.len; omega
      have hp : brMove l k hs = (ins l k (some hs), 0) := by unfold brMove; rw [if_neg hn0, if_neg (by simp [hc15])]
      have hri := rise_ins hT.rise k (some hs)
      obtain ⟨h0, hh0⟩ : ∃ h0, asc l k = some h0 := Option.ne_none_iff_exists'.1 hn0
      have hoi := ok_ins hT.ok (isName_asc hT.ok hh0).1 hc15
      have hli : (ins l k (some hs)).length ≤ 64 := by have := ins_len_is hT.rise hn0 (some hs); have := hT.few; omega
      have hr0 := hT.rise
      refine c_skip ?_
      refine b_n ?_
      refine t_n ?_
      refine c_seq ?_
      refine r_held (fun w1 w2 => Mod B0 tMap w1 w2) mixed ?_
      intro w3 hE3
      have hX := hX.ext hE3
      have ha := ha.ext hE3
      have hT := hT.ext hE3
      have hTb := hTb.ext hE3
      have hSr7 : (fun w1 w2 => Mod B0 tMap w1 w2) w3 w3 := Mod.refl _ _ _
      refine h_take 0 rfl (by kernel_rfl) (by kernel_rfl) (by kernel_rfl) hSr7 (fun wS hSS => by ( exact (x_move (by conv => lhs; whnf)))) ?_
      refine h_take 1 rfl (by kernel_rfl) (by kernel_rfl) (by kernel_rfl) hSr7 (fun wS hSS => by ( exact (x_nilCheck rfl))) ?_
      refine h_take 2 rfl (by kernel_rfl) (by kernel_rfl) (by kernel_rfl) hSr7 (fun wS hSS => by ( exact (x_fieldAddr fo124_0 sz122 rfl))) ?_
      refine h_take 3 rfl (by kernel_rfl) (by kernel_rfl) (by kernel_rfl) hSr7 (fun wS hSS => by (have hTb := hTb.mod hSS (by decide); exact (x_load1 un122 rfl (hTb.cell (rfl))))) ?_
      refine h_take 4 rfl (by kernel_rfl) (by kernel_rfl) (by kernel_rfl) hSr7 (fun wS hSS => by ( exact (x_move (by conv => lhs; whnf)))) ?_
      refine h_take 5 rfl (by kernel_rfl) (by kernel_rfl) (by kernel_rfl) hSr7 (fun wS hSS => by ( exact (x_move (by conv => lhs; whnf)))) ?_
      refine h_one 6 _ rfl (by kernel_rfl) (hop_of_list (fun Q6 hQ6 => ?_))
      have hXs := hX.size
      refine o_call Try.func89 fn89 fb89 (slices_Clone_hash hs _ _ _ _ _ ha hn) rfl ?_
      rintro v4 w4 ⟨⟨q6, c6, rfl, hO⟩, hE4⟩
      have hX := hX.ext hE4
      have ha := ha.ext hE4
      have hT := hT.ext hE4
      have hTb := hTb.ext hE4
      have hSr7 := hSr7.ext hE4
      have hV : SlS hcs 35 (fun j => S j ∨ w.heap.size ≤ j) _ q6 n c6 hs := (SlS.ofHash hO).mono (fun j _ h => .inr (Nat.le_trans hXs h))
      have hM := hT.map.brMono (S' := (fun j => S j ∨ w.heap.size ≤ j)) (fun j _ h => .inl h)
      refine hop_end hQ6 ⟨hSr7, ?_⟩
      refine h_one 7 _ rfl (by kernel_rfl) (hop_of_list (fun Q7 hQ7 => ?_))
      refine o_update (a := k) (b := hs) u122 (keyOk_str u9) rfl rfl (by conv => lhs; whnf) hM (⟨_, n, _, rfl, hV⟩) (Nat.zero_le _) (by simp [vHs, tMap]) ?_
      intro w5 hM hM5
      have hX := hX.mod hM5 (trivial)
      have hTb := hTb.mod hM5 (by decide)
      have hSr7 := hSr7.mod hM5 (by first | exact Nat.le_refl _ | exact trivial | omega)
      refine hop_end hQ7 ⟨hSr7, ?_⟩
      refine h_done (by kernel_rfl) ?_
      refine t_n ?_
      refine c_seq ?_
      refine r_plain ?_
      refine p1 (x_assign (by conv => lhs; whnf)) ?_
      refine r_nil ?_
      refine t_n ?_
      refine c_ret ?_
      refine end1 rfl (by conv => lhs; whnf) ?_
      first | exact ⟨by rw [hp], by rw [hp]; exact hT.mono (fun j _ h => .inl h), hX⟩ | exact ⟨by rw [hp], by rw [hp]; exact ⟨hTb, hM.congr (asc_ins hr0 k (some hs)), hri, hli, hoi⟩, hX⟩
theorem branch_Delete (S : Nat → Prop) (B0 g r : Nat) (l : List Br) (k : ByteArray) (w : World) (hT : Tbl S B0 w g r l) :
    Ret Try.prog 52 [.pointer (some ⟨g, 0, none⟩), .string k] w (fun v w' => v = .int .i64 (brDelete l k).2 ∧ Tbl S B0 w' g r (brDelete l k).1 ∧ Mod B0 tMap w w') := by
  have hTb := hT.blk
  have hX := Mod.refl B0 tMap w
  refine enter 18 _ Try.func52 rfl rfl (Nat.le_of_ble_eq_true rfl) ?_
  refine c_seq ?_
  refine r_plain ?_
  refine p1 (x_assign (by conv => lhs; whnf)) ?_
  refine r_nil ?_
  refine t_n ?_
  refine c_seq ?_
  refine c_block ?_
  refine c_seq ?_
  refine r_plain ?_
  refine p1 (x_move (by conv => lhs; whnf)) ?_
  refine p1 ((x_eql_ptrnil u59 rfl rfl).cast (congrArg Value.bool (decide_eq_false (by simp)))) ?_
  refine p1 (x_assign (by conv => lhs; whnf)) ?_
  refine r_nil ?_
  refine t_n ?_
  refine c_f rfl ?_
  refine c_seq ?_
  refine r_plain ?_
  refine p1 (x_move (by conv => lhs; whnf)) ?_
  refine p1 (x_move (by conv => lhs; whnf)) ?_
  refine o_call Try.func101 fn101 fb101 (branch_there S B0 g r l k _ hT) rfl ?_
  rintro v1 w1 ⟨rfl, hE1⟩
  have hX := hX.ext hE1
  have hT := hT.ext hE1
  have hTb := hTb.ext hE1
  first | refine p1 (x_notd rfl) ?_ | refine p1 (x_not rfl) ?_
  refine p1 (x_assign (by conv => lhs; whnf)) ?_
  refine r_nil ?_
  refine t_n ?_
  first | refine c_dec rfl (fun hc8 => ?_) (fun hc8 => ?_) | refine c_if rfl (fun hc8 => ?_) (fun hc8 => ?_)
  · try simp only [decide_eq_true_eq, decide_eq_false_iff_not, Bool.not_eq_true, Bool.not_eq_false, Bool.not_eq_eq_eq_not, Bool.not_true, Bool.not_false, Int.not_lt, Int.not_le] at hc8
    have hn0 : asc l k = none := by simpa using hc8
    have hp : brDelete l k = (l, 45) := by unfold brDelete; rw [if_pos hn0]
    refine c_seq ?_
    refine r_plain ?_
    refine p1 (x_assign (by conv => lhs; whnf)) ?_
    refine r_nil ?_
    refine t_n ?_
    refine c_ret ?_
    refine b_r ?_
    refine t_r ?_
    refine end1 rfl (by conv => lhs; whnf) ?_
    first | exact ⟨by rw [hp], by rw [hp]; exact hT, hX⟩ | exact ⟨by rw [hp], by rw [hp]; exact ⟨hTb, hM.congr (asc_ins hr0 k none), hri, hli, hoi⟩, hX⟩
  · try simp only [decide_eq_true_eq, decide_eq_false_iff_not, Bool.not_eq_true, Bool.not_eq_false, Bool.not_eq_eq_eq_not, Bool.not_true, Bool.not_false, Int.not_lt, Int.not_le] at hc8
    have hn0 : asc l k ≠ none := by simpa using hc8
    have hp : brDelete l k = (ins l k none, 0) := by unfold brDelete; rw [if_neg hn0]
    have hri := rise_ins hT.rise k none
    have hoi := ok_del hT.ok k
    have hli : (ins l k none).length ≤ 64 := by have := ins_len_is hT.rise hn0 none; have := hT.few; omega
    have hr0 := hT.rise
    have hM := hT.map
    refine c_skip ?_
    refine b_n ?_
    refine t_n ?_
    refine c_seq ?_
    refine r_plain ?_
    refine p1 (x_move (by conv => lhs; whnf)) ?_
    refine p1 (x_nilCheck rfl) ?_
    refine p1 (x_fieldAddr fo124_0 sz122 rfl) ?_
    refine p1 (x_load1 un122 rfl (hTb.cell (rfl))) ?_
    refine p1 (x_move (by conv => lhs; whnf)) ?_
    have hM := hT.map
    refine o_delete (a := k) u122 (keyOk_str u9) rfl rfl hM (Nat.zero_le _) (by simp [vHs, tMap]) ?_
    intro w2 hM hM2
    have hX := hX.mod hM2 (trivial)
    have hTb := hTb.mod hM2 (by decide)
    refine r_nil ?_
    refine t_n ?_
    refine c_seq ?_
    refine r_plain ?_
    refine p1 (x_assign (by conv => lhs; whnf)) ?_
    refine r_nil ?_
    refine t_n ?_
    refine c_ret ?_
    refine end1 rfl (by conv => lhs; whnf) ?_
    first | exact ⟨by rw [hp], by rw [hp]; exact hT, hX⟩ | exact ⟨by rw [hp], by rw [hp]; exact ⟨hTb, hM.congr (asc_ins hr0 k none), hri, hli, hoi⟩, hX⟩
theorem branch_Heads (S : Nat → Prop) (B0 g r : Nat) (l : List Br) (k : ByteArray) (w : World) (hT : Tbl S B0 w g r l) :
    Ret Try.prog 49 [.pointer (some ⟨g, 0, none⟩), .string k] w (fun v w' => (∃ q m c', v = .tuple #[.slice q m c', .int .i64 (brHeads l k).2] ∧ Own kHash 35 0 w.heap.size w' q m c' (brHeads l k).1) ∧ Ext w w') := by
  have hTb := hT.blk
  have hX := Ext.refl w
  refine enter 21 _ Try.func49 rfl rfl (Nat.le_of_ble_eq_true rfl) ?_
  refine c_seq ?_
  refine r_plain ?_
  refine p1 (x_assign (by conv => lhs; whnf)) ?_
  refine p1 (x_assign (by conv => lhs; whnf)) ?_
  refine r_nil ?_
  refine t_n ?_
  refine c_seq ?_
  refine c_block ?_
  refine c_seq ?_
  refine r_plain ?_
  refine p1 (x_move (by conv => lhs; whnf)) ?_
  refine p1 ((x_eql_ptrnil u59 rfl rfl).cast (congrArg Value.bool (decide_eq_false (by simp)))) ?_
  refine p1 (x_assign (by conv => lhs; whnf)) ?_
  refine r_nil ?_
  refine t_n ?_
  refine c_f rfl ?_
  refine c_seq ?_
  refine r_plain ?_
  refine p1 (x_move (by conv => lhs; whnf)) ?_
  refine p1 (x_move (by conv => lhs; whnf)) ?_
  refine o_call Try.func101 fn101 fb101 (branch_there S B0 g r l k _ hT) rfl ?_
  rintro v1 w1 ⟨rfl, hE1⟩
  have hX := hX.ext hE1
  have hT := hT.ext hE1
  have hTb := hTb.ext hE1
  first | refine p1 (x_notd rfl) ?_ | refine p1 (x_not rfl) ?_
  refine p1 (x_assign (by conv => lhs; whnf)) ?_
  refine r_nil ?_
  refine t_n ?_
  first | refine c_dec rfl (fun hc9 => ?_) (fun hc9 => ?_) | refine c_if rfl (fun hc9 => ?_) (fun hc9 => ?_)
  · try simp only [decide_eq_true_eq, decide_eq_false_iff_not, Bool.not_eq_true, Bool.not_eq_false, Bool.not_eq_eq_eq_not, Bool.not_true, Bool.not_false, Int.not_lt, Int.not_le] at hc9
    have hn0 : asc l k = none := by simpa using hc9
    have hp : brHeads l k = ([], 45) := by unfold brHeads; rw [hn0]
    refine c_seq ?_
    refine r_plain ?_
    refine p1 (x_assign (by conv => lhs; whnf)) ?_
    refine p1 (x_assign (by conv => lhs; whnf)) ?_
    refine r_nil ?_
    refine t_n ?_
    refine c_ret ?_
    refine b_r ?_
    refine t_r ?_
    refine end2 rfl (by conv => lhs; whnf) (by conv => lhs; whnf) ?_
    first | exact ⟨⟨none, 0, 0, by rw [hp], by rw [hp]; exact Own.nil _ _ _ _ _⟩, hX⟩ | exact ⟨⟨_, _, _, by rw [hp], by rw [hp]; exact hO⟩, hX⟩
  · try simp only [decide_eq_true_eq, decide_eq_false_iff_not, Bool.not_eq_true, Bool.not_eq_false, Bool.not_eq_eq_eq_not, Bool.not_true, Bool.not_false, Int.not_lt, Int.not_le] at hc9
    have hn0 : asc l k ≠ none := by simpa using hc9
    obtain ⟨h0, hh0⟩ : ∃ h0, asc l k = some h0 := Option.ne_none_iff_exists'.1 hn0
    have hp : brHeads l k = (h0, 0) := by unfold brHeads; rw [hh0]
    have hm16 := mayB_len (isName_asc hT.ok hh0).2
    refine c_skip ?_
    refine b_n ?_
    refine t_n ?_
    refine c_seq ?_
    refine r_plain ?_
    refine p1 (x_move (by conv => lhs; whnf)) ?_
    refine p1 (x_nilCheck rfl) ?_
    refine p1 (x_fieldAddr fo124_0 sz122 rfl) ?_
    refine p1 (x_load1 un122 rfl (hTb.cell (rfl))) ?_
    refine p1 (x_move (by conv => lhs; whnf)) ?_
    obtain ⟨v5, hv5, hL5⟩ := look u122 zr31 (keyOk_str u9) hT.map k
    rw [hh0] at hv5
    obtain ⟨p5, n5, c5, rfl, hS5⟩ := hv5
    have hl5 := hS5.len
    have hXs := hX.size
    refine p1 ((hL5 rfl rfl).1) ?_
    refine o_call Try.func89 fn89 fb89 (slices_Clone_hash h0 _ _ _ _ _ (hS5.hash 0) (by omega)) rfl ?_
    rintro v2 w2 ⟨⟨q6, c6, rfl, hO⟩, hE2⟩
    have hX := hX.ext hE2
    have hT := hT.ext hE2
    have hTb := hTb.ext hE2
    have hO := hO.lower hXs
    refine p1 (x_assign (by conv => lhs; whnf)) ?_
    refine p1 (x_assign (by conv => lhs; whnf)) ?_
    refine r_nil ?_
    refine t_n ?_
    refine c_ret ?_
    refine end2 rfl (by conv => lhs; whnf) (by conv => lhs; whnf) ?_
    first | exact ⟨⟨none, 0, 0, by rw [hp], by rw [hp]; exact Own.nil _ _ _ _ _⟩, hX⟩ | exact ⟨⟨_, _, _, by rw [hp], by rw [hp]; exact hO⟩, hX⟩
end Go.Proofs.Eng
