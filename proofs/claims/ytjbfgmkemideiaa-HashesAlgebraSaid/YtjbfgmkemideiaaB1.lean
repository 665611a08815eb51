import Derived.Test.YtjbfgmkemideiaaM1
import Derived.Test.YtjbfgmkemideiaaT1
import Derived.Test.YtjbfgmkemideiaaA4
set_option linter.unusedVariables false
set_option linter.unusedSimpArgs false
set_option maxRecDepth 100000
set_option maxHeartbeats 4000000
namespace Go.Proofs.Eng
open Go.RowKit
open Extern.Stop (cell)
theorem slices_Concat_hash_grow (m : Nat) (w : World) (hs : m ≤ 4194304000) :
    Ret Try.prog 126 [.slice none 0 0, .int .i64 (m : Int)] w (fun v w' => (∃ p c', v = .slice p 0 c' ∧ Own kHash 35 0 w.heap.size w' p 0 c' []) ∧ Ext w w') := by
  have hX := Ext.refl w
  refine enter 27 _ Try.func126 rfl rfl (Nat.le_of_ble_eq_true rfl) ?_
  refine c_seq ?_
  refine r_plain ?_
  refine p1 (x_assign (by conv => lhs; whnf)) ?_
  refine r_nil ?_
  refine t_n ?_
  refine c_seq ?_
  refine c_seq ?_
  refine r_plain ?_
  refine p1 (x_move (by conv => lhs; whnf)) ?_
  refine p1 ((x_lss rfl rfl).cast (congrArg _ (decide_eq_false (by omega)))) ?_
  refine r_nil ?_
  refine t_n ?_
  refine c_f rfl ?_
  refine c_skip ?_
  refine t_n ?_
  refine c_seq ?_
  refine c_seq ?_
  refine r_plain ?_
  refine p1 (x_move (by conv => lhs; whnf)) ?_
  refine p1 (x_move (by conv => lhs; whnf)) ?_
  refine p1 (x_cap_slice u31 rfl) ?_
  refine p1 (x_move (by conv => lhs; whnf)) ?_
  refine p1 (x_len_slice u31 rfl) ?_
  refine p1 (x_sub rfl rfl (fits_i64 (by omega) (by omega))) ?_
  refine p1 ((x_sub rfl rfl (fits_i64 (by omega) (by omega))).cast (congrArg (Value.int .i64) (show _ = (m : Int) by omega))) ?_
  refine p1 (x_assign (by conv => lhs; whnf)) ?_
  refine r_nil ?_
  refine t_n ?_
  refine c_seq ?_
  refine r_plain ?_
  refine p1 (x_move (by conv => lhs; whnf)) ?_
  refine p1 (x_gtr rfl rfl) ?_
  refine r_nil ?_
  refine t_n ?_
  first | refine c_dec rfl (fun hc16 => ?_) (fun hc16 => ?_) | refine c_if rfl (fun hc16 => ?_) (fun hc16 => ?_)
  · try simp only [decide_eq_true_eq, decide_eq_false_iff_not, Bool.not_eq_true, Bool.not_eq_false, Bool.not_eq_eq_eq_not, Bool.not_true, Bool.not_false, Int.not_lt, Int.not_le] at hc16
    refine r_plain ?_
    refine p1 (x_move (by conv => lhs; whnf)) ?_
    refine p1 (x_move (by conv => lhs; whnf)) ?_
    refine p1 (x_cap_slice u31 rfl) ?_
    refine p1 (x_slice_hN u31 sz35 rfl rfl (Nat.le_refl _)) ?_
    refine p1 (x_move (by conv => lhs; whnf)) ?_
    have hXs := hX.size
    refine o_growNil (kHash) (m := m) u31 u3 inf35 rfl kHash_pos rfl rfl (by omega) (by omega) (by omega) ?_
    intro p22 c22 w1 hK22 hge22 hE1
    have hX := hX.ext hE1
    have hO := hK22 0 w.heap.size (hXs)
    refine p1 (x_move (by conv => lhs; whnf)) ?_
    refine p1 (x_len_slice u31 rfl) ?_
    refine p1 (x_slice_hN u31 sz35 rfl rfl (Nat.zero_le _)) ?_
    refine p1 (x_assign (by conv => lhs; whnf)) ?_
    refine r_nil ?_
    refine t_n ?_
    refine c_seq ?_
    refine r_plain ?_
    refine p1 (x_move (by conv => lhs; whnf)) ?_
    refine p1 (x_assign (by conv => lhs; whnf)) ?_
    refine r_nil ?_
    refine t_n ?_
    refine c_ret ?_
    refine end1 rfl (by conv => lhs; whnf) ?_
    first | exact ⟨⟨_, _, rfl, hO⟩, hX⟩ | exact ⟨⟨_, _, rfl, Own.nil _ _ _ _ _⟩, hX⟩
  · try simp only [decide_eq_true_eq, decide_eq_false_iff_not, Bool.not_eq_true, Bool.not_eq_false, Bool.not_eq_eq_eq_not, Bool.not_true, Bool.not_false, Int.not_lt, Int.not_le] at hc16
    refine c_skip ?_
    refine t_n ?_
    refine c_seq ?_
    refine r_plain ?_
    refine p1 (x_move (by conv => lhs; whnf)) ?_
    refine p1 (x_assign (by conv => lhs; whnf)) ?_
    refine r_nil ?_
    refine t_n ?_
    refine c_ret ?_
    refine end1 rfl (by conv => lhs; whnf) ?_
    first | exact ⟨⟨_, _, rfl, hO⟩, hX⟩ | exact ⟨⟨_, _, rfl, Own.nil _ _ _ _ _⟩, hX⟩
theorem slices_Concat_hash {B : Nat} (xss : List _) (p : Option Addr) (n c : Nat) (w : World) (hl : Sl (kSl kHash 35) 31 B w p n c xss) (hs : xss.flatten.length ≤ 4194304000) :
    Ret Try.prog 106 [.slice p n c] w (fun v w' => (∃ q m c', v = .slice q m c' ∧ Own kHash 35 0 w.heap.size w' q m c' xss.flatten) ∧ Ext w w') := by
  have hX := Ext.refl w
  refine enter 36 _ Try.func106 rfl rfl (Nat.le_of_ble_eq_true rfl) ?_
  refine c_seq ?_
  refine r_plain ?_
  refine p1 (x_assign (by conv => lhs; whnf)) ?_
  refine r_nil ?_
  refine t_n ?_
  refine c_seq ?_
  refine r_plain ?_
  refine p1 (x_assign (by conv => lhs; whnf)) ?_
  refine r_nil ?_
  refine t_n ?_
  refine c_seq ?_
  refine c_seq ?_
  refine r_plain ?_
  refine p1 (x_move (by conv => lhs; whnf)) ?_
  refine p1 (x_len_slice u151 rfl) ?_
  refine p1 (x_move (by conv => lhs; whnf)) ?_
  refine r_nil ?_
  refine t_n ?_
  refine c_block ?_
  have hWL0 := Ext.refl w
  have hlen := hl.len
  have hfit := hl.fit
  have hcap := hl.cap
  refine c_loop (ι := Nat) [3, 5, 11, 12, 13, 14, 15, 16, 17, 18, 19, 20, 21, 22] (fun k => [(3, .int .i64 (((xss.take k).flatten.length : Nat) : Int)), (11, .int .i64 (k : Int))]) (fun k w' => Ext w w' ∧ (k ≤ n)) (fun k => n - k) (0) ⟨rfl, rfl, trivial⟩ ⟨Ext.refl _, by omega⟩ ?_
  rintro k GL0 w1 ⟨hE1, hL⟩
  have hX := hX.ext hE1
  have hWL0 := hE1
  refine c_seq ?_
  refine r_plain ?_
  refine p1 (x_lss rfl rfl) ?_
  refine r_nil ?_
  refine t_n ?_
  refine c_seq ?_
  first | refine c_dec rfl (fun hc12 => ?_) (fun hc12 => ?_) | refine c_if rfl (fun hc12 => ?_) (fun hc12 => ?_)
  · try simp only [decide_eq_true_eq, decide_eq_false_iff_not, Bool.not_eq_true, Bool.not_eq_false, Bool.not_eq_eq_eq_not, Bool.not_true, Bool.not_false, Int.not_lt, Int.not_le] at hc12
    refine c_skip ?_
    refine t_n ?_
    refine c_seq ?_
    refine c_block ?_
    refine c_seq ?_
    obtain ⟨q1, m1, c1, hcell1, hS1⟩ := (hl.ext hX).slAt k (by omega)
    have hS1l := hS1.len
    have hadd := flat_take_add (xss := xss) (k := k) (by omega)
    have hsuc := congrArg List.length (flat_take_succ (xss := xss) (k := k) (by omega))
    rw [List.length_append] at hsuc
    refine r_plain ?_
    refine p1 (x_ixs0 u151 sz31 rfl rfl ((hl.ext hX).adr kSl_pos (by omega)) (by omega)) ?_
    refine p1 (x_load1 un31 rfl hcell1) ?_
    refine p1 (x_assign (by conv => lhs; whnf)) ?_
    refine r_nil ?_
    refine t_n ?_
    refine c_seq ?_
    refine r_plain ?_
    refine p1 (x_move (by conv => lhs; whnf)) ?_
    refine p1 (x_move (by conv => lhs; whnf)) ?_
    refine p1 (x_len_slice u31 rfl) ?_
    refine p1 ((x_add rfl rfl (fits_i64 (by omega) (by omega))).cast (congrArg (Value.int .i64) (show _ = (((xss.take (k + 1)).flatten.length : Nat) : Int) by omega))) ?_
    refine p1 (x_assign (by conv => lhs; whnf)) ?_
    refine r_nil ?_
    refine t_n ?_
    refine c_seq ?_
    refine r_plain ?_
    refine p1 (x_move (by conv => lhs; whnf)) ?_
    refine p1 ((x_lss rfl rfl).cast (congrArg _ (decide_eq_false (by omega)))) ?_
    refine r_nil ?_
    refine t_n ?_
    refine c_f rfl ?_
    refine c_skip ?_
    refine b_n ?_
    refine t_n ?_
    refine r_plain ?_
    refine p1 (x_add rfl rfl (fits_i64 (by omega) (by omega))) ?_
    refine p1 (x_move (by conv => lhs; whnf)) ?_
    refine r_nil ?_
    refine t_n (At.mk (k + 1) (by repeat (first | exact Agr.refl _ _ | exact Agr.hav _ _ _ | refine Agr.upd rfl ?_ | refine Agr.updL ?_ _ rfl | refine Agr.hav' rfl ?_)) ⟨rfl, rfl, trivial⟩ ?_)
    exact ⟨⟨hWL0, by omega⟩, by first | (dsimp only; omega) | ((show _ < _); omega)⟩
  · try simp only [decide_eq_true_eq, decide_eq_false_iff_not, Bool.not_eq_true, Bool.not_eq_false, Bool.not_eq_eq_eq_not, Bool.not_true, Bool.not_false, Int.not_lt, Int.not_le] at hc12
    refine c_exit ?_
    refine t_e ?_
    refine t_e ?_
    refine b_hit ?_
    refine t_n ?_
    refine c_seq ?_
    have hle9 := flat_take_le xss k
    have hXs := hX.size
    refine r_plain ?_
    refine p1 (x_move (by conv => lhs; whnf)) ?_
    refine o_call Try.func126 fn126 fb126 (slices_Concat_hash_grow ((xss.take k).flatten.length : Nat) _ (by omega)) rfl ?_
    rintro v2 w2 ⟨⟨pG, cG, rfl, hO⟩, hE2⟩
    have hX := hX.ext hE2
    have hO := hO.lower hXs
    refine p1 (x_assign (by conv => lhs; whnf)) ?_
    refine r_nil ?_
    refine t_n ?_
    refine c_seq ?_
    refine c_seq ?_
    refine r_plain ?_
    refine p1 (x_move (by conv => lhs; whnf)) ?_
    refine p1 (x_len_slice u151 rfl) ?_
    refine p1 (x_move (by conv => lhs; whnf)) ?_
    refine r_nil ?_
    refine t_n ?_
    refine c_block ?_
    refine c_loop (ι := Nat × Option Addr × Nat × Nat) [6, 8, 27, 28, 29, 30, 31, 32, 33, 34] (fun (k2, q, m, c2) => [(6, .slice q m c2), (27, .int .i64 (k2 : Int))]) (fun (k2, q, m, c2) w' => Ext w w' ∧ (Own kHash 35 0 w.heap.size w' q m c2 (xss.take k2).flatten ∧ k2 ≤ n)) (fun (k2, q, m, c2) => n - k2) ((0, pG, 0, cG)) ⟨rfl, rfl, trivial⟩ ⟨hX, ⟨by simpa using hO, by omega⟩⟩ ?_
    rintro ⟨k2, q, m, c2⟩ GL2 w3 ⟨hE3, hO, hk2⟩
    have hX := hE3
    refine c_seq ?_
    refine r_plain ?_
    refine p1 (x_lss rfl rfl) ?_
    refine r_nil ?_
    refine t_n ?_
    refine c_seq ?_
    first | refine c_dec rfl (fun hc28 => ?_) (fun hc28 => ?_) | refine c_if rfl (fun hc28 => ?_) (fun hc28 => ?_)
    · try simp only [decide_eq_true_eq, decide_eq_false_iff_not, Bool.not_eq_true, Bool.not_eq_false, Bool.not_eq_eq_eq_not, Bool.not_true, Bool.not_false, Int.not_lt, Int.not_le] at hc28
      refine c_skip ?_
      refine t_n ?_
      refine c_seq ?_
      refine c_block ?_
      refine c_seq ?_
      obtain ⟨q2, m2, c3, hcell2, hS2⟩ := (hl.ext hX).slAt k2 (by omega)
      have hS2l := hS2.len
      have hOl := hO.len
      have hadd2 := flat_take_add (xss := xss) (k := k2) (by omega)
      refine r_plain ?_
      refine p1 (x_ixs0 u151 sz31 rfl rfl ((hl.ext hX).adr kSl_pos (by omega)) (by omega)) ?_
      refine p1 (x_load1 un31 rfl hcell2) ?_
      refine p1 (x_assign (by conv => lhs; whnf)) ?_
      refine r_nil ?_
      refine t_n ?_
      refine r_plain ?_
      refine p1 (x_move (by conv => lhs; whnf)) ?_
      refine p1 (x_move (by conv => lhs; whnf)) ?_
      have hq1 := hX.size
      refine o_append (d := kHash) (xss.getD k2 []) u31 inf35 rfl kHash_pos rfl rfl hO (src_pure u31 hS2 (by decide)) hS2.len (hash_all _ _ _) (rfl) (by omega) (by omega) (by omega) (by omega) (by decide) ?_
      intro p33 c33 w4 hO hM4
      have hX := hX.mod hM4 (Nat.le_refl _)
      refine p1 (x_assign (by conv => lhs; whnf)) ?_
      refine r_nil ?_
      refine b_n ?_
      refine t_n ?_
      refine r_plain ?_
      refine p1 (x_add rfl rfl (fits_i64 (by omega) (by omega))) ?_
      refine p1 (x_move (by conv => lhs; whnf)) ?_
      refine r_nil ?_
      refine t_n (At.mk ((k2 + 1, p33, m + m2, c33)) (by repeat (first | exact Agr.refl _ _ | exact Agr.hav _ _ _ | refine Agr.upd rfl ?_ | refine Agr.updL ?_ _ rfl | refine Agr.hav' rfl ?_)) ⟨rfl, rfl, trivial⟩ ?_)
      exact ⟨⟨hX, ⟨by rw [flat_take_succ (by omega)]; exact hO, by omega⟩⟩, by first | (dsimp only; omega) | ((show _ < _); omega)⟩
    · try simp only [decide_eq_true_eq, decide_eq_false_iff_not, Bool.not_eq_true, Bool.not_eq_false, Bool.not_eq_eq_eq_not, Bool.not_true, Bool.not_false, Int.not_lt, Int.not_le] at hc28
      have hkn : k2 = n := by omega
      rw [hkn, List.take_of_length_le (by omega)] at hO
      refine c_exit ?_
      refine t_e ?_
      refine t_e ?_
      refine b_hit ?_
      refine t_n ?_
      refine c_seq ?_
      refine r_plain ?_
      refine p1 (x_move (by conv => lhs; whnf)) ?_
      refine p1 (x_assign (by conv => lhs; whnf)) ?_
      refine r_nil ?_
      refine t_n ?_
      refine c_ret ?_
      refine end1 rfl (by conv => lhs; whnf) ?_
      exact ⟨⟨_, _, _, rfl, hO⟩, hX⟩
theorem hashes_set (xs : List Hash) (B : Nat) (p : Option Addr) (n c : Nat) (w : World) (hl : Sl kHash 35 B w p n c xs) (hs : n ≤ 4194304000) :
    Ret Try.prog 127 [.slice p n c] w (fun v w' => (∃ g, v = .map (some g) ∧ Mp kkHash vBool 0 w.heap.size w' g (inS xs)) ∧ Ext w w') := by
  have hX := Ext.refl w
  refine enter 19 _ Try.func127 rfl rfl (Nat.le_of_ble_eq_true rfl) ?_
  refine c_seq ?_
  refine r_plain ?_
  refine p1 (x_assign (by conv => lhs; whnf)) ?_
  refine r_nil ?_
  refine t_n ?_
  refine c_seq ?_
  refine r_plain ?_
  refine p1 (x_move (by conv => lhs; whnf)) ?_
  refine p1 (x_len_slice u31 rfl) ?_
  have hXs := hX.size
  refine o_makeMap (κ := Hash) (ν := Bool) u153 rfl ?_
  intro w1 g8 hE1 hK8
  have hX := hX.ext hE1
  have hM := hK8 kkHash vBool 0 w.heap.size (hXs)
  refine p1 (x_assign (by conv => lhs; whnf)) ?_
  refine r_nil ?_
  refine t_n ?_
  refine c_seq ?_
  refine c_seq ?_
  refine r_plain ?_
  refine p1 (x_move (by conv => lhs; whnf)) ?_
  refine p1 (x_len_slice u31 rfl) ?_
  refine p1 (x_move (by conv => lhs; whnf)) ?_
  refine r_nil ?_
  refine t_n ?_
  refine c_block ?_
  have hlen := hl.len
  have hfit := hl.fit
  have hcap := hl.cap
  refine c_loop (ι := Nat) [5, 11, 12, 13, 14, 15, 16, 17] (fun k => [(11, .int .i64 (k : Int))]) (fun k w' => Ext w w' ∧ (Mp kkHash vBool 0 w.heap.size w' g8 (inS (xs.take k)) ∧ k ≤ n)) (fun k => n - k) (0) ⟨rfl, trivial⟩ ⟨hX, ⟨hM.congr (fun z => by simp [inS]), by omega⟩⟩ ?_
  rintro k GL0 w2 ⟨hE2, hM, hk⟩
  have hX := hE2
  refine c_seq ?_
  refine r_plain ?_
  refine p1 (x_lss rfl rfl) ?_
  refine r_nil ?_
  refine t_n ?_
  refine c_seq ?_
  first | refine c_dec rfl (fun hc12 => ?_) (fun hc12 => ?_) | refine c_if rfl (fun hc12 => ?_) (fun hc12 => ?_)
  · try simp only [decide_eq_true_eq, decide_eq_false_iff_not, Bool.not_eq_true, Bool.not_eq_false, Bool.not_eq_eq_eq_not, Bool.not_true, Bool.not_false, Int.not_lt, Int.not_le] at hc12
    refine c_skip ?_
    refine t_n ?_
    refine c_seq ?_
    refine c_block ?_
    refine c_seq ?_
    refine r_plain ?_
    refine p1 (x_ixs u31 sz35 rfl rfl ((hl.ext hX).adr kHash_pos (by omega)) (by omega) (by omega)) ?_
    refine p1 (x_loadN ua35 rfl (hcs_sz sz35 _) ((hl.ext hX).hashAt _ (by omega) (by omega))) ?_
    have hXs := hX.size
    refine o_alloc zr35 ?_
    intro w3 g5 hN5
    have hE3 := hN5.ext
    have hX := hX.ext hE3
    have hM := hM.ext hE3
    have hB5 := hN5.blk
    refine o_storeAll rfl rfl (kHash_one _) (hv_sz sz35 _) hB5 (hv_size _) ?_
    intro w4 hP4
    have hX := hX.put hP4 (by have := hN5.g_eq; omega)
    have hM := hM.mod (hP4.mod 0 (Nat.zero_le _)) (Nat.zero_le _) (by decide)
    have hB5 := hP4.blk
    refine r_nil ?_
    refine t_n ?_
    refine r_plain ?_
    refine p1 (x_move (by conv => lhs; whnf)) ?_
    refine p1 (x_loadB ua35 rfl hB5 (hv_sz sz35 _)) ?_
    refine o_update (a := xs.getD k default) (b := true) u153 (keyOk_hash u35 u5 sz5) rfl rfl (by conv => lhs; whnf) hM (rfl) (Nat.zero_le _) (by decide) ?_
    intro w5 hM hM5
    have hX := hX.mod hM5 (Nat.le_refl _)
    have hB5 := hB5.mod hM5 (by decide)
    refine r_nil ?_
    refine b_n ?_
    refine t_n ?_
    refine r_plain ?_
    refine p1 (x_add rfl rfl (fits_i64 (by omega) (by omega))) ?_
    refine p1 (x_move (by conv => lhs; whnf)) ?_
    refine r_nil ?_
    refine t_n (At.mk (k + 1) (by repeat (first | exact Agr.refl _ _ | exact Agr.hav _ _ _ | refine Agr.upd rfl ?_ | refine Agr.updL ?_ _ rfl | refine Agr.hav' rfl ?_)) ⟨rfl, trivial⟩ ?_)
    exact ⟨⟨hX, ⟨hM.congr (inS_step (by omega)), by omega⟩⟩, by first | (dsimp only; omega) | ((show _ < _); omega)⟩
  · try simp only [decide_eq_true_eq, decide_eq_false_iff_not, Bool.not_eq_true, Bool.not_eq_false, Bool.not_eq_eq_eq_not, Bool.not_true, Bool.not_false, Int.not_lt, Int.not_le] at hc12
    have hkn : k = n := by omega
    rw [hkn, List.take_of_length_le (by omega)] at hM
    refine c_exit ?_
    refine t_e ?_
    refine t_e ?_
    refine b_hit ?_
    refine t_n ?_
    refine c_seq ?_
    refine r_plain ?_
    refine p1 (x_move (by conv => lhs; whnf)) ?_
    refine p1 (x_assign (by conv => lhs; whnf)) ?_
    refine r_nil ?_
    refine t_n ?_
    refine c_ret ?_
    refine end1 rfl (by conv => lhs; whnf) ?_
    exact ⟨⟨_, rfl, hM⟩, hX⟩
theorem hashes_those (xs ys : List Hash) (inn : Bool) (B B2 : Nat) (p q : Option Addr) (n c m c2 : Nat) (w : World) (ha : Sl kHash 35 B w p n c xs) (hb : Sl kHash 35 B2 w q m c2 ys) (hs : n ≤ 4194304000) (hs2 : m ≤ 4194304000) :
    Ret Try.prog 107 [.slice p n c, .slice q m c2, .bool inn] w (fun v w' => (∃ q m c', v = .slice q m c' ∧ m ≤ n ∧ Own kHash 35 0 w.heap.size w' q m c' (srt (sel ys inn xs))) ∧ Ext w w') := by
  have hX := Ext.refl w
  refine enter 30 _ Try.func107 rfl rfl (Nat.le_of_ble_eq_true rfl) ?_
  refine c_seq ?_
  refine r_plain ?_
  refine p1 (x_assign (by conv => lhs; whnf)) ?_
  refine r_nil ?_
  refine t_n ?_
  refine c_seq ?_
  refine r_plain ?_
  refine p1 (x_move (by conv => lhs; whnf)) ?_
  have hXs := hX.size
  refine o_call Try.func127 fn127 fb127 (hashes_set ys _ _ _ _ _ (hb.ext hX) hs2) rfl ?_
  rintro v1 w1 ⟨⟨g1, rfl, hMb⟩, hE1⟩
  have hX := hX.ext hE1
  have hMb := hMb.lower hXs
  refine p1 (x_assign (by conv => lhs; whnf)) ?_
  refine r_nil ?_
  refine t_n ?_
  refine c_seq ?_
  refine r_plain ?_
  refine p1 (x_assign (by conv => lhs; whnf)) ?_
  refine r_nil ?_
  refine t_n ?_
  refine c_seq ?_
  refine c_seq ?_
  refine r_plain ?_
  refine p1 (x_move (by conv => lhs; whnf)) ?_
  have hXs := hX.size
  refine o_call Try.func127 fn127 fb127 (hashes_set xs _ _ _ _ _ (ha.ext hX) hs) rfl ?_
  rintro v2 w2 ⟨⟨g2, rfl, hMa⟩, hE2⟩
  have hX := hX.ext hE2
  have hMb := hMb.ext hE2
  have hMa := hMa.lower hXs
  have hXs := hX.size
  refine o_range u153 rfl hMa ?_
  intro w3 it14 hE3 hit14 hK14
  have hX := hX.ext hE3
  have hMb := hMb.ext hE3
  have hMa := hMa.ext hE3
  have hR := hK14 w.heap.size (hXs)
  refine r_nil ?_
  refine t_n ?_
  refine c_block ?_
  have hlen := ha.len
  have hfit := ha.fit
  have hcap := ha.cap
  refine c_loop (ι := List Hash × Option Addr × Nat × Nat) [8, 9, 15, 16, 17, 18, 19, 20, 21, 22, 23, 24, 25, 26, 27] (fun (vs, q3, m3, c3) => [(8, .slice q3 m3 c3)]) (fun (vs, q3, m3, c3) w' => Ext w w' ∧ (Rg kkHash vBool 0 w.heap.size w' g2 it14 (inS xs) vs ∧ Mp kkHash vBool 0 w.heap.size w' g1 (inS ys) ∧ Own kHash 35 0 w.heap.size w' q3 m3 c3 (sel ys inn vs))) (fun (vs, q3, m3, c3) => n - vs.length) (([], none, 0, 0)) ⟨rfl, trivial⟩ ⟨hX, ⟨hR, hMb, Own.nil _ _ _ _ _⟩⟩ ?_
  rintro ⟨vs, q3, m3, c3⟩ GL0 w4 ⟨hE4, hR, hMb, hO⟩
  have hX := hE4
  have hvx : ∀ z ∈ vs, z ∈ xs := fun z hz => inS_some.1 (hR.sub z hz)
  have hvl := nodup_le hR.nd hvx
  have hml := hO.len
  have hsl := sel_len ys inn vs
  refine c_seq ?_
  refine r_plain ?_
  refine o_next rfl hR (Nat.zero_le _) (by decide) (fun hdone15 => ?_) (fun w5 a15 b15 v15 hna15 hmu15 hR hM5 => ?_)
  · skip
    refine p1 (x_extract rfl rfl) ?_
    refine r_nil ?_
    refine t_n ?_
    refine c_seq ?_
    refine c_f rfl ?_
    have hall : ∀ z ∈ xs, z ∈ vs := fun z hz => hdone15 z (inS_some.2 hz)
    refine c_exit ?_
    refine t_e ?_
    refine t_e ?_
    refine b_hit ?_
    refine t_n ?_
    refine c_seq ?_
    refine r_plain ?_
    refine p1 (x_move (by conv => lhs; whnf)) ?_
    have hXs := hX.size
    refine o_call Try.func35 fn35 fb35 (hashes_Sort (sel ys inn vs) _ _ _ _ _ hO.sl (by omega)) rfl ?_
    rintro v6 w6 ⟨⟨q4, m4, c4, rfl, hm4, hS⟩, hE6⟩
    have hX := hX.ext hE6
    have hR := hR.ext hE6
    have hMb := hMb.ext hE6
    have hO := hO.ext hE6
    rw [srt_sel_all hvx hall] at hS
    have hS := hS.lower hXs
    refine p1 (x_assign (by conv => lhs; whnf)) ?_
    refine r_nil ?_
    refine t_n ?_
    refine c_ret ?_
    refine end1 rfl (by conv => lhs; whnf) ?_
    exact ⟨⟨_, _, _, rfl, by omega, hS⟩, hX⟩
  · skip
    have hX := hX.mod hM5 (Nat.le_refl _)
    have hMb := hMb.mod hM5 (Nat.zero_le _) (by decide)
    have hO := hO.mod hM5 (Nat.zero_le _) (by decide)
    have hvl2 := nodup_le hR.nd (fun z hz => inS_some.1 (hR.sub z hz))
    simp only [List.length_append, List.length_cons, List.length_nil] at hvl2
    refine p1 (x_extract rfl rfl) ?_
    refine r_nil ?_
    refine t_n ?_
    refine c_seq ?_
    refine c_t rfl ?_
    refine c_skip ?_
    refine t_n ?_
    refine c_block ?_
    refine c_seq ?_
    have hOlt0 := hO.below
    obtain ⟨b17, v17, hb17, hv17, hen17⟩ := hR.entry
    refine r_plain ?_
    refine p1 (hen17 rfl) ?_
    refine p1 (x_extract rfl rfl) ?_
    have hXs := hX.size
    refine o_alloc zr35 ?_
    intro w7 g9 hN9
    have hE7 := hN9.ext
    have hX := hX.ext hE7
    have hMb := hMb.ext hE7
    have hO := hO.ext hE7
    have hR := hR.ext hE7
    have hB9 := hN9.blk
    have hOlt : q3 = none ∨ ab q3 < g9 := by rw [hN9.g_eq]; exact hOlt0
    refine o_storeAll rfl rfl (kHash_one _) (hv_sz sz35 _) hB9 (hv_size _) ?_
    intro w8 hP8
    have hX := hX.put hP8 (by have := hN9.g_eq; omega)
    have hMb := hMb.mod (hP8.mod 0 (Nat.zero_le _)) (Nat.zero_le _) (by decide)
    have hO := hO.modB (hP8.mod g9 (Nat.le_refl _)) (Nat.zero_le _) (by decide) hOlt
    have hR := hR.mod (hP8.mod 0 (Nat.zero_le _)) (Nat.zero_le _) (by decide)
    have hB9 := hP8.blk
    refine r_nil ?_
    refine t_n ?_
    refine c_seq ?_
    refine r_plain ?_
    refine p1 (x_move (by conv => lhs; whnf)) ?_
    refine p1 (x_loadB ua35 rfl hB9 (hv_sz sz35 _)) ?_
    refine p1 ((x_lookup_bool u153 zr4 (keyOk_hash u35 u5 sz5) rfl rfl hMb).cast (congrArg Value.bool (inS_get ys a15))) ?_
    refine p1 (x_move (by conv => lhs; whnf)) ?_
    refine p1 (x_eql_bool u4 rfl rfl) ?_
    refine r_nil ?_
    refine t_n ?_
    first | refine c_dec rfl (fun hc23 => ?_) (fun hc23 => ?_) | refine c_if rfl (fun hc23 => ?_) (fun hc23 => ?_)
    · try simp only [decide_eq_true_eq, decide_eq_false_iff_not, Bool.not_eq_true, Bool.not_eq_false, Bool.not_eq_eq_eq_not, Bool.not_true, Bool.not_false, Int.not_lt, Int.not_le] at hc23
      have hsn := sel_snoc ys inn vs a15
      rw [if_pos hc23] at hsn
      refine r_plain ?_
      refine p1 (x_move (by conv => lhs; whnf)) ?_
      refine p1 (x_loadB ua35 rfl hB9 (hv_sz sz35 _)) ?_
      refine o_buildSlice u31 inf35 rfl (by decide) (fun base hb => fill_kn [.agg (hv a15)] (by intro v hv'; simp only [List.mem_singleton] at hv'; subst hv'; simp [Value.cells, hv, hcs_len]) base hb) ?_
      intro w9 g26 hN26
      have hE9 := hN26.ext
      have hX := hX.ext hE9
      have hMb := hMb.ext hE9
      have hO := hO.ext hE9
      have hR := hR.ext hE9
      have hB9 := hB9.ext hE9
      have hJ : Own kHash 35 0 0 w9 (some ⟨g26, 0, none⟩) 1 1 [a15] := own_lit [a15] hN26 (Nat.zero_le _) (by simp)
      have hB1 := hX.size
      refine o_append (d := kHash) ([a15]) u31 inf35 rfl kHash_pos rfl rfl hO (src_pure u31 hJ.sl (by decide)) rfl (hash_all _ _ _) (rfl) (by omega) (by omega) (by omega) (by omega) (by decide) ?_
      intro p27 c27 w10 hO hM10
      have hX := hX.mod hM10 (Nat.le_refl _)
      have hMb := hMb.mod hM10 (Nat.zero_le _) (by decide)
      have hR := hR.mod hM10 (Nat.zero_le _) (by decide)
      refine p1 (x_assign (by conv => lhs; whnf)) ?_
      refine r_nil ?_
      refine b_n ?_
      first
        | exact t_n (At.mk ((vs ++ [a15], p27, m3 + 1, c27)) (by repeat (first | exact Agr.refl _ _ | exact Agr.hav _ _ _ | refine Agr.upd rfl ?_ | refine Agr.updL ?_ _ rfl | refine Agr.hav' rfl ?_)) ⟨rfl, trivial⟩ ⟨⟨hX, ⟨hR, hMb, by rw [hsn]; exact hO⟩⟩, by show n - (vs ++ [a15]).length < n - vs.length; simp only [List.length_append, List.length_cons, List.length_nil]; omega⟩)
        | exact t_n (At.mk ((vs ++ [a15], q3, m3, c3)) (by repeat (first | exact Agr.refl _ _ | exact Agr.hav _ _ _ | refine Agr.upd rfl ?_ | refine Agr.updL ?_ _ rfl | refine Agr.hav' rfl ?_)) ⟨rfl, trivial⟩ ⟨⟨hX, ⟨hR, hMb, by rw [hsn]; exact hO⟩⟩, by show n - (vs ++ [a15]).length < n - vs.length; simp only [List.length_append, List.length_cons, List.length_nil]; omega⟩)
    · try simp only [decide_eq_true_eq, decide_eq_false_iff_not, Bool.not_eq_true, Bool.not_eq_false, Bool.not_eq_eq_eq_not, Bool.not_true, Bool.not_false, Int.not_lt, Int.not_le] at hc23
      have hsn := sel_snoc ys inn vs a15
      rw [if_neg hc23] at hsn
      refine c_skip ?_
      refine b_n ?_
      first
        | exact t_n (At.mk ((vs ++ [a15], p27, m3 + 1, c27)) (by repeat (first | exact Agr.refl _ _ | exact Agr.hav _ _ _ | refine Agr.upd rfl ?_ | refine Agr.updL ?_ _ rfl | refine Agr.hav' rfl ?_)) ⟨rfl, trivial⟩ ⟨⟨hX, ⟨hR, hMb, by rw [hsn]; exact hO⟩⟩, by show n - (vs ++ [a15]).length < n - vs.length; simp only [List.length_append, List.length_cons, List.length_nil]; omega⟩)
        | exact t_n (At.mk ((vs ++ [a15], q3, m3, c3)) (by repeat (first | exact Agr.refl _ _ | exact Agr.hav _ _ _ | refine Agr.upd rfl ?_ | refine Agr.updL ?_ _ rfl | refine Agr.hav' rfl ?_)) ⟨rfl, trivial⟩ ⟨⟨hX, ⟨hR, hMb, by rw [hsn]; exact hO⟩⟩, by show n - (vs ++ [a15]).length < n - vs.length; simp only [List.length_append, List.length_cons, List.length_nil]; omega⟩)
theorem hashes_Union (xs ys : List Hash) (B B2 : Nat) (p q : Option Addr) (n c m c2 : Nat) (w : World) (ha : Sl kHash 35 B w p n c xs) (hb : Sl kHash 35 B2 w q m c2 ys) (hs : n ≤ 2097152000) (hs2 : m ≤ 2097152000) :
    Ret Try.prog 56 [.slice p n c, .slice q m c2] w (fun v w' => (∃ q1 m1 c1, v = .slice q1 m1 c1 ∧ m1 ≤ n + m ∧ Own kHash 35 0 w.heap.size w' q1 m1 c1 (srt (xs ++ ys))) ∧ Ext w w') := by
  have hX := Ext.refl w
  refine enter 10 _ Try.func56 rfl rfl (Nat.le_of_ble_eq_true rfl) ?_
  refine c_seq ?_
  refine r_plain ?_
  refine p1 (x_assign (by conv => lhs; whnf)) ?_
  refine r_nil ?_
  refine t_n ?_
  refine c_seq ?_
  refine r_plain ?_
  refine p1 (x_move (by conv => lhs; whnf)) ?_
  refine p1 (x_move (by conv => lhs; whnf)) ?_
  have hla := ha.len
  have hlb := hb.len
  refine o_buildSlice u151 inf31 rfl (by decide) (fun base hb => fill_kn [.slice p n c, .slice q m c2] (by intro v hv'; simp only [List.mem_cons, List.not_mem_nil, or_false] at hv'; rcases hv' with rfl | rfl <;> rfl) base hb) ?_
  intro w1 g7 hN7
  have hE1 := hN7.ext
  have hX := hX.ext hE1
  have hI : Own (kSl kHash 35) 31 (B + B2) 0 w1 (some ⟨g7, 0, none⟩) 2 2 [xs, ys] := Own.made _ 31 (B + B2) 0 hN7 [xs, ys] [[.slice p n c], [.slice q m c2]] 2 2 rfl ⟨⟨_, _, _, rfl, (ha.mono (by omega)).ext hX⟩, ⟨_, _, _, rfl, (hb.mono (by omega)).ext hX⟩, trivial⟩ (Nat.zero_le _) (by omega) (by omega) rfl rfl
  have hXs := hX.size
  refine o_call Try.func106 fn106 fb106 (slices_Concat_hash [xs, ys] _ _ _ _ hI.sl (by simp; omega)) rfl ?_
  rintro v2 w2 ⟨⟨q3, m3, c3, rfl, hO⟩, hE2⟩
  have hX := hX.ext hE2
  have hO := hO.lower hXs
  have hOl := hO.len
  simp only [List.flatten_cons, List.flatten_nil, List.append_nil, List.length_append] at hO hOl
  have hXs := hX.size
  refine o_call Try.func35 fn35 fb35 (hashes_Sort (xs ++ ys) _ _ _ _ _ hO.sl (by omega)) rfl ?_
  rintro v3 w3 ⟨⟨q4, m4, c4, rfl, hm4, hS⟩, hE3⟩
  have hX := hX.ext hE3
  have hO := hO.ext hE3
  have hS := hS.lower hXs
  refine p1 (x_assign (by conv => lhs; whnf)) ?_
  refine r_nil ?_
  refine t_n ?_
  refine c_ret ?_
  refine end1 rfl (by conv => lhs; whnf) ?_
  exact ⟨⟨_, _, _, rfl, by omega, hS⟩, hX⟩
theorem hashes_Minus (xs ys : List Hash) (B B2 : Nat) (p q : Option Addr) (n c m c2 : Nat) (w : World) (ha : Sl kHash 35 B w p n c xs) (hb : Sl kHash 35 B2 w q m c2 ys) (hs : n ≤ 2097152000) (hs2 : m ≤ 2097152000) :
    Ret Try.prog 58 [.slice p n c, .slice q m c2] w (fun v w' => (∃ q1 m1 c1, v = .slice q1 m1 c1 ∧ m1 ≤ n + m ∧ Own kHash 35 0 w.heap.size w' q1 m1 c1 (srt (sel ys false xs))) ∧ Ext w w') := by
  have hX := Ext.refl w
  refine enter 8 _ Try.func58 rfl rfl (Nat.le_of_ble_eq_true rfl) ?_
  refine c_seq ?_
  refine r_plain ?_
  refine p1 (x_assign (by conv => lhs; whnf)) ?_
  refine r_nil ?_
  refine t_n ?_
  refine c_seq ?_
  refine r_plain ?_
  refine p1 (x_move (by conv => lhs; whnf)) ?_
  refine p1 (x_move (by conv => lhs; whnf)) ?_
  have hXs := hX.size
  refine o_call Try.func107 fn107 fb107 (hashes_those xs ys false _ _ _ _ _ _ _ _ _ (ha.ext hX) (hb.ext hX) (by omega) (by omega)) rfl ?_
  rintro v1 w1 ⟨⟨q4, m4, c4, rfl, hm4, hS⟩, hE1⟩
  have hX := hX.ext hE1
  have hS := hS.lower hXs
  refine p1 (x_assign (by conv => lhs; whnf)) ?_
  refine r_nil ?_
  refine t_n ?_
  refine c_ret ?_
  refine end1 rfl (by conv => lhs; whnf) ?_
  exact ⟨⟨_, _, _, rfl, by omega, hS⟩, hX⟩
theorem hashes_Meet (xs ys : List Hash) (B B2 : Nat) (p q : Option Addr) (n c m c2 : Nat) (w : World) (ha : Sl kHash 35 B w p n c xs) (hb : Sl kHash 35 B2 w q m c2 ys) (hs : n ≤ 2097152000) (hs2 : m ≤ 2097152000) :
    Ret Try.prog 60 [.slice p n c, .slice q m c2] w (fun v w' => (∃ q1 m1 c1, v = .slice q1 m1 c1 ∧ m1 ≤ n + m ∧ Own kHash 35 0 w.heap.size w' q1 m1 c1 (srt (sel ys true xs))) ∧ Ext w w') := by
  have hX := Ext.refl w
  refine enter 8 _ Try.func60 rfl rfl (Nat.le_of_ble_eq_true rfl) ?_
  refine c_seq ?_
  refine r_plain ?_
  refine p1 (x_assign (by conv => lhs; whnf)) ?_
  refine r_nil ?_
  refine t_n ?_
  refine c_seq ?_
  refine r_plain ?_
  refine p1 (x_move (by conv => lhs; whnf)) ?_
  refine p1 (x_move (by conv => lhs; whnf)) ?_
  have hXs := hX.size
  refine o_call Try.func107 fn107 fb107 (hashes_those xs ys true _ _ _ _ _ _ _ _ _ (ha.ext hX) (hb.ext hX) (by omega) (by omega)) rfl ?_
  rintro v1 w1 ⟨⟨q4, m4, c4, rfl, hm4, hS⟩, hE1⟩
  have hX := hX.ext hE1
  have hS := hS.lower hXs
  refine p1 (x_assign (by conv => lhs; whnf)) ?_
  refine r_nil ?_
  refine t_n ?_
  refine c_ret ?_
  refine end1 rfl (by conv => lhs; whnf) ?_
  exact ⟨⟨_, _, _, rfl, by omega, hS⟩, hX⟩
end Go.Proofs.Eng
