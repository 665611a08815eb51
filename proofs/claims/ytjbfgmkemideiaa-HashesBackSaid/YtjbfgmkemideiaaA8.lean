import Derived.Test.YtjbfgmkemideiaaS2
import Derived.Test.YtjbfgmkemideiaaE9
import Derived.Test.YtjbfgmkemideiaaT0
import Derived.Test.YtjbfgmkemideiaaA2
set_option linter.unusedVariables false
set_option linter.unusedSimpArgs false
set_option maxRecDepth 100000
set_option maxHeartbeats 4000000
namespace Go.Proofs.Eng
open Go.RowKit
open Extern.Stop (cell)
theorem hashes_Put (xs : List Hash) (B : Nat) (p : Option Addr) (n c : Nat) (w : World) (hl : Sl kHash 35 B w p n c xs) (hs : 32 * n ≤ 140737488351232) :
    Ret Try.prog 45 [.slice p n c] w (fun v w' => (∃ p l c, v = .slice p l c ∧ Own kByte 5 0 w.heap.size w' p l c (lebU n ++ xs.flatMap (·.1))) ∧ Ext w w') := by
  have hX := Ext.refl w
  refine enter 21 _ Try.func45 rfl rfl (Nat.le_of_ble_eq_true rfl) ?_
  refine c_seq ?_
  refine r_plain ?_
  refine p1 (x_assign (by conv => lhs; whnf)) ?_
  refine r_nil ?_
  refine t_n ?_
  refine c_seq ?_
  refine r_plain ?_
  refine p1 (x_move (by conv => lhs; whnf)) ?_
  refine p1 (x_len_slice u31 rfl) ?_
  refine p1 (x_convf u95 us3 rfl (fits_u64 (by omega) (by omega))) ?_
  have hB0 := hX.size
  have hlen := hl.len
  have hfit := hl.fit
  have hcap := hl.cap
  refine o_call Try.func82 fn82 fb82 (leb_Uint n (by omega) _) rfl ?_
  rintro v1 w1 ⟨⟨q, l, c1, rfl, hO⟩, hE1⟩
  have hX := hX.ext hE1
  have hO := hO.lower hB0
  have hl10 := lebU_len10 (n := n) (by omega)
  have hl0 := hO.len
  refine p1 (x_assign (by conv => lhs; whnf)) ?_
  refine r_nil ?_
  refine t_n ?_
  refine c_seq ?_
  refine c_seq ?_
  refine r_plain ?_
  refine p1 (x_move (by conv => lhs; whnf)) ?_
  refine p1 (x_len_slice u31 rfl) ?_
  refine p1 (x_move (by conv => lhs; whnf)) ?_
  refine r_nil ?_
  refine t_n ?_
  refine c_block ?_
  refine c_loop (ι := Nat × Option Addr × Nat × Nat) [3, 5, 12, 13, 14, 15, 16, 17, 18, 19] (fun (k, q, l, c1) => [(3, .slice q l c1), (12, .int .i64 (k : Int))]) (fun (k, q, l, c1) w' => Ext w w' ∧ (Own kByte 5 0 w.heap.size w' q l c1 (lebU n ++ (xs.take k).flatMap (·.1)) ∧ k ≤ n ∧ l ≤ 10 + 32 * k)) (fun (k, q, l, c1) => n - k) ((0, q, l, c1)) ⟨rfl, rfl, trivial⟩ ⟨hX, ⟨by simpa using hO, by omega, by omega⟩⟩ ?_
  rintro ⟨k, q, l, c1⟩ GL0 w2 ⟨hE2, hO, hk, hlk⟩
  have hX := hE2
  refine c_seq ?_
  refine r_plain ?_
  refine p1 (x_lss rfl rfl) ?_
  refine r_nil ?_
  refine t_n ?_
  refine c_seq ?_
  first | refine c_dec rfl (fun hc13 => ?_) (fun hc13 => ?_) | refine c_if rfl (fun hc13 => ?_) (fun hc13 => ?_)
  · try simp only [decide_eq_true_eq, decide_eq_false_iff_not, Bool.not_eq_true, Bool.not_eq_false, Bool.not_eq_eq_eq_not, Bool.not_true, Bool.not_false, Int.not_lt, Int.not_le] at hc13
    refine c_skip ?_
    refine t_n ?_
    refine c_seq ?_
    refine c_block ?_
    refine c_seq ?_
    refine r_plain ?_
    refine p1 (x_ixs u31 sz35 rfl rfl ((hl.ext hX).adr kHash_pos (by omega)) (by omega) (by omega)) ?_
    refine p1 (x_loadN ua35 rfl (hcs_sz sz35 _) ((hl.ext hX).hashAt _ (by omega) (by omega))) ?_
    have hsz := hX.size
    refine o_alloc zr35 ?_
    intro w3 g5 hN5
    have hE3 := hN5.ext
    have hX := hX.ext hE3
    have hO := hO.ext hE3
    have hB5 := hN5.blk
    refine o_storeAll rfl rfl (kHash_one _) (hv_sz sz35 _) hB5 (hv_size _) ?_
    intro w4 hP4
    have hX := hX.put hP4 (by have := hN5.g_eq; omega)
    have hO := hO.mod (hP4.mod 0 (Nat.zero_le _)) (Nat.zero_le _) (by decide)
    have hB5 := hP4.blk
    refine r_nil ?_
    refine t_n ?_
    refine r_plain ?_
    refine p1 (x_move (by conv => lhs; whnf)) ?_
    refine p1 (x_slice_arr u35 sz5 rfl) ?_
    have hB1 := hX.size
    refine o_append (d := kByte) ((xs.getD k default).1) u22 inf5 rfl kByte_pos rfl rfl hO (src_hash u22 hB5) (xs.getD k default).2 (byte_all _ _ _) (flat_single _) (by omega) (by omega) (by omega) (by omega) (by decide) ?_
    intro p18 c18 w5 hO hM5
    have hX := hX.mod hM5 (Nat.le_refl _)
    refine p1 (x_assign (by conv => lhs; whnf)) ?_
    refine r_nil ?_
    refine b_n ?_
    refine t_n ?_
    refine r_plain ?_
    refine p1 (x_add rfl rfl (fits_i64 (by omega) (by omega))) ?_
    refine p1 (x_move (by conv => lhs; whnf)) ?_
    refine r_nil ?_
    refine t_n (At.mk ((k + 1, p18, l + 32, c18)) (by repeat (first | exact Agr.refl _ _ | exact Agr.hav _ _ _ | refine Agr.upd rfl ?_ | refine Agr.updL ?_ _ rfl | refine Agr.hav' rfl ?_)) ⟨rfl, rfl, trivial⟩ ?_)
    exact ⟨⟨hX, ⟨by rw [getD_take_succ (by omega), List.flatMap_append, ← List.append_assoc]; simpa using hO, by omega, by omega⟩⟩, by first | (dsimp only; omega) | ((show _ < _); omega)⟩
  · try simp only [decide_eq_true_eq, decide_eq_false_iff_not, Bool.not_eq_true, Bool.not_eq_false, Bool.not_eq_eq_eq_not, Bool.not_true, Bool.not_false, Int.not_lt, Int.not_le] at hc13
    have hkn : k = n := by omega
    rw [hkn, List.take_of_length_le (by omega)] at hO
    refine c_exit ?_
    refine t_e ?_
    refine t_e ?_
    refine b_hit ?_
    refine t_n ?_
    refine c_seq ?_
    refine r_plain ?_
    refine p1 (x_move (by conv => lhs; whnf)) ?_
    refine p1 (x_assign (by conv => lhs; whnf)) ?_
    refine r_nil ?_
    refine t_n ?_
    refine c_ret ?_
    refine end1 rfl (by conv => lhs; whnf) ?_
    exact ⟨⟨_, _, _, rfl, hO⟩, hX⟩
theorem ref06_Put (xs : List Hash) (B : Nat) (p : Option Addr) (n c : Nat) (w : World) (hl : Sl kHash 35 B w p n c xs) (hs : 32 * n ≤ 140737488351232) :
    Ret Try.prog 46 [.slice p n c] w (fun v w' => (∃ p l c, v = .slice p l c ∧ Own kByte 5 0 w.heap.size w' p l c (lebU n ++ xs.flatMap (·.1))) ∧ Ext w w') := by
  have hX := Ext.refl w
  refine enter 22 _ Try.func46 rfl rfl (Nat.le_of_ble_eq_true rfl) ?_
  refine c_seq ?_
  refine r_plain ?_
  refine p1 (x_assign (by conv => lhs; whnf)) ?_
  refine r_nil ?_
  refine t_n ?_
  refine c_seq ?_
  refine r_plain ?_
  refine p1 (x_move (by conv => lhs; whnf)) ?_
  refine p1 (x_len_slice u31 rfl) ?_
  refine p1 (x_convf u95 us3 rfl (fits_u64 (by omega) (by omega))) ?_
  have hB0 := hX.size
  have hlen := hl.len
  have hfit := hl.fit
  have hcap := hl.cap
  refine o_call Try.func98 fn98 fb98 (ref02_Uint n (by omega) _) rfl ?_
  rintro v1 w1 ⟨⟨q, l, c1, rfl, hO⟩, hE1⟩
  have hX := hX.ext hE1
  have hO := hO.lower hB0
  have hl10 := lebU_len10 (n := n) (by omega)
  have hl0 := hO.len
  refine p1 (x_assign (by conv => lhs; whnf)) ?_
  refine r_nil ?_
  refine t_n ?_
  refine c_seq ?_
  refine c_seq ?_
  refine r_plain ?_
  refine p1 (x_assign (by conv => lhs; whnf)) ?_
  refine r_nil ?_
  refine t_n ?_
  refine c_block ?_
  refine c_loop (ι := Nat × Option Addr × Nat × Nat) [3, 4, 9, 10, 11, 12, 13, 14, 15, 16, 17, 18, 19, 20] (fun (k, q, l, c1) => [(3, .slice q l c1), (4, .int .i64 (k : Int))]) (fun (k, q, l, c1) w' => Ext w w' ∧ (Own kByte 5 0 w.heap.size w' q l c1 (lebU n ++ (xs.take k).flatMap (·.1)) ∧ k ≤ n ∧ l ≤ 10 + 32 * k)) (fun (k, q, l, c1) => n - k) ((0, q, l, c1)) ⟨rfl, rfl, trivial⟩ ⟨hX, ⟨by simpa using hO, by omega, by omega⟩⟩ ?_
  rintro ⟨k, q, l, c1⟩ GL0 w2 ⟨hE2, hO, hk, hlk⟩
  have hX := hE2
  refine c_seq ?_
  refine c_seq ?_
  refine r_plain ?_
  refine p1 (x_move (by conv => lhs; whnf)) ?_
  refine p1 (x_move (by conv => lhs; whnf)) ?_
  refine p1 (x_len_slice u31 rfl) ?_
  refine p1 (x_lss rfl rfl) ?_
  refine r_nil ?_
  refine t_n ?_
  first | refine c_dec rfl (fun hc12 => ?_) (fun hc12 => ?_) | refine c_if rfl (fun hc12 => ?_) (fun hc12 => ?_)
  · try simp only [decide_eq_true_eq, decide_eq_false_iff_not, Bool.not_eq_true, Bool.not_eq_false, Bool.not_eq_eq_eq_not, Bool.not_true, Bool.not_false, Int.not_lt, Int.not_le] at hc12
    refine c_skip ?_
    refine t_n ?_
    refine c_seq ?_
    refine c_block ?_
    refine r_plain ?_
    refine p1 (x_move (by conv => lhs; whnf)) ?_
    refine p1 (x_move (by conv => lhs; whnf)) ?_
    refine p1 (x_move (by conv => lhs; whnf)) ?_
    refine p1 (x_ixs u31 sz35 rfl rfl ((hl.ext hX).adr kHash_pos (by omega)) (by omega) (by omega)) ?_
    refine p1 (x_slice_arr u35 sz5 rfl) ?_
    have hB1 := hX.size
    refine o_append (d := kByte) ((xs.getD k default).1) u22 inf5 rfl kByte_pos rfl rfl hO (src_range u22 ((hl.ext hX).hashAt (k : Int) (by omega) (by omega))) (xs.getD k default).2 (byte_all _ _ _) (flat_single _) (by omega) (by omega) (by omega) (by omega) (by decide) ?_
    intro p20 c20 w3 hO hM3
    have hX := hX.mod hM3 (Nat.le_refl _)
    refine p1 (x_assign (by conv => lhs; whnf)) ?_
    refine r_nil ?_
    refine b_n ?_
    refine t_n ?_
    refine r_plain ?_
    refine p1 (x_move (by conv => lhs; whnf)) ?_
    refine p1 (x_add rfl rfl (fits_i64 (by omega) (by omega))) ?_
    refine p1 (x_assign (by conv => lhs; whnf)) ?_
    refine r_nil ?_
    refine t_n (At.mk ((k + 1, p20, l + 32, c20)) (by repeat (first | exact Agr.refl _ _ | exact Agr.hav _ _ _ | refine Agr.upd rfl ?_ | refine Agr.updL ?_ _ rfl | refine Agr.hav' rfl ?_)) ⟨rfl, rfl, trivial⟩ ?_)
    exact ⟨⟨hX, ⟨by rw [getD_take_succ (by omega), List.flatMap_append, ← List.append_assoc]; simpa using hO, by omega, by omega⟩⟩, by first | (dsimp only; omega) | ((show _ < _); omega)⟩
  · try simp only [decide_eq_true_eq, decide_eq_false_iff_not, Bool.not_eq_true, Bool.not_eq_false, Bool.not_eq_eq_eq_not, Bool.not_true, Bool.not_false, Int.not_lt, Int.not_le] at hc12
    have hkn : k = n := by omega
    rw [hkn, List.take_of_length_le (by omega)] at hO
    refine c_exit ?_
    refine t_e ?_
    refine t_e ?_
    refine b_hit ?_
    refine t_n ?_
    refine c_seq ?_
    refine r_plain ?_
    refine p1 (x_move (by conv => lhs; whnf)) ?_
    refine p1 (x_assign (by conv => lhs; whnf)) ?_
    refine r_nil ?_
    refine t_n ?_
    refine c_ret ?_
    refine end1 rfl (by conv => lhs; whnf) ?_
    exact ⟨⟨_, _, _, rfl, hO⟩, hX⟩
end Go.Proofs.Eng
