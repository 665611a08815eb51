import Derived.Test.YtjbfgmkemideiaaP4
import Derived.Test.YtjbfgmkemideiaaA2
import Derived.Test.YtjbfgmkemideiaaT0
set_option linter.unusedVariables false
set_option linter.unusedSimpArgs false
set_option maxRecDepth 100000
set_option maxHeartbeats 4000000
namespace Go.Proofs.Eng
open Go.RowKit
open Extern.Stop (cell)
theorem sha_Hex (h : Hash) (w : World) :
    Ret Try.prog 99 [.agg (hv h)] w (fun v w' => v = .string (toStr (hexs h)) ∧ Ext w w') := by
  have hX := Ext.refl w
  refine enter 23 _ Try.func99 rfl rfl (Nat.le_of_ble_eq_true rfl) ?_
  refine c_seq ?_
  refine r_plain ?_
  refine o_boxA (by conv => lhs; whnf) ?_
  intro w1 g1 hN1
  have hE1 := hN1.ext
  have hX := hX.ext hE1
  have hB1 := hN1.blk
  refine p1 (x_assign (by conv => lhs; whnf)) ?_
  refine r_nil ?_
  refine t_n ?_
  refine c_seq ?_
  refine r_plain ?_
  have hXs := hX.size
  refine o_make u22 inf5 rfl rfl (by omega) (by omega) (by omega) (by omega) ?_
  intro w2 g6 hN6
  have hE2 := hN6.ext
  have hX := hX.ext hE2
  have hB1 := hB1.ext hE2
  have hO : Own kByte 5 0 w.heap.size w2 (some ⟨g6, 0, none⟩) 0 64 [] := Own.made kByte 5 0 _ hN6 [] [] 0 64 rfl trivial hXs (by omega) (by omega) (by rw [size_madeCells]; rfl) (by simp)
  refine p1 (x_assign (by conv => lhs; whnf)) ?_
  refine r_nil ?_
  refine t_n ?_
  refine c_seq ?_
  refine c_seq ?_
  refine r_plain ?_
  refine p1 (x_loadB ua35 rfl hB1 (hv_sz sz35 h)) ?_
  refine p1 (x_move (by conv => lhs; whnf)) ?_
  refine r_nil ?_
  refine t_n ?_
  refine c_block ?_
  refine c_loop (ι := Nat × Option Addr × Nat × Nat) [3, 5, 8, 9, 10, 11, 12, 13, 14, 15, 16, 17, 18, 19, 20] (fun (k, q, l, c1) => [(3, .slice q l c1), (8, .int .i64 (k : Int))]) (fun (k, q, l, c1) w' => Ext w w' ∧ (Own kByte 5 0 w.heap.size w' q l c1 ((h.1.take k).flatMap hex2) ∧ k ≤ 32 ∧ l = 2 * k)) (fun (k, q, l, c1) => 32 - k) ((0, some ⟨g6, 0, none⟩, 0, 64)) ⟨rfl, rfl, trivial⟩ ⟨hX, ⟨hO, by omega, by omega⟩⟩ ?_
  rintro ⟨k, q, l, c1⟩ GL0 w3 ⟨hE3, hO, hk, hlk⟩
  have hX := hE3
  refine c_seq ?_
  refine r_plain ?_
  refine p1 (x_lss rfl rfl) ?_
  refine r_nil ?_
  refine t_n ?_
  refine c_seq ?_
  first | refine c_dec rfl (fun hc9 => ?_) (fun hc9 => ?_) | refine c_if rfl (fun hc9 => ?_) (fun hc9 => ?_)
  · try simp only [decide_eq_true_eq, decide_eq_false_iff_not, Bool.not_eq_true, Bool.not_eq_false, Bool.not_eq_eq_eq_not, Bool.not_true, Bool.not_false, Int.not_lt, Int.not_le] at hc9
    refine c_skip ?_
    refine t_n ?_
    refine c_seq ?_
    refine c_block ?_
    refine c_seq ?_
    refine r_plain ?_
    refine p1 (x_ixval u35 sz5 un5 rfl rfl (by omega) (hv_get h k (by omega))) ?_
    refine p1 (x_assign (by conv => lhs; whnf)) ?_
    refine r_nil ?_
    refine t_n ?_
    have hb := (h.1.getD k 0).toNat_lt
    refine r_held (fun w1 w2 => Mod w.heap.size 5 w1 w2) mixed ?_
    intro w4 hE4
    have hX := hX.ext hE4
    have hO := hO.ext hE4
    have hSr5 : (fun w1 w2 => Mod w.heap.size 5 w1 w2) w4 w4 := Mod.refl _ _ _
    refine h_take 0 rfl (by kernel_rfl) (by kernel_rfl) (by kernel_rfl) hSr5 (fun wS hSS => by ( exact (x_move (by conv => lhs; whnf)))) ?_
    refine h_take 1 rfl (by kernel_rfl) (by kernel_rfl) (by kernel_rfl) hSr5 (fun wS hSS => by ( exact (x_move (by conv => lhs; whnf)))) ?_
    refine h_take 2 rfl (by kernel_rfl) (by kernel_rfl) (by kernel_rfl) hSr5 (fun wS hSS => by ( exact ((x_shr rfl rfl (by omega)).cast (congrArg _ (shr4 (h.1.getD k 0)))))) ?_
    refine h_take 3 rfl (by kernel_rfl) (by kernel_rfl) (by kernel_rfl) hSr5 (fun wS hSS => by ( exact (x_ixstr0 (s := hexS) u9 rfl rfl (by show _ < 16; omega)))) ?_
    refine h_take 4 rfl (by kernel_rfl) (by kernel_rfl) (by kernel_rfl) hSr5 (fun wS hSS => by ( exact (x_move (by conv => lhs; whnf)))) ?_
    refine h_take 5 rfl (by kernel_rfl) (by kernel_rfl) (by kernel_rfl) hSr5 (fun wS hSS => by ( exact ((x_and rfl rfl).cast (congrArg _ (and15 (h.1.getD k 0)))))) ?_
    refine h_take 6 rfl (by kernel_rfl) (by kernel_rfl) (by kernel_rfl) hSr5 (fun wS hSS => by ( exact (x_ixstr0 (s := hexS) u9 rfl rfl (by show _ < 16; omega)))) ?_
    refine h_one 7 _ rfl (by kernel_rfl) (hop_of_list (fun Q7 hQ7 => ?_))
    refine o_buildSlice u22 inf5 rfl (by decide) (fun base hb => fill_kn [.int .u8 ((hexd ((h.1.getD k 0).toNat / 16)).toNat : Int), .int .u8 ((hexd ((h.1.getD k 0).toNat % 16)).toNat : Int)] (by intro v hv'; simp only [List.mem_cons, List.not_mem_nil, or_false] at hv'; rcases hv' with rfl | rfl <;> rfl) base hb) ?_
    intro w5 g18 hN18
    have hE5 := hN18.ext
    have hX := hX.ext hE5
    have hO := hO.ext hE5
    have hSr5 := hSr5.ext hE5
    have hJ : Own kByte 5 0 0 w5 (some ⟨g18, 0, none⟩) 2 2 [hexd ((h.1.getD k 0).toNat / 16), hexd ((h.1.getD k 0).toNat % 16)] := own_lit [hexd ((h.1.getD k 0).toNat / 16), hexd ((h.1.getD k 0).toNat % 16)] hN18 (Nat.zero_le _) (by simp)
    refine hop_end hQ7 ⟨hSr5, ?_⟩
    refine h_one 8 _ rfl (by kernel_rfl) (hop_of_list (fun Q8 hQ8 => ?_))
    have hB1 := hX.size
    refine o_append (d := kByte) ([hexd ((h.1.getD k 0).toNat / 16), hexd ((h.1.getD k 0).toNat % 16)]) u22 inf5 rfl kByte_pos rfl rfl hO (src_pure u22 hJ.sl (by decide)) rfl (byte_all _ _ _) (rfl) (by omega) (by omega) (by omega) (by omega) (by decide) ?_
    intro p19 c19 w6 hO hM6
    have hX := hX.mod hM6 (Nat.le_refl _)
    have hSr5 := hSr5.mod hM6 (by first | exact Nat.le_refl _ | exact trivial | omega)
    refine hop_end hQ8 ⟨hSr5, ?_⟩
    refine h_take 9 rfl (by kernel_rfl) (by kernel_rfl) (by kernel_rfl) hSr5 (fun wS hSS => by ( exact (x_assign (by conv => lhs; whnf)))) ?_
    refine h_done (by kernel_rfl) ?_
    refine b_n ?_
    refine t_n ?_
    refine r_plain ?_
    refine p1 (x_add rfl rfl (fits_i64 (by omega) (by omega))) ?_
    refine p1 (x_move (by conv => lhs; whnf)) ?_
    refine r_nil ?_
    refine t_n (At.mk ((k + 1, p19, l + 2, c19)) (by repeat (first | exact Agr.refl _ _ | exact Agr.hav _ _ _ | refine Agr.upd rfl ?_ | refine Agr.updL ?_ _ rfl | refine Agr.hav' rfl ?_)) ⟨rfl, rfl, trivial⟩ ?_)
    exact ⟨⟨hX, ⟨by rw [getD_take_succ0 (by rw [h.2]; omega), List.flatMap_append, List.flatMap_singleton]; exact hO, by omega, by omega⟩⟩, by first | (dsimp only; omega) | ((show _ < _); omega)⟩
  · try simp only [decide_eq_true_eq, decide_eq_false_iff_not, Bool.not_eq_true, Bool.not_eq_false, Bool.not_eq_eq_eq_not, Bool.not_true, Bool.not_false, Int.not_lt, Int.not_le] at hc9
    have hk32 : k = 32 := by omega
    rw [hk32, List.take_of_length_le (by rw [h.2]; omega)] at hO
    refine c_exit ?_
    refine t_e ?_
    refine t_e ?_
    refine b_hit ?_
    refine t_n ?_
    refine c_seq ?_
    refine r_plain ?_
    refine p1 (x_move (by conv => lhs; whnf)) ?_
    refine p1 (x_bytes_str u22 u5 u9 rfl hO.sl) ?_
    refine p1 (x_assign (by conv => lhs; whnf)) ?_
    refine r_nil ?_
    refine t_n ?_
    refine c_ret ?_
    refine end1 rfl (by conv => lhs; whnf) ?_
    exact ⟨rfl, hX⟩
theorem ref01_Hex (h : Hash) (w : World) :
    Ret Try.prog 100 [.agg (hv h)] w (fun v w' => v = .string (toStr (hexs h)) ∧ Ext w w') := by
  have hX := Ext.refl w
  refine enter 24 _ Try.func100 rfl rfl (Nat.le_of_ble_eq_true rfl) ?_
  refine c_seq ?_
  refine r_plain ?_
  refine o_boxA (by conv => lhs; whnf) ?_
  intro w1 g1 hN1
  have hE1 := hN1.ext
  have hX := hX.ext hE1
  have hB1 := hN1.blk
  refine p1 (x_assign (by conv => lhs; whnf)) ?_
  refine r_nil ?_
  refine t_n ?_
  refine c_seq ?_
  refine r_plain ?_
  refine p1 (x_assign (by conv => lhs; whnf)) ?_
  refine r_nil ?_
  refine t_n ?_
  refine c_seq ?_
  refine c_seq ?_
  refine r_plain ?_
  refine p1 (x_assign (by conv => lhs; whnf)) ?_
  refine r_nil ?_
  refine t_n ?_
  refine c_block ?_
  have hO : Own kByte 5 0 w.heap.size _ none 0 0 [] := Own.nil kByte 5 0 w.heap.size w1
  refine c_loop (ι := Nat × Option Addr × Nat × Nat) [3, 4, 5, 6, 7, 8, 9, 10, 11, 12, 13, 14, 15, 16, 17, 18, 19, 20, 21] (fun (k, q, l, c1) => [(3, .slice q l c1), (4, .int .i64 (k : Int))]) (fun (k, q, l, c1) w' => Ext w w' ∧ (Own kByte 5 0 w.heap.size w' q l c1 ((h.1.take k).flatMap hex2) ∧ k ≤ 32 ∧ l = 2 * k ∧ Blk w' g1 (hv h) 35)) (fun (k, q, l, c1) => 32 - k) ((0, none, 0, 0)) ⟨rfl, rfl, trivial⟩ ⟨hX, ⟨hO, by omega, by omega, hB1⟩⟩ ?_
  rintro ⟨k, q, l, c1⟩ GL0 w2 ⟨hE2, hO, hk, hlk, hB1⟩
  have hX := hE2
  refine c_seq ?_
  refine c_seq ?_
  refine r_plain ?_
  refine p1 (x_move (by conv => lhs; whnf)) ?_
  refine p1 (x_lss rfl rfl) ?_
  refine r_nil ?_
  refine t_n ?_
  first | refine c_dec rfl (fun hc6 => ?_) (fun hc6 => ?_) | refine c_if rfl (fun hc6 => ?_) (fun hc6 => ?_)
  · try simp only [decide_eq_true_eq, decide_eq_false_iff_not, Bool.not_eq_true, Bool.not_eq_false, Bool.not_eq_eq_eq_not, Bool.not_true, Bool.not_false, Int.not_lt, Int.not_le] at hc6
    refine c_skip ?_
    refine t_n ?_
    refine c_seq ?_
    refine c_block ?_
    have hb := (h.1.getD k 0).toNat_lt
    refine r_held (fun w1 w2 => Mod w.heap.size 5 w1 w2) mixed ?_
    intro w3 hE3
    have hX := hX.ext hE3
    have hO := hO.ext hE3
    have hB1 := hB1.ext hE3
    have hSr5 : (fun w1 w2 => Mod w.heap.size 5 w1 w2) w3 w3 := Mod.refl _ _ _
    refine h_take 0 rfl (by kernel_rfl) (by kernel_rfl) (by kernel_rfl) hSr5 (fun wS hSS => by (have hB1 := hB1.mod hSS (by decide); exact (x_move (by conv => lhs; whnf)))) ?_
    refine h_take 1 rfl (by kernel_rfl) (by kernel_rfl) (by kernel_rfl) hSr5 (fun wS hSS => by (have hB1 := hB1.mod hSS (by decide); exact (x_move (by conv => lhs; whnf)))) ?_
    refine h_take 2 rfl (by kernel_rfl) (by kernel_rfl) (by kernel_rfl) hSr5 (fun wS hSS => by (have hB1 := hB1.mod hSS (by decide); exact (x_ixa0 u35 sz5 rfl rfl (by omega)))) ?_
    refine h_take 3 rfl (by kernel_rfl) (by kernel_rfl) (by kernel_rfl) hSr5 (fun wS hSS => by (have hB1 := hB1.mod hSS (by decide); exact (x_load1 un5 rfl (hB1.cell (hv_get h _ (by omega)))))) ?_
    refine h_take 4 rfl (by kernel_rfl) (by kernel_rfl) (by kernel_rfl) hSr5 (fun wS hSS => by (have hB1 := hB1.mod hSS (by decide); exact ((x_quo rfl rfl (by omega) (by omega) (fits_u8 (by omega) (by omega))).cast (congrArg _ (by omega : _ = (((h.1.getD k 0).toNat / 16 : Nat) : Int)))))) ?_
    refine h_take 5 rfl (by kernel_rfl) (by kernel_rfl) (by kernel_rfl) hSr5 (fun wS hSS => by (have hB1 := hB1.mod hSS (by decide); exact (x_ixstr0 (s := hexS) u9 rfl rfl (by show _ < 16; omega)))) ?_
    refine h_take 6 rfl (by kernel_rfl) (by kernel_rfl) (by kernel_rfl) hSr5 (fun wS hSS => by (have hB1 := hB1.mod hSS (by decide); exact (x_move (by conv => lhs; whnf)))) ?_
    refine h_take 7 rfl (by kernel_rfl) (by kernel_rfl) (by kernel_rfl) hSr5 (fun wS hSS => by (have hB1 := hB1.mod hSS (by decide); exact (x_ixa0 u35 sz5 rfl rfl (by omega)))) ?_
    refine h_take 8 rfl (by kernel_rfl) (by kernel_rfl) (by kernel_rfl) hSr5 (fun wS hSS => by (have hB1 := hB1.mod hSS (by decide); exact (x_load1 un5 rfl (hB1.cell (hv_get h _ (by omega)))))) ?_
    refine h_take 9 rfl (by kernel_rfl) (by kernel_rfl) (by kernel_rfl) hSr5 (fun wS hSS => by (have hB1 := hB1.mod hSS (by decide); exact ((x_rem rfl rfl (by omega) (by omega)).cast (congrArg _ (by omega : _ = (((h.1.getD k 0).toNat % 16 : Nat) : Int)))))) ?_
    refine h_take 10 rfl (by kernel_rfl) (by kernel_rfl) (by kernel_rfl) hSr5 (fun wS hSS => by (have hB1 := hB1.mod hSS (by decide); exact (x_ixstr0 (s := hexS) u9 rfl rfl (by show _ < 16; omega)))) ?_
    refine h_one 11 _ rfl (by kernel_rfl) (hop_of_list (fun Q11 hQ11 => ?_))
    refine o_buildSlice u22 inf5 rfl (by decide) (fun base hb => fill_kn [.int .u8 ((hexd ((h.1.getD k 0).toNat / 16)).toNat : Int), .int .u8 ((hexd ((h.1.getD k 0).toNat % 16)).toNat : Int)] (by intro v hv'; simp only [List.mem_cons, List.not_mem_nil, or_false] at hv'; rcases hv' with rfl | rfl <;> rfl) base hb) ?_
    intro w4 g20 hN20
    have hE4 := hN20.ext
    have hX := hX.ext hE4
    have hO := hO.ext hE4
    have hB1 := hB1.ext hE4
    have hSr5 := hSr5.ext hE4
    have hJ : Own kByte 5 0 0 w4 (some ⟨g20, 0, none⟩) 2 2 [hexd ((h.1.getD k 0).toNat / 16), hexd ((h.1.getD k 0).toNat % 16)] := own_lit [hexd ((h.1.getD k 0).toNat / 16), hexd ((h.1.getD k 0).toNat % 16)] hN20 (Nat.zero_le _) (by simp)
    refine hop_end hQ11 ⟨hSr5, ?_⟩
    refine h_one 12 _ rfl (by kernel_rfl) (hop_of_list (fun Q12 hQ12 => ?_))
    have hB1s := hX.size
    refine o_append (d := kByte) ([hexd ((h.1.getD k 0).toNat / 16), hexd ((h.1.getD k 0).toNat % 16)]) u22 inf5 rfl kByte_pos rfl rfl hO (src_pure u22 hJ.sl (by decide)) rfl (byte_all _ _ _) (rfl) (by omega) (by omega) (by omega) (by omega) (by decide) ?_
    intro p21 c21 w5 hO hM5
    have hX := hX.mod hM5 (Nat.le_refl _)
    have hB1 := hB1.mod hM5 (by decide)
    have hSr5 := hSr5.mod hM5 (by first | exact Nat.le_refl _ | exact trivial | omega)
    refine hop_end hQ12 ⟨hSr5, ?_⟩
    refine h_take 13 rfl (by kernel_rfl) (by kernel_rfl) (by kernel_rfl) hSr5 (fun wS hSS => by ( exact (x_assign (by conv => lhs; whnf)))) ?_
    refine h_done (by kernel_rfl) ?_
    refine b_n ?_
    refine t_n ?_
    refine r_plain ?_
    refine p1 (x_move (by conv => lhs; whnf)) ?_
    refine p1 (x_add rfl rfl (fits_i64 (by omega) (by omega))) ?_
    refine p1 (x_assign (by conv => lhs; whnf)) ?_
    refine r_nil ?_
    refine t_n (At.mk ((k + 1, p21, l + 2, c21)) (by repeat (first | exact Agr.refl _ _ | exact Agr.hav _ _ _ | refine Agr.upd rfl ?_ | refine Agr.updL ?_ _ rfl | refine Agr.hav' rfl ?_)) ⟨rfl, rfl, trivial⟩ ?_)
    exact ⟨⟨hX, ⟨by rw [getD_take_succ0 (by rw [h.2]; omega), List.flatMap_append, List.flatMap_singleton]; exact hO, by omega, by omega, hB1⟩⟩, by first | (dsimp only; omega) | ((show _ < _); omega)⟩
  · try simp only [decide_eq_true_eq, decide_eq_false_iff_not, Bool.not_eq_true, Bool.not_eq_false, Bool.not_eq_eq_eq_not, Bool.not_true, Bool.not_false, Int.not_lt, Int.not_le] at hc6
    have hk32 : k = 32 := by omega
    rw [hk32, List.take_of_length_le (by rw [h.2]; omega)] at hO
    refine c_exit ?_
    refine t_e ?_
    refine t_e ?_
    refine b_hit ?_
    refine t_n ?_
    refine c_seq ?_
    refine r_plain ?_
    refine p1 (x_move (by conv => lhs; whnf)) ?_
    refine p1 (x_bytes_str u22 u5 u9 rfl hO.sl) ?_
    refine p1 (x_assign (by conv => lhs; whnf)) ?_
    refine r_nil ?_
    refine t_n ?_
    refine c_ret ?_
    refine end1 rfl (by conv => lhs; whnf) ?_
    exact ⟨rfl, hX⟩
theorem hashes_Text (xs : List Hash) (B : Nat) (p : Option Addr) (n c : Nat) (w : World) (hl : Sl kHash 35 B w p n c xs) (hs : n ≤ 500) :
    Ret Try.prog 47 [.slice p n c] w (fun v w' => v = .string (text xs) ∧ Ext w w') := by
  have hX := Ext.refl w
  refine enter 32 _ Try.func47 rfl rfl (Nat.le_of_ble_eq_true rfl) ?_
  refine c_seq ?_
  refine r_plain ?_
  refine p1 (x_assign (by conv => lhs; whnf)) ?_
  refine r_nil ?_
  refine t_n ?_
  refine c_seq ?_
  refine c_seq ?_
  have hlen := hl.len
  have hfit := hl.fit
  have hcap := hl.cap
  refine r_plain ?_
  refine p1 (x_move (by conv => lhs; whnf)) ?_
  refine p1 (x_len_slice u31 rfl) ?_
  refine p1 (x_eql rfl rfl) ?_
  refine r_nil ?_
  refine t_n ?_
  first | refine c_dec rfl (fun hc8 => ?_) (fun hc8 => ?_) | refine c_if rfl (fun hc8 => ?_) (fun hc8 => ?_)
  · try simp only [decide_eq_true_eq, decide_eq_false_iff_not, Bool.not_eq_true, Bool.not_eq_false, Bool.not_eq_eq_eq_not, Bool.not_true, Bool.not_false, Int.not_lt, Int.not_le] at hc8
    have hx0 : xs = [] := List.eq_nil_of_length_eq_zero (by omega)
    have hp : text xs = ⟨#[45]⟩ := by rw [hx0]; rfl
    refine c_seq ?_
    refine r_plain ?_
    refine p1 (x_assign (by conv => lhs; whnf)) ?_
    refine r_nil ?_
    refine t_n ?_
    refine c_ret ?_
    refine t_r ?_
    refine end1 rfl (by conv => lhs; whnf) ?_
    exact ⟨by rw [hp], hX⟩
  · try simp only [decide_eq_true_eq, decide_eq_false_iff_not, Bool.not_eq_true, Bool.not_eq_false, Bool.not_eq_eq_eq_not, Bool.not_true, Bool.not_false, Int.not_lt, Int.not_le] at hc8
    refine c_skip ?_
    refine t_n ?_
    refine c_seq ?_
    refine r_plain ?_
    refine p1 (x_move (by conv => lhs; whnf)) ?_
    refine p1 (x_len_slice u31 rfl) ?_
    refine p1 (x_mul rfl rfl (fits_i64 (by omega) (by omega))) ?_
    have hXs := hX.size
    refine o_make u22 inf5 rfl rfl (by omega) (by omega) (by omega) (by omega) ?_
    intro w1 g12 hN12
    have hE1 := hN12.ext
    have hX := hX.ext hE1
    have hO : Own kByte 5 0 w.heap.size w1 (some ⟨g12, 0, none⟩) 0 (65 * n) [] := Own.made kByte 5 0 _ hN12 [] [] 0 (65 * n) rfl trivial hXs (by omega) (by omega) (by rw [size_madeCells]; show ((65 : Int) * n).toNat * 1 = _; show _ = 65 * n * 1; omega) (by simp)
    refine p1 (x_assign (by conv => lhs; whnf)) ?_
    refine r_nil ?_
    refine t_n ?_
    refine c_seq ?_
    refine c_seq ?_
    refine r_plain ?_
    refine p1 (x_move (by conv => lhs; whnf)) ?_
    refine p1 (x_len_slice u31 rfl) ?_
    refine p1 (x_move (by conv => lhs; whnf)) ?_
    refine r_nil ?_
    refine t_n ?_
    refine c_block ?_
    refine c_loop (ι := Nat × Option Addr × Nat × Nat) [3, 4, 5, 15, 16, 17, 18, 19, 20, 21, 22, 23, 24, 25, 26, 27, 28, 29] (fun (k, q, l, c1) => [(3, .slice q l c1), (15, .int .i64 (k : Int))]) (fun (k, q, l, c1) w' => Ext w w' ∧ (Own kByte 5 0 w.heap.size w' q l c1 (txtB (xs.take k)) ∧ k ≤ n)) (fun (k, q, l, c1) => n - k) ((0, some ⟨g12, 0, none⟩, 0, 65 * n)) ⟨rfl, rfl, trivial⟩ ⟨hX, ⟨hO, by omega⟩⟩ ?_
    rintro ⟨k, q, l, c1⟩ GL0 w2 ⟨hE2, hO, hk⟩
    have hX := hE2
    refine c_seq ?_
    refine r_plain ?_
    refine p1 (x_lss rfl rfl) ?_
    refine r_nil ?_
    refine t_n ?_
    refine c_seq ?_
    first | refine c_dec rfl (fun hc16 => ?_) (fun hc16 => ?_) | refine c_if rfl (fun hc16 => ?_) (fun hc16 => ?_)
    · try simp only [decide_eq_true_eq, decide_eq_false_iff_not, Bool.not_eq_true, Bool.not_eq_false, Bool.not_eq_eq_eq_not, Bool.not_true, Bool.not_false, Int.not_lt, Int.not_le] at hc16
      refine c_skip ?_
      refine t_n ?_
      refine c_seq ?_
      refine c_block ?_
      refine c_seq ?_
      have hll := hO.len
      have htl : (txtB (xs.take k)).length ≤ 65 * k := Nat.le_trans (txtB_len _) (Nat.mul_le_mul_left _ (by rw [List.length_take]; exact Nat.min_le_left _ _))
      refine r_plain ?_
      refine p1 (x_move (by conv => lhs; whnf)) ?_
      refine p1 (x_ixs u31 sz35 rfl rfl ((hl.ext hX).adr kHash_pos (by omega)) (by omega) (by omega)) ?_
      refine p1 (x_loadN ua35 rfl (hcs_sz sz35 _) ((hl.ext hX).hashAt _ (by omega) (by omega))) ?_
      have hsz := hX.size
      refine o_alloc zr35 ?_
      intro w3 g5 hN5
      have hE3 := hN5.ext
      have hX := hX.ext hE3
      have hO := hO.ext hE3
      have hB5 := hN5.blk
      refine p1 (x_assign (by conv => lhs; whnf)) ?_
      refine o_storeAll rfl rfl (kHash_one _) (hv_sz sz35 _) hB5 (hv_size _) ?_
      intro w4 hP4
      have hX := hX.put hP4 (by have := hN5.g_eq; omega)
      have hO := hO.mod (hP4.mod 0 (Nat.zero_le _)) (Nat.zero_le _) (by decide)
      have hB5 := hP4.blk
      refine r_nil ?_
      refine t_n ?_
      refine c_seq ?_
      refine c_seq ?_
      refine r_plain ?_
      refine p1 (x_move (by conv => lhs; whnf)) ?_
      refine p1 (x_gtr rfl rfl) ?_
      refine r_nil ?_
      refine t_n ?_
      first | refine c_dec rfl (fun hc21 => ?_) (fun hc21 => ?_) | refine c_if rfl (fun hc21 => ?_) (fun hc21 => ?_)
      · try simp only [decide_eq_true_eq, decide_eq_false_iff_not, Bool.not_eq_true, Bool.not_eq_false, Bool.not_eq_eq_eq_not, Bool.not_true, Bool.not_false, Int.not_lt, Int.not_le] at hc21
        refine r_plain ?_
        refine p1 (x_move (by conv => lhs; whnf)) ?_
        refine o_buildSlice u22 inf5 rfl (by decide) (fun base hb => fill_one (by rfl) base hb) ?_
        intro w5 g23 hN23
        have hE5 := hN23.ext
        have hX := hX.ext hE5
        have hO := hO.ext hE5
        have hB5 := hB5.ext hE5
        have hJ : Own kByte 5 0 0 w5 (some ⟨g23, 0, none⟩) 1 1 [44] := own_lit [44] hN23 (Nat.zero_le _) (by simp)
        have hB1 := hX.size
        refine o_append (d := kByte) ([44]) u22 inf5 rfl kByte_pos rfl rfl hO (src_pure u22 hJ.sl (by decide)) rfl (byte_all _ _ _) (rfl) (by omega) (by omega) (by omega) (by omega) (by decide) ?_
        intro p24 c24 w6 hO hM6
        have hX := hX.mod hM6 (Nat.le_refl _)
        have hB5 := hB5.mod hM6 (by decide)
        refine p1 (x_assign (by conv => lhs; whnf)) ?_
        refine r_nil ?_
        refine t_n ?_
        refine r_plain ?_
        refine p1 (x_move (by conv => lhs; whnf)) ?_
        refine p1 (x_loadB ua35 rfl hB5 (hv_sz sz35 _)) ?_
        refine o_call Try.func99 fn99 fb99 (sha_Hex (xs.getD k default) _) rfl ?_
        rintro v7 w7 ⟨rfl, hE7⟩
        have hX := hX.ext hE7
        have hB5 := hB5.ext hE7
        have hO := hO.ext hE7
        have hB2 := hX.size
        refine o_append (d := kByte) (hexs (xs.getD k default)) u22 inf5 rfl kByte_pos rfl rfl hO (src_str u9 (toStr (hexs (xs.getD k default)))) (toStr_size _).symm (byte_all _ _ _) (by rw [flat_single]; rfl) (by rw [toStr_size, hexs_len]; omega) (by rw [toStr_size, hexs_len]; omega) (by omega) (by omega) (by decide) ?_
        intro p28 c28 w8 hO hM8
        have hX := hX.mod hM8 (Nat.le_refl _)
        refine p1 (x_assign (by conv => lhs; whnf)) ?_
        refine r_nil ?_
        refine b_n ?_
        refine t_n ?_
        refine r_plain ?_
        refine p1 (x_add rfl rfl (fits_i64 (by omega) (by omega))) ?_
        refine p1 (x_move (by conv => lhs; whnf)) ?_
        refine r_nil ?_
        first
          | exact t_n (At.mk ((k + 1, p28, l + 1 + (toStr (hexs (xs.getD k default))).size, c28)) (by repeat (first | exact Agr.refl _ _ | exact Agr.hav _ _ _ | refine Agr.upd rfl ?_ | refine Agr.updL ?_ _ rfl | refine Agr.hav' rfl ?_)) ⟨rfl, rfl, trivial⟩ ⟨⟨hX, by rw [getD_take_succ (by omega), txtB_snoc, if_neg (fun e => by have h2 : (xs.take k).length = 0 := by { rw [e]; rfl }; rw [List.length_take] at h2; omega)]; simpa using hO, by omega⟩, by first | (dsimp only; omega) | ((show _ < _); omega)⟩)
          | exact t_n (At.mk ((k + 1, p28, l + (toStr (hexs (xs.getD k default))).size, c28)) (by repeat (first | exact Agr.refl _ _ | exact Agr.hav _ _ _ | refine Agr.upd rfl ?_ | refine Agr.updL ?_ _ rfl | refine Agr.hav' rfl ?_)) ⟨rfl, rfl, trivial⟩ ⟨⟨hX, by rw [getD_take_succ (by omega), txtB_snoc, if_pos (by rw [show k = 0 from by omega]; rfl)]; rw [show k = 0 from by omega] at hO ⊢; simpa [txtB] using hO, by omega⟩, by first | (dsimp only; omega) | ((show _ < _); omega)⟩)
      · try simp only [decide_eq_true_eq, decide_eq_false_iff_not, Bool.not_eq_true, Bool.not_eq_false, Bool.not_eq_eq_eq_not, Bool.not_true, Bool.not_false, Int.not_lt, Int.not_le] at hc21
        refine c_skip ?_
        refine t_n ?_
        refine r_plain ?_
        refine p1 (x_move (by conv => lhs; whnf)) ?_
        refine p1 (x_loadB ua35 rfl hB5 (hv_sz sz35 _)) ?_
        refine o_call Try.func99 fn99 fb99 (sha_Hex (xs.getD k default) _) rfl ?_
        rintro v9 w9 ⟨rfl, hE9⟩
        have hX := hX.ext hE9
        have hO := hO.ext hE9
        have hB5 := hB5.ext hE9
        have hB2 := hX.size
        refine o_append (d := kByte) (hexs (xs.getD k default)) u22 inf5 rfl kByte_pos rfl rfl hO (src_str u9 (toStr (hexs (xs.getD k default)))) (toStr_size _).symm (byte_all _ _ _) (by rw [flat_single]; rfl) (by rw [toStr_size, hexs_len]; omega) (by rw [toStr_size, hexs_len]; omega) (by omega) (by omega) (by decide) ?_
        intro p28 c28 w10 hO hM10
        have hX := hX.mod hM10 (Nat.le_refl _)
        refine p1 (x_assign (by conv => lhs; whnf)) ?_
        refine r_nil ?_
        refine b_n ?_
        refine t_n ?_
        refine r_plain ?_
        refine p1 (x_add rfl rfl (fits_i64 (by omega) (by omega))) ?_
        refine p1 (x_move (by conv => lhs; whnf)) ?_
        refine r_nil ?_
        first
          | exact t_n (At.mk ((k + 1, p28, l + 1 + (toStr (hexs (xs.getD k default))).size, c28)) (by repeat (first | exact Agr.refl _ _ | exact Agr.hav _ _ _ | refine Agr.upd rfl ?_ | refine Agr.updL ?_ _ rfl | refine Agr.hav' rfl ?_)) ⟨rfl, rfl, trivial⟩ ⟨⟨hX, by rw [getD_take_succ (by omega), txtB_snoc, if_neg (fun e => by have h2 : (xs.take k).length = 0 := by { rw [e]; rfl }; rw [List.length_take] at h2; omega)]; simpa using hO, by omega⟩, by first | (dsimp only; omega) | ((show _ < _); omega)⟩)
          | exact t_n (At.mk ((k + 1, p28, l + (toStr (hexs (xs.getD k default))).size, c28)) (by repeat (first | exact Agr.refl _ _ | exact Agr.hav _ _ _ | refine Agr.upd rfl ?_ | refine Agr.updL ?_ _ rfl | refine Agr.hav' rfl ?_)) ⟨rfl, rfl, trivial⟩ ⟨⟨hX, by rw [getD_take_succ (by omega), txtB_snoc, if_pos (by rw [show k = 0 from by omega]; rfl)]; rw [show k = 0 from by omega] at hO ⊢; simpa [txtB] using hO, by omega⟩, by first | (dsimp only; omega) | ((show _ < _); omega)⟩)
    · try simp only [decide_eq_true_eq, decide_eq_false_iff_not, Bool.not_eq_true, Bool.not_eq_false, Bool.not_eq_eq_eq_not, Bool.not_true, Bool.not_false, Int.not_lt, Int.not_le] at hc16
      have hkn : k = n := by omega
      rw [hkn, List.take_of_length_le (by omega)] at hO
      have hp : text xs = toStr (txtB xs) := if_neg (fun e => hc8 (by rw [e] at hlen; simp at hlen; omega))
      refine c_exit ?_
      refine t_e ?_
      refine t_e ?_
      refine b_hit ?_
      refine t_n ?_
      refine c_seq ?_
      refine r_plain ?_
      refine p1 (x_move (by conv => lhs; whnf)) ?_
      refine p1 (x_bytes_str u22 u5 u9 rfl hO.sl) ?_
      refine p1 (x_assign (by conv => lhs; whnf)) ?_
      refine r_nil ?_
      refine t_n ?_
      refine c_ret ?_
      refine end1 rfl (by conv => lhs; whnf) ?_
      exact ⟨by rw [hp], hX⟩
theorem ref06_Text (xs : List Hash) (B : Nat) (p : Option Addr) (n c : Nat) (w : World) (hl : Sl kHash 35 B w p n c xs) (hs : n ≤ 500) :
    Ret Try.prog 48 [.slice p n c] w (fun v w' => v = .string (text xs) ∧ Ext w w') := by
  have hX := Ext.refl w
  refine enter 27 _ Try.func48 rfl rfl (Nat.le_of_ble_eq_true rfl) ?_
  refine c_seq ?_
  refine r_plain ?_
  refine p1 (x_assign (by conv => lhs; whnf)) ?_
  refine r_nil ?_
  refine t_n ?_
  refine c_seq ?_
  refine c_seq ?_
  have hlen := hl.len
  have hfit := hl.fit
  have hcap := hl.cap
  refine r_plain ?_
  refine p1 (x_move (by conv => lhs; whnf)) ?_
  refine p1 (x_len_slice u31 rfl) ?_
  refine p1 (x_eql rfl rfl) ?_
  refine r_nil ?_
  refine t_n ?_
  first | refine c_dec rfl (fun hc7 => ?_) (fun hc7 => ?_) | refine c_if rfl (fun hc7 => ?_) (fun hc7 => ?_)
  · try simp only [decide_eq_true_eq, decide_eq_false_iff_not, Bool.not_eq_true, Bool.not_eq_false, Bool.not_eq_eq_eq_not, Bool.not_true, Bool.not_false, Int.not_lt, Int.not_le] at hc7
    have hx0 : xs = [] := List.eq_nil_of_length_eq_zero (by omega)
    have hp : text xs = ⟨#[45]⟩ := by rw [hx0]; rfl
    refine c_seq ?_
    refine r_plain ?_
    refine p1 (x_assign (by conv => lhs; whnf)) ?_
    refine r_nil ?_
    refine t_n ?_
    refine c_ret ?_
    refine t_r ?_
    refine end1 rfl (by conv => lhs; whnf) ?_
    exact ⟨by rw [hp], hX⟩
  · try simp only [decide_eq_true_eq, decide_eq_false_iff_not, Bool.not_eq_true, Bool.not_eq_false, Bool.not_eq_eq_eq_not, Bool.not_true, Bool.not_false, Int.not_lt, Int.not_le] at hc7
    refine c_skip ?_
    refine t_n ?_
    refine c_seq ?_
    refine r_plain ?_
    refine p1 (x_move (by conv => lhs; whnf)) ?_
    refine p1 (x_ixs u31 sz35 rfl rfl ((hl.ext hX).adr kHash_pos (by omega)) (by omega) (by omega)) ?_
    refine p1 (x_loadN ua35 rfl (hcs_sz sz35 _) ((hl.ext hX).hashAt _ (by omega) (by omega))) ?_
    refine o_call Try.func100 fn100 fb100 (ref01_Hex (xs.getD 0 default) _) rfl ?_
    rintro v1 w1 ⟨rfl, hE1⟩
    have hX := hX.ext hE1
    refine p1 (x_assign (by conv => lhs; whnf)) ?_
    refine r_nil ?_
    refine t_n ?_
    refine c_seq ?_
    refine c_seq ?_
    refine r_plain ?_
    refine p1 (x_assign (by conv => lhs; whnf)) ?_
    refine r_nil ?_
    refine t_n ?_
    refine c_block ?_
    have hWL0 := Ext.refl w1
    refine c_loop (ι := Nat × List UInt8) [3, 4, 12, 13, 14, 15, 16, 17, 18, 19, 20, 21, 22, 23, 24, 25] (fun (k, acc) => [(3, .string (toStr acc)), (4, .int .i64 ((k : Int) + 1))]) (fun (k, acc) w' => Ext w1 w' ∧ (k + 1 ≤ n ∧ acc = txtB (xs.take (k + 1)))) (fun (k, acc) => n - k) ((0, hexs (xs.getD 0 default))) ⟨rfl, rfl, trivial⟩ ⟨Ext.refl _, ⟨by omega, by rw [getD_take_succ (by omega), txtB_snoc, if_pos (by simp)]⟩⟩ ?_
    rintro ⟨k, acc⟩ GL0 w2 ⟨hE2, hk, hacc⟩
    have hX := hX.ext hE2
    have hWL0 := hE2
    refine c_seq ?_
    refine c_seq ?_
    refine r_plain ?_
    refine p1 (x_move (by conv => lhs; whnf)) ?_
    refine p1 (x_move (by conv => lhs; whnf)) ?_
    refine p1 (x_len_slice u31 rfl) ?_
    refine p1 (x_lss rfl rfl) ?_
    refine r_nil ?_
    refine t_n ?_
    first | refine c_dec rfl (fun hc15 => ?_) (fun hc15 => ?_) | refine c_if rfl (fun hc15 => ?_) (fun hc15 => ?_)
    · try simp only [decide_eq_true_eq, decide_eq_false_iff_not, Bool.not_eq_true, Bool.not_eq_false, Bool.not_eq_eq_eq_not, Bool.not_true, Bool.not_false, Int.not_lt, Int.not_le] at hc15
      refine c_skip ?_
      refine t_n ?_
      refine c_seq ?_
      refine c_block ?_
      have htl : (txtB (xs.take (k + 1))).length ≤ 65 * (k + 1) := Nat.le_trans (txtB_len _) (Nat.mul_le_mul_left _ (by rw [List.length_take]; exact Nat.min_le_left _ _))
      rw [← hacc] at htl
      refine r_plain ?_
      refine p1 (x_move (by conv => lhs; whnf)) ?_
      refine p1 ((x_add_str (t := toStr [44]) rfl rfl (by rw [toStr_size, toStr_size]; simp; omega)).cast (congrArg _ (toStr_append acc [44]))) ?_
      refine p1 (x_move (by conv => lhs; whnf)) ?_
      refine p1 (x_move (by conv => lhs; whnf)) ?_
      refine p1 (x_ixs u31 sz35 rfl rfl ((hl.ext hX).adr kHash_pos (by omega)) (by omega) (by omega)) ?_
      refine p1 ((x_loadN ua35 rfl (hcs_sz sz35 _) ((hl.ext hX).hashAt ((k : Int) + 1) (by omega) (by omega))).cast (by rw [show ((k : Int) + 1).toNat = k + 1 from by omega]; try rfl)) ?_
      refine o_call Try.func100 fn100 fb100 (ref01_Hex (xs.getD (k + 1) default) _) rfl ?_
      rintro v3 w3 ⟨rfl, hE3⟩
      have hX := hX.ext hE3
      have hWL0 := hWL0.ext hE3
      refine p1 ((x_add_str rfl rfl (by rw [toStr_size, toStr_size, hexs_len]; simp; omega)).cast (congrArg _ (toStr_append (acc ++ [44]) (hexs (xs.getD (k + 1) default))))) ?_
      refine p1 (x_assign (by conv => lhs; whnf)) ?_
      refine r_nil ?_
      refine b_n ?_
      refine t_n ?_
      refine r_plain ?_
      refine p1 (x_move (by conv => lhs; whnf)) ?_
      refine p1 (x_add rfl rfl (fits_i64 (by omega) (by omega))) ?_
      refine p1 (x_assign (by conv => lhs; whnf)) ?_
      refine r_nil ?_
      refine t_n (At.mk ((k + 1, acc ++ [44] ++ hexs (xs.getD (k + 1) default))) (by repeat (first | exact Agr.refl _ _ | exact Agr.hav _ _ _ | refine Agr.upd rfl ?_ | refine Agr.updL ?_ _ rfl | refine Agr.hav' rfl ?_)) ⟨rfl, rfl, trivial⟩ ?_)
      exact ⟨⟨hWL0, ⟨by omega, by rw [getD_take_succ (k := k + 1) (by omega), txtB_snoc, if_neg (fun e => by have h2 : (xs.take (k + 1)).length = 0 := by { rw [e]; rfl }; rw [List.length_take] at h2; omega), hacc]; simp⟩⟩, by first | (dsimp only; omega) | ((show _ < _); omega)⟩
    · try simp only [decide_eq_true_eq, decide_eq_false_iff_not, Bool.not_eq_true, Bool.not_eq_false, Bool.not_eq_eq_eq_not, Bool.not_true, Bool.not_false, Int.not_lt, Int.not_le] at hc15
      have hkn : k + 1 = n := by omega
      rw [hkn, List.take_of_length_le (by omega)] at hacc
      have hp : text xs = toStr acc := by rw [hacc]; exact if_neg (fun e => hc7 (by rw [e] at hlen; simp at hlen; omega))
      refine c_exit ?_
      refine t_e ?_
      refine t_e ?_
      refine b_hit ?_
      refine t_n ?_
      refine c_seq ?_
      refine r_plain ?_
      refine p1 (x_move (by conv => lhs; whnf)) ?_
      refine p1 (x_assign (by conv => lhs; whnf)) ?_
      refine r_nil ?_
      refine t_n ?_
      refine c_ret ?_
      refine end1 rfl (by conv => lhs; whnf) ?_
      exact ⟨by rw [hp], hX⟩
end Go.Proofs.Eng
