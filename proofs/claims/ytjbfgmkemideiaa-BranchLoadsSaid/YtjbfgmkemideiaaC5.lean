import Derived.Test.YtjbfgmkemideiaaC4
import Derived.Test.YtjbfgmkemideiaaF3
import Derived.Test.YtjbfgmkemideiaaT4
set_option linter.unusedVariables false
set_option linter.unusedSimpArgs false
set_option maxRecDepth 100000
set_option maxHeartbeats 4000000
namespace Go.Proofs.Eng
open Go.RowKit
open Extern.Stop (cell)
theorem law15_same (S S2 : Nat → Prop) (B0 g r : Nat) (l : List Br) (p : Option Addr) (n c : Nat) (w : World) (hT : Tbl S B0 w g r l) (hL : Sl (kBr S2) 81 0 w p n c l) :
    Ret Try.prog 64 [.pointer (some ⟨g, 0, none⟩), .agg #[.slice p n c]] w (fun v w' => v = .bool true ∧ Ext w w') := by
  have hX := Ext.refl w
  refine enter 50 _ Try.func64 rfl rfl (Nat.le_of_ble_eq_true rfl) ?_
  refine c_seq ?_
  refine r_plain ?_
  refine o_boxA (by conv => lhs; whnf) ?_
  intro w1 g3 hN3
  have hE1 := hN3.ext
  have hX := hX.ext hE1
  have hB3 := hN3.blk
  refine p1 (x_assign (by conv => lhs; whnf)) ?_
  refine r_nil ?_
  refine t_n ?_
  refine c_seq ?_
  refine r_plain ?_
  refine p1 (x_move (by conv => lhs; whnf)) ?_
  have hXs := hX.size
  refine o_call Try.func53 fn53 fb53 (branch_List S B0 g r l _ (hT.ext hX)) rfl ?_
  rintro v2 w2 ⟨⟨q5, m5, c5, rfl, hO⟩, hE2⟩
  have hX := hX.ext hE2
  have hB3 := hB3.ext hE2
  have hO := hO.brMono (S' := (fun j => w.heap.size ≤ j)) (fun j _ h => Nat.le_trans hXs h)
  refine p1 (x_assign (by conv => lhs; whnf)) ?_
  refine r_nil ?_
  refine t_n ?_
  refine c_seq ?_
  refine r_plain ?_
  refine p1 (x_move (by conv => lhs; whnf)) ?_
  refine p1 (x_fieldAddr fo70_0 sz30 rfl) ?_
  refine p1 (x_load1 un30 rfl (hB3.cell (rfl))) ?_
  refine o_call Try.func81 fn81 fb81 ((ref15_Same l l _ _ _ _ _ _ _ _ _ hO.sl.brA (hL.ext hX).brA).known (c := .bool true) (congrArg Value.bool (decide_eq_true rfl))) rfl ?_
  rintro v3 w3 ⟨rfl, hE3⟩
  have hX := hX.ext hE3
  have hB3 := hB3.ext hE3
  have hO := hO.ext hE3
  refine p1 (x_move (by conv => lhs; whnf)) ?_
  refine g1 15 rfl rfl (x_move (by conv => lhs; whnf)) ?_
  refine g1 15 rfl rfl (x_fieldAddr fo70_0 sz30 rfl) ?_
  refine g1 15 rfl rfl (x_load1 un30 rfl (hB3.cell (rfl))) ?_
  refine g_drop 15 rfl rfl ?_
  refine o_call Try.func66 fn66 fb66 ((branch_Same l l _ _ _ _ _ _ _ _ _ hO.sl.brA (hL.ext hX).brA).known (c := .bool true) (congrArg Value.bool (decide_eq_true rfl))) rfl ?_
  rintro v4 w4 ⟨rfl, hE4⟩
  have hX := hX.ext hE4
  have hB3 := hB3.ext hE4
  have hO := hO.ext hE4
  refine p1 (x_pick_t rfl (by conv => lhs; whnf)) ?_
  refine p1 (x_assign (by conv => lhs; whnf)) ?_
  refine r_nil ?_
  refine t_n ?_
  refine c_seq ?_
  refine c_seq ?_
  refine r_plain ?_
  refine p1 (x_assign (by conv => lhs; whnf)) ?_
  refine r_nil ?_
  refine t_n ?_
  refine c_block ?_
  have hS := hO.sl.sh
  have hml := hO.len
  refine c_loop (ι := Nat) [7, 8, 21, 22, 23, 24, 25, 26, 27, 28, 29, 30, 31, 32, 33, 34, 35, 36, 37, 38, 39, 40, 41, 42, 43, 44, 45, 46, 47, 48] (fun i => [(7, .int .i64 (i : Int))]) (fun i w' => Ext w w' ∧ (Sl (kSh (fun j => w.heap.size ≤ j)) 81 0 w' q5 m5 c5 (l.map fun x => x.2.length) ∧ i ≤ m5)) (fun i => m5 - i) (0) ⟨rfl, trivial⟩ ⟨hX, ⟨hS, by omega⟩⟩ ?_
  rintro i GL0 w5 ⟨hE5, hS, hi⟩
  have hX := hE5
  have hcap5 := hS.cap
  have hfit5 := hS.fit
  refine c_seq ?_
  refine c_seq ?_
  refine r_plain ?_
  refine p1 (x_move (by conv => lhs; whnf)) ?_
  refine p1 (x_move (by conv => lhs; whnf)) ?_
  refine p1 (x_len_slice u30 rfl) ?_
  refine p1 (x_lss rfl rfl) ?_
  refine r_nil ?_
  refine t_n ?_
  first | refine c_dec rfl (fun hc24 => ?_) (fun hc24 => ?_) | refine c_if rfl (fun hc24 => ?_) (fun hc24 => ?_)
  · try simp only [decide_eq_true_eq, decide_eq_false_iff_not, Bool.not_eq_true, Bool.not_eq_false, Bool.not_eq_eq_eq_not, Bool.not_true, Bool.not_false, Int.not_lt, Int.not_le] at hc24
    refine c_skip ?_
    refine t_n ?_
    refine c_seq ?_
    refine c_block ?_
    refine c_seq ?_
    refine r_plain ?_
    refine p1 (x_assign (by conv => lhs; whnf)) ?_
    refine r_nil ?_
    refine t_n ?_
    refine c_block ?_
    refine c_loop (ι := Nat) [8, 27, 28, 29, 30, 31, 32, 33, 34, 35, 36, 37, 38, 39, 40, 41, 42, 43, 44, 45, 46, 47, 48] (fun k => [(8, .int .i64 (k : Int))]) (fun k w' => Ext w w' ∧ (Sl (kSh (fun j => w.heap.size ≤ j)) 81 0 w' q5 m5 c5 (l.map fun x => x.2.length) ∧ k ≤ (l.map fun x => x.2.length).getD i 0)) (fun k => (l.map fun x => x.2.length).getD i 0 - k) (0) ⟨rfl, trivial⟩ ⟨hX, ⟨hS, by omega⟩⟩ ?_
    rintro k GL2 w6 ⟨hE6, hS, hk⟩
    have hX := hE6
    refine c_seq ?_
    refine c_seq ?_
    obtain ⟨qh, ch, hch, hsh⟩ := hS.shAt i (by omega)
    have hfh := hsh.fit
    refine r_plain ?_
    refine p1 (x_move (by conv => lhs; whnf)) ?_
    refine p1 (x_move (by conv => lhs; whnf)) ?_
    refine p1 (x_move (by conv => lhs; whnf)) ?_
    refine p1 (x_ixs u30 sz81 rfl rfl (hS.adr kSh_pos (by omega)) (by omega) (by omega)) ?_
    refine p1 (x_fieldAddr fo81_1 sz31 rfl) ?_
    refine p1 (x_load1 un31 rfl hch) ?_
    refine p1 (x_len_slice u31 rfl) ?_
    refine p1 (x_lss rfl rfl) ?_
    refine r_nil ?_
    refine t_n ?_
    first | refine c_dec rfl (fun hc34 => ?_) (fun hc34 => ?_) | refine c_if rfl (fun hc34 => ?_) (fun hc34 => ?_)
    · try simp only [decide_eq_true_eq, decide_eq_false_iff_not, Bool.not_eq_true, Bool.not_eq_false, Bool.not_eq_eq_eq_not, Bool.not_true, Bool.not_false, Int.not_lt, Int.not_le] at hc34
      refine c_skip ?_
      refine t_n ?_
      refine c_seq ?_
      refine c_block ?_
      refine r_tail 12 mixed (by kernel_rfl) ?_
      intro w7 hE7
      have hX := hX.ext hE7
      have hS := hS.ext hE7
      obtain ⟨qh, ch, hch, hsh⟩ := hS.shAt i (by omega)
      obtain ⟨bb, hbb⟩ := hsh.cells (k * 32) (by omega)
      refine s1 (x_move (by conv => lhs; whnf)) ?_
      refine s1 (x_move (by conv => lhs; whnf)) ?_
      refine s1 (x_ixs u30 sz81 rfl rfl (hS.adr kSh_pos (by omega)) (by omega) (by omega)) ?_
      refine s1 (x_fieldAddr fo81_1 sz31 rfl) ?_
      refine s1 (x_load1 un31 rfl hch) ?_
      refine s1 (x_move (by conv => lhs; whnf)) ?_
      refine s1 (x_ixs u31 sz35 rfl rfl (hsh.fp (by omega)).1 (by omega) (by omega)) ?_
      refine s1 (x_ixa u35 sz5 rfl rfl (by omega) (by omega)) ?_
      refine s1 (x_load1 un5 rfl hbb) ?_
      refine s1 ((x_addw rfl rfl).cast (congrArg _ (u8_inc bb))) ?_
      refine s1 (x_ixs u31 sz35 rfl rfl (hsh.fp (by omega)).1 (by omega) (by omega)) ?_
      refine s1 (x_ixa u35 sz5 rfl rfl (by omega) (by omega)) ?_
      refine s_nil ?_
      refine o_storeSh (j := k * 32) (b := bb + 1) hsh (by omega) rfl rfl sz5 ?_
      intro w8 cs8 hBc hP8
      have hX := hX.put hP8 ((hsh.fp (by omega)).2.1)
      have hS := hS.shSet (by decide) hBc hP8
      refine r_nil ?_
      refine b_n ?_
      refine t_n ?_
      refine r_plain ?_
      refine p1 (x_move (by conv => lhs; whnf)) ?_
      refine p1 (x_add rfl rfl (fits_i64 (by omega) (by omega))) ?_
      refine p1 (x_assign (by conv => lhs; whnf)) ?_
      refine r_nil ?_
      refine t_n (At.mk (k + 1) (by repeat (first | exact Agr.refl _ _ | exact Agr.hav _ _ _ | refine Agr.upd rfl ?_ | refine Agr.updL ?_ _ rfl | refine Agr.hav' rfl ?_)) ⟨rfl, trivial⟩ ?_)
      exact ⟨⟨hX, ⟨hS, by omega⟩⟩, by first | (dsimp only; omega) | ((show _ < _); omega)⟩
    · try simp only [decide_eq_true_eq, decide_eq_false_iff_not, Bool.not_eq_true, Bool.not_eq_false, Bool.not_eq_eq_eq_not, Bool.not_true, Bool.not_false, Int.not_lt, Int.not_le] at hc34
      refine c_exit ?_
      refine t_e ?_
      refine t_e ?_
      refine b_hit ?_
      refine b_n ?_
      refine t_n ?_
      refine r_plain ?_
      refine p1 (x_move (by conv => lhs; whnf)) ?_
      refine p1 (x_add rfl rfl (fits_i64 (by omega) (by omega))) ?_
      refine p1 (x_assign (by conv => lhs; whnf)) ?_
      refine r_nil ?_
      refine t_n (At.mk (i + 1) (by repeat (first | exact Agr.refl _ _ | exact Agr.hav _ _ _ | refine Agr.upd rfl ?_ | refine Agr.updL ?_ _ rfl | refine Agr.hav' rfl ?_)) ⟨rfl, trivial⟩ ?_)
      exact ⟨⟨hX, ⟨hS, by omega⟩⟩, by first | (dsimp only; omega) | ((show _ < _); omega)⟩
  · try simp only [decide_eq_true_eq, decide_eq_false_iff_not, Bool.not_eq_true, Bool.not_eq_false, Bool.not_eq_eq_eq_not, Bool.not_true, Bool.not_false, Int.not_lt, Int.not_le] at hc24
    refine c_exit ?_
    refine t_e ?_
    refine t_e ?_
    refine b_hit ?_
    refine t_n ?_
    refine c_seq ?_
    refine r_plain ?_
    refine p1 (x_move (by conv => lhs; whnf)) ?_
    refine p1 (x_assign (by conv => lhs; whnf)) ?_
    refine r_nil ?_
    refine t_n ?_
    refine c_ret ?_
    refine end1 rfl (by conv => lhs; whnf) ?_
    exact ⟨rfl, hX⟩
theorem law15_do (S S2 : Nat → Prop) (B0 g r : Nat) (l : List Br) (kd : UInt8) (k : ByteArray) (hs : List Hash) (B : Nat) (p q : Option Addr) (n c m c2 : Nat) (w : World) (hT : Tbl S B0 w g r l) (hL : Sl (kBr S2) 81 0 w p n c l) (ha : Sl kHash 35 B w q m c2 hs) (hBB : B ≤ B0) (hk : k.size ≤ 9223372036854775807) (hm : m ≤ 4398046511104) :
    Ret Try.prog 63 [.pointer (some ⟨g, 0, none⟩), .agg #[.slice p n c], .agg #[.int .u8 (kd.toNat : Int), .string k, .slice q m c2]] w (fun v w' => (∃ q' m' c', v = .tuple #[.agg #[.slice q' m' c'], .bool true] ∧ Tbl (below w') B0 w' g r (brDo l kd.toNat k hs).1 ∧ Sl (kBr (below w')) 81 0 w' q' m' c' (brDo l kd.toNat k hs).1) ∧ Mod B0 tMap w w') := by
  have hT := hT.now
  have hL := hL.now
  have hX := Mod.refl B0 tMap w
  refine enter 81 _ Try.func63 rfl rfl (Nat.le_of_ble_eq_true rfl) ?_
  refine c_seq ?_
  refine r_plain ?_
  have hXs0 := hX.size
  refine o_boxA (by conv => lhs; whnf) ?_
  intro w1 g4 hN4
  have hE1 := hN4.ext
  have hX := hX.ext hE1
  have hT := hT.ext hE1
  have hB4 := hN4.blk
  have hg4 := hN4.g_eq
  have hB4lt := hB4.lt
  refine o_boxA (by conv => lhs; whnf) ?_
  intro w2 g5 hN5
  have hE2 := hN5.ext
  have hX := hX.ext hE2
  have hT := hT.ext hE2
  have hB4 := hB4.ext hE2
  have hB5 := hN5.blk
  have hg5 := hN5.g_eq
  have hB5lt := hB5.lt
  have hE5 := hN5.ext.size
  refine o_alloc zr70 ?_
  intro w3 g6 hN6
  have hE3 := hN6.ext
  have hX := hX.ext hE3
  have hT := hT.ext hE3
  have hB4 := hB4.ext hE3
  have hB5 := hB5.ext hE3
  have hB6 := hN6.blk
  refine p1 (x_assign (by conv => lhs; whnf)) ?_
  refine r_nil ?_
  refine t_n ?_
  refine c_seq ?_
  have hg6 := hN6.g_eq
  have hXs6 := hX.size
  have hlenl := hL.len
  have hfew := hT.few
  have hrl := hT.rise
  refine r_plain ?_
  have hXs := hX.size
  refine o_buildSlice u31 inf35 rfl (by decide) (fun base hb => by have h0 : base = #[] := Array.eq_empty_of_size_eq_zero (by simpa using hb); subst h0; rfl) ?_
  intro w4 g12 hN12
  have hE4 := hN12.ext
  have hX := hX.ext hE4
  have hT := hT.ext hE4
  have hB4 := hB4.ext hE4
  have hB5 := hB5.ext hE4
  have hB6 := hB6.ext hE4
  have hO : Own kHash 35 0 w.heap.size w4 (some ⟨g12, 0, none⟩) 0 0 [] := Own.made kHash 35 0 _ hN12 [] [] 0 0 rfl trivial hXs (by omega) (by omega) (by rfl) (by simp)
  refine p1 (x_fieldAddr fo74_2 sz31 rfl) ?_
  refine p1 (x_load1 un31 rfl (hB5.cell (rfl))) ?_
  have hq1 := hX.size
  refine o_append (d := kHash) (hs) u31 inf35 rfl kHash_pos rfl rfl hO (src_pure u31 (ha.mod hX hBB (by decide)) (by decide)) ha.len (hash_all _ _ _) (rfl) (by omega) (by omega) (by omega) (by omega) (by decide) ?_
  intro p15 c15 w5 hO hM5
  have hX := hX.modNew hM5 (Nat.le_refl _)
  have hT := hT.modB hM5 (fun j h => h) (by decide)
  have hB4 := hB4.mod hM5 (by decide)
  have hB5 := hB5.mod hM5 (by decide)
  have hB6 := hB6.mod hM5 (by decide)
  rw [List.nil_append] at hO
  refine p1 (x_assign (by conv => lhs; whnf)) ?_
  refine r_nil ?_
  refine t_n ?_
  refine c_seq ?_
  refine r_plain ?_
  refine p1 (x_assign (by conv => lhs; whnf)) ?_
  refine p1 (x_assign (by conv => lhs; whnf)) ?_
  refine r_nil ?_
  refine t_n ?_
  refine c_seq ?_
  refine c_seq ?_
  refine r_plain ?_
  refine p1 (x_fieldAddr fo74_0 sz5 rfl) ?_
  refine p1 (x_load1 un5 rfl (hB5.cell (rfl))) ?_
  refine p1 (x_rem rfl rfl (by omega) (by omega)) ?_
  refine r_nil ?_
  refine t_n ?_
  refine c_block ?_
  refine c_seq ?_
  refine c_seq ?_
  refine r_plain ?_
  refine p1 (x_eql rfl rfl) ?_
  refine p1 (x_assign (by conv => lhs; whnf)) ?_
  refine r_nil ?_
  refine t_n ?_
  first | refine c_dec rfl (fun hc30 => ?_) (fun hc30 => ?_) | refine c_if rfl (fun hc30 => ?_) (fun hc30 => ?_)
  · try simp only [decide_eq_true_eq, decide_eq_false_iff_not, Bool.not_eq_true, Bool.not_eq_false, Bool.not_eq_eq_eq_not, Bool.not_true, Bool.not_false, Int.not_lt, Int.not_le] at hc30
    refine c_skip ?_
    refine t_n ?_
    first | refine c_dec rfl (fun hc30 => ?_) (fun hc30 => ?_) | refine c_if rfl (fun hc30 => ?_) (fun hc30 => ?_)
    · try simp only [decide_eq_true_eq, decide_eq_false_iff_not, Bool.not_eq_true, Bool.not_eq_false, Bool.not_eq_eq_eq_not, Bool.not_true, Bool.not_false, Int.not_lt, Int.not_le] at hc30
      refine c_seq ?_
      have hd : (brDo l kd.toNat k hs) = brCreate l k hs := by unfold brDo; rw [if_pos (by omega)]
      refine r_plain ?_
      refine p1 (x_move (by conv => lhs; whnf)) ?_
      refine p1 (x_fieldAddr fo74_1 sz9 rfl) ?_
      refine p1 (x_load1 un9 rfl (hB5.cell (rfl))) ?_
      refine p1 (x_move (by conv => lhs; whnf)) ?_
      have hAw : 0 < m → w.heap.size ≤ ab p15 ∧ ab p15 < w5.heap.size := fun h => hO.away (by omega)
      refine o_call Try.func50 fn50 fb50 (branch_Create (below w) B0 g r l k hs _ _ _ _ _ hT hO.sl hk) rfl ?_
      rintro v6 w6 ⟨rfl, hT, hM6⟩
      have hX := hX.mod hM6 (trivial)
      have hB4 := hB4.mod hM6 (by decide)
      have hB5 := hB5.mod hM6 (by decide)
      have hB6 := hB6.mod hM6 (by decide)
      have hO := hO.mod hM6 (Nat.zero_le _) (by decide)
      have hT := hT.mono (S' := (fun j => 0 < m → j ≠ ab p15)) (fun j _ h hm0 e => by have h1 := hAw hm0; subst e; first | (have h2 : ab p15 < w.heap.size := h; omega) | (rcases h with h | h; (· have h2 : ab p15 < w.heap.size := h; omega); (· omega)))
      refine p1 (x_assign (by conv => lhs; whnf)) ?_
      refine r_nil ?_
      refine t_n ?_
      refine r_plain ?_
      refine p1 (x_loadB ua70 rfl hB4 sz70) ?_
      refine p1 (x_fieldAddr fo74_1 sz9 rfl) ?_
      refine p1 (x_load1 un9 rfl (hB5.cell (rfl))) ?_
      refine p1 (x_fieldAddr fo74_2 sz31 rfl) ?_
      refine p1 (x_load1 un31 rfl (hB5.cell (rfl))) ?_
      have hAw : 0 < m → w.heap.size ≤ ab p15 ∧ ab p15 < w6.heap.size := fun h => hO.away (by omega)
      refine o_call Try.func108 fn108 fb108 (ref15_Create (below w) l k hs _ _ _ _ _ _ _ _ (hL.mod hX (Nat.zero_le _) (by simp [kBr, tMap])) hrl (by omega) (ha.mod hX hBB (by decide)) hk) rfl ?_
      rintro v7 w7 ⟨⟨qr, mr, cr, rfl, hR⟩, hE7⟩
      have hX := hX.ext hE7
      have hB4 := hB4.ext hE7
      have hB5 := hB5.ext hE7
      have hB6 := hB6.ext hE7
      have hO := hO.ext hE7
      have hT := hT.ext hE7
      have hR := hR.brMono (S' := (fun j => 0 < m → j ≠ ab p15)) (fun j _ h hm0 e => by have h1 := hAw hm0; subst e; first | (have h2 : ab p15 < w.heap.size := h; omega) | (rcases h with h | h; (· have h2 : ab p15 < w.heap.size := h; omega); (· omega)))
      refine p1 (x_move (by conv => lhs; whnf)) ?_
      refine p1 (x_extract rfl rfl) ?_
      refine p1 (x_extract rfl rfl) ?_
      refine o_storeAll rfl (by conv => lhs; whnf) (by simp [Value.oneCell']) (by exact sz70) hB4 (by rfl) ?_
      intro w8 hP8
      have hX := hX.put hP8 (by omega)
      have hB4 := hP8.blk
      have hB5 := hP8.keep hB5 (by omega)
      have hB6 := hP8.keep hB6 (by omega)
      have hO := hO.mod (hP8.mod 0 (Nat.zero_le _)) (Nat.zero_le _) (by decide)
      have hT := hT.mod (hP8.mod 0 (Nat.zero_le _)) (Nat.zero_le _) (by decide)
      have hR := hR.mod (hP8.mod 0 (Nat.zero_le _)) (Nat.zero_le _) (by simp [kBr])
      refine p1 (x_assign (by conv => lhs; whnf)) ?_
      refine r_nil ?_
      refine b_n ?_
      refine t_n ?_
      refine c_seq ?_
      refine c_seq ?_
      refine r_plain ?_
      refine p1 (x_assign (by conv => lhs; whnf)) ?_
      refine r_nil ?_
      refine t_n ?_
      refine c_block ?_
      have hAw : 0 < m → w.heap.size ≤ ab p15 := fun h => (hO.away (by omega)).1
      rw [← hd] at hT hR
      refine c_loop (ι := Nat × List Hash) [11, 63, 64, 65, 66, 67, 68, 69, 70, 71, 72, 73, 74, 75, 76] (fun (i, zs) => [(11, .int .i64 (i : Int))]) (fun (i, zs) w' => Mod B0 tMap w w' ∧ (Tbl (fun j => 0 < m → j ≠ ab p15) B0 w' g r (brDo l kd.toNat k hs).1 ∧ Sl (kBr (fun j => 0 < m → j ≠ ab p15)) 81 0 w' qr mr cr (brDo l kd.toNat k hs).1 ∧ Own kHash 35 0 w.heap.size w' p15 (0 + m) c15 zs ∧ Blk w' g4 #[.slice qr mr cr] 70 ∧ Blk w' g6 (Value.agg #[.slice none 0 0]).cells 70 ∧ i ≤ m)) (fun (i, zs) => m - i) ((0, hs)) ⟨rfl, trivial⟩ ⟨hX, ⟨hT, hR, hO, hB4, hB6, by omega⟩⟩ ?_
      rintro ⟨i, zs⟩ GL1 w9 ⟨hE9, hT, hR, hO, hB4, hB6, hi⟩
      have hX := hE9
      have hsm := hO.small
      refine c_seq ?_
      refine c_seq ?_
      refine r_plain ?_
      refine p1 (x_move (by conv => lhs; whnf)) ?_
      refine p1 (x_move (by conv => lhs; whnf)) ?_
      refine p1 (x_len_slice u31 rfl) ?_
      refine p1 (x_lss rfl rfl) ?_
      refine r_nil ?_
      refine t_n ?_
      first | refine c_dec rfl (fun hc66 => ?_) (fun hc66 => ?_) | refine c_if rfl (fun hc66 => ?_) (fun hc66 => ?_)
      · try simp only [decide_eq_true_eq, decide_eq_false_iff_not, Bool.not_eq_true, Bool.not_eq_false, Bool.not_eq_eq_eq_not, Bool.not_true, Bool.not_false, Int.not_lt, Int.not_le] at hc66
        refine c_skip ?_
        refine t_n ?_
        refine c_seq ?_
        refine c_block ?_
        refine r_tail 8 mixed (by kernel_rfl) ?_
        intro w10 hE10
        have hX := hX.ext hE10
        have hT := hT.ext hE10
        have hR := hR.ext hE10
        have hO := hO.ext hE10
        have hB4 := hB4.ext hE10
        have hB6 := hB6.ext hE10
        refine s1 (x_move (by conv => lhs; whnf)) ?_
        refine s1 (x_move (by conv => lhs; whnf)) ?_
        refine s1 (x_ixs u31 sz35 rfl rfl (hO.sl.adr kHash_pos (by omega)) (by omega) (by omega)) ?_
        refine s1 (x_ixa u35 sz5 rfl rfl (by omega) (by omega)) ?_
        refine s1 (x_load1 un5 rfl ((hO.sl.hashAt (i : Int) (by omega) (by omega)) 0 _ (hcs_get (zs.getD ((i : Int)).toNat default) 0 (by omega)))) ?_
        refine s1 ((x_addw rfl rfl).cast (congrArg _ (u8_inc ((zs.getD ((i : Int)).toNat default).1.getD 0 0)))) ?_
        refine s1 (x_ixs u31 sz35 rfl rfl (hO.sl.adr kHash_pos (by omega)) (by omega) (by omega)) ?_
        refine s1 (x_ixa u35 sz5 rfl rfl (by omega) (by omega)) ?_
        refine s_nil ?_
        refine o_storeInP (d := kHash) (i := i) (j := 0) default ((zs.getD ((i : Int)).toNat default).put 0 ((zs.getD ((i : Int)).toNat default).1.getD 0 0 + 1)) rfl (by conv => lhs; whnf) rfl rfl hO (by omega) (by decide) (fun cx hcx => kHash_put cx hcx) sz5 (Nat.zero_le _) (by decide) ?_
        intro w11 cs11 hO hP11
        have hX := hX.put hP11 (hAw (by omega))
        have hT := hT.put hP11 (fun h => h (by omega) rfl) (by decide)
        have hR := hR.brPut hP11 (fun h => h (by omega) rfl) (by decide)
        have hB4 := hB4.mod (hP11.mod 0 (Nat.zero_le _)) (by decide)
        have hB6 := hB6.mod (hP11.mod 0 (Nat.zero_le _)) (by decide)
        refine r_nil ?_
        refine b_n ?_
        refine t_n ?_
        refine r_plain ?_
        refine p1 (x_move (by conv => lhs; whnf)) ?_
        refine p1 (x_add rfl rfl (fits_i64 (by omega) (by omega))) ?_
        refine p1 (x_assign (by conv => lhs; whnf)) ?_
        refine r_nil ?_
        refine t_n (At.mk ((i + 1, zs.set i ((zs.getD ((i : Int)).toNat default).put 0 ((zs.getD ((i : Int)).toNat default).1.getD 0 0 + 1)))) (by repeat (first | exact Agr.refl _ _ | exact Agr.hav _ _ _ | refine Agr.upd rfl ?_ | refine Agr.updL ?_ _ rfl | refine Agr.hav' rfl ?_)) ⟨rfl, trivial⟩ ?_)
        exact ⟨⟨hX, ⟨hT, hR, hO, hB4, hB6, by omega⟩⟩, by first | (dsimp only; omega) | ((show _ < _); omega)⟩
      · try simp only [decide_eq_true_eq, decide_eq_false_iff_not, Bool.not_eq_true, Bool.not_eq_false, Bool.not_eq_eq_eq_not, Bool.not_true, Bool.not_false, Int.not_lt, Int.not_le] at hc66
        refine c_exit ?_
        refine t_e ?_
        refine t_e ?_
        refine b_hit ?_
        refine t_n ?_
        refine c_seq ?_
        refine r_plain ?_
        refine p1 (x_loadB ua70 rfl hB4 sz70) ?_
        refine p1 (x_move (by conv => lhs; whnf)) ?_
        refine p1 (x_move (by conv => lhs; whnf)) ?_
        refine p1 ((x_eql rfl rfl).cast (congrArg Value.bool (decide_eq_true rfl))) ?_
        refine o_storeAll rfl (by conv => lhs; whnf) (by simp [Value.oneCell']) (by exact sz70) hB6 (by rfl) ?_
        intro w12 hP12
        have hX := hX.put hP12 (by omega)
        have hT := hT.mod (hP12.mod 0 (Nat.zero_le _)) (Nat.zero_le _) (by decide)
        have hR := hR.mod (hP12.mod 0 (Nat.zero_le _)) (Nat.zero_le _) (by simp [kBr])
        have hO := hO.mod (hP12.mod 0 (Nat.zero_le _)) (Nat.zero_le _) (by decide)
        have hB4 := hP12.keep hB4 (by omega)
        have hB6 := hP12.blk
        refine p1 (x_assign (by conv => lhs; whnf)) ?_
        refine r_nil ?_
        refine t_n ?_
        refine c_ret ?_
        refine end2c rfl ua70 rfl (by conv => lhs; whnf) hB6 sz70 ?_
        exact ⟨⟨_, _, _, rfl, hT.now, hR.now⟩, hX⟩
    · try simp only [decide_eq_true_eq, decide_eq_false_iff_not, Bool.not_eq_true, Bool.not_eq_false, Bool.not_eq_eq_eq_not, Bool.not_true, Bool.not_false, Int.not_lt, Int.not_le] at hc30
      refine c_seq ?_
      refine r_plain ?_
      refine p1 (x_eql rfl rfl) ?_
      refine p1 (x_assign (by conv => lhs; whnf)) ?_
      refine r_nil ?_
      refine t_n ?_
      first | refine c_dec rfl (fun hc47 => ?_) (fun hc47 => ?_) | refine c_if rfl (fun hc47 => ?_) (fun hc47 => ?_)
      · try simp only [decide_eq_true_eq, decide_eq_false_iff_not, Bool.not_eq_true, Bool.not_eq_false, Bool.not_eq_eq_eq_not, Bool.not_true, Bool.not_false, Int.not_lt, Int.not_le] at hc47
        refine c_seq ?_
        have hd : (brDo l kd.toNat k hs) = brMove l k hs := by unfold brDo; rw [if_neg (by omega), if_pos (by omega)]
        refine r_plain ?_
        refine p1 (x_move (by conv => lhs; whnf)) ?_
        refine p1 (x_fieldAddr fo74_1 sz9 rfl) ?_
        refine p1 (x_load1 un9 rfl (hB5.cell (rfl))) ?_
        refine p1 (x_move (by conv => lhs; whnf)) ?_
        have hAw : 0 < m → w.heap.size ≤ ab p15 ∧ ab p15 < w5.heap.size := fun h => hO.away (by omega)
        refine o_call Try.func51 fn51 fb51 (branch_Move (below w) B0 g r l k hs _ _ _ _ _ hT hO.sl hk) rfl ?_
        rintro v13 w13 ⟨rfl, hT, hM13⟩
        have hX := hX.mod hM13 (trivial)
        have hB4 := hB4.mod hM13 (by decide)
        have hB5 := hB5.mod hM13 (by decide)
        have hB6 := hB6.mod hM13 (by decide)
        have hO := hO.mod hM13 (Nat.zero_le _) (by decide)
        have hT := hT.mono (S' := (fun j => 0 < m → j ≠ ab p15)) (fun j _ h hm0 e => by have h1 := hAw hm0; subst e; first | (have h2 : ab p15 < w.heap.size := h; omega) | (rcases h with h | h; (· have h2 : ab p15 < w.heap.size := h; omega); (· omega)))
        refine p1 (x_assign (by conv => lhs; whnf)) ?_
        refine r_nil ?_
        refine t_n ?_
        refine r_plain ?_
        refine p1 (x_loadB ua70 rfl hB4 sz70) ?_
        refine p1 (x_fieldAddr fo74_1 sz9 rfl) ?_
        refine p1 (x_load1 un9 rfl (hB5.cell (rfl))) ?_
        refine p1 (x_fieldAddr fo74_2 sz31 rfl) ?_
        refine p1 (x_load1 un31 rfl (hB5.cell (rfl))) ?_
        have hAw : 0 < m → w.heap.size ≤ ab p15 ∧ ab p15 < w13.heap.size := fun h => hO.away (by omega)
        refine o_call Try.func109 fn109 fb109 (ref15_Move (below w) l k hs _ _ _ _ _ _ _ _ (hL.mod hX (Nat.zero_le _) (by simp [kBr, tMap])) hrl (by omega) (ha.mod hX hBB (by decide)) hk) rfl ?_
        rintro v14 w14 ⟨⟨qr, mr, cr, rfl, hR⟩, hE14⟩
        have hX := hX.ext hE14
        have hB4 := hB4.ext hE14
        have hB5 := hB5.ext hE14
        have hB6 := hB6.ext hE14
        have hO := hO.ext hE14
        have hT := hT.ext hE14
        have hR := hR.brMono (S' := (fun j => 0 < m → j ≠ ab p15)) (fun j _ h hm0 e => by have h1 := hAw hm0; subst e; first | (have h2 : ab p15 < w.heap.size := h; omega) | (rcases h with h | h; (· have h2 : ab p15 < w.heap.size := h; omega); (· omega)))
        refine p1 (x_move (by conv => lhs; whnf)) ?_
        refine p1 (x_extract rfl rfl) ?_
        refine p1 (x_extract rfl rfl) ?_
        refine o_storeAll rfl (by conv => lhs; whnf) (by simp [Value.oneCell']) (by exact sz70) hB4 (by rfl) ?_
        intro w15 hP15
        have hX := hX.put hP15 (by omega)
        have hB4 := hP15.blk
        have hB5 := hP15.keep hB5 (by omega)
        have hB6 := hP15.keep hB6 (by omega)
        have hO := hO.mod (hP15.mod 0 (Nat.zero_le _)) (Nat.zero_le _) (by decide)
        have hT := hT.mod (hP15.mod 0 (Nat.zero_le _)) (Nat.zero_le _) (by decide)
        have hR := hR.mod (hP15.mod 0 (Nat.zero_le _)) (Nat.zero_le _) (by simp [kBr])
        refine p1 (x_assign (by conv => lhs; whnf)) ?_
        refine r_nil ?_
        refine b_n ?_
        refine t_n ?_
        refine c_seq ?_
        refine c_seq ?_
        refine r_plain ?_
        refine p1 (x_assign (by conv => lhs; whnf)) ?_
        refine r_nil ?_
        refine t_n ?_
        refine c_block ?_
        have hAw : 0 < m → w.heap.size ≤ ab p15 := fun h => (hO.away (by omega)).1
        rw [← hd] at hT hR
        refine c_loop (ι := Nat × List Hash) [11, 63, 64, 65, 66, 67, 68, 69, 70, 71, 72, 73, 74, 75, 76] (fun (i, zs) => [(11, .int .i64 (i : Int))]) (fun (i, zs) w' => Mod B0 tMap w w' ∧ (Tbl (fun j => 0 < m → j ≠ ab p15) B0 w' g r (brDo l kd.toNat k hs).1 ∧ Sl (kBr (fun j => 0 < m → j ≠ ab p15)) 81 0 w' qr mr cr (brDo l kd.toNat k hs).1 ∧ Own kHash 35 0 w.heap.size w' p15 (0 + m) c15 zs ∧ Blk w' g4 #[.slice qr mr cr] 70 ∧ Blk w' g6 (Value.agg #[.slice none 0 0]).cells 70 ∧ i ≤ m)) (fun (i, zs) => m - i) ((0, hs)) ⟨rfl, trivial⟩ ⟨hX, ⟨hT, hR, hO, hB4, hB6, by omega⟩⟩ ?_
        rintro ⟨i, zs⟩ GL1 w16 ⟨hE16, hT, hR, hO, hB4, hB6, hi⟩
        have hX := hE16
        have hsm := hO.small
        refine c_seq ?_
        refine c_seq ?_
        refine r_plain ?_
        refine p1 (x_move (by conv => lhs; whnf)) ?_
        refine p1 (x_move (by conv => lhs; whnf)) ?_
        refine p1 (x_len_slice u31 rfl) ?_
        refine p1 (x_lss rfl rfl) ?_
        refine r_nil ?_
        refine t_n ?_
        first | refine c_dec rfl (fun hc66 => ?_) (fun hc66 => ?_) | refine c_if rfl (fun hc66 => ?_) (fun hc66 => ?_)
        · try simp only [decide_eq_true_eq, decide_eq_false_iff_not, Bool.not_eq_true, Bool.not_eq_false, Bool.not_eq_eq_eq_not, Bool.not_true, Bool.not_false, Int.not_lt, Int.not_le] at hc66
          refine c_skip ?_
          refine t_n ?_
          refine c_seq ?_
          refine c_block ?_
          refine r_tail 8 mixed (by kernel_rfl) ?_
          intro w17 hE17
          have hX := hX.ext hE17
          have hT := hT.ext hE17
          have hR := hR.ext hE17
          have hO := hO.ext hE17
          have hB4 := hB4.ext hE17
          have hB6 := hB6.ext hE17
          refine s1 (x_move (by conv => lhs; whnf)) ?_
          refine s1 (x_move (by conv => lhs; whnf)) ?_
          refine s1 (x_ixs u31 sz35 rfl rfl (hO.sl.adr kHash_pos (by omega)) (by omega) (by omega)) ?_
          refine s1 (x_ixa u35 sz5 rfl rfl (by omega) (by omega)) ?_
          refine s1 (x_load1 un5 rfl ((hO.sl.hashAt (i : Int) (by omega) (by omega)) 0 _ (hcs_get (zs.getD ((i : Int)).toNat default) 0 (by omega)))) ?_
          refine s1 ((x_addw rfl rfl).cast (congrArg _ (u8_inc ((zs.getD ((i : Int)).toNat default).1.getD 0 0)))) ?_
          refine s1 (x_ixs u31 sz35 rfl rfl (hO.sl.adr kHash_pos (by omega)) (by omega) (by omega)) ?_
          refine s1 (x_ixa u35 sz5 rfl rfl (by omega) (by omega)) ?_
          refine s_nil ?_
          refine o_storeInP (d := kHash) (i := i) (j := 0) default ((zs.getD ((i : Int)).toNat default).put 0 ((zs.getD ((i : Int)).toNat default).1.getD 0 0 + 1)) rfl (by conv => lhs; whnf) rfl rfl hO (by omega) (by decide) (fun cx hcx => kHash_put cx hcx) sz5 (Nat.zero_le _) (by decide) ?_
          intro w18 cs18 hO hP18
          have hX := hX.put hP18 (hAw (by omega))
          have hT := hT.put hP18 (fun h => h (by omega) rfl) (by decide)
          have hR := hR.brPut hP18 (fun h => h (by omega) rfl) (by decide)
          have hB4 := hB4.mod (hP18.mod 0 (Nat.zero_le _)) (by decide)
          have hB6 := hB6.mod (hP18.mod 0 (Nat.zero_le _)) (by decide)
          refine r_nil ?_
          refine b_n ?_
          refine t_n ?_
          refine r_plain ?_
          refine p1 (x_move (by conv => lhs; whnf)) ?_
          refine p1 (x_add rfl rfl (fits_i64 (by omega) (by omega))) ?_
          refine p1 (x_assign (by conv => lhs; whnf)) ?_
          refine r_nil ?_
          refine t_n (At.mk ((i + 1, zs.set i ((zs.getD ((i : Int)).toNat default).put 0 ((zs.getD ((i : Int)).toNat default).1.getD 0 0 + 1)))) (by repeat (first | exact Agr.refl _ _ | exact Agr.hav _ _ _ | refine Agr.upd rfl ?_ | refine Agr.updL ?_ _ rfl | refine Agr.hav' rfl ?_)) ⟨rfl, trivial⟩ ?_)
          exact ⟨⟨hX, ⟨hT, hR, hO, hB4, hB6, by omega⟩⟩, by first | (dsimp only; omega) | ((show _ < _); omega)⟩
        · try simp only [decide_eq_true_eq, decide_eq_false_iff_not, Bool.not_eq_true, Bool.not_eq_false, Bool.not_eq_eq_eq_not, Bool.not_true, Bool.not_false, Int.not_lt, Int.not_le] at hc66
          refine c_exit ?_
          refine t_e ?_
          refine t_e ?_
          refine b_hit ?_
          refine t_n ?_
          refine c_seq ?_
          refine r_plain ?_
          refine p1 (x_loadB ua70 rfl hB4 sz70) ?_
          refine p1 (x_move (by conv => lhs; whnf)) ?_
          refine p1 (x_move (by conv => lhs; whnf)) ?_
          refine p1 ((x_eql rfl rfl).cast (congrArg Value.bool (decide_eq_true rfl))) ?_
          refine o_storeAll rfl (by conv => lhs; whnf) (by simp [Value.oneCell']) (by exact sz70) hB6 (by rfl) ?_
          intro w19 hP19
          have hX := hX.put hP19 (by omega)
          have hT := hT.mod (hP19.mod 0 (Nat.zero_le _)) (Nat.zero_le _) (by decide)
          have hR := hR.mod (hP19.mod 0 (Nat.zero_le _)) (Nat.zero_le _) (by simp [kBr])
          have hO := hO.mod (hP19.mod 0 (Nat.zero_le _)) (Nat.zero_le _) (by decide)
          have hB4 := hP19.keep hB4 (by omega)
          have hB6 := hP19.blk
          refine p1 (x_assign (by conv => lhs; whnf)) ?_
          refine r_nil ?_
          refine t_n ?_
          refine c_ret ?_
          refine end2c rfl ua70 rfl (by conv => lhs; whnf) hB6 sz70 ?_
          exact ⟨⟨_, _, _, rfl, hT.now, hR.now⟩, hX⟩
      · try simp only [decide_eq_true_eq, decide_eq_false_iff_not, Bool.not_eq_true, Bool.not_eq_false, Bool.not_eq_eq_eq_not, Bool.not_true, Bool.not_false, Int.not_lt, Int.not_le] at hc47
        refine c_seq ?_
        have hd : (brDo l kd.toNat k hs) = brDelete l k := by unfold brDo; rw [if_neg (by omega), if_neg (by omega)]
        refine r_plain ?_
        refine p1 (x_move (by conv => lhs; whnf)) ?_
        refine p1 (x_fieldAddr fo74_1 sz9 rfl) ?_
        refine p1 (x_load1 un9 rfl (hB5.cell (rfl))) ?_
        have hAw : 0 < m → w.heap.size ≤ ab p15 ∧ ab p15 < w5.heap.size := fun h => hO.away (by omega)
        refine o_call Try.func52 fn52 fb52 (branch_Delete (below w) B0 g r l k _ hT) rfl ?_
        rintro v20 w20 ⟨rfl, hT, hM20⟩
        have hX := hX.mod hM20 (trivial)
        have hB4 := hB4.mod hM20 (by decide)
        have hB5 := hB5.mod hM20 (by decide)
        have hB6 := hB6.mod hM20 (by decide)
        have hO := hO.mod hM20 (Nat.zero_le _) (by decide)
        have hT := hT.mono (S' := (fun j => 0 < m → j ≠ ab p15)) (fun j _ h hm0 e => by have h1 := hAw hm0; subst e; first | (have h2 : ab p15 < w.heap.size := h; omega) | (rcases h with h | h; (· have h2 : ab p15 < w.heap.size := h; omega); (· omega)))
        refine p1 (x_assign (by conv => lhs; whnf)) ?_
        refine r_nil ?_
        refine t_n ?_
        refine r_plain ?_
        refine p1 (x_loadB ua70 rfl hB4 sz70) ?_
        refine p1 (x_fieldAddr fo74_1 sz9 rfl) ?_
        refine p1 (x_load1 un9 rfl (hB5.cell (rfl))) ?_
        have hAw : 0 < m → w.heap.size ≤ ab p15 ∧ ab p15 < w20.heap.size := fun h => hO.away (by omega)
        refine o_call Try.func110 fn110 fb110 (ref15_Delete (below w) l k _ _ _ _ (hL.mod hX (Nat.zero_le _) (by simp [kBr, tMap])) hrl (by omega)) rfl ?_
        rintro v21 w21 ⟨⟨qr, mr, cr, rfl, hR⟩, hE21⟩
        have hX := hX.ext hE21
        have hB4 := hB4.ext hE21
        have hB5 := hB5.ext hE21
        have hB6 := hB6.ext hE21
        have hO := hO.ext hE21
        have hT := hT.ext hE21
        have hR := hR.brMono (S' := (fun j => 0 < m → j ≠ ab p15)) (fun j _ h hm0 e => by have h1 := hAw hm0; subst e; first | (have h2 : ab p15 < w.heap.size := h; omega) | (rcases h with h | h; (· have h2 : ab p15 < w.heap.size := h; omega); (· omega)))
        refine p1 (x_move (by conv => lhs; whnf)) ?_
        refine p1 (x_extract rfl rfl) ?_
        refine p1 (x_extract rfl rfl) ?_
        refine o_storeAll rfl (by conv => lhs; whnf) (by simp [Value.oneCell']) (by exact sz70) hB4 (by rfl) ?_
        intro w22 hP22
        have hX := hX.put hP22 (by omega)
        have hB4 := hP22.blk
        have hB5 := hP22.keep hB5 (by omega)
        have hB6 := hP22.keep hB6 (by omega)
        have hO := hO.mod (hP22.mod 0 (Nat.zero_le _)) (Nat.zero_le _) (by decide)
        have hT := hT.mod (hP22.mod 0 (Nat.zero_le _)) (Nat.zero_le _) (by decide)
        have hR := hR.mod (hP22.mod 0 (Nat.zero_le _)) (Nat.zero_le _) (by simp [kBr])
        refine p1 (x_assign (by conv => lhs; whnf)) ?_
        refine r_nil ?_
        refine b_n ?_
        refine t_n ?_
        refine c_seq ?_
        refine c_seq ?_
        refine r_plain ?_
        refine p1 (x_assign (by conv => lhs; whnf)) ?_
        refine r_nil ?_
        refine t_n ?_
        refine c_block ?_
        have hAw : 0 < m → w.heap.size ≤ ab p15 := fun h => (hO.away (by omega)).1
        rw [← hd] at hT hR
        refine c_loop (ι := Nat × List Hash) [11, 63, 64, 65, 66, 67, 68, 69, 70, 71, 72, 73, 74, 75, 76] (fun (i, zs) => [(11, .int .i64 (i : Int))]) (fun (i, zs) w' => Mod B0 tMap w w' ∧ (Tbl (fun j => 0 < m → j ≠ ab p15) B0 w' g r (brDo l kd.toNat k hs).1 ∧ Sl (kBr (fun j => 0 < m → j ≠ ab p15)) 81 0 w' qr mr cr (brDo l kd.toNat k hs).1 ∧ Own kHash 35 0 w.heap.size w' p15 (0 + m) c15 zs ∧ Blk w' g4 #[.slice qr mr cr] 70 ∧ Blk w' g6 (Value.agg #[.slice none 0 0]).cells 70 ∧ i ≤ m)) (fun (i, zs) => m - i) ((0, hs)) ⟨rfl, trivial⟩ ⟨hX, ⟨hT, hR, hO, hB4, hB6, by omega⟩⟩ ?_
        rintro ⟨i, zs⟩ GL1 w23 ⟨hE23, hT, hR, hO, hB4, hB6, hi⟩
        have hX := hE23
        have hsm := hO.small
        refine c_seq ?_
        refine c_seq ?_
        refine r_plain ?_
        refine p1 (x_move (by conv => lhs; whnf)) ?_
        refine p1 (x_move (by conv => lhs; whnf)) ?_
        refine p1 (x_len_slice u31 rfl) ?_
        refine p1 (x_lss rfl rfl) ?_
        refine r_nil ?_
        refine t_n ?_
        first | refine c_dec rfl (fun hc66 => ?_) (fun hc66 => ?_) | refine c_if rfl (fun hc66 => ?_) (fun hc66 => ?_)
        · try simp only [decide_eq_true_eq, decide_eq_false_iff_not, Bool.not_eq_true, Bool.not_eq_false, Bool.not_eq_eq_eq_not, Bool.not_true, Bool.not_false, Int.not_lt, Int.not_le] at hc66
          refine c_skip ?_
          refine t_n ?_
          refine c_seq ?_
          refine c_block ?_
          refine r_tail 8 mixed (by kernel_rfl) ?_
          intro w24 hE24
          have hX := hX.ext hE24
          have hT := hT.ext hE24
          have hR := hR.ext hE24
          have hO := hO.ext hE24
          have hB4 := hB4.ext hE24
          have hB6 := hB6.ext hE24
          refine s1 (x_move (by conv => lhs; whnf)) ?_
          refine s1 (x_move (by conv => lhs; whnf)) ?_
          refine s1 (x_ixs u31 sz35 rfl rfl (hO.sl.adr kHash_pos (by omega)) (by omega) (by omega)) ?_
          refine s1 (x_ixa u35 sz5 rfl rfl (by omega) (by omega)) ?_
          refine s1 (x_load1 un5 rfl ((hO.sl.hashAt (i : Int) (by omega) (by omega)) 0 _ (hcs_get (zs.getD ((i : Int)).toNat default) 0 (by omega)))) ?_
          refine s1 ((x_addw rfl rfl).cast (congrArg _ (u8_inc ((zs.getD ((i : Int)).toNat default).1.getD 0 0)))) ?_
          refine s1 (x_ixs u31 sz35 rfl rfl (hO.sl.adr kHash_pos (by omega)) (by omega) (by omega)) ?_
          refine s1 (x_ixa u35 sz5 rfl rfl (by omega) (by omega)) ?_
          refine s_nil ?_
          refine o_storeInP (d := kHash) (i := i) (j := 0) default ((zs.getD ((i : Int)).toNat default).put 0 ((zs.getD ((i : Int)).toNat default).1.getD 0 0 + 1)) rfl (by conv => lhs; whnf) rfl rfl hO (by omega) (by decide) (fun cx hcx => kHash_put cx hcx) sz5 (Nat.zero_le _) (by decide) ?_
          intro w25 cs25 hO hP25
          have hX := hX.put hP25 (hAw (by omega))
          have hT := hT.put hP25 (fun h => h (by omega) rfl) (by decide)
          have hR := hR.brPut hP25 (fun h => h (by omega) rfl) (by decide)
          have hB4 := hB4.mod (hP25.mod 0 (Nat.zero_le _)) (by decide)
          have hB6 := hB6.mod (hP25.mod 0 (Nat.zero_le _)) (by decide)
          refine r_nil ?_
          refine b_n ?_
          refine t_n ?_
          refine r_plain ?_
          refine p1 (x_move (by conv => lhs; whnf)) ?_
          refine p1 (x_add rfl rfl (fits_i64 (by omega) (by omega))) ?_
          refine p1 (x_assign (by conv => lhs; whnf)) ?_
          refine r_nil ?_
          refine t_n (At.mk ((i + 1, zs.set i ((zs.getD ((i : Int)).toNat default).put 0 ((zs.getD ((i : Int)).toNat default).1.getD 0 0 + 1)))) (by repeat (first | exact Agr.refl _ _ | exact Agr.hav _ _ _ | refine Agr.upd rfl ?_ | refine Agr.updL ?_ _ rfl | refine Agr.hav' rfl ?_)) ⟨rfl, trivial⟩ ?_)
          exact ⟨⟨hX, ⟨hT, hR, hO, hB4, hB6, by omega⟩⟩, by first | (dsimp only; omega) | ((show _ < _); omega)⟩
        · try simp only [decide_eq_true_eq, decide_eq_false_iff_not, Bool.not_eq_true, Bool.not_eq_false, Bool.not_eq_eq_eq_not, Bool.not_true, Bool.not_false, Int.not_lt, Int.not_le] at hc66
          refine c_exit ?_
          refine t_e ?_
          refine t_e ?_
          refine b_hit ?_
          refine t_n ?_
          refine c_seq ?_
          refine r_plain ?_
          refine p1 (x_loadB ua70 rfl hB4 sz70) ?_
          refine p1 (x_move (by conv => lhs; whnf)) ?_
          refine p1 (x_move (by conv => lhs; whnf)) ?_
          refine p1 ((x_eql rfl rfl).cast (congrArg Value.bool (decide_eq_true rfl))) ?_
          refine o_storeAll rfl (by conv => lhs; whnf) (by simp [Value.oneCell']) (by exact sz70) hB6 (by rfl) ?_
          intro w26 hP26
          have hX := hX.put hP26 (by omega)
          have hT := hT.mod (hP26.mod 0 (Nat.zero_le _)) (Nat.zero_le _) (by decide)
          have hR := hR.mod (hP26.mod 0 (Nat.zero_le _)) (Nat.zero_le _) (by simp [kBr])
          have hO := hO.mod (hP26.mod 0 (Nat.zero_le _)) (Nat.zero_le _) (by decide)
          have hB4 := hP26.keep hB4 (by omega)
          have hB6 := hP26.blk
          refine p1 (x_assign (by conv => lhs; whnf)) ?_
          refine r_nil ?_
          refine t_n ?_
          refine c_ret ?_
          refine end2c rfl ua70 rfl (by conv => lhs; whnf) hB6 sz70 ?_
          exact ⟨⟨_, _, _, rfl, hT.now, hR.now⟩, hX⟩
  · try simp only [decide_eq_true_eq, decide_eq_false_iff_not, Bool.not_eq_true, Bool.not_eq_false, Bool.not_eq_eq_eq_not, Bool.not_true, Bool.not_false, Int.not_lt, Int.not_le] at hc30
    refine r_plain ?_
    refine p1 (x_eql rfl rfl) ?_
    refine p1 (x_assign (by conv => lhs; whnf)) ?_
    refine r_nil ?_
    refine t_n ?_
    first | refine c_dec rfl (fun hc30 => ?_) (fun hc30 => ?_) | refine c_if rfl (fun hc30 => ?_) (fun hc30 => ?_)
    · try simp only [decide_eq_true_eq, decide_eq_false_iff_not, Bool.not_eq_true, Bool.not_eq_false, Bool.not_eq_eq_eq_not, Bool.not_true, Bool.not_false, Int.not_lt, Int.not_le] at hc30
      refine c_seq ?_
      have hd : (brDo l kd.toNat k hs) = brCreate l k hs := by unfold brDo; rw [if_pos (by omega)]
      refine r_plain ?_
      refine p1 (x_move (by conv => lhs; whnf)) ?_
      refine p1 (x_fieldAddr fo74_1 sz9 rfl) ?_
      refine p1 (x_load1 un9 rfl (hB5.cell (rfl))) ?_
      refine p1 (x_move (by conv => lhs; whnf)) ?_
      have hAw : 0 < m → w.heap.size ≤ ab p15 ∧ ab p15 < w5.heap.size := fun h => hO.away (by omega)
      refine o_call Try.func50 fn50 fb50 (branch_Create (below w) B0 g r l k hs _ _ _ _ _ hT hO.sl hk) rfl ?_
      rintro v27 w27 ⟨rfl, hT, hM27⟩
      have hX := hX.mod hM27 (trivial)
      have hB4 := hB4.mod hM27 (by decide)
      have hB5 := hB5.mod hM27 (by decide)
      have hB6 := hB6.mod hM27 (by decide)
      have hO := hO.mod hM27 (Nat.zero_le _) (by decide)
      have hT := hT.mono (S' := (fun j => 0 < m → j ≠ ab p15)) (fun j _ h hm0 e => by have h1 := hAw hm0; subst e; first | (have h2 : ab p15 < w.heap.size := h; omega) | (rcases h with h | h; (· have h2 : ab p15 < w.heap.size := h; omega); (· omega)))
      refine p1 (x_assign (by conv => lhs; whnf)) ?_
      refine r_nil ?_
      refine t_n ?_
      refine r_plain ?_
      refine p1 (x_loadB ua70 rfl hB4 sz70) ?_
      refine p1 (x_fieldAddr fo74_1 sz9 rfl) ?_
      refine p1 (x_load1 un9 rfl (hB5.cell (rfl))) ?_
      refine p1 (x_fieldAddr fo74_2 sz31 rfl) ?_
      refine p1 (x_load1 un31 rfl (hB5.cell (rfl))) ?_
      have hAw : 0 < m → w.heap.size ≤ ab p15 ∧ ab p15 < w27.heap.size := fun h => hO.away (by omega)
      refine o_call Try.func108 fn108 fb108 (ref15_Create (below w) l k hs _ _ _ _ _ _ _ _ (hL.mod hX (Nat.zero_le _) (by simp [kBr, tMap])) hrl (by omega) (ha.mod hX hBB (by decide)) hk) rfl ?_
      rintro v28 w28 ⟨⟨qr, mr, cr, rfl, hR⟩, hE28⟩
      have hX := hX.ext hE28
      have hB4 := hB4.ext hE28
      have hB5 := hB5.ext hE28
      have hB6 := hB6.ext hE28
      have hO := hO.ext hE28
      have hT := hT.ext hE28
      have hR := hR.brMono (S' := (fun j => 0 < m → j ≠ ab p15)) (fun j _ h hm0 e => by have h1 := hAw hm0; subst e; first | (have h2 : ab p15 < w.heap.size := h; omega) | (rcases h with h | h; (· have h2 : ab p15 < w.heap.size := h; omega); (· omega)))
      refine p1 (x_move (by conv => lhs; whnf)) ?_
      refine p1 (x_extract rfl rfl) ?_
      refine p1 (x_extract rfl rfl) ?_
      refine o_storeAll rfl (by conv => lhs; whnf) (by simp [Value.oneCell']) (by exact sz70) hB4 (by rfl) ?_
      intro w29 hP29
      have hX := hX.put hP29 (by omega)
      have hB4 := hP29.blk
      have hB5 := hP29.keep hB5 (by omega)
      have hB6 := hP29.keep hB6 (by omega)
      have hO := hO.mod (hP29.mod 0 (Nat.zero_le _)) (Nat.zero_le _) (by decide)
      have hT := hT.mod (hP29.mod 0 (Nat.zero_le _)) (Nat.zero_le _) (by decide)
      have hR := hR.mod (hP29.mod 0 (Nat.zero_le _)) (Nat.zero_le _) (by simp [kBr])
      refine p1 (x_assign (by conv => lhs; whnf)) ?_
      refine r_nil ?_
      refine b_n ?_
      refine t_n ?_
      refine c_seq ?_
      refine c_seq ?_
      refine r_plain ?_
      refine p1 (x_assign (by conv => lhs; whnf)) ?_
      refine r_nil ?_
      refine t_n ?_
      refine c_block ?_
      have hAw : 0 < m → w.heap.size ≤ ab p15 := fun h => (hO.away (by omega)).1
      rw [← hd] at hT hR
      refine c_loop (ι := Nat × List Hash) [11, 63, 64, 65, 66, 67, 68, 69, 70, 71, 72, 73, 74, 75, 76] (fun (i, zs) => [(11, .int .i64 (i : Int))]) (fun (i, zs) w' => Mod B0 tMap w w' ∧ (Tbl (fun j => 0 < m → j ≠ ab p15) B0 w' g r (brDo l kd.toNat k hs).1 ∧ Sl (kBr (fun j => 0 < m → j ≠ ab p15)) 81 0 w' qr mr cr (brDo l kd.toNat k hs).1 ∧ Own kHash 35 0 w.heap.size w' p15 (0 + m) c15 zs ∧ Blk w' g4 #[.slice qr mr cr] 70 ∧ Blk w' g6 (Value.agg #[.slice none 0 0]).cells 70 ∧ i ≤ m)) (fun (i, zs) => m - i) ((0, hs)) ⟨rfl, trivial⟩ ⟨hX, ⟨hT, hR, hO, hB4, hB6, by omega⟩⟩ ?_
      rintro ⟨i, zs⟩ GL1 w30 ⟨hE30, hT, hR, hO, hB4, hB6, hi⟩
      have hX := hE30
      have hsm := hO.small
      refine c_seq ?_
      refine c_seq ?_
      refine r_plain ?_
      refine p1 (x_move (by conv => lhs; whnf)) ?_
      refine p1 (x_move (by conv => lhs; whnf)) ?_
      refine p1 (x_len_slice u31 rfl) ?_
      refine p1 (x_lss rfl rfl) ?_
      refine r_nil ?_
      refine t_n ?_
      first | refine c_dec rfl (fun hc66 => ?_) (fun hc66 => ?_) | refine c_if rfl (fun hc66 => ?_) (fun hc66 => ?_)
      · try simp only [decide_eq_true_eq, decide_eq_false_iff_not, Bool.not_eq_true, Bool.not_eq_false, Bool.not_eq_eq_eq_not, Bool.not_true, Bool.not_false, Int.not_lt, Int.not_le] at hc66
        refine c_skip ?_
        refine t_n ?_
        refine c_seq ?_
        refine c_block ?_
        refine r_tail 8 mixed (by kernel_rfl) ?_
        intro w31 hE31
        have hX := hX.ext hE31
        have hT := hT.ext hE31
        have hR := hR.ext hE31
        have hO := hO.ext hE31
        have hB4 := hB4.ext hE31
        have hB6 := hB6.ext hE31
        refine s1 (x_move (by conv => lhs; whnf)) ?_
        refine s1 (x_move (by conv => lhs; whnf)) ?_
        refine s1 (x_ixs u31 sz35 rfl rfl (hO.sl.adr kHash_pos (by omega)) (by omega) (by omega)) ?_
        refine s1 (x_ixa u35 sz5 rfl rfl (by omega) (by omega)) ?_
        refine s1 (x_load1 un5 rfl ((hO.sl.hashAt (i : Int) (by omega) (by omega)) 0 _ (hcs_get (zs.getD ((i : Int)).toNat default) 0 (by omega)))) ?_
        refine s1 ((x_addw rfl rfl).cast (congrArg _ (u8_inc ((zs.getD ((i : Int)).toNat default).1.getD 0 0)))) ?_
        refine s1 (x_ixs u31 sz35 rfl rfl (hO.sl.adr kHash_pos (by omega)) (by omega) (by omega)) ?_
        refine s1 (x_ixa u35 sz5 rfl rfl (by omega) (by omega)) ?_
        refine s_nil ?_
        refine o_storeInP (d := kHash) (i := i) (j := 0) default ((zs.getD ((i : Int)).toNat default).put 0 ((zs.getD ((i : Int)).toNat default).1.getD 0 0 + 1)) rfl (by conv => lhs; whnf) rfl rfl hO (by omega) (by decide) (fun cx hcx => kHash_put cx hcx) sz5 (Nat.zero_le _) (by decide) ?_
        intro w32 cs32 hO hP32
        have hX := hX.put hP32 (hAw (by omega))
        have hT := hT.put hP32 (fun h => h (by omega) rfl) (by decide)
        have hR := hR.brPut hP32 (fun h => h (by omega) rfl) (by decide)
        have hB4 := hB4.mod (hP32.mod 0 (Nat.zero_le _)) (by decide)
        have hB6 := hB6.mod (hP32.mod 0 (Nat.zero_le _)) (by decide)
        refine r_nil ?_
        refine b_n ?_
        refine t_n ?_
        refine r_plain ?_
        refine p1 (x_move (by conv => lhs; whnf)) ?_
        refine p1 (x_add rfl rfl (fits_i64 (by omega) (by omega))) ?_
        refine p1 (x_assign (by conv => lhs; whnf)) ?_
        refine r_nil ?_
        refine t_n (At.mk ((i + 1, zs.set i ((zs.getD ((i : Int)).toNat default).put 0 ((zs.getD ((i : Int)).toNat default).1.getD 0 0 + 1)))) (by repeat (first | exact Agr.refl _ _ | exact Agr.hav _ _ _ | refine Agr.upd rfl ?_ | refine Agr.updL ?_ _ rfl | refine Agr.hav' rfl ?_)) ⟨rfl, trivial⟩ ?_)
        exact ⟨⟨hX, ⟨hT, hR, hO, hB4, hB6, by omega⟩⟩, by first | (dsimp only; omega) | ((show _ < _); omega)⟩
      · try simp only [decide_eq_true_eq, decide_eq_false_iff_not, Bool.not_eq_true, Bool.not_eq_false, Bool.not_eq_eq_eq_not, Bool.not_true, Bool.not_false, Int.not_lt, Int.not_le] at hc66
        refine c_exit ?_
        refine t_e ?_
        refine t_e ?_
        refine b_hit ?_
        refine t_n ?_
        refine c_seq ?_
        refine r_plain ?_
        refine p1 (x_loadB ua70 rfl hB4 sz70) ?_
        refine p1 (x_move (by conv => lhs; whnf)) ?_
        refine p1 (x_move (by conv => lhs; whnf)) ?_
        refine p1 ((x_eql rfl rfl).cast (congrArg Value.bool (decide_eq_true rfl))) ?_
        refine o_storeAll rfl (by conv => lhs; whnf) (by simp [Value.oneCell']) (by exact sz70) hB6 (by rfl) ?_
        intro w33 hP33
        have hX := hX.put hP33 (by omega)
        have hT := hT.mod (hP33.mod 0 (Nat.zero_le _)) (Nat.zero_le _) (by decide)
        have hR := hR.mod (hP33.mod 0 (Nat.zero_le _)) (Nat.zero_le _) (by simp [kBr])
        have hO := hO.mod (hP33.mod 0 (Nat.zero_le _)) (Nat.zero_le _) (by decide)
        have hB4 := hP33.keep hB4 (by omega)
        have hB6 := hP33.blk
        refine p1 (x_assign (by conv => lhs; whnf)) ?_
        refine r_nil ?_
        refine t_n ?_
        refine c_ret ?_
        refine end2c rfl ua70 rfl (by conv => lhs; whnf) hB6 sz70 ?_
        exact ⟨⟨_, _, _, rfl, hT.now, hR.now⟩, hX⟩
    · try simp only [decide_eq_true_eq, decide_eq_false_iff_not, Bool.not_eq_true, Bool.not_eq_false, Bool.not_eq_eq_eq_not, Bool.not_true, Bool.not_false, Int.not_lt, Int.not_le] at hc30
      refine c_seq ?_
      refine r_plain ?_
      refine p1 (x_eql rfl rfl) ?_
      refine p1 (x_assign (by conv => lhs; whnf)) ?_
      refine r_nil ?_
      refine t_n ?_
      first | refine c_dec rfl (fun hc47 => ?_) (fun hc47 => ?_) | refine c_if rfl (fun hc47 => ?_) (fun hc47 => ?_)
      · try simp only [decide_eq_true_eq, decide_eq_false_iff_not, Bool.not_eq_true, Bool.not_eq_false, Bool.not_eq_eq_eq_not, Bool.not_true, Bool.not_false, Int.not_lt, Int.not_le] at hc47
        refine c_seq ?_
        have hd : (brDo l kd.toNat k hs) = brMove l k hs := by unfold brDo; rw [if_neg (by omega), if_pos (by omega)]
        refine r_plain ?_
        refine p1 (x_move (by conv => lhs; whnf)) ?_
        refine p1 (x_fieldAddr fo74_1 sz9 rfl) ?_
        refine p1 (x_load1 un9 rfl (hB5.cell (rfl))) ?_
        refine p1 (x_move (by conv => lhs; whnf)) ?_
        have hAw : 0 < m → w.heap.size ≤ ab p15 ∧ ab p15 < w5.heap.size := fun h => hO.away (by omega)
        refine o_call Try.func51 fn51 fb51 (branch_Move (below w) B0 g r l k hs _ _ _ _ _ hT hO.sl hk) rfl ?_
        rintro v34 w34 ⟨rfl, hT, hM34⟩
        have hX := hX.mod hM34 (trivial)
        have hB4 := hB4.mod hM34 (by decide)
        have hB5 := hB5.mod hM34 (by decide)
        have hB6 := hB6.mod hM34 (by decide)
        have hO := hO.mod hM34 (Nat.zero_le _) (by decide)
        have hT := hT.mono (S' := (fun j => 0 < m → j ≠ ab p15)) (fun j _ h hm0 e => by have h1 := hAw hm0; subst e; first | (have h2 : ab p15 < w.heap.size := h; omega) | (rcases h with h | h; (· have h2 : ab p15 < w.heap.size := h; omega); (· omega)))
        refine p1 (x_assign (by conv => lhs; whnf)) ?_
        refine r_nil ?_
        refine t_n ?_
        refine r_plain ?_
        refine p1 (x_loadB ua70 rfl hB4 sz70) ?_
        refine p1 (x_fieldAddr fo74_1 sz9 rfl) ?_
        refine p1 (x_load1 un9 rfl (hB5.cell (rfl))) ?_
        refine p1 (x_fieldAddr fo74_2 sz31 rfl) ?_
        refine p1 (x_load1 un31 rfl (hB5.cell (rfl))) ?_
        have hAw : 0 < m → w.heap.size ≤ ab p15 ∧ ab p15 < w34.heap.size := fun h => hO.away (by omega)
        refine o_call Try.func109 fn109 fb109 (ref15_Move (below w) l k hs _ _ _ _ _ _ _ _ (hL.mod hX (Nat.zero_le _) (by simp [kBr, tMap])) hrl (by omega) (ha.mod hX hBB (by decide)) hk) rfl ?_
        rintro v35 w35 ⟨⟨qr, mr, cr, rfl, hR⟩, hE35⟩
        have hX := hX.ext hE35
        have hB4 := hB4.ext hE35
        have hB5 := hB5.ext hE35
        have hB6 := hB6.ext hE35
        have hO := hO.ext hE35
        have hT := hT.ext hE35
        have hR := hR.brMono (S' := (fun j => 0 < m → j ≠ ab p15)) (fun j _ h hm0 e => by have h1 := hAw hm0; subst e; first | (have h2 : ab p15 < w.heap.size := h; omega) | (rcases h with h | h; (· have h2 : ab p15 < w.heap.size := h; omega); (· omega)))
        refine p1 (x_move (by conv => lhs; whnf)) ?_
        refine p1 (x_extract rfl rfl) ?_
        refine p1 (x_extract rfl rfl) ?_
        refine o_storeAll rfl (by conv => lhs; whnf) (by simp [Value.oneCell']) (by exact sz70) hB4 (by rfl) ?_
        intro w36 hP36
        have hX := hX.put hP36 (by omega)
        have hB4 := hP36.blk
        have hB5 := hP36.keep hB5 (by omega)
        have hB6 := hP36.keep hB6 (by omega)
        have hO := hO.mod (hP36.mod 0 (Nat.zero_le _)) (Nat.zero_le _) (by decide)
        have hT := hT.mod (hP36.mod 0 (Nat.zero_le _)) (Nat.zero_le _) (by decide)
        have hR := hR.mod (hP36.mod 0 (Nat.zero_le _)) (Nat.zero_le _) (by simp [kBr])
        refine p1 (x_assign (by conv => lhs; whnf)) ?_
        refine r_nil ?_
        refine b_n ?_
        refine t_n ?_
        refine c_seq ?_
        refine c_seq ?_
        refine r_plain ?_
        refine p1 (x_assign (by conv => lhs; whnf)) ?_
        refine r_nil ?_
        refine t_n ?_
        refine c_block ?_
        have hAw : 0 < m → w.heap.size ≤ ab p15 := fun h => (hO.away (by omega)).1
        rw [← hd] at hT hR
        refine c_loop (ι := Nat × List Hash) [11, 63, 64, 65, 66, 67, 68, 69, 70, 71, 72, 73, 74, 75, 76] (fun (i, zs) => [(11, .int .i64 (i : Int))]) (fun (i, zs) w' => Mod B0 tMap w w' ∧ (Tbl (fun j => 0 < m → j ≠ ab p15) B0 w' g r (brDo l kd.toNat k hs).1 ∧ Sl (kBr (fun j => 0 < m → j ≠ ab p15)) 81 0 w' qr mr cr (brDo l kd.toNat k hs).1 ∧ Own kHash 35 0 w.heap.size w' p15 (0 + m) c15 zs ∧ Blk w' g4 #[.slice qr mr cr] 70 ∧ Blk w' g6 (Value.agg #[.slice none 0 0]).cells 70 ∧ i ≤ m)) (fun (i, zs) => m - i) ((0, hs)) ⟨rfl, trivial⟩ ⟨hX, ⟨hT, hR, hO, hB4, hB6, by omega⟩⟩ ?_
        rintro ⟨i, zs⟩ GL1 w37 ⟨hE37, hT, hR, hO, hB4, hB6, hi⟩
        have hX := hE37
        have hsm := hO.small
        refine c_seq ?_
        refine c_seq ?_
        refine r_plain ?_
        refine p1 (x_move (by conv => lhs; whnf)) ?_
        refine p1 (x_move (by conv => lhs; whnf)) ?_
        refine p1 (x_len_slice u31 rfl) ?_
        refine p1 (x_lss rfl rfl) ?_
        refine r_nil ?_
        refine t_n ?_
        first | refine c_dec rfl (fun hc66 => ?_) (fun hc66 => ?_) | refine c_if rfl (fun hc66 => ?_) (fun hc66 => ?_)
        · try simp only [decide_eq_true_eq, decide_eq_false_iff_not, Bool.not_eq_true, Bool.not_eq_false, Bool.not_eq_eq_eq_not, Bool.not_true, Bool.not_false, Int.not_lt, Int.not_le] at hc66
          refine c_skip ?_
          refine t_n ?_
          refine c_seq ?_
          refine c_block ?_
          refine r_tail 8 mixed (by kernel_rfl) ?_
          intro w38 hE38
          have hX := hX.ext hE38
          have hT := hT.ext hE38
          have hR := hR.ext hE38
          have hO := hO.ext hE38
          have hB4 := hB4.ext hE38
          have hB6 := hB6.ext hE38
          refine s1 (x_move (by conv => lhs; whnf)) ?_
          refine s1 (x_move (by conv => lhs; whnf)) ?_
          refine s1 (x_ixs u31 sz35 rfl rfl (hO.sl.adr kHash_pos (by omega)) (by omega) (by omega)) ?_
          refine s1 (x_ixa u35 sz5 rfl rfl (by omega) (by omega)) ?_
          refine s1 (x_load1 un5 rfl ((hO.sl.hashAt (i : Int) (by omega) (by omega)) 0 _ (hcs_get (zs.getD ((i : Int)).toNat default) 0 (by omega)))) ?_
          refine s1 ((x_addw rfl rfl).cast (congrArg _ (u8_inc ((zs.getD ((i : Int)).toNat default).1.getD 0 0)))) ?_
          refine s1 (x_ixs u31 sz35 rfl rfl (hO.sl.adr kHash_pos (by omega)) (by omega) (by omega)) ?_
          refine s1 (x_ixa u35 sz5 rfl rfl (by omega) (by omega)) ?_
          refine s_nil ?_
          refine o_storeInP (d := kHash) (i := i) (j := 0) default ((zs.getD ((i : Int)).toNat default).put 0 ((zs.getD ((i : Int)).toNat default).1.getD 0 0 + 1)) rfl (by conv => lhs; whnf) rfl rfl hO (by omega) (by decide) (fun cx hcx => kHash_put cx hcx) sz5 (Nat.zero_le _) (by decide) ?_
          intro w39 cs39 hO hP39
          have hX := hX.put hP39 (hAw (by omega))
          have hT := hT.put hP39 (fun h => h (by omega) rfl) (by decide)
          have hR := hR.brPut hP39 (fun h => h (by omega) rfl) (by decide)
          have hB4 := hB4.mod (hP39.mod 0 (Nat.zero_le _)) (by decide)
          have hB6 := hB6.mod (hP39.mod 0 (Nat.zero_le _)) (by decide)
          refine r_nil ?_
          refine b_n ?_
          refine t_n ?_
          refine r_plain ?_
          refine p1 (x_move (by conv => lhs; whnf)) ?_
          refine p1 (x_add rfl rfl (fits_i64 (by omega) (by omega))) ?_
          refine p1 (x_assign (by conv => lhs; whnf)) ?_
          refine r_nil ?_
          refine t_n (At.mk ((i + 1, zs.set i ((zs.getD ((i : Int)).toNat default).put 0 ((zs.getD ((i : Int)).toNat default).1.getD 0 0 + 1)))) (by repeat (first | exact Agr.refl _ _ | exact Agr.hav _ _ _ | refine Agr.upd rfl ?_ | refine Agr.updL ?_ _ rfl | refine Agr.hav' rfl ?_)) ⟨rfl, trivial⟩ ?_)
          exact ⟨⟨hX, ⟨hT, hR, hO, hB4, hB6, by omega⟩⟩, by first | (dsimp only; omega) | ((show _ < _); omega)⟩
        · try simp only [decide_eq_true_eq, decide_eq_false_iff_not, Bool.not_eq_true, Bool.not_eq_false, Bool.not_eq_eq_eq_not, Bool.not_true, Bool.not_false, Int.not_lt, Int.not_le] at hc66
          refine c_exit ?_
          refine t_e ?_
          refine t_e ?_
          refine b_hit ?_
          refine t_n ?_
          refine c_seq ?_
          refine r_plain ?_
          refine p1 (x_loadB ua70 rfl hB4 sz70) ?_
          refine p1 (x_move (by conv => lhs; whnf)) ?_
          refine p1 (x_move (by conv => lhs; whnf)) ?_
          refine p1 ((x_eql rfl rfl).cast (congrArg Value.bool (decide_eq_true rfl))) ?_
          refine o_storeAll rfl (by conv => lhs; whnf) (by simp [Value.oneCell']) (by exact sz70) hB6 (by rfl) ?_
          intro w40 hP40
          have hX := hX.put hP40 (by omega)
          have hT := hT.mod (hP40.mod 0 (Nat.zero_le _)) (Nat.zero_le _) (by decide)
          have hR := hR.mod (hP40.mod 0 (Nat.zero_le _)) (Nat.zero_le _) (by simp [kBr])
          have hO := hO.mod (hP40.mod 0 (Nat.zero_le _)) (Nat.zero_le _) (by decide)
          have hB4 := hP40.keep hB4 (by omega)
          have hB6 := hP40.blk
          refine p1 (x_assign (by conv => lhs; whnf)) ?_
          refine r_nil ?_
          refine t_n ?_
          refine c_ret ?_
          refine end2c rfl ua70 rfl (by conv => lhs; whnf) hB6 sz70 ?_
          exact ⟨⟨_, _, _, rfl, hT.now, hR.now⟩, hX⟩
      · try simp only [decide_eq_true_eq, decide_eq_false_iff_not, Bool.not_eq_true, Bool.not_eq_false, Bool.not_eq_eq_eq_not, Bool.not_true, Bool.not_false, Int.not_lt, Int.not_le] at hc47
        refine c_seq ?_
        have hd : (brDo l kd.toNat k hs) = brDelete l k := by unfold brDo; rw [if_neg (by omega), if_neg (by omega)]
        refine r_plain ?_
        refine p1 (x_move (by conv => lhs; whnf)) ?_
        refine p1 (x_fieldAddr fo74_1 sz9 rfl) ?_
        refine p1 (x_load1 un9 rfl (hB5.cell (rfl))) ?_
        have hAw : 0 < m → w.heap.size ≤ ab p15 ∧ ab p15 < w5.heap.size := fun h => hO.away (by omega)
        refine o_call Try.func52 fn52 fb52 (branch_Delete (below w) B0 g r l k _ hT) rfl ?_
        rintro v41 w41 ⟨rfl, hT, hM41⟩
        have hX := hX.mod hM41 (trivial)
        have hB4 := hB4.mod hM41 (by decide)
        have hB5 := hB5.mod hM41 (by decide)
        have hB6 := hB6.mod hM41 (by decide)
        have hO := hO.mod hM41 (Nat.zero_le _) (by decide)
        have hT := hT.mono (S' := (fun j => 0 < m → j ≠ ab p15)) (fun j _ h hm0 e => by have h1 := hAw hm0; subst e; first | (have h2 : ab p15 < w.heap.size := h; omega) | (rcases h with h | h; (· have h2 : ab p15 < w.heap.size := h; omega); (· omega)))
        refine p1 (x_assign (by conv => lhs; whnf)) ?_
        refine r_nil ?_
        refine t_n ?_
        refine r_plain ?_
        refine p1 (x_loadB ua70 rfl hB4 sz70) ?_
        refine p1 (x_fieldAddr fo74_1 sz9 rfl) ?_
        refine p1 (x_load1 un9 rfl (hB5.cell (rfl))) ?_
        have hAw : 0 < m → w.heap.size ≤ ab p15 ∧ ab p15 < w41.heap.size := fun h => hO.away (by omega)
        refine o_call Try.func110 fn110 fb110 (ref15_Delete (below w) l k _ _ _ _ (hL.mod hX (Nat.zero_le _) (by simp [kBr, tMap])) hrl (by omega)) rfl ?_
        rintro v42 w42 ⟨⟨qr, mr, cr, rfl, hR⟩, hE42⟩
        have hX := hX.ext hE42
        have hB4 := hB4.ext hE42
        have hB5 := hB5.ext hE42
        have hB6 := hB6.ext hE42
        have hO := hO.ext hE42
        have hT := hT.ext hE42
        have hR := hR.brMono (S' := (fun j => 0 < m → j ≠ ab p15)) (fun j _ h hm0 e => by have h1 := hAw hm0; subst e; first | (have h2 : ab p15 < w.heap.size := h; omega) | (rcases h with h | h; (· have h2 : ab p15 < w.heap.size := h; omega); (· omega)))
        refine p1 (x_move (by conv => lhs; whnf)) ?_
        refine p1 (x_extract rfl rfl) ?_
        refine p1 (x_extract rfl rfl) ?_
        refine o_storeAll rfl (by conv => lhs; whnf) (by simp [Value.oneCell']) (by exact sz70) hB4 (by rfl) ?_
        intro w43 hP43
        have hX := hX.put hP43 (by omega)
        have hB4 := hP43.blk
        have hB5 := hP43.keep hB5 (by omega)
        have hB6 := hP43.keep hB6 (by omega)
        have hO := hO.mod (hP43.mod 0 (Nat.zero_le _)) (Nat.zero_le _) (by decide)
        have hT := hT.mod (hP43.mod 0 (Nat.zero_le _)) (Nat.zero_le _) (by decide)
        have hR := hR.mod (hP43.mod 0 (Nat.zero_le _)) (Nat.zero_le _) (by simp [kBr])
        refine p1 (x_assign (by conv => lhs; whnf)) ?_
        refine r_nil ?_
        refine b_n ?_
        refine t_n ?_
        refine c_seq ?_
        refine c_seq ?_
        refine r_plain ?_
        refine p1 (x_assign (by conv => lhs; whnf)) ?_
        refine r_nil ?_
        refine t_n ?_
        refine c_block ?_
        have hAw : 0 < m → w.heap.size ≤ ab p15 := fun h => (hO.away (by omega)).1
        rw [← hd] at hT hR
        refine c_loop (ι := Nat × List Hash) [11, 63, 64, 65, 66, 67, 68, 69, 70, 71, 72, 73, 74, 75, 76] (fun (i, zs) => [(11, .int .i64 (i : Int))]) (fun (i, zs) w' => Mod B0 tMap w w' ∧ (Tbl (fun j => 0 < m → j ≠ ab p15) B0 w' g r (brDo l kd.toNat k hs).1 ∧ Sl (kBr (fun j => 0 < m → j ≠ ab p15)) 81 0 w' qr mr cr (brDo l kd.toNat k hs).1 ∧ Own kHash 35 0 w.heap.size w' p15 (0 + m) c15 zs ∧ Blk w' g4 #[.slice qr mr cr] 70 ∧ Blk w' g6 (Value.agg #[.slice none 0 0]).cells 70 ∧ i ≤ m)) (fun (i, zs) => m - i) ((0, hs)) ⟨rfl, trivial⟩ ⟨hX, ⟨hT, hR, hO, hB4, hB6, by omega⟩⟩ ?_
        rintro ⟨i, zs⟩ GL1 w44 ⟨hE44, hT, hR, hO, hB4, hB6, hi⟩
        have hX := hE44
        have hsm := hO.small
        refine c_seq ?_
        refine c_seq ?_
        refine r_plain ?_
        refine p1 (x_move (by conv => lhs; whnf)) ?_
        refine p1 (x_move (by conv => lhs; whnf)) ?_
        refine p1 (x_len_slice u31 rfl) ?_
        refine p1 (x_lss rfl rfl) ?_
        refine r_nil ?_
        refine t_n ?_
        first | refine c_dec rfl (fun hc66 => ?_) (fun hc66 => ?_) | refine c_if rfl (fun hc66 => ?_) (fun hc66 => ?_)
        · try simp only [decide_eq_true_eq, decide_eq_false_iff_not, Bool.not_eq_true, Bool.not_eq_false, Bool.not_eq_eq_eq_not, Bool.not_true, Bool.not_false, Int.not_lt, Int.not_le] at hc66
          refine c_skip ?_
          refine t_n ?_
          refine c_seq ?_
          refine c_block ?_
          refine r_tail 8 mixed (by kernel_rfl) ?_
          intro w45 hE45
          have hX := hX.ext hE45
          have hT := hT.ext hE45
          have hR := hR.ext hE45
          have hO := hO.ext hE45
          have hB4 := hB4.ext hE45
          have hB6 := hB6.ext hE45
          refine s1 (x_move (by conv => lhs; whnf)) ?_
          refine s1 (x_move (by conv => lhs; whnf)) ?_
          refine s1 (x_ixs u31 sz35 rfl rfl (hO.sl.adr kHash_pos (by omega)) (by omega) (by omega)) ?_
          refine s1 (x_ixa u35 sz5 rfl rfl (by omega) (by omega)) ?_
          refine s1 (x_load1 un5 rfl ((hO.sl.hashAt (i : Int) (by omega) (by omega)) 0 _ (hcs_get (zs.getD ((i : Int)).toNat default) 0 (by omega)))) ?_
          refine s1 ((x_addw rfl rfl).cast (congrArg _ (u8_inc ((zs.getD ((i : Int)).toNat default).1.getD 0 0)))) ?_
          refine s1 (x_ixs u31 sz35 rfl rfl (hO.sl.adr kHash_pos (by omega)) (by omega) (by omega)) ?_
          refine s1 (x_ixa u35 sz5 rfl rfl (by omega) (by omega)) ?_
          refine s_nil ?_
          refine o_storeInP (d := kHash) (i := i) (j := 0) default ((zs.getD ((i : Int)).toNat default).put 0 ((zs.getD ((i : Int)).toNat default).1.getD 0 0 + 1)) rfl (by conv => lhs; whnf) rfl rfl hO (by omega) (by decide) (fun cx hcx => kHash_put cx hcx) sz5 (Nat.zero_le _) (by decide) ?_
          intro w46 cs46 hO hP46
          have hX := hX.put hP46 (hAw (by omega))
          have hT := hT.put hP46 (fun h => h (by omega) rfl) (by decide)
          have hR := hR.brPut hP46 (fun h => h (by omega) rfl) (by decide)
          have hB4 := hB4.mod (hP46.mod 0 (Nat.zero_le _)) (by decide)
          have hB6 := hB6.mod (hP46.mod 0 (Nat.zero_le _)) (by decide)
          refine r_nil ?_
          refine b_n ?_
          refine t_n ?_
          refine r_plain ?_
          refine p1 (x_move (by conv => lhs; whnf)) ?_
          refine p1 (x_add rfl rfl (fits_i64 (by omega) (by omega))) ?_
          refine p1 (x_assign (by conv => lhs; whnf)) ?_
          refine r_nil ?_
          refine t_n (At.mk ((i + 1, zs.set i ((zs.getD ((i : Int)).toNat default).put 0 ((zs.getD ((i : Int)).toNat default).1.getD 0 0 + 1)))) (by repeat (first | exact Agr.refl _ _ | exact Agr.hav _ _ _ | refine Agr.upd rfl ?_ | refine Agr.updL ?_ _ rfl | refine Agr.hav' rfl ?_)) ⟨rfl, trivial⟩ ?_)
          exact ⟨⟨hX, ⟨hT, hR, hO, hB4, hB6, by omega⟩⟩, by first | (dsimp only; omega) | ((show _ < _); omega)⟩
        · try simp only [decide_eq_true_eq, decide_eq_false_iff_not, Bool.not_eq_true, Bool.not_eq_false, Bool.not_eq_eq_eq_not, Bool.not_true, Bool.not_false, Int.not_lt, Int.not_le] at hc66
          refine c_exit ?_
          refine t_e ?_
          refine t_e ?_
          refine b_hit ?_
          refine t_n ?_
          refine c_seq ?_
          refine r_plain ?_
          refine p1 (x_loadB ua70 rfl hB4 sz70) ?_
          refine p1 (x_move (by conv => lhs; whnf)) ?_
          refine p1 (x_move (by conv => lhs; whnf)) ?_
          refine p1 ((x_eql rfl rfl).cast (congrArg Value.bool (decide_eq_true rfl))) ?_
          refine o_storeAll rfl (by conv => lhs; whnf) (by simp [Value.oneCell']) (by exact sz70) hB6 (by rfl) ?_
          intro w47 hP47
          have hX := hX.put hP47 (by omega)
          have hT := hT.mod (hP47.mod 0 (Nat.zero_le _)) (Nat.zero_le _) (by decide)
          have hR := hR.mod (hP47.mod 0 (Nat.zero_le _)) (Nat.zero_le _) (by simp [kBr])
          have hO := hO.mod (hP47.mod 0 (Nat.zero_le _)) (Nat.zero_le _) (by decide)
          have hB4 := hP47.keep hB4 (by omega)
          have hB6 := hP47.blk
          refine p1 (x_assign (by conv => lhs; whnf)) ?_
          refine r_nil ?_
          refine t_n ?_
          refine c_ret ?_
          refine end2c rfl ua70 rfl (by conv => lhs; whnf) hB6 sz70 ?_
          exact ⟨⟨_, _, _, rfl, hT.now, hR.now⟩, hX⟩
end Go.Proofs.Eng
