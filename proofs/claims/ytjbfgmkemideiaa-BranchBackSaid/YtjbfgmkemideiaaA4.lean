import Derived.Test.YtjbfgmkemideiaaS2
import Derived.Test.YtjbfgmkemideiaaE9
import Derived.Test.YtjbfgmkemideiaaT0
import Derived.Test.YtjbfgmkemideiaaA2
import Derived.Test.YtjbfgmkemideiaaA3
set_option linter.unusedVariables false
set_option linter.unusedSimpArgs false
set_option maxRecDepth 100000
set_option maxHeartbeats 4000000
namespace Go.Proofs.Eng
open Go.RowKit
open Extern.Stop (cell)
theorem hashes_Sort (xs : List Hash) (B : Nat) (p : Option Addr) (n c : Nat) (w : World) (hl : Sl kHash 35 B w p n c xs) (hs : n ≤ 4194304000) :
    Ret Try.prog 35 [.slice p n c] w (fun v w' => (∃ q m c', v = .slice q m c' ∧ m ≤ n ∧ Own kHash 35 0 w.heap.size w' q m c' (srt xs)) ∧ Ext w w') := by
  have hX := Ext.refl w
  refine enter 10 _ Try.func35 rfl rfl (Nat.le_of_ble_eq_true rfl) ?_
  refine c_seq ?_
  refine r_plain ?_
  refine p1 (x_assign (by conv => lhs; whnf)) ?_
  refine r_nil ?_
  refine t_n ?_
  refine c_seq ?_
  refine r_plain ?_
  refine p1 (x_move (by conv => lhs; whnf)) ?_
  refine o_call Try.func89 fn89 fb89 (slices_Clone_hash xs B p n c _ (hl.ext hX) hs) rfl ?_
  rintro v1 w1 ⟨⟨q, c1, rfl, hO⟩, hE1⟩
  have hX := hX.ext hE1
  refine p1 (x_assign (by conv => lhs; whnf)) ?_
  refine r_nil ?_
  refine t_n ?_
  refine c_seq ?_
  refine r_plain ?_
  refine p1 (x_move (by conv => lhs; whnf)) ?_
  refine o_call Try.func90 fn90 fb90 (slices_SortFunc_hash xs _ _ _ _ _ hO hs) rfl ?_
  rintro v2 w2 ⟨ys, hO, hpm, hso, hM2⟩
  have hX := hX.mod hM2 (Nat.le_refl _)
  refine r_nil ?_
  refine t_n ?_
  refine c_seq ?_
  refine r_plain ?_
  refine p1 (x_move (by conv => lhs; whnf)) ?_
  refine o_call Try.func92 fn92 fb92 (slices_Compact_hash ys _ _ _ _ _ hO) rfl ?_
  rintro v3 w3 ⟨m, hm, rfl, hO2, hM3⟩
  have hX := hX.mod hM3 (Nat.le_refl _)
  refine p1 (x_assign (by conv => lhs; whnf)) ?_
  refine r_nil ?_
  refine t_n ?_
  refine c_ret ?_
  refine end1 rfl (by conv => lhs; whnf) ?_
  exact ⟨⟨_, _, _, rfl, hm, by rw [← srt_cpt hpm hso hO.len]; exact hO2⟩, hX⟩
theorem hashes_Same (xs ys : List Hash) (B B2 : Nat) (p q : Option Addr) (n c m c2 : Nat) (w : World) (ha : Sl kHash 35 B w p n c xs) (hb : Sl kHash 35 B2 w q m c2 ys) :
    Ret Try.prog 40 [.slice p n c, .slice q m c2] w (fun v w' => v = .bool (decide (xs = ys)) ∧ Ext w w') := by
  have hX := Ext.refl w
  refine enter 8 _ Try.func40 rfl rfl (Nat.le_of_ble_eq_true rfl) ?_
  refine c_seq ?_
  refine r_plain ?_
  refine p1 (x_assign (by conv => lhs; whnf)) ?_
  refine r_nil ?_
  refine t_n ?_
  refine c_seq ?_
  refine r_plain ?_
  refine p1 (x_move (by conv => lhs; whnf)) ?_
  refine p1 (x_move (by conv => lhs; whnf)) ?_
  refine o_call Try.func88 fn88 fb88 (slices_Equal_hash xs ys _ _ _ _ _ _ _ _ _ (ha.ext hX) (hb.ext hX)) rfl ?_
  rintro v1 w1 ⟨rfl, hE1⟩
  have hX := hX.ext hE1
  refine p1 (x_assign (by conv => lhs; whnf)) ?_
  refine r_nil ?_
  refine t_n ?_
  refine c_ret ?_
  refine end1 rfl (by conv => lhs; whnf) ?_
  exact ⟨rfl, hX⟩
theorem hashes_Has (xs : List Hash) (x : Hash) (B : Nat) (p : Option Addr) (n c : Nat) (w : World) (hl : Sl kHash 35 B w p n c xs) :
    Ret Try.prog 41 [.slice p n c, .agg (hv x)] w (fun v w' => v = .bool (decide (x ∈ xs)) ∧ Ext w w') := by
  have hX := Ext.refl w
  refine enter 8 _ Try.func41 rfl rfl (Nat.le_of_ble_eq_true rfl) ?_
  refine c_seq ?_
  refine r_plain ?_
  refine o_boxA (by conv => lhs; whnf) ?_
  intro w1 g3 hN3
  have hE1 := hN3.ext
  have hX := hX.ext hE1
  have hB3 := hN3.blk
  refine p1 (x_assign (by conv => lhs; whnf)) ?_
  refine r_nil ?_
  refine t_n ?_
  refine c_seq ?_
  refine r_plain ?_
  refine p1 (x_move (by conv => lhs; whnf)) ?_
  refine p1 (x_loadB ua35 rfl hB3 (hv_sz sz35 x)) ?_
  refine o_call Try.func96 fn96 fb96 (slices_Contains_hash xs x _ _ _ _ _ (hl.ext hX)) rfl ?_
  rintro v2 w2 ⟨rfl, hE2⟩
  have hX := hX.ext hE2
  have hB3 := hB3.ext hE2
  refine p1 (x_assign (by conv => lhs; whnf)) ?_
  refine r_nil ?_
  refine t_n ?_
  refine c_ret ?_
  refine end1 rfl (by conv => lhs; whnf) ?_
  exact ⟨rfl, hX⟩
theorem law06_awake (w : World) :
    Ret Try.prog 33 [] w (fun v w' => v = .bool true ∧ Ext w w') := by
  have hX := Ext.refl w
  refine enter 32 _ Try.func33 rfl rfl (Nat.le_of_ble_eq_true rfl) ?_
  refine c_seq ?_
  refine r_plain ?_
  refine p1 (x_assign (by conv => lhs; whnf)) ?_
  refine r_nil ?_
  refine t_n ?_
  refine c_seq ?_
  refine r_plain ?_
  refine p1 (x_buildC bdTwo rfl) ?_
  refine p1 (x_buildC bdOne rfl) ?_
  refine p1 (x_buildC bdTwo rfl) ?_
  refine o_buildSlice u31 inf35 rfl (by decide) (fun base hb => fill_kn [.agg (hv hTwo), .agg (hv hOne), .agg (hv hTwo)] (by intro v hv'; simp only [List.mem_cons, List.not_mem_nil, or_false] at hv'; rcases hv' with rfl | rfl | rfl <;> rfl) base hb) ?_
  intro w1 g5 hN5
  have hE1 := hN5.ext
  have hX := hX.ext hE1
  have hI : Own kHash 35 0 w.heap.size w1 (some ⟨g5, 0, none⟩) 3 3 [hTwo, hOne, hTwo] := own_lit [hTwo, hOne, hTwo] hN5 (by have := hX.size; have := hN5.g_eq; have := hN5.ext.size; omega) (by decide)
  refine o_call Try.func35 fn35 fb35 (hashes_Sort [hTwo, hOne, hTwo] _ _ _ _ _ hI.sl (by decide)) rfl ?_
  rintro v2 w2 ⟨⟨q, m, c1, rfl, hm, hO⟩, hE2⟩
  have hX := hX.ext hE2
  have hI := hI.ext hE2
  rw [srt_awake] at hO
  refine p1 (x_assign (by conv => lhs; whnf)) ?_
  refine r_nil ?_
  refine t_n ?_
  refine c_seq ?_
  refine r_plain ?_
  refine p1 (x_move (by conv => lhs; whnf)) ?_
  refine p1 (x_buildC bdOne rfl) ?_
  refine p1 (x_buildC bdTwo rfl) ?_
  have hXs := hX.size
  refine o_buildSlice u31 inf35 rfl (by decide) (fun base hb => fill_kn [.agg (hv hOne), .agg (hv hTwo)] (by intro v hv'; simp only [List.mem_cons, List.not_mem_nil, or_false] at hv'; rcases hv' with rfl | rfl <;> rfl) base hb) ?_
  intro w3 g10 hN10
  have hE3 := hN10.ext
  have hX := hX.ext hE3
  have hI := hI.ext hE3
  have hO := hO.ext hE3
  have hJ : Own kHash 35 0 w.heap.size w3 (some ⟨g10, 0, none⟩) 2 2 [hOne, hTwo] := own_lit [hOne, hTwo] hN10 hXs (by decide)
  refine o_call Try.func36 fn36 fb36 ((ref06_Same [hOne, hTwo] [hOne, hTwo] _ _ _ _ _ _ _ _ _ hO.sl hJ.sl).known (c := .bool true) rfl) rfl ?_
  rintro v4 w4 ⟨rfl, hE4⟩
  have hX := hX.ext hE4
  have hI := hI.ext hE4
  have hO := hO.ext hE4
  have hJ := hJ.ext hE4
  refine p1 (x_move (by conv => lhs; whnf)) ?_
  refine g1 12 rfl rfl (x_move (by conv => lhs; whnf)) ?_
  refine g_drop 12 rfl rfl ?_
  refine o_call Try.func38 fn38 fb38 ((hashes_Rising [hOne, hTwo] _ _ _ _ _ hO.sl).known (c := .bool true) (congrArg Value.bool (by decide +kernel))) rfl ?_
  rintro v5 w5 ⟨rfl, hE5⟩
  have hX := hX.ext hE5
  have hI := hI.ext hE5
  have hO := hO.ext hE5
  have hJ := hJ.ext hE5
  refine p1 (x_pick_t rfl (by conv => lhs; whnf)) ?_
  refine p1 (x_move (by conv => lhs; whnf)) ?_
  refine g1 16 rfl rfl (x_move (by conv => lhs; whnf)) ?_
  refine g1 16 rfl rfl (x_buildC bdTwo rfl) ?_
  refine g_drop 16 rfl rfl ?_
  refine o_call Try.func41 fn41 fb41 ((hashes_Has [hOne, hTwo] hTwo _ _ _ _ _ hO.sl).known (c := .bool true) (congrArg Value.bool (by decide +kernel))) rfl ?_
  rintro v6 w6 ⟨rfl, hE6⟩
  have hX := hX.ext hE6
  have hI := hI.ext hE6
  have hO := hO.ext hE6
  have hJ := hJ.ext hE6
  refine p1 (x_pick_t rfl (by conv => lhs; whnf)) ?_
  refine p1 (x_move (by conv => lhs; whnf)) ?_
  refine g_drop 21 rfl rfl ?_
  refine o_call Try.func31 fn31 fb31 ((hashes_Name ⟨#[97, 46, 98]⟩ _ (by decide)).known (c := .bool true) (congrArg Value.bool (by decide +kernel))) rfl ?_
  rintro v7 w7 ⟨rfl, hE7⟩
  have hX := hX.ext hE7
  have hI := hI.ext hE7
  have hO := hO.ext hE7
  have hJ := hJ.ext hE7
  refine p1 (x_pick_t rfl (by conv => lhs; whnf)) ?_
  refine p1 (x_move (by conv => lhs; whnf)) ?_
  refine p1 (x_pick_t rfl (by conv => lhs; whnf)) ?_
  refine p1 (x_move (by conv => lhs; whnf)) ?_
  refine p1 (x_pick_t rfl (by conv => lhs; whnf)) ?_
  refine p1 (x_move (by conv => lhs; whnf)) ?_
  refine p1 (x_pick_t rfl (by conv => lhs; whnf)) ?_
  refine p1 (x_move (by conv => lhs; whnf)) ?_
  refine p1 (x_pick_t rfl (by conv => lhs; whnf)) ?_
  refine p1 (x_assign (by conv => lhs; whnf)) ?_
  refine r_nil ?_
  refine t_n ?_
  refine c_ret ?_
  refine end1 rfl (by conv => lhs; whnf) ?_
  exact ⟨rfl, hX⟩
theorem law_HashesNames (s : ByteArray) (w : World) (hs : s.size ≤ 9223372036854775807) :
    Ret Try.prog 6 [.string s] w (fun v w' => v = .bool true ∧ Ext w w') := by
  have hX := Ext.refl w
  refine enter 11 _ Try.func6 rfl rfl (Nat.le_of_ble_eq_true rfl) ?_
  refine c_seq ?_
  refine r_plain ?_
  refine p1 (x_assign (by conv => lhs; whnf)) ?_
  refine r_nil ?_
  refine t_n ?_
  refine c_seq ?_
  refine r_plain ?_
  refine p1 (x_move (by conv => lhs; whnf)) ?_
  refine o_call Try.func31 fn31 fb31 (hashes_Name s _ hs) rfl ?_
  rintro v1 w1 ⟨rfl, hE1⟩
  have hX := hX.ext hE1
  refine p1 (x_move (by conv => lhs; whnf)) ?_
  refine o_call Try.func32 fn32 fb32 (ref06_Name s _ hs) rfl ?_
  rintro v2 w2 ⟨rfl, hE2⟩
  have hX := hX.ext hE2
  refine p1 ((x_eql_bool u4 rfl rfl).cast (congrArg _ (decide_eq_true rfl))) ?_
  refine p1 (x_move (by conv => lhs; whnf)) ?_
  refine g_drop 8 rfl rfl ?_
  refine o_call Try.func33 fn33 fb33 (law06_awake _) rfl ?_
  rintro v3 w3 ⟨rfl, hE3⟩
  have hX := hX.ext hE3
  refine p1 (x_pick_t rfl (by conv => lhs; whnf)) ?_
  refine p1 (x_assign (by conv => lhs; whnf)) ?_
  refine r_nil ?_
  refine t_n ?_
  refine c_ret ?_
  refine end1 rfl (by conv => lhs; whnf) ?_
  exact ⟨rfl, hX⟩
end Go.Proofs.Eng
