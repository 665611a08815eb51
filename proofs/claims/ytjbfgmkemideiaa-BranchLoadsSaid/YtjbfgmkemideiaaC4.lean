import Derived.Test.YtjbfgmkemideiaaS3
set_option linter.unusedVariables false
set_option linter.unusedSimpArgs false
set_option maxRecDepth 100000
set_option maxHeartbeats 4000000
namespace Go.Proofs.Eng
open Go.RowKit
open Extern.Stop (cell)
theorem branch_List (S : Nat → Prop) (B0 g r : Nat) (l : List Br) (w : World) (hT : Tbl S B0 w g r l) :
    Ret Try.prog 53 [.pointer (some ⟨g, 0, none⟩)] w (fun v w' => (∃ q m c, v = .slice q m c ∧ Own (kBr (fun j => w.heap.size ≤ j)) 81 0 w.heap.size w' q m c l) ∧ Ext w w') := by
  have hTb := hT.blk
  have hX := Ext.refl w
  refine enter 34 _ Try.func53 rfl rfl (Nat.le_of_ble_eq_true rfl) ?_
  refine c_seq ?_
  refine r_plain ?_
  refine p1 (x_assign (by conv => lhs; whnf)) ?_
  refine r_nil ?_
  refine t_n ?_
  refine c_seq ?_
  refine c_seq ?_
  refine r_plain ?_
  refine p1 (x_move (by conv => lhs; whnf)) ?_
  refine p1 ((x_eql_ptrnil u59 rfl rfl).cast (congrArg Value.bool (decide_eq_false (by simp)))) ?_
  refine r_nil ?_
  refine t_n ?_
  refine c_f rfl ?_
  refine c_skip ?_
  refine t_n ?_
  refine c_seq ?_
  refine r_plain ?_
  refine p1 (x_move (by conv => lhs; whnf)) ?_
  refine p1 (x_nilCheck rfl) ?_
  refine p1 (x_fieldAddr fo124_0 sz122 rfl) ?_
  refine p1 (x_load1 un122 rfl (hTb.cell (rfl))) ?_
  obtain ⟨ks, hks1, hks2, hksx⟩ := hT.map.count
  have hkl := count_len hT.rise hks1 hks2
  have hfew := hT.few
  refine p1 (hksx u122 rfl) ?_
  have hXs := hX.size
  refine o_make u30 inf81 rfl rfl (by omega) (by omega) (by omega) (by omega) ?_
  intro w1 g13 hN13
  have hE1 := hN13.ext
  have hX := hX.ext hE1
  have hT := hT.ext hE1
  have hTb := hTb.ext hE1
  have hO : Own (kBr (fun j => w.heap.size ≤ j)) 81 0 w.heap.size w1 (some ⟨g13, 0, none⟩) 0 ks.length [] := Own.made _ 81 0 _ hN13 [] [] 0 ks.length rfl trivial hXs (by omega) (by omega) (size_madeCells _ _) (by simp)
  refine p1 (x_assign (by conv => lhs; whnf)) ?_
  refine r_nil ?_
  refine t_n ?_
  refine c_seq ?_
  refine c_seq ?_
  refine r_plain ?_
  refine p1 (x_move (by conv => lhs; whnf)) ?_
  refine p1 (x_nilCheck rfl) ?_
  refine p1 (x_fieldAddr fo124_0 sz122 rfl) ?_
  refine p1 (x_load1 un122 rfl (hTb.cell (rfl))) ?_
  have hM := hT.map
  have hXs := hX.size
  refine o_range u122 rfl hM ?_
  intro w2 it18 hE2 hit18 hK18
  have hX := hX.ext hE2
  have hT := hT.ext hE2
  have hTb := hTb.ext hE2
  have hO := hO.ext hE2
  have hR := hK18 w.heap.size (hXs)
  refine r_nil ?_
  refine t_n ?_
  refine c_block ?_
  have hTe := hT.rise
  refine c_loop (ι := List ByteArray × Option Addr × Nat × Nat) [3, 4, 5, 19, 20, 21, 22, 23, 24, 25, 26, 27, 28, 29, 30] (fun (vs, q, m, c) => [(3, .slice q m c)]) (fun (vs, q, m, c) w' => Ext w w' ∧ (Rg kkStr (vHs S) 0 w.heap.size w' r it18 (asc l) vs ∧ Own (kBr (fun j => w.heap.size ≤ j)) 81 0 w.heap.size w' q m c (vs.map (brOf l)))) (fun (vs, q, m, c) => 64 - vs.length) (([], some ⟨g13, 0, none⟩, 0, ks.length)) ⟨rfl, trivial⟩ ⟨hX, ⟨hR, hO⟩⟩ ?_
  rintro ⟨vs, q, m, c⟩ GL0 w3 ⟨hE3, hR, hO⟩
  have hX := hE3
  refine c_seq ?_
  refine r_plain ?_
  refine o_next rfl hR (Nat.zero_le _) (by simp [vHs, tIter]) (fun hdone19 => ?_) (fun w4 a19 b19 v19 hna19 hmu19 hR hM4 => ?_)
  · skip
    refine p1 (x_extract rfl rfl) ?_
    refine r_nil ?_
    refine t_n ?_
    refine c_seq ?_
    refine c_f rfl ?_
    refine c_exit ?_
    refine t_e ?_
    refine t_e ?_
    refine b_hit ?_
    refine t_n ?_
    refine c_seq ?_
    refine r_plain ?_
    refine p1 (x_move (by conv => lhs; whnf)) ?_
    obtain ⟨rs, hOr, hrel⟩ := hO.raw
    have hOl := hO.len
    rw [List.length_map] at hOl
    have hvl := nodup_leN hR.nd (fun z hz => asc_some.1 (hR.sub z hz))
    rw [List.length_map] at hvl
    refine o_call Try.func103 fn103 fb103 (slices_SortFunc_raw rs _ _ _ _ _ hOr (by omega)) rfl ?_
    rintro v5 w5 ⟨ys, hOs, hpm, hso, hM5⟩
    have hX := hX.mod hM5 (Nat.le_refl _)
    obtain ⟨l2, hrel2, hpm2⟩ := RelR.perm hpm.symm (hrel.mod hM5)
    have hl2 : l2 = l := sorted_brs hTe hR.nd hdone19 hR.sub hpm2 (fun i j hij hj => by rw [← hrel2.name j (by omega), ← hrel2.name i (by omega)]; exact hso i j hij (by rw [hrel2.len]; exact hj))
    rw [hl2] at hrel2
    have hZ := hOs.ofRaw hrel2
    refine r_nil ?_
    refine t_n ?_
    refine c_seq ?_
    refine r_plain ?_
    refine p1 (x_move (by conv => lhs; whnf)) ?_
    refine p1 (x_assign (by conv => lhs; whnf)) ?_
    refine r_nil ?_
    refine t_n ?_
    refine c_ret ?_
    refine end1 rfl (by conv => lhs; whnf) ?_
    exact ⟨⟨_, _, _, rfl, hZ⟩, hX⟩
  · skip
    have hX := hX.mod hM4 (Nat.le_refl _)
    have hO := hO.mod hM4 (Nat.zero_le _) (by simp [kBr, tIter])
    have hvl : (vs ++ [a19]).length ≤ 64 := by
      have h1 := nodup_leN hR.nd (fun z hz => asc_some.1 (hR.sub z hz))
      rw [List.length_map] at h1
      omega
    simp only [List.length_append, List.length_cons, List.length_nil] at hvl
    refine p1 (x_extract rfl rfl) ?_
    refine r_nil ?_
    refine t_n ?_
    refine c_seq ?_
    refine c_t rfl ?_
    refine c_skip ?_
    refine t_n ?_
    refine c_block ?_
    refine c_seq ?_
    obtain ⟨b21, v21, hb21, hv21, hen21⟩ := hR.entry
    obtain ⟨p21, n21, c21, rfl, hS21⟩ := hv21
    have hm16 := mayB_len (isName_asc hT.ok hb21).2
    have hl21 := hS21.len
    refine r_plain ?_
    refine p1 (hen21 rfl) ?_
    refine p1 (x_extract rfl rfl) ?_
    refine p1 (x_extract rfl rfl) ?_
    refine p1 (x_assign (by conv => lhs; whnf)) ?_
    refine p1 (x_assign (by conv => lhs; whnf)) ?_
    refine r_nil ?_
    refine t_n ?_
    refine r_plain ?_
    refine p1 (x_move (by conv => lhs; whnf)) ?_
    refine p1 (x_move (by conv => lhs; whnf)) ?_
    refine p1 (x_move (by conv => lhs; whnf)) ?_
    have hXs := hX.size
    refine o_call Try.func89 fn89 fb89 (slices_Clone_hash b21 _ _ _ _ _ (hS21.hash 0) (by omega)) rfl ?_
    rintro v6 w6 ⟨⟨q6, c6, rfl, hC⟩, hE6⟩
    have hX := hX.ext hE6
    have hO := hO.ext hE6
    have hR := hR.ext hE6
    have hC := hC.lower hXs
    refine p1 (x_build2 pl81 (by conv => lhs; whnf) (by conv => lhs; whnf) rfl rfl) ?_
    refine o_buildSlice u30 inf81 rfl (by decide) (fun base hb => fill_one (by rfl) base hb) ?_
    intro w7 g29 hN29
    have hE7 := hN29.ext
    have hX := hX.ext hE7
    have hO := hO.ext hE7
    have hR := hR.ext hE7
    have hC := hC.ext hE7
    have hJ : Own (kBr (fun j => w.heap.size ≤ j)) 81 0 0 w7 (some ⟨g29, 0, none⟩) 1 1 [(a19, b21)] := Own.made _ 81 0 _ hN29 [(a19, b21)] [[.string a19, .slice q6 n21 c6]] 1 1 rfl ⟨⟨q6, _, c6, rfl, SlS.ofHash hC⟩, trivial⟩ (Nat.zero_le _) (by omega) (by omega) (by rfl) (by rfl)
    obtain ⟨css1, hA1, hsr1⟩ := src_kind u30 hJ.sl kBr_pos
    have hA1 : (kBr (fun j => w.heap.size ≤ j)).All 0 _ _ css1 := All.imp2 (fun _ _ h => h) hA1
    have hq1 := hX.size
    have hOl := hO.len
    rw [List.length_map] at hOl
    refine o_append (d := (kBr (fun j => w.heap.size ≤ j))) ([(a19, b21)]) u30 inf81 rfl kBr_pos rfl rfl hO (hsr1) rfl (hA1) (rfl) (by omega) (by omega) (by omega) (by omega) (by simp [kBr]) ?_
    intro p30 c30 w8 hO hM8
    have hX := hX.mod hM8 (Nat.le_refl _)
    have hR := hR.mod hM8 (Nat.zero_le _) (by simp [vHs, tMap, tIter])
    have hbr : brOf l a19 = (a19, b21) := by unfold brOf; rw [hb21]; rfl
    refine p1 (x_assign (by conv => lhs; whnf)) ?_
    refine r_nil ?_
    refine b_n ?_
    refine t_n (At.mk ((vs ++ [a19], p30, m + 1, c30)) (by repeat (first | exact Agr.refl _ _ | exact Agr.hav _ _ _ | refine Agr.upd rfl ?_ | refine Agr.updL ?_ _ rfl | refine Agr.hav' rfl ?_)) ⟨rfl, trivial⟩ ?_)
    exact ⟨⟨hX, ⟨hR, by rw [List.map_append, List.map_cons, List.map_nil, hbr]; exact hO⟩⟩, by show 64 - (vs ++ [a19]).length < 64 - vs.length; simp only [List.length_append, List.length_cons, List.length_nil]; omega⟩
end Go.Proofs.Eng
