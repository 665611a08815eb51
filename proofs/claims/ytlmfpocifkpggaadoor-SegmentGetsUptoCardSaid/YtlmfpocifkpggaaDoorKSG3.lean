import Derived.Test.YtlmfpocifkpggaaDoorKSG2
/- Merged: VA -/
section
set_option linter.unusedVariables false
set_option linter.unusedSimpArgs false
set_option maxRecDepth 100000
set_option maxHeartbeats 4000000
namespace Go.Proofs.Eng
open Go.RowKit
open Extern.Stop (cell)
theorem law_SegmentGets (xs : List UInt8) (B : Nat) (p : Option Addr) (n c : Nat) (w : World) (hl : Sl kByte 5 B w p n c xs) (hg : Gl w) (hn : n ≤ 1048576) :
    Ret Tryd.prog 5 [.slice p n c] w (fun v w' => v = .bool true ∧ Ext w w') := by
  have hX := Ext.refl w
  refine enter 64 _ Tryd.func5 rfl rfl (Nat.le_of_ble_eq_true rfl) rfl ?_
  refine c_seq ?_
  refine r_plain ?_
  refine p1 (x_assign (by conv => lhs; whnf)) ?_
  refine r_nil ?_
  refine t_n ?_
  refine c_seq ?_
  refine r_plain ?_
  have hXs0 := hX.size
  refine o_buildSlice u27 inf5 rfl (by decide) (fun base hb => by have h0 : base = #[] := Array.eq_empty_of_size_eq_zero (by simpa using hb); subst h0; rfl) ?_
  intro w1 g10 hN10
  have hE1 := hN10.ext
  have hX := hX.ext hE1
  have hI := none_made hN10 (B0 := w.heap.size) hXs0
  refine p1 (x_move (by conv => lhs; whnf)) ?_
  have hB0 := hX.size
  have hl2 := hl.ext hX
  refine o_append (d := kByte) (xs) u27 inf5 rfl kByte_pos rfl rfl hI (src_sl u27 hl2) hl2.len (byte_all _ _ _) (flat_single _) (by omega) (by omega) (by omega) (by omega) (by decide) ?_
  intro p12 c12 w2 hI hM2
  have hX := hX.mod hM2 (Nat.le_refl _)
  rw [List.nil_append] at hI
  refine p1 (x_assign (by conv => lhs; whnf)) ?_
  refine r_nil ?_
  refine t_n ?_
  refine c_seq ?_
  refine r_plain ?_
  refine p1 (x_move (by conv => lhs; whnf)) ?_
  obtain ⟨B2, hB2⟩ : ∃ B2, B2 = w2.heap.size := ⟨_, rfl⟩
  have hwB2 := hX.size
  have hpi := own_lt hI
  rw [← hB2] at hwB2 hpi
  refine o_call Tryd.func15 fn15 fb15 (segment_Get xs _ _ _ _ _ hI.sl (hg.q.ext hX) (Nat.zero_le _) (by omega)) rfl ?_
  rintro v3 w3 ⟨⟨qg, mg, cg, rfl, hG⟩, hE3⟩
  have hX := hX.ext hE3
  have hI := hI.ext hE3
  rw [← hB2] at hG
  refine p1 (x_move (by conv => lhs; whnf)) ?_
  refine p1 (x_extract rfl rfl) ?_
  refine p1 (x_extract rfl rfl) ?_
  refine p1 (x_assign (by conv => lhs; whnf)) ?_
  refine p1 (x_assign (by conv => lhs; whnf)) ?_
  refine r_nil ?_
  refine t_n ?_
  refine c_seq ?_
  refine r_plain ?_
  refine p1 (x_move (by conv => lhs; whnf)) ?_
  refine o_call Tryd.func16 fn16 fb16 (ref18_Get xs _ _ _ _ _ (hl.ext hX) (by omega)) rfl ?_
  rintro v4 w4 ⟨⟨qf, mf, cf, rfl, hF⟩, hE4⟩
  have hX := hX.ext hE4
  have hI := hI.ext hE4
  have hG := hG.ext hE4
  refine p1 (x_move (by conv => lhs; whnf)) ?_
  refine p1 (x_extract rfl rfl) ?_
  refine p1 (x_extract rfl rfl) ?_
  refine p1 (x_assign (by conv => lhs; whnf)) ?_
  refine p1 (x_assign (by conv => lhs; whnf)) ?_
  refine r_nil ?_
  refine t_n ?_
  refine c_seq ?_
  refine c_seq ?_
  refine r_plain ?_
  refine p1 (x_move (by conv => lhs; whnf)) ?_
  refine p1 (x_move (by conv => lhs; whnf)) ?_
  refine o_call Tryd.func17 fn17 fb17 (ref18_Same _ _ _ _ _ _ _ _ _ _ _ hG.sl.obSl hF.sl.obSl) rfl ?_
  rintro v5 w5 ⟨rfl, hE5⟩
  have hX := hX.ext hE5
  have hI := hI.ext hE5
  have hG := hG.ext hE5
  have hF := hF.ext hE5
  refine p1 ((x_not rfl).cast (congrArg Value.bool (by simp) : _ = Value.bool false)) ?_
  refine p1 (x_move (by conv => lhs; whnf)) ?_
  refine g1 27 rfl rfl (x_move (by conv => lhs; whnf)) ?_
  refine g1 27 rfl rfl (x_move (by conv => lhs; whnf)) ?_
  refine g1 27 rfl rfl ((x_neq rfl rfl).cast (congrArg _ (decide_eq_false (fun h => h rfl)))) ?_
  refine p1 (x_pick_f rfl (by conv => lhs; whnf)) ?_
  refine r_nil ?_
  refine t_n ?_
  refine c_f rfl ?_
  refine c_skip ?_
  refine t_n ?_
  refine c_seq ?_
  refine c_seq ?_
  refine r_plain ?_
  refine p1 (x_assign (by conv => lhs; whnf)) ?_
  refine r_nil ?_
  refine t_n ?_
  refine c_block ?_
  have hfit := hG.sl.fit
  have hcap := hG.sl.cap
  have hN := nb_of hG
  refine c_loop (ι := Nat) [8, 9, 32, 33, 34, 35, 36, 37, 38, 39, 40, 41, 42, 43, 44, 45, 46, 47, 48, 49, 50, 51, 52, 53, 54, 55] (fun i => [(8, .int .i64 (i : Int))]) (fun i w' => Ext w w' ∧ (i ≤ mg ∧ Own (kNb B2) 27 0 B2 w' qg mg cg (getF xs).1 ∧ Own kByte 5 0 w.heap.size w' p12 (0 + n) c12 xs)) (fun i => mg - i) (0) ⟨rfl, trivial⟩ ⟨hX, ⟨Nat.zero_le _, hN, hI⟩⟩ ?_
  rintro i GL0 w6 ⟨hE6, hi, hN, hI⟩
  have hX := hE6
  refine c_seq ?_
  refine c_seq ?_
  refine r_plain ?_
  refine p1 (x_move (by conv => lhs; whnf)) ?_
  refine p1 (x_move (by conv => lhs; whnf)) ?_
  refine p1 (x_len_slice u26 rfl) ?_
  refine p1 (x_lss rfl rfl) ?_
  refine r_nil ?_
  refine t_n ?_
  first | refine c_dec rfl (fun hc35 => ?_) (fun hc35 => ?_) | refine c_if rfl (fun hc35 => ?_) (fun hc35 => ?_)
  · try simp only [decide_eq_true_eq, decide_eq_false_iff_not, Bool.not_eq_true, Bool.not_eq_false, Bool.not_eq_eq_eq_not, Bool.not_true, Bool.not_false, Int.not_lt, Int.not_le] at hc35
    refine c_skip ?_
    refine t_n ?_
    refine c_seq ?_
    refine c_block ?_
    refine c_seq ?_
    refine r_plain ?_
    refine p1 (x_assign (by conv => lhs; whnf)) ?_
    refine r_nil ?_
    refine t_n ?_
    refine c_block ?_
    have hgl := getF_le xs i
    refine c_loop (ι := Nat) [9, 38, 39, 40, 41, 42, 43, 44, 45, 46, 47, 48, 49, 50, 51, 52, 53, 54, 55] (fun j => [(9, .int .i64 (j : Int))]) (fun j w' => Ext w w' ∧ (j ≤ ((getF xs).1.getD i []).length ∧ Own (kNb B2) 27 0 B2 w' qg mg cg (getF xs).1 ∧ Own kByte 5 0 w.heap.size w' p12 (0 + n) c12 xs)) (fun j => ((getF xs).1.getD i []).length - j) (0) ⟨rfl, trivial⟩ ⟨hX, ⟨Nat.zero_le _, hN, hI⟩⟩ ?_
    rintro j GL2 w7 ⟨hE7, hj, hN, hI⟩
    have hX := hE7
    obtain ⟨qe, ce, hce, hsh⟩ := hN.sl.nbAt i (by omega)
    refine c_seq ?_
    refine c_seq ?_
    refine r_plain ?_
    refine p1 (x_move (by conv => lhs; whnf)) ?_
    refine p1 (x_move (by conv => lhs; whnf)) ?_
    refine p1 (x_move (by conv => lhs; whnf)) ?_
    refine p1 (x_ixs0 u26 sz27 rfl rfl (hN.sl.adr kNb_pos (by omega)) (by omega)) ?_
    refine p1 (x_load1 un27 rfl hce) ?_
    refine p1 (x_len_slice u27 rfl) ?_
    refine p1 (x_lss rfl rfl) ?_
    refine r_nil ?_
    refine t_n ?_
    first | refine c_dec rfl (fun hc44 => ?_) (fun hc44 => ?_) | refine c_if rfl (fun hc44 => ?_) (fun hc44 => ?_)
    · try simp only [decide_eq_true_eq, decide_eq_false_iff_not, Bool.not_eq_true, Bool.not_eq_false, Bool.not_eq_eq_eq_not, Bool.not_true, Bool.not_false, Int.not_lt, Int.not_le] at hc44
      obtain ⟨g5, cur5, hqe, hg5, hB5, hcs5, hby5⟩ := hsh.resolve_left (by omega)
      subst hqe
      obtain ⟨b, hb⟩ := hby5 j (by omega)
      refine c_skip ?_
      refine t_n ?_
      refine c_seq ?_
      refine c_block ?_
      refine r_plain ?_
      refine p1 (x_move (by conv => lhs; whnf)) ?_
      refine p1 (x_move (by conv => lhs; whnf)) ?_
      refine p1 (x_ixs0 u26 sz27 rfl rfl (hN.sl.adr kNb_pos (by omega)) (by omega)) ?_
      refine p1 (x_load1 un27 rfl hce) ?_
      refine p1 (x_move (by conv => lhs; whnf)) ?_
      refine p1 (x_ixs0 u27 sz5 rfl rfl rfl (by omega)) ?_
      refine p1 ((x_load1 un5 rfl (cell0 hB5 hb)).cast (rfl : _ = Value.int .u8 (b.toNat : Int))) ?_
      refine p1 ((x_addw rfl rfl).cast (congrArg (Value.int .u8) (wrap1 b))) ?_
      refine p1 (x_ixs0 u27 sz5 rfl rfl rfl (by omega)) ?_
      refine o_store1 rfl (by conv => lhs; whnf) rfl rfl sz5 hB5 (by show 0 + j < _; omega) ?_
      intro w8 hP8
      have hX := hX.put hP8 (Nat.le_trans hwB2 hg5)
      have hN := nb_put hN hB5 hP8
      have hI := own_put hI hpi hg5 hP8
      refine r_nil ?_
      refine b_n ?_
      refine t_n ?_
      refine r_plain ?_
      refine p1 (x_move (by conv => lhs; whnf)) ?_
      refine p1 (x_add rfl rfl (fits_i64 (by omega) (by omega))) ?_
      refine p1 (x_assign (by conv => lhs; whnf)) ?_
      refine r_nil ?_
      refine t_n (At.mk (j + 1) (by repeat (first | exact Agr.refl _ _ | exact Agr.hav _ _ _ | refine Agr.upd rfl ?_ | refine Agr.updR rfl ?_ | refine Agr.updL ?_ _ rfl | refine Agr.hav' rfl ?_)) ⟨rfl, trivial⟩ ?_)
      exact ⟨⟨hX, ⟨by omega, hN, hI⟩⟩, by first | (dsimp only; omega) | ((show _ < _); omega)⟩
    · try simp only [decide_eq_true_eq, decide_eq_false_iff_not, Bool.not_eq_true, Bool.not_eq_false, Bool.not_eq_eq_eq_not, Bool.not_true, Bool.not_false, Int.not_lt, Int.not_le] at hc44
      refine c_exit ?_
      refine t_e ?_
      refine t_e ?_
      refine b_hit ?_
      refine b_n ?_
      refine t_n ?_
      refine r_plain ?_
      refine p1 (x_move (by conv => lhs; whnf)) ?_
      refine p1 (x_add rfl rfl (fits_i64 (by omega) (by omega))) ?_
      refine p1 (x_assign (by conv => lhs; whnf)) ?_
      refine r_nil ?_
      refine t_n (At.mk (i + 1) (by repeat (first | exact Agr.refl _ _ | exact Agr.hav _ _ _ | refine Agr.upd rfl ?_ | refine Agr.updR rfl ?_ | refine Agr.updL ?_ _ rfl | refine Agr.hav' rfl ?_)) ⟨rfl, trivial⟩ ?_)
      exact ⟨⟨hX, ⟨by omega, hN, hI⟩⟩, by first | (dsimp only; omega) | ((show _ < _); omega)⟩
  · try simp only [decide_eq_true_eq, decide_eq_false_iff_not, Bool.not_eq_true, Bool.not_eq_false, Bool.not_eq_eq_eq_not, Bool.not_true, Bool.not_false, Int.not_lt, Int.not_le] at hc35
    refine c_exit ?_
    refine t_e ?_
    refine t_e ?_
    refine b_hit ?_
    refine t_n ?_
    refine c_seq ?_
    refine r_plain ?_
    refine p1 (x_move (by conv => lhs; whnf)) ?_
    refine p1 (x_bytes_str u27 u5 u9 rfl hI.sl) ?_
    refine p1 (x_move (by conv => lhs; whnf)) ?_
    refine p1 (x_bytes_str u27 u5 u9 rfl (hl.ext hX)) ?_
    refine p1 ((x_eql_str rfl rfl).cast (congrArg _ (decide_eq_true (rfl)))) ?_
    refine p1 (x_move (by conv => lhs; whnf)) ?_
    refine g_drop 61 rfl rfl ?_
    refine o_call Tryd.func12 fn12 fb12 (law18_awake _ (hg.ext hX)) rfl ?_
    rintro v9 w9 ⟨rfl, hE9⟩
    have hX := hX.ext hE9
    have hN := hN.ext hE9
    have hI := hI.ext hE9
    refine p1 (x_pick_t rfl (by conv => lhs; whnf)) ?_
    refine p1 (x_assign (by conv => lhs; whnf)) ?_
    refine r_nil ?_
    refine t_n ?_
    refine c_ret ?_
    refine end1 rfl (by conv => lhs; whnf) ?_
    exact ⟨rfl, hX⟩
end Go.Proofs.Eng
end
