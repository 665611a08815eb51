import Derived.Test.YtjbfgmkemideiaaC6
set_option linter.unusedVariables false
set_option linter.unusedSimpArgs false
set_option maxRecDepth 100000
set_option maxHeartbeats 4000000
namespace Go.Proofs.Eng
open Go.RowKit
open Extern.Stop (cell)
theorem law_BranchPlays (acts : List Act') (nm : ByteArray) (B : Nat) (p : Option Addr) (n c : Nat) (w : World) (hA : Sl kAct 74 B w p n c acts) (hBB : B ≤ w.heap.size) (hkk : ∀ x ∈ acts, x.2.1.size ≤ 9223372036854775807) (hmm : ∀ x ∈ acts, x.2.2.length ≤ 4398046511104) (hnm : nm.size ≤ 9223372036854775807) :
    Ret Try.prog 12 [.slice p n c, .string nm] w (fun v w' => v = .bool true ∧ Ext w w') := by
  have hX := Ext.refl w
  refine enter 68 _ Try.func12 rfl rfl (Nat.le_of_ble_eq_true rfl) ?_
  refine c_seq ?_
  refine r_plain ?_
  refine p1 (x_assign (by conv => lhs; whnf)) ?_
  refine r_nil ?_
  refine t_n ?_
  refine c_seq ?_
  refine r_plain ?_
  refine o_call Try.func62 fn62 fb62 (branch_New _) rfl ?_
  rintro v1 w1 ⟨⟨gT, rT, rfl, hgT, hT⟩, hE1⟩
  have hX := hX.ext hE1
  refine p1 (x_assign (by conv => lhs; whnf)) ?_
  refine r_nil ?_
  refine t_n ?_
  refine c_seq ?_
  refine c_seq ?_
  refine r_plain ?_
  refine p1 (x_move (by conv => lhs; whnf)) ?_
  refine p1 ((x_eql_ptrnil u59 rfl rfl).cast (congrArg Value.bool (decide_eq_false (by simp)))) ?_
  refine r_nil ?_
  refine t_n ?_
  refine c_f rfl ?_
  refine c_skip ?_
  refine t_n ?_
  refine c_seq ?_
  refine r_plain ?_
  have hXs6 := hX.size
  refine o_alloc zr70 ?_
  intro w2 g6 hN6
  have hE2 := hN6.ext
  have hX := hX.ext hE2
  have hT := hT.ext hE2
  have hB6 := hN6.blk
  refine r_nil ?_
  refine t_n ?_
  refine c_seq ?_
  refine r_plain ?_
  refine p1 (x_assign (by conv => lhs; whnf)) ?_
  refine r_nil ?_
  refine t_n ?_
  refine c_seq ?_
  refine c_seq ?_
  refine r_plain ?_
  refine p1 (x_assign (by conv => lhs; whnf)) ?_
  refine r_nil ?_
  refine t_n ?_
  refine c_block ?_
  have hlen := hA.len
  have hcap := hA.cap
  have hfit := hA.fit
  refine c_loop (ι := Nat × List Br × Option Addr × Nat × Nat) [4, 7, 8, 16, 17, 18, 19, 20, 21, 22, 23, 24, 25, 26, 27, 28, 29, 30, 31, 32, 33, 34, 35, 36, 37, 38, 39] (fun (i, l, q, m, c1) => [(8, .int .i64 (i : Int))]) (fun (i, l, q, m, c1) w' => Ext w w' ∧ (Tbl (below w') w.heap.size w' gT rT l ∧ Sl (kBr (below w')) 81 0 w' q m c1 l ∧ Blk w' g6 #[.slice q m c1] 70 ∧ i ≤ n)) (fun (i, l, q, m, c1) => n - i) ((0, [], none, 0, 0)) ⟨rfl, trivial⟩ ⟨hX, ⟨hT.now, Sl.nil _ _ _ _ _ _ (by omega), hB6, by omega⟩⟩ ?_
  rintro ⟨i, l, q, m, c1⟩ GL0 w3 ⟨hE3, hT, hR, hB6, hi⟩
  have hX := hE3
  refine c_seq ?_
  refine c_seq ?_
  refine r_plain ?_
  refine p1 (x_move (by conv => lhs; whnf)) ?_
  refine p1 (x_move (by conv => lhs; whnf)) ?_
  refine p1 (x_len_slice u68 rfl) ?_
  refine p1 (x_lss rfl rfl) ?_
  refine r_nil ?_
  refine t_n ?_
  first | refine c_dec rfl (fun hc19 => ?_) (fun hc19 => ?_) | refine c_if rfl (fun hc19 => ?_) (fun hc19 => ?_)
  · try simp only [decide_eq_true_eq, decide_eq_false_iff_not, Bool.not_eq_true, Bool.not_eq_false, Bool.not_eq_eq_eq_not, Bool.not_true, Bool.not_false, Int.not_lt, Int.not_le] at hc19
    refine c_skip ?_
    refine t_n ?_
    refine c_seq ?_
    refine c_block ?_
    refine c_seq ?_
    refine r_held (fun _ w2 => Ext w w2) mixed ?_
    intro w4 hE4
    have hX := hX.ext hE4
    have hT := hT.ext hE4
    have hR := hR.ext hE4
    have hB6 := hB6.ext hE4
    have hSr9 : (fun _ w2 => Ext w w2) w4 w4 := hX
    have hAl := hA.len
    obtain ⟨qa, ma, ca, hrowa, hSa⟩ := hA.actAt i (by omega)
    have hmema := act_mem hAl (i := i) (by omega)
    have hmal := hSa.len
    have hmb := hmm _ hmema
    have hkb := hkk _ hmema
    refine h_take 0 rfl (by kernel_rfl) (by kernel_rfl) (by kernel_rfl) hSr9 (fun wS hSS => by ( exact (x_move (by conv => lhs; whnf)))) ?_
    refine h_take 2 rfl (by kernel_rfl) (by kernel_rfl) (by kernel_rfl) hSr9 (fun wS hSS => by ( exact (x_move (by conv => lhs; whnf)))) ?_
    refine h_take 3 rfl (by kernel_rfl) (by kernel_rfl) (by kernel_rfl) hSr9 (fun wS hSS => by ( exact (x_move (by conv => lhs; whnf)))) ?_
    refine h_take 4 rfl (by kernel_rfl) (by kernel_rfl) (by kernel_rfl) hSr9 (fun wS hSS => by ( exact (x_ixs u68 sz74 rfl rfl ((hA.ext hX).adr kAct_pos (by omega)) (by omega) (by omega)))) ?_
    refine h_take 5 rfl (by kernel_rfl) (by kernel_rfl) (by kernel_rfl) hSr9 (fun wS hSS => by (have hX := hSS; exact (x_loadN ua74 rfl (by exact sz74) (hX.range hrowa)))) ?_
    refine h_one 1 _ rfl (by kernel_rfl) (hop_of_list (fun Q1 hQ1 => ?_))
    refine p1 (x_loadB ua70 rfl hB6 sz70) ?_
    refine hop_end hQ1 ⟨hSr9, ?_⟩
    refine h_one 6 _ rfl (by kernel_rfl) (hop_of_list (fun Q6 hQ6 => ?_))
    refine o_call Try.func63 fn63 fb63 (law15_do (below _) (below _) _ gT rT l (acts.getD i default).1 (acts.getD i default).2.1 (acts.getD i default).2.2 _ _ _ _ _ _ _ _ hT hR (hSa.ext hX) hBB hkb (by omega)) rfl ?_
    rintro v5 w5 ⟨⟨q2, m2, c2, rfl, hT, hR⟩, hM5⟩
    have hX := hX.mod hM5 (Nat.le_refl _)
    have hB6 := hB6.mod hM5 (by decide)
    have hSr9 := hSr9.mod hM5 (by first | exact Nat.le_refl _ | exact trivial | omega)
    refine hop_end hQ6 ⟨hSr9, ?_⟩
    refine h_take 7 rfl (by kernel_rfl) (by kernel_rfl) (by kernel_rfl) hSr9 (fun wS hSS => by ( exact (x_move (by conv => lhs; whnf)))) ?_
    refine h_take 8 rfl (by kernel_rfl) (by kernel_rfl) (by kernel_rfl) hSr9 (fun wS hSS => by ( exact (x_extract rfl rfl))) ?_
    refine h_take 9 rfl (by kernel_rfl) (by kernel_rfl) (by kernel_rfl) hSr9 (fun wS hSS => by ( exact (x_extract rfl rfl))) ?_
    refine h_one 10 _ rfl (by kernel_rfl) (hop_of_list (fun Q10 hQ10 => ?_))
    refine o_storeAll rfl (by conv => lhs; whnf) (by simp [Value.oneCell']) (by exact sz70) hB6 (by rfl) ?_
    intro w6 hP6
    have hX := hX.put hP6 (by rw [hN6.g_eq]; exact hXs6)
    have hB6 := hP6.blk
    have hSr9 := hX
    have hT := hT.mod (hP6.mod 0 (Nat.zero_le _)) (Nat.zero_le _) (by decide)
    have hR := hR.mod (hP6.mod 0 (Nat.zero_le _)) (Nat.zero_le _) (by simp [kBr])
    refine hop_end hQ10 ⟨hSr9, ?_⟩
    refine h_take 11 rfl (by kernel_rfl) (by kernel_rfl) (by kernel_rfl) hSr9 (fun wS hSS => by ( exact (x_assign (by conv => lhs; whnf)))) ?_
    refine h_done (by kernel_rfl) ?_
    refine t_n ?_
    refine c_seq ?_
    refine r_plain ?_
    refine p1 (x_move (by conv => lhs; whnf)) ?_
    refine p1 (x_not rfl) ?_
    refine p1 (x_move (by conv => lhs; whnf)) ?_
    refine g1 34 rfl rfl (x_move (by conv => lhs; whnf)) ?_
    refine g1 34 rfl rfl (x_loadB ua70 rfl hB6 sz70) ?_
    refine g_drop 34 rfl rfl ?_
    refine o_call Try.func64 fn64 fb64 (law15_same _ _ _ gT rT _ _ _ _ _ hT hR) rfl ?_
    rintro v7 w7 ⟨rfl, hE7⟩
    have hX := hX.ext hE7
    have hB6 := hB6.ext hE7
    have hT := hT.ext hE7
    have hR := hR.ext hE7
    refine g1 34 rfl rfl (x_not rfl) ?_
    refine p1 (x_pick_f rfl (by conv => lhs; whnf)) ?_
    refine r_nil ?_
    refine t_n ?_
    refine c_f rfl ?_
    refine c_skip ?_
    refine b_n ?_
    refine t_n ?_
    refine r_plain ?_
    refine p1 (x_move (by conv => lhs; whnf)) ?_
    refine p1 (x_add rfl rfl (fits_i64 (by omega) (by omega))) ?_
    refine p1 (x_assign (by conv => lhs; whnf)) ?_
    refine r_nil ?_
    refine t_n (At.mk ((i + 1, (brDo l (acts.getD i default).1.toNat (acts.getD i default).2.1 (acts.getD i default).2.2).1, q2, m2, c2)) (by repeat (first | exact Agr.refl _ _ | exact Agr.hav _ _ _ | refine Agr.upd rfl ?_ | refine Agr.updL ?_ _ rfl | refine Agr.hav' rfl ?_)) ⟨rfl, trivial⟩ ?_)
    exact ⟨⟨hX, ⟨hT.now, hR.now, hB6, by omega⟩⟩, by first | (dsimp only; omega) | ((show _ < _); omega)⟩
  · try simp only [decide_eq_true_eq, decide_eq_false_iff_not, Bool.not_eq_true, Bool.not_eq_false, Bool.not_eq_eq_eq_not, Bool.not_true, Bool.not_false, Int.not_lt, Int.not_le] at hc19
    refine c_exit ?_
    refine t_e ?_
    refine t_e ?_
    refine b_hit ?_
    refine t_n ?_
    refine c_seq ?_
    refine r_plain ?_
    refine p1 (x_move (by conv => lhs; whnf)) ?_
    refine p1 (x_move (by conv => lhs; whnf)) ?_
    refine o_call Try.func49 fn49 fb49 (branch_Heads _ _ gT rT l nm _ hT) rfl ?_
    rintro v8 w8 ⟨⟨q4, m4, c4, rfl, hH⟩, hE8⟩
    have hX := hX.ext hE8
    have hT := hT.ext hE8
    have hR := hR.ext hE8
    have hB6 := hB6.ext hE8
    refine p1 (x_move (by conv => lhs; whnf)) ?_
    refine p1 (x_extract rfl rfl) ?_
    refine p1 (x_extract rfl rfl) ?_
    refine p1 (x_assign (by conv => lhs; whnf)) ?_
    refine p1 (x_assign (by conv => lhs; whnf)) ?_
    refine r_nil ?_
    refine t_n ?_
    refine c_seq ?_
    refine r_plain ?_
    refine p1 (x_loadB ua70 rfl hB6 sz70) ?_
    refine p1 (x_move (by conv => lhs; whnf)) ?_
    refine o_call Try.func65 fn65 fb65 (ref15_Heads _ l nm _ _ _ _ hR hT.rise) rfl ?_
    rintro v9 w9 ⟨⟨q5, m5, c5, rfl, hG⟩, hE9⟩
    have hX := hX.ext hE9
    have hT := hT.ext hE9
    have hR := hR.ext hE9
    have hB6 := hB6.ext hE9
    have hH := hH.ext hE9
    refine p1 (x_move (by conv => lhs; whnf)) ?_
    refine p1 (x_extract rfl rfl) ?_
    refine p1 (x_extract rfl rfl) ?_
    refine p1 (x_assign (by conv => lhs; whnf)) ?_
    refine p1 (x_assign (by conv => lhs; whnf)) ?_
    refine r_nil ?_
    refine t_n ?_
    refine c_seq ?_
    refine r_plain ?_
    refine p1 (x_move (by conv => lhs; whnf)) ?_
    refine p1 (x_move (by conv => lhs; whnf)) ?_
    refine o_call Try.func36 fn36 fb36 ((ref06_Same _ _ _ _ _ _ _ _ _ _ _ hH.sl hG).known (c := .bool true) (congrArg Value.bool (decide_eq_true rfl))) rfl ?_
    rintro v10 w10 ⟨rfl, hE10⟩
    have hX := hX.ext hE10
    have hT := hT.ext hE10
    have hR := hR.ext hE10
    have hB6 := hB6.ext hE10
    have hH := hH.ext hE10
    have hG := hG.ext hE10
    refine p1 (x_move (by conv => lhs; whnf)) ?_
    refine g1 55 rfl rfl (x_move (by conv => lhs; whnf)) ?_
    refine g1 55 rfl rfl (x_move (by conv => lhs; whnf)) ?_
    refine g1 55 rfl rfl ((x_eql rfl rfl).cast (congrArg Value.bool (decide_eq_true rfl))) ?_
    refine p1 (x_pick_t rfl (by conv => lhs; whnf)) ?_
    refine p1 (x_move (by conv => lhs; whnf)) ?_
    refine g1 60 rfl rfl (x_move (by conv => lhs; whnf)) ?_
    refine g1 60 rfl rfl (x_loadB ua70 rfl hB6 sz70) ?_
    refine g_drop 60 rfl rfl ?_
    refine o_call Try.func64 fn64 fb64 (law15_same _ _ _ gT rT _ _ _ _ _ hT hR) rfl ?_
    rintro v11 w11 ⟨rfl, hE11⟩
    have hX := hX.ext hE11
    have hT := hT.ext hE11
    have hR := hR.ext hE11
    have hB6 := hB6.ext hE11
    have hH := hH.ext hE11
    have hG := hG.ext hE11
    refine p1 (x_pick_t rfl (by conv => lhs; whnf)) ?_
    refine p1 (x_move (by conv => lhs; whnf)) ?_
    refine g_drop 65 rfl rfl ?_
    refine o_call Try.func55 fn55 fb55 (law15_awake _) rfl ?_
    rintro v12 w12 ⟨rfl, hE12⟩
    have hX := hX.ext hE12
    have hT := hT.ext hE12
    have hR := hR.ext hE12
    have hB6 := hB6.ext hE12
    have hH := hH.ext hE12
    have hG := hG.ext hE12
    refine p1 (x_pick_t rfl (by conv => lhs; whnf)) ?_
    refine p1 (x_assign (by conv => lhs; whnf)) ?_
    refine r_nil ?_
    refine t_n ?_
    refine c_ret ?_
    refine end1 rfl (by conv => lhs; whnf) ?_
    exact ⟨rfl, hX⟩
end Go.Proofs.Eng
