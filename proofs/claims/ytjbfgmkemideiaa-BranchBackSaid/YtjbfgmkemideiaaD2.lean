import Derived.Test.YtjbfgmkemideiaaD1
set_option linter.unusedVariables false
set_option linter.unusedSimpArgs false
set_option maxRecDepth 100000
set_option maxHeartbeats 4000000
namespace Go.Proofs.Eng
open Go.RowKit
open Extern.Stop (cell)
theorem law15_same_nil (w : World) :
    Ret Try.prog 64 [.pointer none, .agg #[.slice none 0 0]] w (fun v w' => v = .bool true ∧ Ext w w') := by
  have hX := Ext.refl w
  refine enter 50 _ Try.func64 rfl rfl (Nat.le_of_ble_eq_true rfl) ?_
  refine c_seq ?_
  refine r_plain ?_
  refine o_boxA (by conv => lhs; whnf) ?_
  intro w1 g3 hN3
  have hE1 := hN3.ext
  have hX := hX.ext hE1
  have hB3 := hN3.blk
  refine p1 (x_assign (by conv => lhs; whnf)) ?_
  refine r_nil ?_
  refine t_n ?_
  refine c_seq ?_
  refine r_plain ?_
  refine p1 (x_move (by conv => lhs; whnf)) ?_
  refine o_call Try.func53 fn53 fb53 (branch_List_nil _) rfl ?_
  rintro v2 w2 ⟨rfl, hE2⟩
  have hX := hX.ext hE2
  have hB3 := hB3.ext hE2
  refine p1 (x_assign (by conv => lhs; whnf)) ?_
  refine r_nil ?_
  refine t_n ?_
  refine c_seq ?_
  refine r_plain ?_
  refine p1 (x_move (by conv => lhs; whnf)) ?_
  refine p1 (x_fieldAddr fo70_0 sz30 rfl) ?_
  refine p1 (x_load1 un30 rfl (hB3.cell (rfl))) ?_
  refine o_call Try.func81 fn81 fb81 ((ref15_Same [] [] 0 0 _ _ _ _ _ _ _ (Sl.nil _ _ _ _ _ _ (by omega)) (Sl.nil _ _ _ _ _ _ (by omega))).known (c := .bool true) (congrArg Value.bool (decide_eq_true rfl))) rfl ?_
  rintro v3 w3 ⟨rfl, hE3⟩
  have hX := hX.ext hE3
  have hB3 := hB3.ext hE3
  refine p1 (x_move (by conv => lhs; whnf)) ?_
  refine g1 15 rfl rfl (x_move (by conv => lhs; whnf)) ?_
  refine g1 15 rfl rfl (x_fieldAddr fo70_0 sz30 rfl) ?_
  refine g1 15 rfl rfl (x_load1 un30 rfl (hB3.cell (rfl))) ?_
  refine g_drop 15 rfl rfl ?_
  refine o_call Try.func66 fn66 fb66 ((branch_Same [] [] 0 0 _ _ _ _ _ _ _ (Sl.nil _ _ _ _ _ _ (by omega)) (Sl.nil _ _ _ _ _ _ (by omega))).known (c := .bool true) (congrArg Value.bool (decide_eq_true rfl))) rfl ?_
  rintro v4 w4 ⟨rfl, hE4⟩
  have hX := hX.ext hE4
  have hB3 := hB3.ext hE4
  refine p1 (x_pick_t rfl (by conv => lhs; whnf)) ?_
  refine p1 (x_assign (by conv => lhs; whnf)) ?_
  refine r_nil ?_
  refine t_n ?_
  refine c_seq ?_
  refine c_seq ?_
  refine r_plain ?_
  refine p1 (x_assign (by conv => lhs; whnf)) ?_
  refine r_nil ?_
  refine t_n ?_
  refine c_block ?_
  refine c_loop (ι := Unit) [7, 8, 21, 22, 23, 24, 25, 26, 27, 28, 29, 30, 31, 32, 33, 34, 35, 36, 37, 38, 39, 40, 41, 42, 43, 44, 45, 46, 47, 48] (fun _ => [(7, .int .i64 0)]) (fun _ w' => Ext w w' ∧ (True)) (fun _ => 0) (()) ⟨rfl, trivial⟩ ⟨hX, trivial⟩ ?_
  rintro _ GL0 w5 ⟨hE5, _⟩
  have hX := hE5
  refine c_seq ?_
  refine c_seq ?_
  refine r_plain ?_
  refine p1 (x_move (by conv => lhs; whnf)) ?_
  refine p1 (x_move (by conv => lhs; whnf)) ?_
  refine p1 (x_len_slice u30 rfl) ?_
  refine p1 ((x_lss rfl rfl).cast (congrArg Value.bool (decide_eq_false (by omega)))) ?_
  refine r_nil ?_
  refine t_n ?_
  refine c_f rfl ?_
  refine c_exit ?_
  refine t_e ?_
  refine t_e ?_
  refine b_hit ?_
  refine t_n ?_
  refine c_seq ?_
  refine r_plain ?_
  refine p1 (x_move (by conv => lhs; whnf)) ?_
  refine p1 (x_assign (by conv => lhs; whnf)) ?_
  refine r_nil ?_
  refine t_n ?_
  refine c_ret ?_
  refine end1 rfl (by conv => lhs; whnf) ?_
  exact ⟨rfl, hX⟩
theorem law_BranchLoads_ok (l : List Br) (B : Nat) (p : Option Addr) (n c : Nat) (w : World) (ha : Sl kBrA 81 B w p n c l) (hkk : ∀ x ∈ l, x.1.size ≤ 9223372036854775807) (hmm : ∀ x ∈ l, x.2.length ≤ 4398046511104) (hn : n ≤ 3518437208780) (hok : okL l) :
    Ret Try.prog 14 [.slice p n c] w (fun v w' => v = .bool true ∧ Ext w w') := by
  have hX := Ext.refl w
  refine enter 72 _ Try.func14 rfl rfl (Nat.le_of_ble_eq_true rfl) ?_
  refine c_seq ?_
  refine r_plain ?_
  refine p1 (x_assign (by conv => lhs; whnf)) ?_
  refine r_nil ?_
  refine t_n ?_
  refine c_seq ?_
  refine r_plain ?_
  refine p1 (x_move (by conv => lhs; whnf)) ?_
  refine o_call Try.func67 fn67 fb67 (ref15_Copy l _ _ _ _ _ (ha.ext hX) hmm hn) rfl ?_
  rintro v1 w1 ⟨⟨q3, m3, c3, rfl, hI⟩, hE1⟩
  have hX := hX.ext hE1
  obtain ⟨Bc, hBc⟩ : ∃ x, x = w1.heap.size := ⟨_, rfl⟩
  have hI := hI.brMono (S' := (fun j => w.heap.size ≤ j ∧ j < Bc)) (fun j hj h => ⟨h, by omega⟩)
  refine p1 (x_assign (by conv => lhs; whnf)) ?_
  refine r_nil ?_
  refine t_n ?_
  refine c_seq ?_
  refine r_plain ?_
  refine p1 (x_move (by conv => lhs; whnf)) ?_
  have hXc : Bc ≤ w1.heap.size := by omega
  refine o_call Try.func68 fn68 fb68 (branch_Load_ok l _ _ _ _ _ hI.sl.brA hkk hok) rfl ?_
  rintro v2 w2 ⟨⟨gT, rT, rfl, hT⟩, hE2⟩
  have hX := hX.ext hE2
  have hI := hI.ext hE2
  have hT := hT.mono (S' := (fun j => Bc ≤ j)) (fun j _ h => Nat.le_trans hXc h)
  have hQ0 := Ext.refl w2
  have hXe := hE2.size
  refine p1 (x_move (by conv => lhs; whnf)) ?_
  refine p1 (x_extract rfl rfl) ?_
  refine p1 (x_extract rfl rfl) ?_
  refine p1 (x_assign (by conv => lhs; whnf)) ?_
  refine p1 (x_assign (by conv => lhs; whnf)) ?_
  refine r_nil ?_
  refine t_n ?_
  refine c_seq ?_
  refine r_plain ?_
  refine p1 (x_move (by conv => lhs; whnf)) ?_
  have hXd : Bc ≤ w2.heap.size := by have := hXc; have := hQ0.size; have := hXe; omega
  refine o_call Try.func69 fn69 fb69 (ref15_Load_ok l _ _ _ _ _ (ha.ext hX) hkk hok) rfl ?_
  rintro v3 w3 ⟨⟨q7, m7, c7, rfl, hR⟩, hE3⟩
  have hX := hX.ext hE3
  have hI := hI.ext hE3
  have hT := hT.ext hE3
  have hQ0 := hQ0.ext hE3
  have hR := (hR.sl).brMono (S' := (fun j => Bc ≤ j)) (fun j _ h => Nat.le_trans hXd h)
  refine p1 (x_move (by conv => lhs; whnf)) ?_
  refine p1 (x_extract rfl rfl) ?_
  refine p1 (x_extract rfl rfl) ?_
  have hXs6 := hX.size
  refine o_alloc zr70 ?_
  intro w4 g6 hN6
  have hE4 := hN6.ext
  have hX := hX.ext hE4
  have hI := hI.ext hE4
  have hT := hT.ext hE4
  have hQ0 := hQ0.ext hE4
  have hR := hR.ext hE4
  have hB6 := hN6.blk
  refine o_storeAll rfl (by conv => lhs; whnf) (by simp [Value.oneCell']) (by exact sz70) hB6 (by rfl) ?_
  intro w5 hP5
  have hX := hX.put hP5 (by rw [hN6.g_eq]; exact hXs6)
  have hI := hI.mod (hP5.mod 0 (Nat.zero_le _)) (Nat.zero_le _) (by simp [kBr])
  have hT := hT.mod (hP5.mod 0 (Nat.zero_le _)) (Nat.zero_le _) (by decide)
  have hQ0 := hX
  have hR := hR.mod (hP5.mod 0 (Nat.zero_le _)) (Nat.zero_le _) (by simp [kBr])
  have hB6 := hP5.blk
  refine p1 (x_assign (by conv => lhs; whnf)) ?_
  refine r_nil ?_
  refine t_n ?_
  refine c_seq ?_
  refine c_seq ?_
  refine r_plain ?_
  refine p1 (x_move (by conv => lhs; whnf)) ?_
  refine p1 (x_move (by conv => lhs; whnf)) ?_
  refine p1 ((x_neq rfl rfl).cast (congrArg Value.bool (decide_eq_false (by simp)))) ?_
  refine p1 (x_move (by conv => lhs; whnf)) ?_
  refine g1 25 rfl rfl (x_move (by conv => lhs; whnf)) ?_
  refine g1 25 rfl rfl ((x_neq_ptrnil u59 rfl rfl).cast (congrArg Value.bool (decide_eq_true (by simp)))) ?_
  refine g1 25 rfl rfl (x_move (by conv => lhs; whnf)) ?_
  refine g1 25 rfl rfl ((x_eql rfl rfl).cast (congrArg Value.bool (decide_eq_true rfl))) ?_
  refine g1 25 rfl rfl ((x_neq_bool u4 rfl rfl).cast (congrArg Value.bool (decide_eq_false (by simp)))) ?_
  refine p1 (x_pick_f rfl (by conv => lhs; whnf)) ?_
  refine p1 (x_move (by conv => lhs; whnf)) ?_
  refine g1 32 rfl rfl (x_move (by conv => lhs; whnf)) ?_
  refine g1 32 rfl rfl (x_loadB ua70 rfl hB6 sz70) ?_
  refine g_drop 32 rfl rfl ?_
  refine o_call Try.func64 fn64 fb64 (law15_same _ _ _ gT rT _ _ _ _ _ hT hR) rfl ?_
  rintro v6 w6 ⟨rfl, hE6⟩
  have hX := hX.ext hE6
  have hI := hI.ext hE6
  have hT := hT.ext hE6
  have hQ0 := hQ0.ext hE6
  have hR := hR.ext hE6
  have hB6 := hB6.ext hE6
  refine g1 32 rfl rfl (x_not rfl) ?_
  refine p1 (x_pick_f rfl (by conv => lhs; whnf)) ?_
  refine r_nil ?_
  refine t_n ?_
  refine c_f rfl ?_
  refine c_skip ?_
  refine t_n ?_
  refine c_seq ?_
  refine c_seq ?_
  refine r_plain ?_
  refine p1 (x_assign (by conv => lhs; whnf)) ?_
  refine r_nil ?_
  refine t_n ?_
  refine c_block ?_
  have hS := hI.sl.sh
  have hml := hI.len
  refine c_loop (ι := Nat) [8, 9, 38, 39, 40, 41, 42, 43, 44, 45, 46, 47, 48, 49, 50, 51, 52, 53, 54, 55, 56, 57, 58, 59, 60, 61, 62, 63, 64, 65] (fun i => [(8, .int .i64 (i : Int))]) (fun i w' => Ext w w' ∧ (Sl (kSh (fun j => w.heap.size ≤ j ∧ j < Bc)) 81 0 w' q3 m3 c3 (l.map fun x => x.2.length) ∧ Tbl (fun j => Bc ≤ j) _ w' gT rT l ∧ Sl (kBr (fun j => Bc ≤ j)) 81 0 w' q7 m7 c7 l ∧ Blk w' g6 #[.slice q7 m7 c7] 70 ∧ i ≤ m3)) (fun i => m3 - i) (0) ⟨rfl, trivial⟩ ⟨hX, ⟨hS, hT, hR, hB6, by omega⟩⟩ ?_
  rintro i GL0 w7 ⟨hE7, hS, hT, hR, hB6, hi⟩
  have hX := hE7
  have hcap5 := hS.cap
  have hfit5 := hS.fit
  refine c_seq ?_
  refine c_seq ?_
  refine r_plain ?_
  refine p1 (x_move (by conv => lhs; whnf)) ?_
  refine p1 (x_move (by conv => lhs; whnf)) ?_
  refine p1 (x_len_slice u30 rfl) ?_
  refine p1 (x_lss rfl rfl) ?_
  refine r_nil ?_
  refine t_n ?_
  first | refine c_dec rfl (fun hc41 => ?_) (fun hc41 => ?_) | refine c_if rfl (fun hc41 => ?_) (fun hc41 => ?_)
  · try simp only [decide_eq_true_eq, decide_eq_false_iff_not, Bool.not_eq_true, Bool.not_eq_false, Bool.not_eq_eq_eq_not, Bool.not_true, Bool.not_false, Int.not_lt, Int.not_le] at hc41
    refine c_skip ?_
    refine t_n ?_
    refine c_seq ?_
    refine c_block ?_
    refine c_seq ?_
    refine r_plain ?_
    refine p1 (x_assign (by conv => lhs; whnf)) ?_
    refine r_nil ?_
    refine t_n ?_
    refine c_block ?_
    refine c_loop (ι := Nat) [9, 44, 45, 46, 47, 48, 49, 50, 51, 52, 53, 54, 55, 56, 57, 58, 59, 60, 61, 62, 63, 64, 65] (fun k => [(9, .int .i64 (k : Int))]) (fun k w' => Ext w w' ∧ (Sl (kSh (fun j => w.heap.size ≤ j ∧ j < Bc)) 81 0 w' q3 m3 c3 (l.map fun x => x.2.length) ∧ Tbl (fun j => Bc ≤ j) _ w' gT rT l ∧ Sl (kBr (fun j => Bc ≤ j)) 81 0 w' q7 m7 c7 l ∧ Blk w' g6 #[.slice q7 m7 c7] 70 ∧ k ≤ (l.map fun x => x.2.length).getD i 0)) (fun k => (l.map fun x => x.2.length).getD i 0 - k) (0) ⟨rfl, trivial⟩ ⟨hX, ⟨hS, hT, hR, hB6, by omega⟩⟩ ?_
    rintro k GL2 w8 ⟨hE8, hS, hT, hR, hB6, hk⟩
    have hX := hE8
    refine c_seq ?_
    refine c_seq ?_
    obtain ⟨qh, ch, hch, hsh⟩ := hS.shAt i (by omega)
    have hfh := hsh.fit
    refine r_plain ?_
    refine p1 (x_move (by conv => lhs; whnf)) ?_
    refine p1 (x_move (by conv => lhs; whnf)) ?_
    refine p1 (x_move (by conv => lhs; whnf)) ?_
    refine p1 (x_ixs u30 sz81 rfl rfl (hS.adr kSh_pos (by omega)) (by omega) (by omega)) ?_
    refine p1 (x_fieldAddr fo81_1 sz31 rfl) ?_
    refine p1 (x_load1 un31 rfl hch) ?_
    refine p1 (x_len_slice u31 rfl) ?_
    refine p1 (x_lss rfl rfl) ?_
    refine r_nil ?_
    refine t_n ?_
    first | refine c_dec rfl (fun hc51 => ?_) (fun hc51 => ?_) | refine c_if rfl (fun hc51 => ?_) (fun hc51 => ?_)
    · try simp only [decide_eq_true_eq, decide_eq_false_iff_not, Bool.not_eq_true, Bool.not_eq_false, Bool.not_eq_eq_eq_not, Bool.not_true, Bool.not_false, Int.not_lt, Int.not_le] at hc51
      refine c_skip ?_
      refine t_n ?_
      refine c_seq ?_
      refine c_block ?_
      refine r_tail 12 mixed (by kernel_rfl) ?_
      intro w9 hE9
      have hX := hX.ext hE9
      have hS := hS.ext hE9
      have hT := hT.ext hE9
      have hR := hR.ext hE9
      have hB6 := hB6.ext hE9
      obtain ⟨qh, ch, hch, hsh⟩ := hS.shAt i (by omega)
      obtain ⟨bb, hbb⟩ := hsh.cells (k * 32) (by omega)
      refine s1 (x_move (by conv => lhs; whnf)) ?_
      refine s1 (x_move (by conv => lhs; whnf)) ?_
      refine s1 (x_ixs u30 sz81 rfl rfl (hS.adr kSh_pos (by omega)) (by omega) (by omega)) ?_
      refine s1 (x_fieldAddr fo81_1 sz31 rfl) ?_
      refine s1 (x_load1 un31 rfl hch) ?_
      refine s1 (x_move (by conv => lhs; whnf)) ?_
      refine s1 (x_ixs u31 sz35 rfl rfl (hsh.fp (by omega)).1 (by omega) (by omega)) ?_
      refine s1 (x_ixa u35 sz5 rfl rfl (by omega) (by omega)) ?_
      refine s1 (x_load1 un5 rfl hbb) ?_
      refine s1 ((x_addw rfl rfl).cast (congrArg _ (u8_inc bb))) ?_
      refine s1 (x_ixs u31 sz35 rfl rfl (hsh.fp (by omega)).1 (by omega) (by omega)) ?_
      refine s1 (x_ixa u35 sz5 rfl rfl (by omega) (by omega)) ?_
      refine s_nil ?_
      refine o_storeSh (j := k * 32) (b := bb + 1) hsh (by omega) rfl rfl sz5 ?_
      intro w10 cs10 hBc2 hP10
      have hin := (hsh.fp (by omega)).2.1
      have hX := hX.put hP10 hin.1
      have hS := hS.shSet (by decide) hBc2 hP10
      have hB6 := hB6.mod (hP10.mod 0 (Nat.zero_le _)) (by decide)
      have hT := hT.put hP10 (fun h => by have h1 : Bc ≤ ab qh := h; have := hin.2; omega) (by decide)
      have hR := hR.brPut hP10 (fun h => by have h1 : Bc ≤ ab qh := h; have := hin.2; omega) (by decide)
      refine r_nil ?_
      refine b_n ?_
      refine t_n ?_
      refine r_plain ?_
      refine p1 (x_move (by conv => lhs; whnf)) ?_
      refine p1 (x_add rfl rfl (fits_i64 (by omega) (by omega))) ?_
      refine p1 (x_assign (by conv => lhs; whnf)) ?_
      refine r_nil ?_
      refine t_n (At.mk (k + 1) (by repeat (first | exact Agr.refl _ _ | exact Agr.hav _ _ _ | refine Agr.upd rfl ?_ | refine Agr.updL ?_ _ rfl | refine Agr.hav' rfl ?_)) ⟨rfl, trivial⟩ ?_)
      exact ⟨⟨hX, ⟨hS, hT, hR, hB6, by omega⟩⟩, by first | (dsimp only; omega) | ((show _ < _); omega)⟩
    · try simp only [decide_eq_true_eq, decide_eq_false_iff_not, Bool.not_eq_true, Bool.not_eq_false, Bool.not_eq_eq_eq_not, Bool.not_true, Bool.not_false, Int.not_lt, Int.not_le] at hc51
      refine c_exit ?_
      refine t_e ?_
      refine t_e ?_
      refine b_hit ?_
      refine b_n ?_
      refine t_n ?_
      refine r_plain ?_
      refine p1 (x_move (by conv => lhs; whnf)) ?_
      refine p1 (x_add rfl rfl (fits_i64 (by omega) (by omega))) ?_
      refine p1 (x_assign (by conv => lhs; whnf)) ?_
      refine r_nil ?_
      refine t_n (At.mk (i + 1) (by repeat (first | exact Agr.refl _ _ | exact Agr.hav _ _ _ | refine Agr.upd rfl ?_ | refine Agr.updL ?_ _ rfl | refine Agr.hav' rfl ?_)) ⟨rfl, trivial⟩ ?_)
      exact ⟨⟨hX, ⟨hS, hT, hR, hB6, by omega⟩⟩, by first | (dsimp only; omega) | ((show _ < _); omega)⟩
  · try simp only [decide_eq_true_eq, decide_eq_false_iff_not, Bool.not_eq_true, Bool.not_eq_false, Bool.not_eq_eq_eq_not, Bool.not_true, Bool.not_false, Int.not_lt, Int.not_le] at hc41
    refine c_exit ?_
    refine t_e ?_
    refine t_e ?_
    refine b_hit ?_
    refine t_n ?_
    refine c_seq ?_
    refine r_plain ?_
    refine p1 (x_move (by conv => lhs; whnf)) ?_
    refine p1 (x_loadB ua70 rfl hB6 sz70) ?_
    refine o_call Try.func64 fn64 fb64 (law15_same _ _ _ gT rT _ _ _ _ _ hT hR) rfl ?_
    rintro v11 w11 ⟨rfl, hE11⟩
    have hX := hX.ext hE11
    have hS := hS.ext hE11
    have hT := hT.ext hE11
    have hR := hR.ext hE11
    have hB6 := hB6.ext hE11
    refine p1 (x_move (by conv => lhs; whnf)) ?_
    refine g_drop 69 rfl rfl ?_
    refine o_call Try.func55 fn55 fb55 (law15_awake _) rfl ?_
    rintro v12 w12 ⟨rfl, hE12⟩
    have hX := hX.ext hE12
    have hS := hS.ext hE12
    have hT := hT.ext hE12
    have hR := hR.ext hE12
    have hB6 := hB6.ext hE12
    refine p1 (x_pick_t rfl (by conv => lhs; whnf)) ?_
    refine p1 (x_assign (by conv => lhs; whnf)) ?_
    refine r_nil ?_
    refine t_n ?_
    refine c_ret ?_
    refine end1 rfl (by conv => lhs; whnf) ?_
    exact ⟨rfl, hX⟩
theorem law_BranchLoads_no (l : List Br) (B : Nat) (p : Option Addr) (n c : Nat) (w : World) (ha : Sl kBrA 81 B w p n c l) (hkk : ∀ x ∈ l, x.1.size ≤ 9223372036854775807) (hmm : ∀ x ∈ l, x.2.length ≤ 4398046511104) (hn : n ≤ 3518437208780) (hno : ¬ okL l) :
    Ret Try.prog 14 [.slice p n c] w (fun v w' => v = .bool true ∧ Ext w w') := by
  have hX := Ext.refl w
  refine enter 72 _ Try.func14 rfl rfl (Nat.le_of_ble_eq_true rfl) ?_
  refine c_seq ?_
  refine r_plain ?_
  refine p1 (x_assign (by conv => lhs; whnf)) ?_
  refine r_nil ?_
  refine t_n ?_
  refine c_seq ?_
  refine r_plain ?_
  refine p1 (x_move (by conv => lhs; whnf)) ?_
  refine o_call Try.func67 fn67 fb67 (ref15_Copy l _ _ _ _ _ (ha.ext hX) hmm hn) rfl ?_
  rintro v1 w1 ⟨⟨q3, m3, c3, rfl, hI⟩, hE1⟩
  have hX := hX.ext hE1
  obtain ⟨Bc, hBc⟩ : ∃ x, x = w1.heap.size := ⟨_, rfl⟩
  have hI := hI.brMono (S' := (fun j => w.heap.size ≤ j ∧ j < Bc)) (fun j hj h => ⟨h, by omega⟩)
  refine p1 (x_assign (by conv => lhs; whnf)) ?_
  refine r_nil ?_
  refine t_n ?_
  refine c_seq ?_
  refine r_plain ?_
  refine p1 (x_move (by conv => lhs; whnf)) ?_
  have hXc : Bc ≤ w1.heap.size := by omega
  refine o_call Try.func68 fn68 fb68 (branch_Load_no l _ _ _ _ _ hI.sl.brA hkk hno) rfl ?_
  rintro v2 w2 ⟨rfl, hE2⟩
  have hX := hX.ext hE2
  have hI := hI.ext hE2
  have hQ0 := Ext.refl w2
  have hXe := hE2.size
  refine p1 (x_move (by conv => lhs; whnf)) ?_
  refine p1 (x_extract rfl rfl) ?_
  refine p1 (x_extract rfl rfl) ?_
  refine p1 (x_assign (by conv => lhs; whnf)) ?_
  refine p1 (x_assign (by conv => lhs; whnf)) ?_
  refine r_nil ?_
  refine t_n ?_
  refine c_seq ?_
  refine r_plain ?_
  refine p1 (x_move (by conv => lhs; whnf)) ?_
  have hXd : Bc ≤ w2.heap.size := by have := hXc; have := hQ0.size; have := hXe; omega
  refine o_call Try.func69 fn69 fb69 (ref15_Load_no l _ _ _ _ _ (ha.ext hX) hkk hno) rfl ?_
  rintro v3 w3 ⟨rfl, hE3⟩
  have hX := hX.ext hE3
  have hI := hI.ext hE3
  have hQ0 := hQ0.ext hE3
  refine p1 (x_move (by conv => lhs; whnf)) ?_
  refine p1 (x_extract rfl rfl) ?_
  refine p1 (x_extract rfl rfl) ?_
  have hXs6 := hX.size
  refine o_alloc zr70 ?_
  intro w4 g6 hN6
  have hE4 := hN6.ext
  have hX := hX.ext hE4
  have hI := hI.ext hE4
  have hQ0 := hQ0.ext hE4
  have hB6 := hN6.blk
  refine o_storeAll rfl (by conv => lhs; whnf) (by simp [Value.oneCell']) (by exact sz70) hB6 (by rfl) ?_
  intro w5 hP5
  have hX := hX.put hP5 (by rw [hN6.g_eq]; exact hXs6)
  have hI := hI.mod (hP5.mod 0 (Nat.zero_le _)) (Nat.zero_le _) (by simp [kBr])
  have hQ0 := hX
  have hB6 := hP5.blk
  refine p1 (x_assign (by conv => lhs; whnf)) ?_
  refine r_nil ?_
  refine t_n ?_
  refine c_seq ?_
  refine c_seq ?_
  refine r_plain ?_
  refine p1 (x_move (by conv => lhs; whnf)) ?_
  refine p1 (x_move (by conv => lhs; whnf)) ?_
  refine p1 ((x_neq rfl rfl).cast (congrArg Value.bool (decide_eq_false (by simp)))) ?_
  refine p1 (x_move (by conv => lhs; whnf)) ?_
  refine g1 25 rfl rfl (x_move (by conv => lhs; whnf)) ?_
  refine g1 25 rfl rfl ((x_neq_ptrnil u59 rfl rfl).cast (congrArg Value.bool (decide_eq_false (by simp)))) ?_
  refine g1 25 rfl rfl (x_move (by conv => lhs; whnf)) ?_
  refine g1 25 rfl rfl ((x_eql rfl rfl).cast (congrArg Value.bool (decide_eq_false (by omega)))) ?_
  refine g1 25 rfl rfl ((x_neq_bool u4 rfl rfl).cast (congrArg Value.bool (decide_eq_false (by simp)))) ?_
  refine p1 (x_pick_f rfl (by conv => lhs; whnf)) ?_
  refine p1 (x_move (by conv => lhs; whnf)) ?_
  refine g1 32 rfl rfl (x_move (by conv => lhs; whnf)) ?_
  refine g1 32 rfl rfl (x_loadB ua70 rfl hB6 sz70) ?_
  refine g_drop 32 rfl rfl ?_
  refine o_call Try.func64 fn64 fb64 (law15_same_nil _) rfl ?_
  rintro v6 w6 ⟨rfl, hE6⟩
  have hX := hX.ext hE6
  have hI := hI.ext hE6
  have hQ0 := hQ0.ext hE6
  have hB6 := hB6.ext hE6
  refine g1 32 rfl rfl (x_not rfl) ?_
  refine p1 (x_pick_f rfl (by conv => lhs; whnf)) ?_
  refine r_nil ?_
  refine t_n ?_
  refine c_f rfl ?_
  refine c_skip ?_
  refine t_n ?_
  refine c_seq ?_
  refine c_seq ?_
  refine r_plain ?_
  refine p1 (x_assign (by conv => lhs; whnf)) ?_
  refine r_nil ?_
  refine t_n ?_
  refine c_block ?_
  have hS := hI.sl.sh
  have hml := hI.len
  refine c_loop (ι := Nat) [8, 9, 38, 39, 40, 41, 42, 43, 44, 45, 46, 47, 48, 49, 50, 51, 52, 53, 54, 55, 56, 57, 58, 59, 60, 61, 62, 63, 64, 65] (fun i => [(8, .int .i64 (i : Int))]) (fun i w' => Ext w w' ∧ (Sl (kSh (fun j => w.heap.size ≤ j ∧ j < Bc)) 81 0 w' q3 m3 c3 (l.map fun x => x.2.length) ∧ Blk w' g6 #[.slice none 0 0] 70 ∧ i ≤ m3)) (fun i => m3 - i) (0) ⟨rfl, trivial⟩ ⟨hX, ⟨hS, hB6, by omega⟩⟩ ?_
  rintro i GL0 w7 ⟨hE7, hS, hB6, hi⟩
  have hX := hE7
  have hcap5 := hS.cap
  have hfit5 := hS.fit
  refine c_seq ?_
  refine c_seq ?_
  refine r_plain ?_
  refine p1 (x_move (by conv => lhs; whnf)) ?_
  refine p1 (x_move (by conv => lhs; whnf)) ?_
  refine p1 (x_len_slice u30 rfl) ?_
  refine p1 (x_lss rfl rfl) ?_
  refine r_nil ?_
  refine t_n ?_
  first | refine c_dec rfl (fun hc41 => ?_) (fun hc41 => ?_) | refine c_if rfl (fun hc41 => ?_) (fun hc41 => ?_)
  · try simp only [decide_eq_true_eq, decide_eq_false_iff_not, Bool.not_eq_true, Bool.not_eq_false, Bool.not_eq_eq_eq_not, Bool.not_true, Bool.not_false, Int.not_lt, Int.not_le] at hc41
    refine c_skip ?_
    refine t_n ?_
    refine c_seq ?_
    refine c_block ?_
    refine c_seq ?_
    refine r_plain ?_
    refine p1 (x_assign (by conv => lhs; whnf)) ?_
    refine r_nil ?_
    refine t_n ?_
    refine c_block ?_
    refine c_loop (ι := Nat) [9, 44, 45, 46, 47, 48, 49, 50, 51, 52, 53, 54, 55, 56, 57, 58, 59, 60, 61, 62, 63, 64, 65] (fun k => [(9, .int .i64 (k : Int))]) (fun k w' => Ext w w' ∧ (Sl (kSh (fun j => w.heap.size ≤ j ∧ j < Bc)) 81 0 w' q3 m3 c3 (l.map fun x => x.2.length) ∧ Blk w' g6 #[.slice none 0 0] 70 ∧ k ≤ (l.map fun x => x.2.length).getD i 0)) (fun k => (l.map fun x => x.2.length).getD i 0 - k) (0) ⟨rfl, trivial⟩ ⟨hX, ⟨hS, hB6, by omega⟩⟩ ?_
    rintro k GL2 w8 ⟨hE8, hS, hB6, hk⟩
    have hX := hE8
    refine c_seq ?_
    refine c_seq ?_
    obtain ⟨qh, ch, hch, hsh⟩ := hS.shAt i (by omega)
    have hfh := hsh.fit
    refine r_plain ?_
    refine p1 (x_move (by conv => lhs; whnf)) ?_
    refine p1 (x_move (by conv => lhs; whnf)) ?_
    refine p1 (x_move (by conv => lhs; whnf)) ?_
    refine p1 (x_ixs u30 sz81 rfl rfl (hS.adr kSh_pos (by omega)) (by omega) (by omega)) ?_
    refine p1 (x_fieldAddr fo81_1 sz31 rfl) ?_
    refine p1 (x_load1 un31 rfl hch) ?_
    refine p1 (x_len_slice u31 rfl) ?_
    refine p1 (x_lss rfl rfl) ?_
    refine r_nil ?_
    refine t_n ?_
    first | refine c_dec rfl (fun hc51 => ?_) (fun hc51 => ?_) | refine c_if rfl (fun hc51 => ?_) (fun hc51 => ?_)
    · try simp only [decide_eq_true_eq, decide_eq_false_iff_not, Bool.not_eq_true, Bool.not_eq_false, Bool.not_eq_eq_eq_not, Bool.not_true, Bool.not_false, Int.not_lt, Int.not_le] at hc51
      refine c_skip ?_
      refine t_n ?_
      refine c_seq ?_
      refine c_block ?_
      refine r_tail 12 mixed (by kernel_rfl) ?_
      intro w9 hE9
      have hX := hX.ext hE9
      have hS := hS.ext hE9
      have hB6 := hB6.ext hE9
      obtain ⟨qh, ch, hch, hsh⟩ := hS.shAt i (by omega)
      obtain ⟨bb, hbb⟩ := hsh.cells (k * 32) (by omega)
      refine s1 (x_move (by conv => lhs; whnf)) ?_
      refine s1 (x_move (by conv => lhs; whnf)) ?_
      refine s1 (x_ixs u30 sz81 rfl rfl (hS.adr kSh_pos (by omega)) (by omega) (by omega)) ?_
      refine s1 (x_fieldAddr fo81_1 sz31 rfl) ?_
      refine s1 (x_load1 un31 rfl hch) ?_
      refine s1 (x_move (by conv => lhs; whnf)) ?_
      refine s1 (x_ixs u31 sz35 rfl rfl (hsh.fp (by omega)).1 (by omega) (by omega)) ?_
      refine s1 (x_ixa u35 sz5 rfl rfl (by omega) (by omega)) ?_
      refine s1 (x_load1 un5 rfl hbb) ?_
      refine s1 ((x_addw rfl rfl).cast (congrArg _ (u8_inc bb))) ?_
      refine s1 (x_ixs u31 sz35 rfl rfl (hsh.fp (by omega)).1 (by omega) (by omega)) ?_
      refine s1 (x_ixa u35 sz5 rfl rfl (by omega) (by omega)) ?_
      refine s_nil ?_
      refine o_storeSh (j := k * 32) (b := bb + 1) hsh (by omega) rfl rfl sz5 ?_
      intro w10 cs10 hBc2 hP10
      have hin := (hsh.fp (by omega)).2.1
      have hX := hX.put hP10 hin.1
      have hS := hS.shSet (by decide) hBc2 hP10
      have hB6 := hB6.mod (hP10.mod 0 (Nat.zero_le _)) (by decide)
      refine r_nil ?_
      refine b_n ?_
      refine t_n ?_
      refine r_plain ?_
      refine p1 (x_move (by conv => lhs; whnf)) ?_
      refine p1 (x_add rfl rfl (fits_i64 (by omega) (by omega))) ?_
      refine p1 (x_assign (by conv => lhs; whnf)) ?_
      refine r_nil ?_
      refine t_n (At.mk (k + 1) (by repeat (first | exact Agr.refl _ _ | exact Agr.hav _ _ _ | refine Agr.upd rfl ?_ | refine Agr.updL ?_ _ rfl | refine Agr.hav' rfl ?_)) ⟨rfl, trivial⟩ ?_)
      exact ⟨⟨hX, ⟨hS, hB6, by omega⟩⟩, by first | (dsimp only; omega) | ((show _ < _); omega)⟩
    · try simp only [decide_eq_true_eq, decide_eq_false_iff_not, Bool.not_eq_true, Bool.not_eq_false, Bool.not_eq_eq_eq_not, Bool.not_true, Bool.not_false, Int.not_lt, Int.not_le] at hc51
      refine c_exit ?_
      refine t_e ?_
      refine t_e ?_
      refine b_hit ?_
      refine b_n ?_
      refine t_n ?_
      refine r_plain ?_
      refine p1 (x_move (by conv => lhs; whnf)) ?_
      refine p1 (x_add rfl rfl (fits_i64 (by omega) (by omega))) ?_
      refine p1 (x_assign (by conv => lhs; whnf)) ?_
      refine r_nil ?_
      refine t_n (At.mk (i + 1) (by repeat (first | exact Agr.refl _ _ | exact Agr.hav _ _ _ | refine Agr.upd rfl ?_ | refine Agr.updL ?_ _ rfl | refine Agr.hav' rfl ?_)) ⟨rfl, trivial⟩ ?_)
      exact ⟨⟨hX, ⟨hS, hB6, by omega⟩⟩, by first | (dsimp only; omega) | ((show _ < _); omega)⟩
  · try simp only [decide_eq_true_eq, decide_eq_false_iff_not, Bool.not_eq_true, Bool.not_eq_false, Bool.not_eq_eq_eq_not, Bool.not_true, Bool.not_false, Int.not_lt, Int.not_le] at hc41
    refine c_exit ?_
    refine t_e ?_
    refine t_e ?_
    refine b_hit ?_
    refine t_n ?_
    refine c_seq ?_
    refine r_plain ?_
    refine p1 (x_move (by conv => lhs; whnf)) ?_
    refine p1 (x_loadB ua70 rfl hB6 sz70) ?_
    refine o_call Try.func64 fn64 fb64 (law15_same_nil _) rfl ?_
    rintro v11 w11 ⟨rfl, hE11⟩
    have hX := hX.ext hE11
    have hS := hS.ext hE11
    have hB6 := hB6.ext hE11
    refine p1 (x_move (by conv => lhs; whnf)) ?_
    refine g_drop 69 rfl rfl ?_
    refine o_call Try.func55 fn55 fb55 (law15_awake _) rfl ?_
    rintro v12 w12 ⟨rfl, hE12⟩
    have hX := hX.ext hE12
    have hS := hS.ext hE12
    have hB6 := hB6.ext hE12
    refine p1 (x_pick_t rfl (by conv => lhs; whnf)) ?_
    refine p1 (x_assign (by conv => lhs; whnf)) ?_
    refine r_nil ?_
    refine t_n ?_
    refine c_ret ?_
    refine end1 rfl (by conv => lhs; whnf) ?_
    exact ⟨rfl, hX⟩
theorem law_BranchLoads (l : List Br) (B : Nat) (p : Option Addr) (n c : Nat) (w : World) (ha : Sl kBrA 81 B w p n c l) (hkk : ∀ x ∈ l, x.1.size ≤ 9223372036854775807) (hmm : ∀ x ∈ l, x.2.length ≤ 4398046511104) (hn : n ≤ 3518437208780) : Ret Try.prog 14 [.slice p n c] w (fun v w' => v = .bool true ∧ Ext w w') :=
  (Classical.em (okL l)).elim (fun h => law_BranchLoads_ok l B p n c w ha hkk hmm hn h) (fun h => law_BranchLoads_no l B p n c w ha hkk hmm hn h)
end Go.Proofs.Eng
