import Derived.Test.YtjbfgmkemideiaaC8
set_option linter.unusedVariables false
set_option linter.unusedSimpArgs false
set_option maxRecDepth 100000
set_option maxHeartbeats 4000000
namespace Go.Proofs.Eng
open Go.RowKit
open Extern.Stop (cell)
theorem law_BranchApart (acts : List Act') (nm : ByteArray) (B : Nat) (p : Option Addr) (n c : Nat) (w : World) (hA : Sl kAct 74 B w p n c acts) (hBB : B ≤ w.heap.size) (hkk : ∀ x ∈ acts, x.2.1.size ≤ 9223372036854775807) (hmm : ∀ x ∈ acts, x.2.2.length ≤ 4398046511104) (hnm : nm.size ≤ 9223372036854775807) (hds : List Hash) (B2 : Nat) (q : Option Addr) (m c2 : Nat) (hh : Sl kHash 35 B2 w q m c2 hds) :
    Ret Try.prog 13 [.slice p n c, .string nm, .slice q m c2] w (fun v w' => v = .bool true ∧ Ext w w') := by
  have hX := Ext.refl w
  refine enter 98 _ Try.func13 rfl rfl (Nat.le_of_ble_eq_true rfl) ?_
  refine c_seq ?_
  refine r_plain ?_
  refine p1 (x_assign (by conv => lhs; whnf)) ?_
  refine r_nil ?_
  refine t_n ?_
  refine c_seq ?_
  refine r_plain ?_
  refine o_call Try.func62 fn62 fb62 (branch_New _) rfl ?_
  rintro v1 w1 ⟨⟨gT, rT, rfl, hgT, hT⟩, hE1⟩
  have hX := hX.ext hE1
  refine p1 (x_assign (by conv => lhs; whnf)) ?_
  refine r_nil ?_
  refine t_n ?_
  refine c_seq ?_
  refine c_seq ?_
  refine r_plain ?_
  refine p1 (x_move (by conv => lhs; whnf)) ?_
  refine p1 (x_move (by conv => lhs; whnf)) ?_
  refine p1 (x_move (by conv => lhs; whnf)) ?_
  refine o_call Try.func50 fn50 fb50 (branch_Create nS _ gT rT [] nm hds _ _ _ _ _ hT (hh.ext hX) hnm) rfl ?_
  rintro v2 w2 ⟨rfl, hT, hM2⟩
  have hX := hX.mod hM2 (Nat.le_refl _)
  refine p1 (x_neq rfl rfl) ?_
  refine r_nil ?_
  refine t_n ?_
  first | refine c_dec rfl (fun hc19 => ?_) (fun hc19 => ?_) | refine c_if rfl (fun hc19 => ?_) (fun hc19 => ?_)
  · try simp only [decide_eq_true_eq, decide_eq_false_iff_not, Bool.not_eq_true, Bool.not_eq_false, Bool.not_eq_eq_eq_not, Bool.not_true, Bool.not_false, Int.not_lt, Int.not_le] at hc19
    have he0 : (brCreate [] nm hds).1 = [] := brCreate_err (fun e => hc19 (by rw [e]))
    refine c_seq ?_
    refine r_plain ?_
    refine p1 (x_move (by conv => lhs; whnf)) ?_
    refine o_call Try.func53 fn53 fb53 (branch_List _ _ gT rT _ _ hT) rfl ?_
    rintro v3 w3 ⟨⟨q5, m5, c5, rfl, hO⟩, hE3⟩
    have hX := hX.ext hE3
    have hT := hT.ext hE3
    rw [he0] at hO
    have hm5 : m5 = 0 := hO.len.symm
    refine p1 (x_len_slice u30 rfl) ?_
    refine p1 ((x_eql rfl rfl).cast (congrArg Value.bool (decide_eq_true (by rw [hm5]; rfl)))) ?_
    refine p1 (x_move (by conv => lhs; whnf)) ?_
    refine g_drop 24 rfl rfl ?_
    refine o_call Try.func55 fn55 fb55 (law15_awake _) rfl ?_
    rintro v4 w4 ⟨rfl, hE4⟩
    have hX := hX.ext hE4
    have hT := hT.ext hE4
    refine p1 (x_pick_t rfl (by conv => lhs; whnf)) ?_
    refine p1 (x_assign (by conv => lhs; whnf)) ?_
    refine r_nil ?_
    refine t_n ?_
    refine c_ret ?_
    refine t_r ?_
    refine end1 rfl (by conv => lhs; whnf) ?_
    exact ⟨rfl, hX⟩
  · try simp only [decide_eq_true_eq, decide_eq_false_iff_not, Bool.not_eq_true, Bool.not_eq_false, Bool.not_eq_eq_eq_not, Bool.not_true, Bool.not_false, Int.not_lt, Int.not_le] at hc19
    have he0 : (brCreate [] nm hds).2 = 0 := Classical.byContradiction (fun e => hc19 e)
    have hasc0 := brCreate_ok .nil he0
    refine c_skip ?_
    refine t_n ?_
    refine c_seq ?_
    refine c_seq ?_
    refine r_plain ?_
    refine p1 (x_assign (by conv => lhs; whnf)) ?_
    refine r_nil ?_
    refine t_n ?_
    refine c_block ?_
    have hlen := hA.len
    have hcap := hA.cap
    have hfit := hA.fit
    refine c_loop (ι := Nat × List Br) [6, 8, 9, 10, 11, 27, 28, 29, 30, 31, 32, 33, 34, 35, 36, 37, 38, 39, 40, 41, 42, 43, 44, 45, 46, 47, 48, 49, 50, 51, 52, 53, 54, 55, 56, 57, 58, 59, 60, 61, 62, 63, 64, 65, 66, 67, 68, 69, 70, 71, 72, 73, 74, 75] (fun (i, l) => [(8, .int .i64 (i : Int))]) (fun (i, l) w' => Ext w w' ∧ (Tbl (below w') w.heap.size w' gT rT l ∧ asc l nm = some hds ∧ i ≤ n)) (fun (i, l) => n - i) ((0, (brCreate [] nm hds).1)) ⟨rfl, trivial⟩ ⟨hX, ⟨hT.now, hasc0, by omega⟩⟩ ?_
    rintro ⟨i, l⟩ GL0 w5 ⟨hE5, hT, hasc, hi⟩
    have hX := hE5
    have hrl := hT.rise
    refine c_seq ?_
    refine c_seq ?_
    refine r_plain ?_
    refine p1 (x_move (by conv => lhs; whnf)) ?_
    refine p1 (x_move (by conv => lhs; whnf)) ?_
    refine p1 (x_len_slice u68 rfl) ?_
    refine p1 (x_lss rfl rfl) ?_
    refine r_nil ?_
    refine t_n ?_
    first | refine c_dec rfl (fun hc30 => ?_) (fun hc30 => ?_) | refine c_if rfl (fun hc30 => ?_) (fun hc30 => ?_)
    · try simp only [decide_eq_true_eq, decide_eq_false_iff_not, Bool.not_eq_true, Bool.not_eq_false, Bool.not_eq_eq_eq_not, Bool.not_true, Bool.not_false, Int.not_lt, Int.not_le] at hc30
      refine c_skip ?_
      refine t_n ?_
      refine c_seq ?_
      refine c_block ?_
      refine c_seq ?_
      have hAl := hA.len
      obtain ⟨qa, ma, ca, hrowa, hSa⟩ := hA.actAt i (by omega)
      have hmema := act_mem hAl (i := i) (by omega)
      have hmal := hSa.len
      have hmb := hmm _ hmema
      have hkb := hkk _ hmema
      refine r_plain ?_
      refine p1 (x_move (by conv => lhs; whnf)) ?_
      refine p1 (x_move (by conv => lhs; whnf)) ?_
      refine p1 (x_ixs u68 sz74 rfl rfl ((hA.ext hX).adr kAct_pos (by omega)) (by omega) (by omega)) ?_
      refine p1 (x_loadN ua74 rfl (by exact sz74) (hX.range hrowa)) ?_
      have hXs9 := hX.size
      refine o_alloc zr74 ?_
      intro w6 g9 hN9
      have hE6 := hN9.ext
      have hX := hX.ext hE6
      have hT := hT.ext hE6
      have hB9 := hN9.blk
      refine o_storeAll rfl (by conv => lhs; whnf) (by simp [Value.oneCell']) (by exact sz74) hB9 (by rfl) ?_
      intro w7 hP7
      have hX := hX.put hP7 (by rw [hN9.g_eq]; exact hXs9)
      have hT := hT.mod (hP7.mod 0 (Nat.zero_le _)) (Nat.zero_le _) (by decide)
      have hB9 := hP7.blk
      refine r_nil ?_
      refine t_n ?_
      refine c_seq ?_
      refine c_seq ?_
      refine r_plain ?_
      refine p1 (x_fieldAddr fo74_1 sz9 rfl) ?_
      refine p1 (x_load1 un9 rfl (hB9.cell (rfl))) ?_
      refine p1 (x_move (by conv => lhs; whnf)) ?_
      refine p1 (x_eql_str rfl rfl) ?_
      refine r_nil ?_
      refine t_n ?_
      first | refine c_dec rfl (fun hc40 => ?_) (fun hc40 => ?_) | refine c_if rfl (fun hc40 => ?_) (fun hc40 => ?_)
      · try simp only [decide_eq_true_eq, decide_eq_false_iff_not, Bool.not_eq_true, Bool.not_eq_false, Bool.not_eq_eq_eq_not, Bool.not_true, Bool.not_false, Int.not_lt, Int.not_le] at hc40
        refine c_exit ?_
        refine t_e ?_
        refine b_hit ?_
        refine t_n ?_
        refine r_plain ?_
        refine p1 (x_move (by conv => lhs; whnf)) ?_
        refine p1 (x_add rfl rfl (fits_i64 (by omega) (by omega))) ?_
        refine p1 (x_assign (by conv => lhs; whnf)) ?_
        refine r_nil ?_
        first
          | exact t_n (At.mk ((i + 1, (brDo l (acts.getD i default).1.toNat (acts.getD i default).2.1 (acts.getD i default).2.2).1)) (by repeat (first | exact Agr.refl _ _ | exact Agr.hav _ _ _ | refine Agr.upd rfl ?_ | refine Agr.updL ?_ _ rfl | refine Agr.hav' rfl ?_)) ⟨rfl, trivial⟩ ⟨⟨hX, ⟨hT.now, (asc_do hrl hne).trans hasc, by omega⟩⟩, by first | (dsimp only; omega) | ((show _ < _); omega)⟩)
          | exact t_n (At.mk ((i + 1, l)) (by repeat (first | exact Agr.refl _ _ | exact Agr.hav _ _ _ | refine Agr.upd rfl ?_ | refine Agr.updL ?_ _ rfl | refine Agr.hav' rfl ?_)) ⟨rfl, trivial⟩ ⟨⟨hX, ⟨hT.now, hasc, by omega⟩⟩, by first | (dsimp only; omega) | ((show _ < _); omega)⟩)
      · try simp only [decide_eq_true_eq, decide_eq_false_iff_not, Bool.not_eq_true, Bool.not_eq_false, Bool.not_eq_eq_eq_not, Bool.not_true, Bool.not_false, Int.not_lt, Int.not_le] at hc40
        have hne : nm ≠ (acts.getD i default).2.1 := fun e => hc40 e.symm
        refine c_skip ?_
        refine t_n ?_
        refine c_seq ?_
        refine r_plain ?_
        refine p1 (x_move (by conv => lhs; whnf)) ?_
        refine o_call Try.func53 fn53 fb53 (branch_List _ _ gT rT l _ hT) rfl ?_
        rintro v8 w8 ⟨⟨q5, m5, c5, rfl, hO⟩, hE8⟩
        have hX := hX.ext hE8
        have hT := hT.ext hE8
        have hB9 := hB9.ext hE8
        refine p1 (x_assign (by conv => lhs; whnf)) ?_
        refine r_nil ?_
        refine t_n ?_
        refine c_seq ?_
        refine r_plain ?_
        refine p1 (x_assign (by conv => lhs; whnf)) ?_
        refine r_nil ?_
        refine t_n ?_
        refine c_seq ?_
        refine c_seq ?_
        refine r_plain ?_
        refine p1 (x_fieldAddr fo74_0 sz5 rfl) ?_
        refine p1 (x_load1 un5 rfl (hB9.cell (rfl))) ?_
        refine p1 (x_rem rfl rfl (by omega) (by omega)) ?_
        refine r_nil ?_
        refine t_n ?_
        refine c_block ?_
        refine c_seq ?_
        refine c_seq ?_
        refine r_plain ?_
        refine p1 (x_eql rfl rfl) ?_
        refine p1 (x_assign (by conv => lhs; whnf)) ?_
        refine r_nil ?_
        refine t_n ?_
        first | refine c_dec rfl (fun hc50 => ?_) (fun hc50 => ?_) | refine c_if rfl (fun hc50 => ?_) (fun hc50 => ?_)
        · try simp only [decide_eq_true_eq, decide_eq_false_iff_not, Bool.not_eq_true, Bool.not_eq_false, Bool.not_eq_eq_eq_not, Bool.not_true, Bool.not_false, Int.not_lt, Int.not_le] at hc50
          refine c_skip ?_
          refine t_n ?_
          first | refine c_dec rfl (fun hc50 => ?_) (fun hc50 => ?_) | refine c_if rfl (fun hc50 => ?_) (fun hc50 => ?_)
          · try simp only [decide_eq_true_eq, decide_eq_false_iff_not, Bool.not_eq_true, Bool.not_eq_false, Bool.not_eq_eq_eq_not, Bool.not_true, Bool.not_false, Int.not_lt, Int.not_le] at hc50
            have hd : (brDo l (acts.getD i default).1.toNat (acts.getD i default).2.1 (acts.getD i default).2.2) = brCreate l (acts.getD i default).2.1 (acts.getD i default).2.2 := by unfold brDo; rw [if_pos (by omega)]
            refine r_plain ?_
            refine p1 (x_move (by conv => lhs; whnf)) ?_
            refine p1 (x_fieldAddr fo74_1 sz9 rfl) ?_
            refine p1 (x_load1 un9 rfl (hB9.cell (rfl))) ?_
            refine p1 (x_fieldAddr fo74_2 sz31 rfl) ?_
            refine p1 (x_load1 un31 rfl (hB9.cell (rfl))) ?_
            have hXa := hX
            refine o_call Try.func50 fn50 fb50 (branch_Create _ _ gT rT l (acts.getD i default).2.1 (acts.getD i default).2.2 _ _ _ _ _ hT (hSa.ext (Ext.trans (Ext.refl _) hXa)) hkb) rfl ?_
            rintro v9 w9 ⟨rfl, hT, hM9⟩
            have hX := hX.mod hM9 (Nat.le_refl _)
            have hB9 := hB9.mod hM9 (by decide)
            have hO := hO.mod hM9 (Nat.zero_le _) (by simp [kBr, tMap])
            refine p1 (x_assign (by conv => lhs; whnf)) ?_
            refine r_nil ?_
            refine b_n ?_
            refine t_n ?_
            refine c_seq ?_
            rw [← hd] at hT
            refine r_plain ?_
            refine p1 (x_move (by conv => lhs; whnf)) ?_
            refine p1 (x_neq rfl rfl) ?_
            refine p1b (x_move (by conv => lhs; whnf)) (fun hb18_2 => ?_) (fun hb18_2 => ?_)
            · try simp only [decide_eq_true_eq, decide_eq_false_iff_not, Bool.not_eq_true, Bool.not_eq_false, Bool.not_eq_eq_eq_not, Bool.not_true, Bool.not_false, Int.not_lt, Int.not_le] at hb18_2
              rw [← hd] at hb18_2
              have hsame : (brDo l (acts.getD i default).1.toNat (acts.getD i default).2.1 (acts.getD i default).2.2).1 = l := brDo_err hb18_2
              refine g1 69 rfl rfl (x_move (by conv => lhs; whnf)) ?_
              refine g_drop 69 rfl rfl ?_
              refine o_call Try.func53 fn53 fb53 (branch_List _ _ gT rT (brDo l (acts.getD i default).1.toNat (acts.getD i default).2.1 (acts.getD i default).2.2).1 _ hT) rfl ?_
              rintro v10 w10 ⟨⟨q6, m6, c6, rfl, hO2⟩, hE10⟩
              have hX := hX.ext hE10
              have hB9 := hB9.ext hE10
              have hO := hO.ext hE10
              have hT := hT.ext hE10
              refine g1 69 rfl rfl (x_move (by conv => lhs; whnf)) ?_
              refine g_drop 69 rfl rfl ?_
              refine o_call Try.func66 fn66 fb66 ((branch_Same (brDo l (acts.getD i default).1.toNat (acts.getD i default).2.1 (acts.getD i default).2.2).1 l _ _ _ _ _ _ _ _ _ hO2.sl.brA hO.sl.brA).known (c := .bool true) (congrArg Value.bool (decide_eq_true hsame))) rfl ?_
              rintro v11 w11 ⟨rfl, hE11⟩
              have hX := hX.ext hE11
              have hB9 := hB9.ext hE11
              have hO := hO.ext hE11
              have hT := hT.ext hE11
              have hO2 := hO2.ext hE11
              refine g1 69 rfl rfl (x_not rfl) ?_
              refine p1 (x_pick_t rfl (by conv => lhs; whnf)) ?_
              refine r_nil ?_
              refine t_n ?_
              refine c_f rfl ?_
              refine c_skip ?_
              refine b_n ?_
              refine t_n ?_
              refine r_plain ?_
              refine p1 (x_move (by conv => lhs; whnf)) ?_
              refine p1 (x_add rfl rfl (fits_i64 (by omega) (by omega))) ?_
              refine p1 (x_assign (by conv => lhs; whnf)) ?_
              refine r_nil ?_
              first
                | exact t_n (At.mk ((i + 1, (brDo l (acts.getD i default).1.toNat (acts.getD i default).2.1 (acts.getD i default).2.2).1)) (by repeat (first | exact Agr.refl _ _ | exact Agr.hav _ _ _ | refine Agr.upd rfl ?_ | refine Agr.updL ?_ _ rfl | refine Agr.hav' rfl ?_)) ⟨rfl, trivial⟩ ⟨⟨hX, ⟨hT.now, (asc_do hrl hne).trans hasc, by omega⟩⟩, by first | (dsimp only; omega) | ((show _ < _); omega)⟩)
                | exact t_n (At.mk ((i + 1, l)) (by repeat (first | exact Agr.refl _ _ | exact Agr.hav _ _ _ | refine Agr.upd rfl ?_ | refine Agr.updL ?_ _ rfl | refine Agr.hav' rfl ?_)) ⟨rfl, trivial⟩ ⟨⟨hX, ⟨hT.now, hasc, by omega⟩⟩, by first | (dsimp only; omega) | ((show _ < _); omega)⟩)
            · try simp only [decide_eq_true_eq, decide_eq_false_iff_not, Bool.not_eq_true, Bool.not_eq_false, Bool.not_eq_eq_eq_not, Bool.not_true, Bool.not_false, Int.not_lt, Int.not_le] at hb18_2
              refine g0 69 rfl (by first | exact .inl rfl | exact .inr rfl) ?_
              refine g0 69 rfl (by first | exact .inl rfl | exact .inr rfl) ?_
              refine g0 69 rfl (by first | exact .inl rfl | exact .inr rfl) ?_
              refine g0 69 rfl (by first | exact .inl rfl | exact .inr rfl) ?_
              refine g0 69 rfl (by first | exact .inl rfl | exact .inr rfl) ?_
              refine p1 (x_pick_f rfl (by conv => lhs; whnf)) ?_
              refine r_nil ?_
              refine t_n ?_
              refine c_f rfl ?_
              refine c_skip ?_
              refine b_n ?_
              refine t_n ?_
              refine r_plain ?_
              refine p1 (x_move (by conv => lhs; whnf)) ?_
              refine p1 (x_add rfl rfl (fits_i64 (by omega) (by omega))) ?_
              refine p1 (x_assign (by conv => lhs; whnf)) ?_
              refine r_nil ?_
              first
                | exact t_n (At.mk ((i + 1, (brDo l (acts.getD i default).1.toNat (acts.getD i default).2.1 (acts.getD i default).2.2).1)) (by repeat (first | exact Agr.refl _ _ | exact Agr.hav _ _ _ | refine Agr.upd rfl ?_ | refine Agr.updL ?_ _ rfl | refine Agr.hav' rfl ?_)) ⟨rfl, trivial⟩ ⟨⟨hX, ⟨hT.now, (asc_do hrl hne).trans hasc, by omega⟩⟩, by first | (dsimp only; omega) | ((show _ < _); omega)⟩)
                | exact t_n (At.mk ((i + 1, l)) (by repeat (first | exact Agr.refl _ _ | exact Agr.hav _ _ _ | refine Agr.upd rfl ?_ | refine Agr.updL ?_ _ rfl | refine Agr.hav' rfl ?_)) ⟨rfl, trivial⟩ ⟨⟨hX, ⟨hT.now, hasc, by omega⟩⟩, by first | (dsimp only; omega) | ((show _ < _); omega)⟩)
          · try simp only [decide_eq_true_eq, decide_eq_false_iff_not, Bool.not_eq_true, Bool.not_eq_false, Bool.not_eq_eq_eq_not, Bool.not_true, Bool.not_false, Int.not_lt, Int.not_le] at hc50
            refine c_seq ?_
            refine r_plain ?_
            refine p1 (x_eql rfl rfl) ?_
            refine p1 (x_assign (by conv => lhs; whnf)) ?_
            refine r_nil ?_
            refine t_n ?_
            first | refine c_dec rfl (fun hc59 => ?_) (fun hc59 => ?_) | refine c_if rfl (fun hc59 => ?_) (fun hc59 => ?_)
            · try simp only [decide_eq_true_eq, decide_eq_false_iff_not, Bool.not_eq_true, Bool.not_eq_false, Bool.not_eq_eq_eq_not, Bool.not_true, Bool.not_false, Int.not_lt, Int.not_le] at hc59
              have hd : (brDo l (acts.getD i default).1.toNat (acts.getD i default).2.1 (acts.getD i default).2.2) = brMove l (acts.getD i default).2.1 (acts.getD i default).2.2 := by unfold brDo; rw [if_neg (by omega), if_pos (by omega)]
              refine r_plain ?_
              refine p1 (x_move (by conv => lhs; whnf)) ?_
              refine p1 (x_fieldAddr fo74_1 sz9 rfl) ?_
              refine p1 (x_load1 un9 rfl (hB9.cell (rfl))) ?_
              refine p1 (x_fieldAddr fo74_2 sz31 rfl) ?_
              refine p1 (x_load1 un31 rfl (hB9.cell (rfl))) ?_
              have hXa := hX
              refine o_call Try.func51 fn51 fb51 (branch_Move _ _ gT rT l (acts.getD i default).2.1 (acts.getD i default).2.2 _ _ _ _ _ hT (hSa.ext hXa) hkb) rfl ?_
              rintro v12 w12 ⟨rfl, hT, hM12⟩
              have hX := hX.mod hM12 (Nat.le_refl _)
              have hB9 := hB9.mod hM12 (by decide)
              have hO := hO.mod hM12 (Nat.zero_le _) (by simp [kBr, tMap])
              refine p1 (x_assign (by conv => lhs; whnf)) ?_
              refine r_nil ?_
              refine b_n ?_
              refine t_n ?_
              refine c_seq ?_
              rw [← hd] at hT
              refine r_plain ?_
              refine p1 (x_move (by conv => lhs; whnf)) ?_
              refine p1 (x_neq rfl rfl) ?_
              refine p1b (x_move (by conv => lhs; whnf)) (fun hb18_2 => ?_) (fun hb18_2 => ?_)
              · try simp only [decide_eq_true_eq, decide_eq_false_iff_not, Bool.not_eq_true, Bool.not_eq_false, Bool.not_eq_eq_eq_not, Bool.not_true, Bool.not_false, Int.not_lt, Int.not_le] at hb18_2
                rw [← hd] at hb18_2
                have hsame : (brDo l (acts.getD i default).1.toNat (acts.getD i default).2.1 (acts.getD i default).2.2).1 = l := brDo_err hb18_2
                refine g1 69 rfl rfl (x_move (by conv => lhs; whnf)) ?_
                refine g_drop 69 rfl rfl ?_
                refine o_call Try.func53 fn53 fb53 (branch_List _ _ gT rT (brDo l (acts.getD i default).1.toNat (acts.getD i default).2.1 (acts.getD i default).2.2).1 _ hT) rfl ?_
                rintro v13 w13 ⟨⟨q6, m6, c6, rfl, hO2⟩, hE13⟩
                have hX := hX.ext hE13
                have hB9 := hB9.ext hE13
                have hO := hO.ext hE13
                have hT := hT.ext hE13
                refine g1 69 rfl rfl (x_move (by conv => lhs; whnf)) ?_
                refine g_drop 69 rfl rfl ?_
                refine o_call Try.func66 fn66 fb66 ((branch_Same (brDo l (acts.getD i default).1.toNat (acts.getD i default).2.1 (acts.getD i default).2.2).1 l _ _ _ _ _ _ _ _ _ hO2.sl.brA hO.sl.brA).known (c := .bool true) (congrArg Value.bool (decide_eq_true hsame))) rfl ?_
                rintro v14 w14 ⟨rfl, hE14⟩
                have hX := hX.ext hE14
                have hB9 := hB9.ext hE14
                have hO := hO.ext hE14
                have hT := hT.ext hE14
                have hO2 := hO2.ext hE14
                refine g1 69 rfl rfl (x_not rfl) ?_
                refine p1 (x_pick_t rfl (by conv => lhs; whnf)) ?_
                refine r_nil ?_
                refine t_n ?_
                refine c_f rfl ?_
                refine c_skip ?_
                refine b_n ?_
                refine t_n ?_
                refine r_plain ?_
                refine p1 (x_move (by conv => lhs; whnf)) ?_
                refine p1 (x_add rfl rfl (fits_i64 (by omega) (by omega))) ?_
                refine p1 (x_assign (by conv => lhs; whnf)) ?_
                refine r_nil ?_
                first
                  | exact t_n (At.mk ((i + 1, (brDo l (acts.getD i default).1.toNat (acts.getD i default).2.1 (acts.getD i default).2.2).1)) (by repeat (first | exact Agr.refl _ _ | exact Agr.hav _ _ _ | refine Agr.upd rfl ?_ | refine Agr.updL ?_ _ rfl | refine Agr.hav' rfl ?_)) ⟨rfl, trivial⟩ ⟨⟨hX, ⟨hT.now, (asc_do hrl hne).trans hasc, by omega⟩⟩, by first | (dsimp only; omega) | ((show _ < _); omega)⟩)
                  | exact t_n (At.mk ((i + 1, l)) (by repeat (first | exact Agr.refl _ _ | exact Agr.hav _ _ _ | refine Agr.upd rfl ?_ | refine Agr.updL ?_ _ rfl | refine Agr.hav' rfl ?_)) ⟨rfl, trivial⟩ ⟨⟨hX, ⟨hT.now, hasc, by omega⟩⟩, by first | (dsimp only; omega) | ((show _ < _); omega)⟩)
              · try simp only [decide_eq_true_eq, decide_eq_false_iff_not, Bool.not_eq_true, Bool.not_eq_false, Bool.not_eq_eq_eq_not, Bool.not_true, Bool.not_false, Int.not_lt, Int.not_le] at hb18_2
                refine g0 69 rfl (by first | exact .inl rfl | exact .inr rfl) ?_
                refine g0 69 rfl (by first | exact .inl rfl | exact .inr rfl) ?_
                refine g0 69 rfl (by first | exact .inl rfl | exact .inr rfl) ?_
                refine g0 69 rfl (by first | exact .inl rfl | exact .inr rfl) ?_
                refine g0 69 rfl (by first | exact .inl rfl | exact .inr rfl) ?_
                refine p1 (x_pick_f rfl (by conv => lhs; whnf)) ?_
                refine r_nil ?_
                refine t_n ?_
                refine c_f rfl ?_
                refine c_skip ?_
                refine b_n ?_
                refine t_n ?_
                refine r_plain ?_
                refine p1 (x_move (by conv => lhs; whnf)) ?_
                refine p1 (x_add rfl rfl (fits_i64 (by omega) (by omega))) ?_
                refine p1 (x_assign (by conv => lhs; whnf)) ?_
                refine r_nil ?_
                first
                  | exact t_n (At.mk ((i + 1, (brDo l (acts.getD i default).1.toNat (acts.getD i default).2.1 (acts.getD i default).2.2).1)) (by repeat (first | exact Agr.refl _ _ | exact Agr.hav _ _ _ | refine Agr.upd rfl ?_ | refine Agr.updL ?_ _ rfl | refine Agr.hav' rfl ?_)) ⟨rfl, trivial⟩ ⟨⟨hX, ⟨hT.now, (asc_do hrl hne).trans hasc, by omega⟩⟩, by first | (dsimp only; omega) | ((show _ < _); omega)⟩)
                  | exact t_n (At.mk ((i + 1, l)) (by repeat (first | exact Agr.refl _ _ | exact Agr.hav _ _ _ | refine Agr.upd rfl ?_ | refine Agr.updL ?_ _ rfl | refine Agr.hav' rfl ?_)) ⟨rfl, trivial⟩ ⟨⟨hX, ⟨hT.now, hasc, by omega⟩⟩, by first | (dsimp only; omega) | ((show _ < _); omega)⟩)
            · try simp only [decide_eq_true_eq, decide_eq_false_iff_not, Bool.not_eq_true, Bool.not_eq_false, Bool.not_eq_eq_eq_not, Bool.not_true, Bool.not_false, Int.not_lt, Int.not_le] at hc59
              have hd : (brDo l (acts.getD i default).1.toNat (acts.getD i default).2.1 (acts.getD i default).2.2) = brDelete l (acts.getD i default).2.1 := by unfold brDo; rw [if_neg (by omega), if_neg (by omega)]
              refine r_plain ?_
              refine p1 (x_move (by conv => lhs; whnf)) ?_
              refine p1 (x_fieldAddr fo74_1 sz9 rfl) ?_
              refine p1 (x_load1 un9 rfl (hB9.cell (rfl))) ?_
              refine o_call Try.func52 fn52 fb52 (branch_Delete _ _ gT rT l (acts.getD i default).2.1 _ hT) rfl ?_
              rintro v15 w15 ⟨rfl, hT, hM15⟩
              have hX := hX.mod hM15 (Nat.le_refl _)
              have hB9 := hB9.mod hM15 (by decide)
              have hO := hO.mod hM15 (Nat.zero_le _) (by simp [kBr, tMap])
              refine p1 (x_assign (by conv => lhs; whnf)) ?_
              refine r_nil ?_
              refine b_n ?_
              refine t_n ?_
              refine c_seq ?_
              rw [← hd] at hT
              refine r_plain ?_
              refine p1 (x_move (by conv => lhs; whnf)) ?_
              refine p1 (x_neq rfl rfl) ?_
              refine p1b (x_move (by conv => lhs; whnf)) (fun hb18_2 => ?_) (fun hb18_2 => ?_)
              · try simp only [decide_eq_true_eq, decide_eq_false_iff_not, Bool.not_eq_true, Bool.not_eq_false, Bool.not_eq_eq_eq_not, Bool.not_true, Bool.not_false, Int.not_lt, Int.not_le] at hb18_2
                rw [← hd] at hb18_2
                have hsame : (brDo l (acts.getD i default).1.toNat (acts.getD i default).2.1 (acts.getD i default).2.2).1 = l := brDo_err hb18_2
                refine g1 69 rfl rfl (x_move (by conv => lhs; whnf)) ?_
                refine g_drop 69 rfl rfl ?_
                refine o_call Try.func53 fn53 fb53 (branch_List _ _ gT rT (brDo l (acts.getD i default).1.toNat (acts.getD i default).2.1 (acts.getD i default).2.2).1 _ hT) rfl ?_
                rintro v16 w16 ⟨⟨q6, m6, c6, rfl, hO2⟩, hE16⟩
                have hX := hX.ext hE16
                have hB9 := hB9.ext hE16
                have hO := hO.ext hE16
                have hT := hT.ext hE16
                refine g1 69 rfl rfl (x_move (by conv => lhs; whnf)) ?_
                refine g_drop 69 rfl rfl ?_
                refine o_call Try.func66 fn66 fb66 ((branch_Same (brDo l (acts.getD i default).1.toNat (acts.getD i default).2.1 (acts.getD i default).2.2).1 l _ _ _ _ _ _ _ _ _ hO2.sl.brA hO.sl.brA).known (c := .bool true) (congrArg Value.bool (decide_eq_true hsame))) rfl ?_
                rintro v17 w17 ⟨rfl, hE17⟩
                have hX := hX.ext hE17
                have hB9 := hB9.ext hE17
                have hO := hO.ext hE17
                have hT := hT.ext hE17
                have hO2 := hO2.ext hE17
                refine g1 69 rfl rfl (x_not rfl) ?_
                refine p1 (x_pick_t rfl (by conv => lhs; whnf)) ?_
                refine r_nil ?_
                refine t_n ?_
                refine c_f rfl ?_
                refine c_skip ?_
                refine b_n ?_
                refine t_n ?_
                refine r_plain ?_
                refine p1 (x_move (by conv => lhs; whnf)) ?_
                refine p1 (x_add rfl rfl (fits_i64 (by omega) (by omega))) ?_
                refine p1 (x_assign (by conv => lhs; whnf)) ?_
                refine r_nil ?_
                first
                  | exact t_n (At.mk ((i + 1, (brDo l (acts.getD i default).1.toNat (acts.getD i default).2.1 (acts.getD i default).2.2).1)) (by repeat (first | exact Agr.refl _ _ | exact Agr.hav _ _ _ | refine Agr.upd rfl ?_ | refine Agr.updL ?_ _ rfl | refine Agr.hav' rfl ?_)) ⟨rfl, trivial⟩ ⟨⟨hX, ⟨hT.now, (asc_do hrl hne).trans hasc, by omega⟩⟩, by first | (dsimp only; omega) | ((show _ < _); omega)⟩)
                  | exact t_n (At.mk ((i + 1, l)) (by repeat (first | exact Agr.refl _ _ | exact Agr.hav _ _ _ | refine Agr.upd rfl ?_ | refine Agr.updL ?_ _ rfl | refine Agr.hav' rfl ?_)) ⟨rfl, trivial⟩ ⟨⟨hX, ⟨hT.now, hasc, by omega⟩⟩, by first | (dsimp only; omega) | ((show _ < _); omega)⟩)
              · try simp only [decide_eq_true_eq, decide_eq_false_iff_not, Bool.not_eq_true, Bool.not_eq_false, Bool.not_eq_eq_eq_not, Bool.not_true, Bool.not_false, Int.not_lt, Int.not_le] at hb18_2
                refine g0 69 rfl (by first | exact .inl rfl | exact .inr rfl) ?_
                refine g0 69 rfl (by first | exact .inl rfl | exact .inr rfl) ?_
                refine g0 69 rfl (by first | exact .inl rfl | exact .inr rfl) ?_
                refine g0 69 rfl (by first | exact .inl rfl | exact .inr rfl) ?_
                refine g0 69 rfl (by first | exact .inl rfl | exact .inr rfl) ?_
                refine p1 (x_pick_f rfl (by conv => lhs; whnf)) ?_
                refine r_nil ?_
                refine t_n ?_
                refine c_f rfl ?_
                refine c_skip ?_
                refine b_n ?_
                refine t_n ?_
                refine r_plain ?_
                refine p1 (x_move (by conv => lhs; whnf)) ?_
                refine p1 (x_add rfl rfl (fits_i64 (by omega) (by omega))) ?_
                refine p1 (x_assign (by conv => lhs; whnf)) ?_
                refine r_nil ?_
                first
                  | exact t_n (At.mk ((i + 1, (brDo l (acts.getD i default).1.toNat (acts.getD i default).2.1 (acts.getD i default).2.2).1)) (by repeat (first | exact Agr.refl _ _ | exact Agr.hav _ _ _ | refine Agr.upd rfl ?_ | refine Agr.updL ?_ _ rfl | refine Agr.hav' rfl ?_)) ⟨rfl, trivial⟩ ⟨⟨hX, ⟨hT.now, (asc_do hrl hne).trans hasc, by omega⟩⟩, by first | (dsimp only; omega) | ((show _ < _); omega)⟩)
                  | exact t_n (At.mk ((i + 1, l)) (by repeat (first | exact Agr.refl _ _ | exact Agr.hav _ _ _ | refine Agr.upd rfl ?_ | refine Agr.updL ?_ _ rfl | refine Agr.hav' rfl ?_)) ⟨rfl, trivial⟩ ⟨⟨hX, ⟨hT.now, hasc, by omega⟩⟩, by first | (dsimp only; omega) | ((show _ < _); omega)⟩)
        · try simp only [decide_eq_true_eq, decide_eq_false_iff_not, Bool.not_eq_true, Bool.not_eq_false, Bool.not_eq_eq_eq_not, Bool.not_true, Bool.not_false, Int.not_lt, Int.not_le] at hc50
          refine r_plain ?_
          refine p1 (x_eql rfl rfl) ?_
          refine p1 (x_assign (by conv => lhs; whnf)) ?_
          refine r_nil ?_
          refine t_n ?_
          first | refine c_dec rfl (fun hc50 => ?_) (fun hc50 => ?_) | refine c_if rfl (fun hc50 => ?_) (fun hc50 => ?_)
          · try simp only [decide_eq_true_eq, decide_eq_false_iff_not, Bool.not_eq_true, Bool.not_eq_false, Bool.not_eq_eq_eq_not, Bool.not_true, Bool.not_false, Int.not_lt, Int.not_le] at hc50
            have hd : (brDo l (acts.getD i default).1.toNat (acts.getD i default).2.1 (acts.getD i default).2.2) = brCreate l (acts.getD i default).2.1 (acts.getD i default).2.2 := by unfold brDo; rw [if_pos (by omega)]
            refine r_plain ?_
            refine p1 (x_move (by conv => lhs; whnf)) ?_
            refine p1 (x_fieldAddr fo74_1 sz9 rfl) ?_
            refine p1 (x_load1 un9 rfl (hB9.cell (rfl))) ?_
            refine p1 (x_fieldAddr fo74_2 sz31 rfl) ?_
            refine p1 (x_load1 un31 rfl (hB9.cell (rfl))) ?_
            have hXa := hX
            refine o_call Try.func50 fn50 fb50 (branch_Create _ _ gT rT l (acts.getD i default).2.1 (acts.getD i default).2.2 _ _ _ _ _ hT (hSa.ext (Ext.trans (Ext.refl _) hXa)) hkb) rfl ?_
            rintro v18 w18 ⟨rfl, hT, hM18⟩
            have hX := hX.mod hM18 (Nat.le_refl _)
            have hB9 := hB9.mod hM18 (by decide)
            have hO := hO.mod hM18 (Nat.zero_le _) (by simp [kBr, tMap])
            refine p1 (x_assign (by conv => lhs; whnf)) ?_
            refine r_nil ?_
            refine b_n ?_
            refine t_n ?_
            refine c_seq ?_
            rw [← hd] at hT
            refine r_plain ?_
            refine p1 (x_move (by conv => lhs; whnf)) ?_
            refine p1 (x_neq rfl rfl) ?_
            refine p1b (x_move (by conv => lhs; whnf)) (fun hb18_2 => ?_) (fun hb18_2 => ?_)
            · try simp only [decide_eq_true_eq, decide_eq_false_iff_not, Bool.not_eq_true, Bool.not_eq_false, Bool.not_eq_eq_eq_not, Bool.not_true, Bool.not_false, Int.not_lt, Int.not_le] at hb18_2
              rw [← hd] at hb18_2
              have hsame : (brDo l (acts.getD i default).1.toNat (acts.getD i default).2.1 (acts.getD i default).2.2).1 = l := brDo_err hb18_2
              refine g1 69 rfl rfl (x_move (by conv => lhs; whnf)) ?_
              refine g_drop 69 rfl rfl ?_
              refine o_call Try.func53 fn53 fb53 (branch_List _ _ gT rT (brDo l (acts.getD i default).1.toNat (acts.getD i default).2.1 (acts.getD i default).2.2).1 _ hT) rfl ?_
              rintro v19 w19 ⟨⟨q6, m6, c6, rfl, hO2⟩, hE19⟩
              have hX := hX.ext hE19
              have hB9 := hB9.ext hE19
              have hO := hO.ext hE19
              have hT := hT.ext hE19
              refine g1 69 rfl rfl (x_move (by conv => lhs; whnf)) ?_
              refine g_drop 69 rfl rfl ?_
              refine o_call Try.func66 fn66 fb66 ((branch_Same (brDo l (acts.getD i default).1.toNat (acts.getD i default).2.1 (acts.getD i default).2.2).1 l _ _ _ _ _ _ _ _ _ hO2.sl.brA hO.sl.brA).known (c := .bool true) (congrArg Value.bool (decide_eq_true hsame))) rfl ?_
              rintro v20 w20 ⟨rfl, hE20⟩
              have hX := hX.ext hE20
              have hB9 := hB9.ext hE20
              have hO := hO.ext hE20
              have hT := hT.ext hE20
              have hO2 := hO2.ext hE20
              refine g1 69 rfl rfl (x_not rfl) ?_
              refine p1 (x_pick_t rfl (by conv => lhs; whnf)) ?_
              refine r_nil ?_
              refine t_n ?_
              refine c_f rfl ?_
              refine c_skip ?_
              refine b_n ?_
              refine t_n ?_
              refine r_plain ?_
              refine p1 (x_move (by conv => lhs; whnf)) ?_
              refine p1 (x_add rfl rfl (fits_i64 (by omega) (by omega))) ?_
              refine p1 (x_assign (by conv => lhs; whnf)) ?_
              refine r_nil ?_
              first
                | exact t_n (At.mk ((i + 1, (brDo l (acts.getD i default).1.toNat (acts.getD i default).2.1 (acts.getD i default).2.2).1)) (by repeat (first | exact Agr.refl _ _ | exact Agr.hav _ _ _ | refine Agr.upd rfl ?_ | refine Agr.updL ?_ _ rfl | refine Agr.hav' rfl ?_)) ⟨rfl, trivial⟩ ⟨⟨hX, ⟨hT.now, (asc_do hrl hne).trans hasc, by omega⟩⟩, by first | (dsimp only; omega) | ((show _ < _); omega)⟩)
                | exact t_n (At.mk ((i + 1, l)) (by repeat (first | exact Agr.refl _ _ | exact Agr.hav _ _ _ | refine Agr.upd rfl ?_ | refine Agr.updL ?_ _ rfl | refine Agr.hav' rfl ?_)) ⟨rfl, trivial⟩ ⟨⟨hX, ⟨hT.now, hasc, by omega⟩⟩, by first | (dsimp only; omega) | ((show _ < _); omega)⟩)
            · try simp only [decide_eq_true_eq, decide_eq_false_iff_not, Bool.not_eq_true, Bool.not_eq_false, Bool.not_eq_eq_eq_not, Bool.not_true, Bool.not_false, Int.not_lt, Int.not_le] at hb18_2
              refine g0 69 rfl (by first | exact .inl rfl | exact .inr rfl) ?_
              refine g0 69 rfl (by first | exact .inl rfl | exact .inr rfl) ?_
              refine g0 69 rfl (by first | exact .inl rfl | exact .inr rfl) ?_
              refine g0 69 rfl (by first | exact .inl rfl | exact .inr rfl) ?_
              refine g0 69 rfl (by first | exact .inl rfl | exact .inr rfl) ?_
              refine p1 (x_pick_f rfl (by conv => lhs; whnf)) ?_
              refine r_nil ?_
              refine t_n ?_
              refine c_f rfl ?_
              refine c_skip ?_
              refine b_n ?_
              refine t_n ?_
              refine r_plain ?_
              refine p1 (x_move (by conv => lhs; whnf)) ?_
              refine p1 (x_add rfl rfl (fits_i64 (by omega) (by omega))) ?_
              refine p1 (x_assign (by conv => lhs; whnf)) ?_
              refine r_nil ?_
              first
                | exact t_n (At.mk ((i + 1, (brDo l (acts.getD i default).1.toNat (acts.getD i default).2.1 (acts.getD i default).2.2).1)) (by repeat (first | exact Agr.refl _ _ | exact Agr.hav _ _ _ | refine Agr.upd rfl ?_ | refine Agr.updL ?_ _ rfl | refine Agr.hav' rfl ?_)) ⟨rfl, trivial⟩ ⟨⟨hX, ⟨hT.now, (asc_do hrl hne).trans hasc, by omega⟩⟩, by first | (dsimp only; omega) | ((show _ < _); omega)⟩)
                | exact t_n (At.mk ((i + 1, l)) (by repeat (first | exact Agr.refl _ _ | exact Agr.hav _ _ _ | refine Agr.upd rfl ?_ | refine Agr.updL ?_ _ rfl | refine Agr.hav' rfl ?_)) ⟨rfl, trivial⟩ ⟨⟨hX, ⟨hT.now, hasc, by omega⟩⟩, by first | (dsimp only; omega) | ((show _ < _); omega)⟩)
          · try simp only [decide_eq_true_eq, decide_eq_false_iff_not, Bool.not_eq_true, Bool.not_eq_false, Bool.not_eq_eq_eq_not, Bool.not_true, Bool.not_false, Int.not_lt, Int.not_le] at hc50
            refine c_seq ?_
            refine r_plain ?_
            refine p1 (x_eql rfl rfl) ?_
            refine p1 (x_assign (by conv => lhs; whnf)) ?_
            refine r_nil ?_
            refine t_n ?_
            first | refine c_dec rfl (fun hc59 => ?_) (fun hc59 => ?_) | refine c_if rfl (fun hc59 => ?_) (fun hc59 => ?_)
            · try simp only [decide_eq_true_eq, decide_eq_false_iff_not, Bool.not_eq_true, Bool.not_eq_false, Bool.not_eq_eq_eq_not, Bool.not_true, Bool.not_false, Int.not_lt, Int.not_le] at hc59
              have hd : (brDo l (acts.getD i default).1.toNat (acts.getD i default).2.1 (acts.getD i default).2.2) = brMove l (acts.getD i default).2.1 (acts.getD i default).2.2 := by unfold brDo; rw [if_neg (by omega), if_pos (by omega)]
              refine r_plain ?_
              refine p1 (x_move (by conv => lhs; whnf)) ?_
              refine p1 (x_fieldAddr fo74_1 sz9 rfl) ?_
              refine p1 (x_load1 un9 rfl (hB9.cell (rfl))) ?_
              refine p1 (x_fieldAddr fo74_2 sz31 rfl) ?_
              refine p1 (x_load1 un31 rfl (hB9.cell (rfl))) ?_
              have hXa := hX
              refine o_call Try.func51 fn51 fb51 (branch_Move _ _ gT rT l (acts.getD i default).2.1 (acts.getD i default).2.2 _ _ _ _ _ hT (hSa.ext hXa) hkb) rfl ?_
              rintro v21 w21 ⟨rfl, hT, hM21⟩
              have hX := hX.mod hM21 (Nat.le_refl _)
              have hB9 := hB9.mod hM21 (by decide)
              have hO := hO.mod hM21 (Nat.zero_le _) (by simp [kBr, tMap])
              refine p1 (x_assign (by conv => lhs; whnf)) ?_
              refine r_nil ?_
              refine b_n ?_
              refine t_n ?_
              refine c_seq ?_
              rw [← hd] at hT
              refine r_plain ?_
              refine p1 (x_move (by conv => lhs; whnf)) ?_
              refine p1 (x_neq rfl rfl) ?_
              refine p1b (x_move (by conv => lhs; whnf)) (fun hb18_2 => ?_) (fun hb18_2 => ?_)
              · try simp only [decide_eq_true_eq, decide_eq_false_iff_not, Bool.not_eq_true, Bool.not_eq_false, Bool.not_eq_eq_eq_not, Bool.not_true, Bool.not_false, Int.not_lt, Int.not_le] at hb18_2
                rw [← hd] at hb18_2
                have hsame : (brDo l (acts.getD i default).1.toNat (acts.getD i default).2.1 (acts.getD i default).2.2).1 = l := brDo_err hb18_2
                refine g1 69 rfl rfl (x_move (by conv => lhs; whnf)) ?_
                refine g_drop 69 rfl rfl ?_
                refine o_call Try.func53 fn53 fb53 (branch_List _ _ gT rT (brDo l (acts.getD i default).1.toNat (acts.getD i default).2.1 (acts.getD i default).2.2).1 _ hT) rfl ?_
                rintro v22 w22 ⟨⟨q6, m6, c6, rfl, hO2⟩, hE22⟩
                have hX := hX.ext hE22
                have hB9 := hB9.ext hE22
                have hO := hO.ext hE22
                have hT := hT.ext hE22
                refine g1 69 rfl rfl (x_move (by conv => lhs; whnf)) ?_
                refine g_drop 69 rfl rfl ?_
                refine o_call Try.func66 fn66 fb66 ((branch_Same (brDo l (acts.getD i default).1.toNat (acts.getD i default).2.1 (acts.getD i default).2.2).1 l _ _ _ _ _ _ _ _ _ hO2.sl.brA hO.sl.brA).known (c := .bool true) (congrArg Value.bool (decide_eq_true hsame))) rfl ?_
                rintro v23 w23 ⟨rfl, hE23⟩
                have hX := hX.ext hE23
                have hB9 := hB9.ext hE23
                have hO := hO.ext hE23
                have hT := hT.ext hE23
                have hO2 := hO2.ext hE23
                refine g1 69 rfl rfl (x_not rfl) ?_
                refine p1 (x_pick_t rfl (by conv => lhs; whnf)) ?_
                refine r_nil ?_
                refine t_n ?_
                refine c_f rfl ?_
                refine c_skip ?_
                refine b_n ?_
                refine t_n ?_
                refine r_plain ?_
                refine p1 (x_move (by conv => lhs; whnf)) ?_
                refine p1 (x_add rfl rfl (fits_i64 (by omega) (by omega))) ?_
                refine p1 (x_assign (by conv => lhs; whnf)) ?_
                refine r_nil ?_
                first
                  | exact t_n (At.mk ((i + 1, (brDo l (acts.getD i default).1.toNat (acts.getD i default).2.1 (acts.getD i default).2.2).1)) (by repeat (first | exact Agr.refl _ _ | exact Agr.hav _ _ _ | refine Agr.upd rfl ?_ | refine Agr.updL ?_ _ rfl | refine Agr.hav' rfl ?_)) ⟨rfl, trivial⟩ ⟨⟨hX, ⟨hT.now, (asc_do hrl hne).trans hasc, by omega⟩⟩, by first | (dsimp only; omega) | ((show _ < _); omega)⟩)
                  | exact t_n (At.mk ((i + 1, l)) (by repeat (first | exact Agr.refl _ _ | exact Agr.hav _ _ _ | refine Agr.upd rfl ?_ | refine Agr.updL ?_ _ rfl | refine Agr.hav' rfl ?_)) ⟨rfl, trivial⟩ ⟨⟨hX, ⟨hT.now, hasc, by omega⟩⟩, by first | (dsimp only; omega) | ((show _ < _); omega)⟩)
              · try simp only [decide_eq_true_eq, decide_eq_false_iff_not, Bool.not_eq_true, Bool.not_eq_false, Bool.not_eq_eq_eq_not, Bool.not_true, Bool.not_false, Int.not_lt, Int.not_le] at hb18_2
                refine g0 69 rfl (by first | exact .inl rfl | exact .inr rfl) ?_
                refine g0 69 rfl (by first | exact .inl rfl | exact .inr rfl) ?_
                refine g0 69 rfl (by first | exact .inl rfl | exact .inr rfl) ?_
                refine g0 69 rfl (by first | exact .inl rfl | exact .inr rfl) ?_
                refine g0 69 rfl (by first | exact .inl rfl | exact .inr rfl) ?_
                refine p1 (x_pick_f rfl (by conv => lhs; whnf)) ?_
                refine r_nil ?_
                refine t_n ?_
                refine c_f rfl ?_
                refine c_skip ?_
                refine b_n ?_
                refine t_n ?_
                refine r_plain ?_
                refine p1 (x_move (by conv => lhs; whnf)) ?_
                refine p1 (x_add rfl rfl (fits_i64 (by omega) (by omega))) ?_
                refine p1 (x_assign (by conv => lhs; whnf)) ?_
                refine r_nil ?_
                first
                  | exact t_n (At.mk ((i + 1, (brDo l (acts.getD i default).1.toNat (acts.getD i default).2.1 (acts.getD i default).2.2).1)) (by repeat (first | exact Agr.refl _ _ | exact Agr.hav _ _ _ | refine Agr.upd rfl ?_ | refine Agr.updL ?_ _ rfl | refine Agr.hav' rfl ?_)) ⟨rfl, trivial⟩ ⟨⟨hX, ⟨hT.now, (asc_do hrl hne).trans hasc, by omega⟩⟩, by first | (dsimp only; omega) | ((show _ < _); omega)⟩)
                  | exact t_n (At.mk ((i + 1, l)) (by repeat (first | exact Agr.refl _ _ | exact Agr.hav _ _ _ | refine Agr.upd rfl ?_ | refine Agr.updL ?_ _ rfl | refine Agr.hav' rfl ?_)) ⟨rfl, trivial⟩ ⟨⟨hX, ⟨hT.now, hasc, by omega⟩⟩, by first | (dsimp only; omega) | ((show _ < _); omega)⟩)
            · try simp only [decide_eq_true_eq, decide_eq_false_iff_not, Bool.not_eq_true, Bool.not_eq_false, Bool.not_eq_eq_eq_not, Bool.not_true, Bool.not_false, Int.not_lt, Int.not_le] at hc59
              have hd : (brDo l (acts.getD i default).1.toNat (acts.getD i default).2.1 (acts.getD i default).2.2) = brDelete l (acts.getD i default).2.1 := by unfold brDo; rw [if_neg (by omega), if_neg (by omega)]
              refine r_plain ?_
              refine p1 (x_move (by conv => lhs; whnf)) ?_
              refine p1 (x_fieldAddr fo74_1 sz9 rfl) ?_
              refine p1 (x_load1 un9 rfl (hB9.cell (rfl))) ?_
              refine o_call Try.func52 fn52 fb52 (branch_Delete _ _ gT rT l (acts.getD i default).2.1 _ hT) rfl ?_
              rintro v24 w24 ⟨rfl, hT, hM24⟩
              have hX := hX.mod hM24 (Nat.le_refl _)
              have hB9 := hB9.mod hM24 (by decide)
              have hO := hO.mod hM24 (Nat.zero_le _) (by simp [kBr, tMap])
              refine p1 (x_assign (by conv => lhs; whnf)) ?_
              refine r_nil ?_
              refine b_n ?_
              refine t_n ?_
              refine c_seq ?_
              rw [← hd] at hT
              refine r_plain ?_
              refine p1 (x_move (by conv => lhs; whnf)) ?_
              refine p1 (x_neq rfl rfl) ?_
              refine p1b (x_move (by conv => lhs; whnf)) (fun hb18_2 => ?_) (fun hb18_2 => ?_)
              · try simp only [decide_eq_true_eq, decide_eq_false_iff_not, Bool.not_eq_true, Bool.not_eq_false, Bool.not_eq_eq_eq_not, Bool.not_true, Bool.not_false, Int.not_lt, Int.not_le] at hb18_2
                rw [← hd] at hb18_2
                have hsame : (brDo l (acts.getD i default).1.toNat (acts.getD i default).2.1 (acts.getD i default).2.2).1 = l := brDo_err hb18_2
                refine g1 69 rfl rfl (x_move (by conv => lhs; whnf)) ?_
                refine g_drop 69 rfl rfl ?_
                refine o_call Try.func53 fn53 fb53 (branch_List _ _ gT rT (brDo l (acts.getD i default).1.toNat (acts.getD i default).2.1 (acts.getD i default).2.2).1 _ hT) rfl ?_
                rintro v25 w25 ⟨⟨q6, m6, c6, rfl, hO2⟩, hE25⟩
                have hX := hX.ext hE25
                have hB9 := hB9.ext hE25
                have hO := hO.ext hE25
                have hT := hT.ext hE25
                refine g1 69 rfl rfl (x_move (by conv => lhs; whnf)) ?_
                refine g_drop 69 rfl rfl ?_
                refine o_call Try.func66 fn66 fb66 ((branch_Same (brDo l (acts.getD i default).1.toNat (acts.getD i default).2.1 (acts.getD i default).2.2).1 l _ _ _ _ _ _ _ _ _ hO2.sl.brA hO.sl.brA).known (c := .bool true) (congrArg Value.bool (decide_eq_true hsame))) rfl ?_
                rintro v26 w26 ⟨rfl, hE26⟩
                have hX := hX.ext hE26
                have hB9 := hB9.ext hE26
                have hO := hO.ext hE26
                have hT := hT.ext hE26
                have hO2 := hO2.ext hE26
                refine g1 69 rfl rfl (x_not rfl) ?_
                refine p1 (x_pick_t rfl (by conv => lhs; whnf)) ?_
                refine r_nil ?_
                refine t_n ?_
                refine c_f rfl ?_
                refine c_skip ?_
                refine b_n ?_
                refine t_n ?_
                refine r_plain ?_
                refine p1 (x_move (by conv => lhs; whnf)) ?_
                refine p1 (x_add rfl rfl (fits_i64 (by omega) (by omega))) ?_
                refine p1 (x_assign (by conv => lhs; whnf)) ?_
                refine r_nil ?_
                first
                  | exact t_n (At.mk ((i + 1, (brDo l (acts.getD i default).1.toNat (acts.getD i default).2.1 (acts.getD i default).2.2).1)) (by repeat (first | exact Agr.refl _ _ | exact Agr.hav _ _ _ | refine Agr.upd rfl ?_ | refine Agr.updL ?_ _ rfl | refine Agr.hav' rfl ?_)) ⟨rfl, trivial⟩ ⟨⟨hX, ⟨hT.now, (asc_do hrl hne).trans hasc, by omega⟩⟩, by first | (dsimp only; omega) | ((show _ < _); omega)⟩)
                  | exact t_n (At.mk ((i + 1, l)) (by repeat (first | exact Agr.refl _ _ | exact Agr.hav _ _ _ | refine Agr.upd rfl ?_ | refine Agr.updL ?_ _ rfl | refine Agr.hav' rfl ?_)) ⟨rfl, trivial⟩ ⟨⟨hX, ⟨hT.now, hasc, by omega⟩⟩, by first | (dsimp only; omega) | ((show _ < _); omega)⟩)
              · try simp only [decide_eq_true_eq, decide_eq_false_iff_not, Bool.not_eq_true, Bool.not_eq_false, Bool.not_eq_eq_eq_not, Bool.not_true, Bool.not_false, Int.not_lt, Int.not_le] at hb18_2
                refine g0 69 rfl (by first | exact .inl rfl | exact .inr rfl) ?_
                refine g0 69 rfl (by first | exact .inl rfl | exact .inr rfl) ?_
                refine g0 69 rfl (by first | exact .inl rfl | exact .inr rfl) ?_
                refine g0 69 rfl (by first | exact .inl rfl | exact .inr rfl) ?_
                refine g0 69 rfl (by first | exact .inl rfl | exact .inr rfl) ?_
                refine p1 (x_pick_f rfl (by conv => lhs; whnf)) ?_
                refine r_nil ?_
                refine t_n ?_
                refine c_f rfl ?_
                refine c_skip ?_
                refine b_n ?_
                refine t_n ?_
                refine r_plain ?_
                refine p1 (x_move (by conv => lhs; whnf)) ?_
                refine p1 (x_add rfl rfl (fits_i64 (by omega) (by omega))) ?_
                refine p1 (x_assign (by conv => lhs; whnf)) ?_
                refine r_nil ?_
                first
                  | exact t_n (At.mk ((i + 1, (brDo l (acts.getD i default).1.toNat (acts.getD i default).2.1 (acts.getD i default).2.2).1)) (by repeat (first | exact Agr.refl _ _ | exact Agr.hav _ _ _ | refine Agr.upd rfl ?_ | refine Agr.updL ?_ _ rfl | refine Agr.hav' rfl ?_)) ⟨rfl, trivial⟩ ⟨⟨hX, ⟨hT.now, (asc_do hrl hne).trans hasc, by omega⟩⟩, by first | (dsimp only; omega) | ((show _ < _); omega)⟩)
                  | exact t_n (At.mk ((i + 1, l)) (by repeat (first | exact Agr.refl _ _ | exact Agr.hav _ _ _ | refine Agr.upd rfl ?_ | refine Agr.updL ?_ _ rfl | refine Agr.hav' rfl ?_)) ⟨rfl, trivial⟩ ⟨⟨hX, ⟨hT.now, hasc, by omega⟩⟩, by first | (dsimp only; omega) | ((show _ < _); omega)⟩)
    · try simp only [decide_eq_true_eq, decide_eq_false_iff_not, Bool.not_eq_true, Bool.not_eq_false, Bool.not_eq_eq_eq_not, Bool.not_true, Bool.not_false, Int.not_lt, Int.not_le] at hc30
      refine c_exit ?_
      refine t_e ?_
      refine t_e ?_
      refine b_hit ?_
      refine t_n ?_
      refine c_seq ?_
      refine r_plain ?_
      refine p1 (x_move (by conv => lhs; whnf)) ?_
      refine p1 (x_move (by conv => lhs; whnf)) ?_
      refine o_call Try.func49 fn49 fb49 (branch_Heads _ _ gT rT l nm _ hT) rfl ?_
      rintro v27 w27 ⟨⟨q4, m4, c4, rfl, hH⟩, hE27⟩
      have hX := hX.ext hE27
      have hT := hT.ext hE27
      have hbh := brHeads_of hasc
      rw [hbh] at hH
      refine p1 (x_move (by conv => lhs; whnf)) ?_
      refine p1 (x_extract rfl rfl) ?_
      refine p1 (x_extract rfl rfl) ?_
      refine p1 (x_assign (by conv => lhs; whnf)) ?_
      refine p1 (x_assign (by conv => lhs; whnf)) ?_
      refine r_nil ?_
      refine t_n ?_
      refine c_seq ?_
      refine r_plain ?_
      refine p1 (x_move (by conv => lhs; whnf)) ?_
      refine p1 ((x_eql rfl rfl).cast (congrArg Value.bool (decide_eq_true (by rw [hbh])))) ?_
      refine p1 (x_move (by conv => lhs; whnf)) ?_
      refine g1 84 rfl rfl (x_move (by conv => lhs; whnf)) ?_
      refine g1 84 rfl rfl (x_move (by conv => lhs; whnf)) ?_
      refine g1 84 rfl rfl (x_build2 pl81 (by conv => lhs; whnf) (by conv => lhs; whnf) rfl rfl) ?_
      refine g_drop 84 rfl rfl ?_
      refine o_buildSlice u30 inf81 rfl (by decide) (fun base hb => fill_one (by rfl) base hb) ?_
      intro w28 g88 hN88
      have hE28 := hN88.ext
      have hX := hX.ext hE28
      have hT := hT.ext hE28
      have hH := hH.ext hE28
      have hI : Own kBrA 81 0 0 w28 (some ⟨g88, 0, none⟩) 1 1 [(nm, hds)] := Own.made kBrA 81 0 0 hN88 [(nm, hds)] [[.string nm, .slice q4 m4 c4]] 1 1 rfl ⟨⟨_, _, _, rfl, hH.sl⟩, trivial⟩ (Nat.zero_le _) (by omega) (by omega) (by rfl) (by rfl)
      refine g1 84 rfl rfl (x_move (by conv => lhs; whnf)) ?_
      refine g1 84 rfl rfl (x_move (by conv => lhs; whnf)) ?_
      refine g1 84 rfl rfl (x_build2 pl81 (by conv => lhs; whnf) (by conv => lhs; whnf) rfl rfl) ?_
      refine g_drop 84 rfl rfl ?_
      refine o_buildSlice u30 inf81 rfl (by decide) (fun base hb => fill_one (by rfl) base hb) ?_
      intro w29 g92 hN92
      have hE29 := hN92.ext
      have hX := hX.ext hE29
      have hT := hT.ext hE29
      have hH := hH.ext hE29
      have hI := hI.ext hE29
      have hJ : Own kBrA 81 B2 0 w29 (some ⟨g92, 0, none⟩) 1 1 [(nm, hds)] := Own.made kBrA 81 B2 0 hN92 [(nm, hds)] [[.string nm, .slice q m c2]] 1 1 rfl ⟨⟨_, _, _, rfl, hh.ext hX⟩, trivial⟩ (Nat.zero_le _) (by omega) (by omega) (by rfl) (by rfl)
      refine g_drop 84 rfl rfl ?_
      refine o_call Try.func66 fn66 fb66 ((branch_Same [(nm, hds)] [(nm, hds)] _ _ _ _ _ _ _ _ _ hI.sl hJ.sl).known (c := .bool true) (congrArg Value.bool (decide_eq_true rfl))) rfl ?_
      rintro v30 w30 ⟨rfl, hE30⟩
      have hX := hX.ext hE30
      have hT := hT.ext hE30
      have hH := hH.ext hE30
      have hI := hI.ext hE30
      have hJ := hJ.ext hE30
      refine p1 (x_pick_t rfl (by conv => lhs; whnf)) ?_
      refine p1 (x_move (by conv => lhs; whnf)) ?_
      refine g_drop 95 rfl rfl ?_
      refine o_call Try.func55 fn55 fb55 (law15_awake _) rfl ?_
      rintro v31 w31 ⟨rfl, hE31⟩
      have hX := hX.ext hE31
      have hT := hT.ext hE31
      have hH := hH.ext hE31
      have hI := hI.ext hE31
      have hJ := hJ.ext hE31
      refine p1 (x_pick_t rfl (by conv => lhs; whnf)) ?_
      refine p1 (x_assign (by conv => lhs; whnf)) ?_
      refine r_nil ?_
      refine t_n ?_
      refine c_ret ?_
      refine end1 rfl (by conv => lhs; whnf) ?_
      exact ⟨rfl, hX⟩
theorem law_BranchForks (acts bcts : List Act') (B B2 : Nat) (p p2 : Option Addr) (n c n2 c2 : Nat) (w : World) (hA : Sl kAct 74 B w p n c acts) (hC : Sl kAct 74 B2 w p2 n2 c2 bcts) (hBB : B ≤ w.heap.size) (hBB2 : B2 ≤ w.heap.size) (hkk : ∀ x ∈ acts, x.2.1.size ≤ 9223372036854775807) (hmm : ∀ x ∈ acts, x.2.2.length ≤ 4398046511104) (hkk2 : ∀ x ∈ bcts, x.2.1.size ≤ 9223372036854775807) (hmm2 : ∀ x ∈ bcts, x.2.2.length ≤ 4398046511104) :
    Ret Try.prog 17 [.slice p n c, .slice p2 n2 c2] w (fun v w' => v = .bool true ∧ Ext w w') := by
  have hX := Ext.refl w
  refine enter 63 _ Try.func17 rfl rfl (Nat.le_of_ble_eq_true rfl) ?_
  refine c_seq ?_
  refine r_plain ?_
  refine p1 (x_assign (by conv => lhs; whnf)) ?_
  refine r_nil ?_
  refine t_n ?_
  refine c_seq ?_
  refine r_plain ?_
  refine o_call Try.func62 fn62 fb62 (branch_New _) rfl ?_
  rintro v1 w1 ⟨⟨gT, rT, rfl, hgT, hT⟩, hE1⟩
  have hX := hX.ext hE1
  refine p1 (x_assign (by conv => lhs; whnf)) ?_
  refine r_nil ?_
  refine t_n ?_
  refine c_seq ?_
  refine r_plain ?_
  have hXs6 := hX.size
  refine o_alloc zr70 ?_
  intro w2 g6 hN6
  have hE2 := hN6.ext
  have hX := hX.ext hE2
  have hT := hT.ext hE2
  have hB6 := hN6.blk
  refine r_nil ?_
  refine t_n ?_
  refine c_seq ?_
  refine c_seq ?_
  refine r_plain ?_
  refine p1 (x_assign (by conv => lhs; whnf)) ?_
  refine r_nil ?_
  refine t_n ?_
  refine c_block ?_
  have hlen := hA.len
  have hcap := hA.cap
  have hfit := hA.fit
  refine c_loop (ι := Nat × List Br × Option Addr × Nat × Nat) [7, 13, 14, 15, 16, 17, 18, 19, 20, 21, 22, 23, 24, 25, 26, 27, 28] (fun (i, l, q, m, c1) => [(7, .int .i64 (i : Int))]) (fun (i, l, q, m, c1) w' => Ext w w' ∧ (Tbl (below w') w.heap.size w' gT rT l ∧ Sl (kBr (below w')) 81 0 w' q m c1 l ∧ Blk w' g6 #[.slice q m c1] 70 ∧ i ≤ n)) (fun (i, l, q, m, c1) => n - i) ((0, [], none, 0, 0)) ⟨rfl, trivial⟩ ⟨hX, ⟨hT.now, Sl.nil _ _ _ _ _ _ (by omega), hB6, by omega⟩⟩ ?_
  rintro ⟨i, l, q, m, c1⟩ GL0 w3 ⟨hE3, hT, hR, hB6, hi⟩
  have hX := hE3
  refine c_seq ?_
  refine c_seq ?_
  refine r_plain ?_
  refine p1 (x_move (by conv => lhs; whnf)) ?_
  refine p1 (x_move (by conv => lhs; whnf)) ?_
  refine p1 (x_len_slice u68 rfl) ?_
  refine p1 (x_lss rfl rfl) ?_
  refine r_nil ?_
  refine t_n ?_
  first | refine c_dec rfl (fun hc16 => ?_) (fun hc16 => ?_) | refine c_if rfl (fun hc16 => ?_) (fun hc16 => ?_)
  · try simp only [decide_eq_true_eq, decide_eq_false_iff_not, Bool.not_eq_true, Bool.not_eq_false, Bool.not_eq_eq_eq_not, Bool.not_true, Bool.not_false, Int.not_lt, Int.not_le] at hc16
    refine c_skip ?_
    refine t_n ?_
    refine c_seq ?_
    refine c_block ?_
    refine r_held (fun _ w2 => Ext w w2) mixed ?_
    intro w4 hE4
    have hX := hX.ext hE4
    have hT := hT.ext hE4
    have hR := hR.ext hE4
    have hB6 := hB6.ext hE4
    have hSr6 : (fun _ w2 => Ext w w2) w4 w4 := hX
    have hAl := hA.len
    obtain ⟨qa, ma, ca, hrowa, hSa⟩ := hA.actAt i (by omega)
    have hmema := act_mem hAl (i := i) (by omega)
    have hmal := hSa.len
    have hmb := hmm _ hmema
    have hkb := hkk _ hmema
    refine h_take 0 rfl (by kernel_rfl) (by kernel_rfl) (by kernel_rfl) hSr6 (fun wS hSS => by ( exact (x_move (by conv => lhs; whnf)))) ?_
    refine h_take 2 rfl (by kernel_rfl) (by kernel_rfl) (by kernel_rfl) hSr6 (fun wS hSS => by ( exact (x_move (by conv => lhs; whnf)))) ?_
    refine h_take 3 rfl (by kernel_rfl) (by kernel_rfl) (by kernel_rfl) hSr6 (fun wS hSS => by ( exact (x_move (by conv => lhs; whnf)))) ?_
    refine h_take 4 rfl (by kernel_rfl) (by kernel_rfl) (by kernel_rfl) hSr6 (fun wS hSS => by ( exact (x_ixs u68 sz74 rfl rfl ((hA.ext hX).adr kAct_pos (by omega)) (by omega) (by omega)))) ?_
    refine h_take 5 rfl (by kernel_rfl) (by kernel_rfl) (by kernel_rfl) hSr6 (fun wS hSS => by (have hX := hSS; exact (x_loadN ua74 rfl (by exact sz74) (hX.range hrowa)))) ?_
    refine h_one 1 _ rfl (by kernel_rfl) (hop_of_list (fun Q1 hQ1 => ?_))
    refine p1 (x_loadB ua70 rfl hB6 sz70) ?_
    refine hop_end hQ1 ⟨hSr6, ?_⟩
    refine h_one 6 _ rfl (by kernel_rfl) (hop_of_list (fun Q6 hQ6 => ?_))
    refine o_call Try.func63 fn63 fb63 (law15_do (below _) (below _) _ gT rT l (acts.getD i default).1 (acts.getD i default).2.1 (acts.getD i default).2.2 _ _ _ _ _ _ _ _ hT hR (hSa.ext hX) hBB hkb (by omega)) rfl ?_
    rintro v5 w5 ⟨⟨q2, m2, c2, rfl, hT, hR⟩, hM5⟩
    have hX := hX.mod hM5 (Nat.le_refl _)
    have hB6 := hB6.mod hM5 (by decide)
    have hSr6 := hSr6.mod hM5 (by first | exact Nat.le_refl _ | exact trivial | omega)
    refine hop_end hQ6 ⟨hSr6, ?_⟩
    refine h_take 7 rfl (by kernel_rfl) (by kernel_rfl) (by kernel_rfl) hSr6 (fun wS hSS => by ( exact (x_move (by conv => lhs; whnf)))) ?_
    refine h_take 8 rfl (by kernel_rfl) (by kernel_rfl) (by kernel_rfl) hSr6 (fun wS hSS => by ( exact (x_extract rfl rfl))) ?_
    refine h_take 9 rfl (by kernel_rfl) (by kernel_rfl) (by kernel_rfl) hSr6 (fun wS hSS => by ( exact (x_extract rfl rfl))) ?_
    refine h_one 10 _ rfl (by kernel_rfl) (hop_of_list (fun Q10 hQ10 => ?_))
    refine o_storeAll rfl (by conv => lhs; whnf) (by simp [Value.oneCell']) (by exact sz70) hB6 (by rfl) ?_
    intro w6 hP6
    have hX := hX.put hP6 (by rw [hN6.g_eq]; exact hXs6)
    have hB6 := hP6.blk
    have hSr6 := hX
    have hT := hT.mod (hP6.mod 0 (Nat.zero_le _)) (Nat.zero_le _) (by decide)
    have hR := hR.mod (hP6.mod 0 (Nat.zero_le _)) (Nat.zero_le _) (by simp [kBr])
    refine hop_end hQ10 ⟨hSr6, ?_⟩
    refine h_done (by kernel_rfl) ?_
    refine b_n ?_
    refine t_n ?_
    refine r_plain ?_
    refine p1 (x_move (by conv => lhs; whnf)) ?_
    refine p1 (x_add rfl rfl (fits_i64 (by omega) (by omega))) ?_
    refine p1 (x_assign (by conv => lhs; whnf)) ?_
    refine r_nil ?_
    refine t_n (At.mk ((i + 1, (brDo l (acts.getD i default).1.toNat (acts.getD i default).2.1 (acts.getD i default).2.2).1, q2, m2, c2)) (by repeat (first | exact Agr.refl _ _ | exact Agr.hav _ _ _ | refine Agr.upd rfl ?_ | refine Agr.updL ?_ _ rfl | refine Agr.hav' rfl ?_)) ⟨rfl, trivial⟩ ?_)
    exact ⟨⟨hX, ⟨hT.now, hR.now, hB6, by omega⟩⟩, by first | (dsimp only; omega) | ((show _ < _); omega)⟩
  · try simp only [decide_eq_true_eq, decide_eq_false_iff_not, Bool.not_eq_true, Bool.not_eq_false, Bool.not_eq_eq_eq_not, Bool.not_true, Bool.not_false, Int.not_lt, Int.not_le] at hc16
    refine c_exit ?_
    refine t_e ?_
    refine t_e ?_
    refine b_hit ?_
    refine t_n ?_
    refine c_seq ?_
    refine r_plain ?_
    refine p1 (x_move (by conv => lhs; whnf)) ?_
    have hXf := hX.size
    obtain ⟨Bf, hBf⟩ : ∃ x, x = w3.heap.size := ⟨_, rfl⟩
    have hrT := hT.lt
    rw [← hBf] at hXf hrT
    refine o_call Try.func54 fn54 fb54 (branch_Fork _ _ gT rT l _ hT) rfl ?_
    rintro v7 w7 ⟨⟨gC, rC, rfl, hC2⟩, hE7⟩
    have hX := hX.ext hE7
    have hT := hT.ext hE7
    have hR := hR.ext hE7
    have hB6 := hB6.ext hE7
    rw [← hBf] at hC2
    refine p1 (x_assign (by conv => lhs; whnf)) ?_
    refine r_nil ?_
    refine t_n ?_
    refine c_seq ?_
    refine c_seq ?_
    refine r_plain ?_
    refine p1 (x_move (by conv => lhs; whnf)) ?_
    refine p1 ((x_eql_ptrnil u59 rfl rfl).cast (congrArg Value.bool (decide_eq_false (by simp)))) ?_
    refine r_nil ?_
    refine t_n ?_
    refine c_f rfl ?_
    refine c_skip ?_
    refine t_n ?_
    refine c_seq ?_
    refine r_plain ?_
    refine p1 (x_loadB ua70 rfl hB6 sz70) ?_
    have hXs9 := hX.size
    have hB6lt := hB6.lt
    refine o_alloc zr70 ?_
    intro w8 g9 hN9
    have hE8 := hN9.ext
    have hX := hX.ext hE8
    have hT := hT.ext hE8
    have hR := hR.ext hE8
    have hB6 := hB6.ext hE8
    have hC2 := hC2.ext hE8
    have hB9 := hN9.blk
    have hg9 := hN9.g_eq
    refine o_storeAll rfl (by conv => lhs; whnf) (by simp [Value.oneCell']) (by exact sz70) hB9 (by rfl) ?_
    intro w9 hP9
    have hX := hX.put hP9 (by rw [hN9.g_eq]; exact hXs9)
    have hT := hT.mod (hP9.mod 0 (Nat.zero_le _)) (Nat.zero_le _) (by decide)
    have hR := hR.mod (hP9.mod 0 (Nat.zero_le _)) (Nat.zero_le _) (by simp [kBr])
    have hB6 := hP9.keep hB6 (by omega)
    have hC2 := hC2.mod (hP9.mod 0 (Nat.zero_le _)) (Nat.zero_le _) (by decide)
    have hB9 := hP9.blk
    refine p1 (x_assign (by conv => lhs; whnf)) ?_
    refine r_nil ?_
    refine t_n ?_
    refine c_seq ?_
    refine c_seq ?_
    refine r_plain ?_
    refine p1 (x_assign (by conv => lhs; whnf)) ?_
    refine r_nil ?_
    refine t_n ?_
    refine c_block ?_
    have hlen2 := hC.len
    have hcap2 := hC.cap
    have hfit2 := hC.fit
    refine c_loop (ι := Nat × List Br × Option Addr × Nat × Nat) [4, 10, 11, 34, 35, 36, 37, 38, 39, 40, 41, 42, 43, 44, 45, 46, 47, 48, 49, 50, 51] (fun (j, l2, q2, m2, c3) => [(11, .int .i64 (j : Int))]) (fun (j, l2, q2, m2, c3) w' => Ext w w' ∧ (Tbl (below w') Bf w' gC rC l2 ∧ Sl (kBr (below w')) 81 0 w' q2 m2 c3 l2 ∧ Blk w' g9 #[.slice q2 m2 c3] 70 ∧ Tbl (below w') w.heap.size w' gT rT l ∧ Sl (kBr (below w')) 81 0 w' q m c1 l ∧ Blk w' g6 #[.slice q m c1] 70 ∧ j ≤ n2)) (fun (j, l2, q2, m2, c3) => n2 - j) ((0, l, q, m, c1)) ⟨rfl, trivial⟩ ⟨hX, ⟨hC2.now, hR.now, hB9, hT.now, hR.now, hB6, by omega⟩⟩ ?_
    rintro ⟨j, l2, q2, m2, c3⟩ GL2 w10 ⟨hE10, hT, hR, hB9, hTt, hRr, hB6, hj⟩
    have hX := hE10
    refine c_seq ?_
    refine c_seq ?_
    refine r_plain ?_
    refine p1 (x_move (by conv => lhs; whnf)) ?_
    refine p1 (x_move (by conv => lhs; whnf)) ?_
    refine p1 (x_len_slice u68 rfl) ?_
    refine p1 (x_lss rfl rfl) ?_
    refine r_nil ?_
    refine t_n ?_
    first | refine c_dec rfl (fun hc37 => ?_) (fun hc37 => ?_) | refine c_if rfl (fun hc37 => ?_) (fun hc37 => ?_)
    · try simp only [decide_eq_true_eq, decide_eq_false_iff_not, Bool.not_eq_true, Bool.not_eq_false, Bool.not_eq_eq_eq_not, Bool.not_true, Bool.not_false, Int.not_lt, Int.not_le] at hc37
      refine c_skip ?_
      refine t_n ?_
      refine c_seq ?_
      refine c_block ?_
      refine c_seq ?_
      refine r_held (fun _ w2 => Ext w w2) mixed ?_
      intro w11 hE11
      have hX := hX.ext hE11
      have hT := hT.ext hE11
      have hR := hR.ext hE11
      have hB9 := hB9.ext hE11
      have hTt := hTt.ext hE11
      have hRr := hRr.ext hE11
      have hB6 := hB6.ext hE11
      have hSr14 : (fun _ w2 => Ext w w2) w11 w11 := hX
      have hAl := hC.len
      obtain ⟨qa, ma, ca, hrowa, hSa⟩ := hC.actAt j (by omega)
      have hmema := act_mem hAl (i := j) (by omega)
      have hmal := hSa.len
      have hmb := hmm2 _ hmema
      have hkb := hkk2 _ hmema
      refine h_take 0 rfl (by kernel_rfl) (by kernel_rfl) (by kernel_rfl) hSr14 (fun wS hSS => by ( exact (x_move (by conv => lhs; whnf)))) ?_
      refine h_take 2 rfl (by kernel_rfl) (by kernel_rfl) (by kernel_rfl) hSr14 (fun wS hSS => by ( exact (x_move (by conv => lhs; whnf)))) ?_
      refine h_take 3 rfl (by kernel_rfl) (by kernel_rfl) (by kernel_rfl) hSr14 (fun wS hSS => by ( exact (x_move (by conv => lhs; whnf)))) ?_
      refine h_take 4 rfl (by kernel_rfl) (by kernel_rfl) (by kernel_rfl) hSr14 (fun wS hSS => by ( exact (x_ixs u68 sz74 rfl rfl ((hC.ext hX).adr kAct_pos (by omega)) (by omega) (by omega)))) ?_
      refine h_take 5 rfl (by kernel_rfl) (by kernel_rfl) (by kernel_rfl) hSr14 (fun wS hSS => by (have hX := hSS; exact (x_loadN ua74 rfl (by exact sz74) (hX.range hrowa)))) ?_
      refine h_one 1 _ rfl (by kernel_rfl) (hop_of_list (fun Q1 hQ1 => ?_))
      refine p1 (x_loadB ua70 rfl hB9 sz70) ?_
      refine hop_end hQ1 ⟨hSr14, ?_⟩
      refine h_one 6 _ rfl (by kernel_rfl) (hop_of_list (fun Q6 hQ6 => ?_))
      refine o_call Try.func63 fn63 fb63 (law15_do _ _ _ gC rC l2 (bcts.getD j default).1 (bcts.getD j default).2.1 (bcts.getD j default).2.2 _ _ _ _ _ _ _ _ hT hR (hSa.ext hX) (Nat.le_trans hBB2 hXf) hkb (by omega)) rfl ?_
      rintro v12 w12 ⟨⟨q4, m4, c4, rfl, hT, hR⟩, hM12⟩
      have hX := hX.mod hM12 (hXf)
      have hB9 := hB9.mod hM12 (by decide)
      have hTt := hTt.modLow hM12 hrT
      have hRr := hRr.mod hM12 (Nat.zero_le _) (by simp [kBr, tMap])
      have hB6 := hB6.mod hM12 (by decide)
      have hSr14 := hSr14.mod hM12 (by first | exact Nat.le_refl _ | exact trivial | omega)
      refine hop_end hQ6 ⟨hSr14, ?_⟩
      refine h_take 7 rfl (by kernel_rfl) (by kernel_rfl) (by kernel_rfl) hSr14 (fun wS hSS => by ( exact (x_move (by conv => lhs; whnf)))) ?_
      refine h_take 8 rfl (by kernel_rfl) (by kernel_rfl) (by kernel_rfl) hSr14 (fun wS hSS => by ( exact (x_extract rfl rfl))) ?_
      refine h_take 9 rfl (by kernel_rfl) (by kernel_rfl) (by kernel_rfl) hSr14 (fun wS hSS => by ( exact (x_extract rfl rfl))) ?_
      refine h_one 10 _ rfl (by kernel_rfl) (hop_of_list (fun Q10 hQ10 => ?_))
      refine o_storeAll rfl (by conv => lhs; whnf) (by simp [Value.oneCell']) (by exact sz70) hB9 (by rfl) ?_
      intro w13 hP13
      have hX := hX.put hP13 (by omega)
      have hB9 := hP13.blk
      have hTt := hTt.mod (hP13.mod 0 (Nat.zero_le _)) (Nat.zero_le _) (by decide)
      have hRr := hRr.mod (hP13.mod 0 (Nat.zero_le _)) (Nat.zero_le _) (by simp [kBr])
      have hB6 := hP13.keep hB6 (by omega)
      have hSr14 := hX
      have hT := hT.mod (hP13.mod 0 (Nat.zero_le _)) (Nat.zero_le _) (by decide)
      have hR := hR.mod (hP13.mod 0 (Nat.zero_le _)) (Nat.zero_le _) (by simp [kBr])
      refine hop_end hQ10 ⟨hSr14, ?_⟩
      refine h_take 11 rfl (by kernel_rfl) (by kernel_rfl) (by kernel_rfl) hSr14 (fun wS hSS => by ( exact (x_assign (by conv => lhs; whnf)))) ?_
      refine h_done (by kernel_rfl) ?_
      refine t_n ?_
      refine c_seq ?_
      refine r_plain ?_
      refine p1 (x_move (by conv => lhs; whnf)) ?_
      refine p1 (x_not rfl) ?_
      refine r_nil ?_
      refine t_n ?_
      refine c_f rfl ?_
      refine c_skip ?_
      refine b_n ?_
      refine t_n ?_
      refine r_plain ?_
      refine p1 (x_move (by conv => lhs; whnf)) ?_
      refine p1 (x_add rfl rfl (fits_i64 (by omega) (by omega))) ?_
      refine p1 (x_assign (by conv => lhs; whnf)) ?_
      refine r_nil ?_
      refine t_n (At.mk ((j + 1, (brDo l2 (bcts.getD j default).1.toNat (bcts.getD j default).2.1 (bcts.getD j default).2.2).1, q4, m4, c4)) (by repeat (first | exact Agr.refl _ _ | exact Agr.hav _ _ _ | refine Agr.upd rfl ?_ | refine Agr.updL ?_ _ rfl | refine Agr.hav' rfl ?_)) ⟨rfl, trivial⟩ ?_)
      exact ⟨⟨hX, ⟨hT.now, hR.now, hB9, hTt.now, hRr.now, hB6, by omega⟩⟩, by first | (dsimp only; omega) | ((show _ < _); omega)⟩
    · try simp only [decide_eq_true_eq, decide_eq_false_iff_not, Bool.not_eq_true, Bool.not_eq_false, Bool.not_eq_eq_eq_not, Bool.not_true, Bool.not_false, Int.not_lt, Int.not_le] at hc37
      refine c_exit ?_
      refine t_e ?_
      refine t_e ?_
      refine b_hit ?_
      refine t_n ?_
      refine c_seq ?_
      refine r_plain ?_
      refine p1 (x_move (by conv => lhs; whnf)) ?_
      refine p1 (x_loadB ua70 rfl hB9 sz70) ?_
      refine o_call Try.func64 fn64 fb64 (law15_same _ _ _ gC rC _ _ _ _ _ hT hR) rfl ?_
      rintro v14 w14 ⟨rfl, hE14⟩
      have hX := hX.ext hE14
      have hT := hT.ext hE14
      have hR := hR.ext hE14
      have hB9 := hB9.ext hE14
      have hTt := hTt.ext hE14
      have hRr := hRr.ext hE14
      have hB6 := hB6.ext hE14
      refine p1 (x_move (by conv => lhs; whnf)) ?_
      refine g1 55 rfl rfl (x_move (by conv => lhs; whnf)) ?_
      refine g1 55 rfl rfl (x_loadB ua70 rfl hB6 sz70) ?_
      refine g_drop 55 rfl rfl ?_
      refine o_call Try.func64 fn64 fb64 (law15_same _ _ _ gT rT _ _ _ _ _ hTt hRr) rfl ?_
      rintro v15 w15 ⟨rfl, hE15⟩
      have hX := hX.ext hE15
      have hT := hT.ext hE15
      have hR := hR.ext hE15
      have hB9 := hB9.ext hE15
      have hTt := hTt.ext hE15
      have hRr := hRr.ext hE15
      have hB6 := hB6.ext hE15
      refine p1 (x_pick_t rfl (by conv => lhs; whnf)) ?_
      refine p1 (x_move (by conv => lhs; whnf)) ?_
      refine g_drop 60 rfl rfl ?_
      refine o_call Try.func55 fn55 fb55 (law15_awake _) rfl ?_
      rintro v16 w16 ⟨rfl, hE16⟩
      have hX := hX.ext hE16
      have hT := hT.ext hE16
      have hR := hR.ext hE16
      have hB9 := hB9.ext hE16
      have hTt := hTt.ext hE16
      have hRr := hRr.ext hE16
      have hB6 := hB6.ext hE16
      refine p1 (x_pick_t rfl (by conv => lhs; whnf)) ?_
      refine p1 (x_assign (by conv => lhs; whnf)) ?_
      refine r_nil ?_
      refine t_n ?_
      refine c_ret ?_
      refine end1 rfl (by conv => lhs; whnf) ?_
      exact ⟨rfl, hX⟩
end Go.Proofs.Eng
