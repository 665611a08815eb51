import Derived.Test.YtjbfgmkemideiaaD2
set_option linter.unusedVariables false
set_option linter.unusedSimpArgs false
set_option maxRecDepth 100000
set_option maxHeartbeats 4000000
namespace Go.Proofs.Eng
open Go.RowKit
open Extern.Stop (cell)
theorem isName_size {s : ByteArray} (h : isName s = true) : s.size ≤ 32 := by
  unfold isName at h
  simp only [decide_eq_true_eq, Bool.and_eq_true] at h
  omega
theorem rise_at {l : List Br} {k : Nat} (hr : RiseN l) (h0 : 0 < k) (hk : k < l.length) : lssB (l.getD (k - 1) default).1 (l.getD k default).1 = true := by
  have h := List.pairwise_iff_getElem.1 hr (k - 1) k (by omega) hk (by omega)
  have eg : ∀ t (ht : t < l.length), l.getD t default = l[t] := fun t ht => by rw [List.getD_eq_getElem?_getD, List.getElem?_eq_getElem ht]; rfl
  rw [eg k hk, eg (k - 1) (by omega)]
  exact h
theorem law_BranchBack (acts : List Act') (B : Nat) (p : Option Addr) (n c : Nat) (w : World) (hA : Sl kAct 74 B w p n c acts) (hBB : B ≤ w.heap.size) (hkk : ∀ x ∈ acts, x.2.1.size ≤ 9223372036854775807) (hmm : ∀ x ∈ acts, x.2.2.length ≤ 4398046511104) :
    Ret Try.prog 18 [.slice p n c] w (fun v w' => v = .bool true ∧ Ext w w') := by
  have hX := Ext.refl w
  refine enter 133 _ Try.func18 rfl rfl (Nat.le_of_ble_eq_true rfl) ?_
  refine c_seq ?_
  refine r_plain ?_
  refine p1 (x_assign (by conv => lhs; whnf)) ?_
  refine r_nil ?_
  refine t_n ?_
  refine c_seq ?_
  refine r_plain ?_
  refine o_call Try.func62 fn62 fb62 (branch_New _) rfl ?_
  rintro v1 w1 ⟨⟨gT, rT, rfl, hgT, hT⟩, hE1⟩
  have hX := hX.ext hE1
  refine p1 (x_assign (by conv => lhs; whnf)) ?_
  refine r_nil ?_
  refine t_n ?_
  refine c_seq ?_
  refine c_seq ?_
  refine r_plain ?_
  refine p1 (x_assign (by conv => lhs; whnf)) ?_
  refine r_nil ?_
  refine t_n ?_
  refine c_block ?_
  have hlen := hA.len
  have hcap := hA.cap
  have hfit := hA.fit
  refine c_loop (ι := Nat × List Br) [4, 12, 13, 14, 15, 16, 17, 18, 19, 20, 21, 22, 23, 24, 25, 26, 27, 28, 29, 30, 31, 32, 33, 34, 35, 36, 37, 38, 39, 40, 41, 42, 43, 44, 45, 46, 47, 48, 49, 50, 51, 52, 53, 54, 55, 56, 57, 58, 59] (fun (i, l) => [(4, .int .i64 (i : Int))]) (fun (i, l) w' => Ext w w' ∧ (Tbl (below w') w.heap.size w' gT rT l ∧ i ≤ n)) (fun (i, l) => n - i) ((0, [])) ⟨rfl, trivial⟩ ⟨hX, ⟨hT.now, by omega⟩⟩ ?_
  rintro ⟨i, l⟩ GL0 w2 ⟨hE2, hT, hi⟩
  have hX := hE2
  refine c_seq ?_
  refine c_seq ?_
  refine r_plain ?_
  refine p1 (x_move (by conv => lhs; whnf)) ?_
  refine p1 (x_move (by conv => lhs; whnf)) ?_
  refine p1 (x_len_slice u68 rfl) ?_
  refine p1 (x_lss rfl rfl) ?_
  refine r_nil ?_
  refine t_n ?_
  first | refine c_dec rfl (fun hc15 => ?_) (fun hc15 => ?_) | refine c_if rfl (fun hc15 => ?_) (fun hc15 => ?_)
  · try simp only [decide_eq_true_eq, decide_eq_false_iff_not, Bool.not_eq_true, Bool.not_eq_false, Bool.not_eq_eq_eq_not, Bool.not_true, Bool.not_false, Int.not_lt, Int.not_le] at hc15
    refine c_skip ?_
    refine t_n ?_
    refine c_seq ?_
    refine c_block ?_
    refine c_seq ?_
    have hAl := hA.len
    obtain ⟨qa, ma, ca, hrowa, hSa⟩ := hA.actAt i (by omega)
    have hmema := act_mem hAl (i := i) (by omega)
    have hmal := hSa.len
    have hmb := hmm _ hmema
    have hkb := hkk _ hmema
    refine r_plain ?_
    refine p1 (x_move (by conv => lhs; whnf)) ?_
    refine p1 (x_move (by conv => lhs; whnf)) ?_
    refine p1 (x_ixs u68 sz74 rfl rfl ((hA.ext hX).adr kAct_pos (by omega)) (by omega) (by omega)) ?_
    refine p1 (x_fieldAddr fo74_0 sz5 rfl) ?_
    refine p1 (x_load1 un5 rfl (hX.cell (hrowa 0 _ rfl))) ?_
    refine p1 (x_rem rfl rfl (by omega) (by omega)) ?_
    refine r_nil ?_
    refine t_n ?_
    refine c_block ?_
    refine c_seq ?_
    refine c_seq ?_
    refine r_plain ?_
    refine p1 (x_eql rfl rfl) ?_
    refine p1 (x_assign (by conv => lhs; whnf)) ?_
    refine r_nil ?_
    refine t_n ?_
    first | refine c_dec rfl (fun hc31 => ?_) (fun hc31 => ?_) | refine c_if rfl (fun hc31 => ?_) (fun hc31 => ?_)
    · try simp only [decide_eq_true_eq, decide_eq_false_iff_not, Bool.not_eq_true, Bool.not_eq_false, Bool.not_eq_eq_eq_not, Bool.not_true, Bool.not_false, Int.not_lt, Int.not_le] at hc31
      refine c_skip ?_
      refine t_n ?_
      first | refine c_dec rfl (fun hc31 => ?_) (fun hc31 => ?_) | refine c_if rfl (fun hc31 => ?_) (fun hc31 => ?_)
      · try simp only [decide_eq_true_eq, decide_eq_false_iff_not, Bool.not_eq_true, Bool.not_eq_false, Bool.not_eq_eq_eq_not, Bool.not_true, Bool.not_false, Int.not_lt, Int.not_le] at hc31
        refine r_tail 11 mixed (by kernel_rfl) ?_
        intro w3 hE3
        have hX := hX.ext hE3
        have hT := hT.ext hE3
        refine s1 (x_move (by conv => lhs; whnf)) ?_
        refine s1 (x_move (by conv => lhs; whnf)) ?_
        refine s1 (x_move (by conv => lhs; whnf)) ?_
        refine s1 (x_ixs u68 sz74 rfl rfl ((hA.ext hX).adr kAct_pos (by omega)) (by omega) (by omega)) ?_
        refine s1 (x_fieldAddr fo74_1 sz9 rfl) ?_
        refine s1 (x_load1 un9 rfl (hX.cell (hrowa 1 _ rfl))) ?_
        refine s1 (x_move (by conv => lhs; whnf)) ?_
        refine s1 (x_move (by conv => lhs; whnf)) ?_
        refine s1 (x_ixs u68 sz74 rfl rfl ((hA.ext hX).adr kAct_pos (by omega)) (by omega) (by omega)) ?_
        refine s1 (x_fieldAddr fo74_2 sz31 rfl) ?_
        refine s1 (x_load1 un31 rfl (hX.cell (hrowa 2 _ rfl))) ?_
        refine s_nil ?_
        refine o_call Try.func50 fn50 fb50 (branch_Create _ _ gT rT l (acts.getD i default).2.1 (acts.getD i default).2.2 _ _ _ _ _ hT (hSa.ext hX) hkb) rfl ?_
        rintro v4 w4 ⟨rfl, hT, hM4⟩
        have hX := hX.mod hM4 (Nat.le_refl _)
        refine r_nil ?_
        refine b_n ?_
        refine b_n ?_
        refine t_n ?_
        refine r_plain ?_
        refine p1 (x_move (by conv => lhs; whnf)) ?_
        refine p1 (x_add rfl rfl (fits_i64 (by omega) (by omega))) ?_
        refine p1 (x_assign (by conv => lhs; whnf)) ?_
        refine r_nil ?_
        first
          | exact t_n (At.mk ((i + 1, (brCreate l (acts.getD i default).2.1 (acts.getD i default).2.2).1)) (by repeat (first | exact Agr.refl _ _ | exact Agr.hav _ _ _ | refine Agr.upd rfl ?_ | refine Agr.updL ?_ _ rfl | refine Agr.hav' rfl ?_)) ⟨rfl, trivial⟩ ⟨⟨hX, ⟨hT.now, by omega⟩⟩, by first | (dsimp only; omega) | ((show _ < _); omega)⟩)
          | exact t_n (At.mk ((i + 1, (brMove l (acts.getD i default).2.1 (acts.getD i default).2.2).1)) (by repeat (first | exact Agr.refl _ _ | exact Agr.hav _ _ _ | refine Agr.upd rfl ?_ | refine Agr.updL ?_ _ rfl | refine Agr.hav' rfl ?_)) ⟨rfl, trivial⟩ ⟨⟨hX, ⟨hT.now, by omega⟩⟩, by first | (dsimp only; omega) | ((show _ < _); omega)⟩)
          | exact t_n (At.mk ((i + 1, (brDelete l (acts.getD i default).2.1).1)) (by repeat (first | exact Agr.refl _ _ | exact Agr.hav _ _ _ | refine Agr.upd rfl ?_ | refine Agr.updL ?_ _ rfl | refine Agr.hav' rfl ?_)) ⟨rfl, trivial⟩ ⟨⟨hX, ⟨hT.now, by omega⟩⟩, by first | (dsimp only; omega) | ((show _ < _); omega)⟩)
      · try simp only [decide_eq_true_eq, decide_eq_false_iff_not, Bool.not_eq_true, Bool.not_eq_false, Bool.not_eq_eq_eq_not, Bool.not_true, Bool.not_false, Int.not_lt, Int.not_le] at hc31
        refine c_seq ?_
        refine r_plain ?_
        refine p1 (x_eql rfl rfl) ?_
        refine p1 (x_assign (by conv => lhs; whnf)) ?_
        refine r_nil ?_
        refine t_n ?_
        first | refine c_dec rfl (fun hc46 => ?_) (fun hc46 => ?_) | refine c_if rfl (fun hc46 => ?_) (fun hc46 => ?_)
        · try simp only [decide_eq_true_eq, decide_eq_false_iff_not, Bool.not_eq_true, Bool.not_eq_false, Bool.not_eq_eq_eq_not, Bool.not_true, Bool.not_false, Int.not_lt, Int.not_le] at hc46
          refine r_tail 11 mixed (by kernel_rfl) ?_
          intro w5 hE5
          have hX := hX.ext hE5
          have hT := hT.ext hE5
          refine s1 (x_move (by conv => lhs; whnf)) ?_
          refine s1 (x_move (by conv => lhs; whnf)) ?_
          refine s1 (x_move (by conv => lhs; whnf)) ?_
          refine s1 (x_ixs u68 sz74 rfl rfl ((hA.ext hX).adr kAct_pos (by omega)) (by omega) (by omega)) ?_
          refine s1 (x_fieldAddr fo74_1 sz9 rfl) ?_
          refine s1 (x_load1 un9 rfl (hX.cell (hrowa 1 _ rfl))) ?_
          refine s1 (x_move (by conv => lhs; whnf)) ?_
          refine s1 (x_move (by conv => lhs; whnf)) ?_
          refine s1 (x_ixs u68 sz74 rfl rfl ((hA.ext hX).adr kAct_pos (by omega)) (by omega) (by omega)) ?_
          refine s1 (x_fieldAddr fo74_2 sz31 rfl) ?_
          refine s1 (x_load1 un31 rfl (hX.cell (hrowa 2 _ rfl))) ?_
          refine s_nil ?_
          refine o_call Try.func51 fn51 fb51 (branch_Move _ _ gT rT l (acts.getD i default).2.1 (acts.getD i default).2.2 _ _ _ _ _ hT (hSa.ext hX) hkb) rfl ?_
          rintro v6 w6 ⟨rfl, hT, hM6⟩
          have hX := hX.mod hM6 (Nat.le_refl _)
          refine r_nil ?_
          refine b_n ?_
          refine b_n ?_
          refine t_n ?_
          refine r_plain ?_
          refine p1 (x_move (by conv => lhs; whnf)) ?_
          refine p1 (x_add rfl rfl (fits_i64 (by omega) (by omega))) ?_
          refine p1 (x_assign (by conv => lhs; whnf)) ?_
          refine r_nil ?_
          first
            | exact t_n (At.mk ((i + 1, (brCreate l (acts.getD i default).2.1 (acts.getD i default).2.2).1)) (by repeat (first | exact Agr.refl _ _ | exact Agr.hav _ _ _ | refine Agr.upd rfl ?_ | refine Agr.updL ?_ _ rfl | refine Agr.hav' rfl ?_)) ⟨rfl, trivial⟩ ⟨⟨hX, ⟨hT.now, by omega⟩⟩, by first | (dsimp only; omega) | ((show _ < _); omega)⟩)
            | exact t_n (At.mk ((i + 1, (brMove l (acts.getD i default).2.1 (acts.getD i default).2.2).1)) (by repeat (first | exact Agr.refl _ _ | exact Agr.hav _ _ _ | refine Agr.upd rfl ?_ | refine Agr.updL ?_ _ rfl | refine Agr.hav' rfl ?_)) ⟨rfl, trivial⟩ ⟨⟨hX, ⟨hT.now, by omega⟩⟩, by first | (dsimp only; omega) | ((show _ < _); omega)⟩)
            | exact t_n (At.mk ((i + 1, (brDelete l (acts.getD i default).2.1).1)) (by repeat (first | exact Agr.refl _ _ | exact Agr.hav _ _ _ | refine Agr.upd rfl ?_ | refine Agr.updL ?_ _ rfl | refine Agr.hav' rfl ?_)) ⟨rfl, trivial⟩ ⟨⟨hX, ⟨hT.now, by omega⟩⟩, by first | (dsimp only; omega) | ((show _ < _); omega)⟩)
        · try simp only [decide_eq_true_eq, decide_eq_false_iff_not, Bool.not_eq_true, Bool.not_eq_false, Bool.not_eq_eq_eq_not, Bool.not_true, Bool.not_false, Int.not_lt, Int.not_le] at hc46
          refine r_plain ?_
          refine p1 (x_move (by conv => lhs; whnf)) ?_
          refine p1 (x_move (by conv => lhs; whnf)) ?_
          refine p1 (x_move (by conv => lhs; whnf)) ?_
          refine p1 (x_ixs u68 sz74 rfl rfl ((hA.ext hX).adr kAct_pos (by omega)) (by omega) (by omega)) ?_
          refine p1 (x_fieldAddr fo74_1 sz9 rfl) ?_
          refine p1 (x_load1 un9 rfl (hX.cell (hrowa 1 _ rfl))) ?_
          refine o_call Try.func52 fn52 fb52 (branch_Delete _ _ gT rT l (acts.getD i default).2.1 _ hT) rfl ?_
          rintro v7 w7 ⟨rfl, hT, hM7⟩
          have hX := hX.mod hM7 (Nat.le_refl _)
          refine r_nil ?_
          refine b_n ?_
          refine b_n ?_
          refine t_n ?_
          refine r_plain ?_
          refine p1 (x_move (by conv => lhs; whnf)) ?_
          refine p1 (x_add rfl rfl (fits_i64 (by omega) (by omega))) ?_
          refine p1 (x_assign (by conv => lhs; whnf)) ?_
          refine r_nil ?_
          first
            | exact t_n (At.mk ((i + 1, (brCreate l (acts.getD i default).2.1 (acts.getD i default).2.2).1)) (by repeat (first | exact Agr.refl _ _ | exact Agr.hav _ _ _ | refine Agr.upd rfl ?_ | refine Agr.updL ?_ _ rfl | refine Agr.hav' rfl ?_)) ⟨rfl, trivial⟩ ⟨⟨hX, ⟨hT.now, by omega⟩⟩, by first | (dsimp only; omega) | ((show _ < _); omega)⟩)
            | exact t_n (At.mk ((i + 1, (brMove l (acts.getD i default).2.1 (acts.getD i default).2.2).1)) (by repeat (first | exact Agr.refl _ _ | exact Agr.hav _ _ _ | refine Agr.upd rfl ?_ | refine Agr.updL ?_ _ rfl | refine Agr.hav' rfl ?_)) ⟨rfl, trivial⟩ ⟨⟨hX, ⟨hT.now, by omega⟩⟩, by first | (dsimp only; omega) | ((show _ < _); omega)⟩)
            | exact t_n (At.mk ((i + 1, (brDelete l (acts.getD i default).2.1).1)) (by repeat (first | exact Agr.refl _ _ | exact Agr.hav _ _ _ | refine Agr.upd rfl ?_ | refine Agr.updL ?_ _ rfl | refine Agr.hav' rfl ?_)) ⟨rfl, trivial⟩ ⟨⟨hX, ⟨hT.now, by omega⟩⟩, by first | (dsimp only; omega) | ((show _ < _); omega)⟩)
    · try simp only [decide_eq_true_eq, decide_eq_false_iff_not, Bool.not_eq_true, Bool.not_eq_false, Bool.not_eq_eq_eq_not, Bool.not_true, Bool.not_false, Int.not_lt, Int.not_le] at hc31
      refine r_plain ?_
      refine p1 (x_eql rfl rfl) ?_
      refine p1 (x_assign (by conv => lhs; whnf)) ?_
      refine r_nil ?_
      refine t_n ?_
      first | refine c_dec rfl (fun hc31 => ?_) (fun hc31 => ?_) | refine c_if rfl (fun hc31 => ?_) (fun hc31 => ?_)
      · try simp only [decide_eq_true_eq, decide_eq_false_iff_not, Bool.not_eq_true, Bool.not_eq_false, Bool.not_eq_eq_eq_not, Bool.not_true, Bool.not_false, Int.not_lt, Int.not_le] at hc31
        refine r_tail 11 mixed (by kernel_rfl) ?_
        intro w8 hE8
        have hX := hX.ext hE8
        have hT := hT.ext hE8
        refine s1 (x_move (by conv => lhs; whnf)) ?_
        refine s1 (x_move (by conv => lhs; whnf)) ?_
        refine s1 (x_move (by conv => lhs; whnf)) ?_
        refine s1 (x_ixs u68 sz74 rfl rfl ((hA.ext hX).adr kAct_pos (by omega)) (by omega) (by omega)) ?_
        refine s1 (x_fieldAddr fo74_1 sz9 rfl) ?_
        refine s1 (x_load1 un9 rfl (hX.cell (hrowa 1 _ rfl))) ?_
        refine s1 (x_move (by conv => lhs; whnf)) ?_
        refine s1 (x_move (by conv => lhs; whnf)) ?_
        refine s1 (x_ixs u68 sz74 rfl rfl ((hA.ext hX).adr kAct_pos (by omega)) (by omega) (by omega)) ?_
        refine s1 (x_fieldAddr fo74_2 sz31 rfl) ?_
        refine s1 (x_load1 un31 rfl (hX.cell (hrowa 2 _ rfl))) ?_
        refine s_nil ?_
        refine o_call Try.func50 fn50 fb50 (branch_Create _ _ gT rT l (acts.getD i default).2.1 (acts.getD i default).2.2 _ _ _ _ _ hT (hSa.ext hX) hkb) rfl ?_
        rintro v9 w9 ⟨rfl, hT, hM9⟩
        have hX := hX.mod hM9 (Nat.le_refl _)
        refine r_nil ?_
        refine b_n ?_
        refine b_n ?_
        refine t_n ?_
        refine r_plain ?_
        refine p1 (x_move (by conv => lhs; whnf)) ?_
        refine p1 (x_add rfl rfl (fits_i64 (by omega) (by omega))) ?_
        refine p1 (x_assign (by conv => lhs; whnf)) ?_
        refine r_nil ?_
        first
          | exact t_n (At.mk ((i + 1, (brCreate l (acts.getD i default).2.1 (acts.getD i default).2.2).1)) (by repeat (first | exact Agr.refl _ _ | exact Agr.hav _ _ _ | refine Agr.upd rfl ?_ | refine Agr.updL ?_ _ rfl | refine Agr.hav' rfl ?_)) ⟨rfl, trivial⟩ ⟨⟨hX, ⟨hT.now, by omega⟩⟩, by first | (dsimp only; omega) | ((show _ < _); omega)⟩)
          | exact t_n (At.mk ((i + 1, (brMove l (acts.getD i default).2.1 (acts.getD i default).2.2).1)) (by repeat (first | exact Agr.refl _ _ | exact Agr.hav _ _ _ | refine Agr.upd rfl ?_ | refine Agr.updL ?_ _ rfl | refine Agr.hav' rfl ?_)) ⟨rfl, trivial⟩ ⟨⟨hX, ⟨hT.now, by omega⟩⟩, by first | (dsimp only; omega) | ((show _ < _); omega)⟩)
          | exact t_n (At.mk ((i + 1, (brDelete l (acts.getD i default).2.1).1)) (by repeat (first | exact Agr.refl _ _ | exact Agr.hav _ _ _ | refine Agr.upd rfl ?_ | refine Agr.updL ?_ _ rfl | refine Agr.hav' rfl ?_)) ⟨rfl, trivial⟩ ⟨⟨hX, ⟨hT.now, by omega⟩⟩, by first | (dsimp only; omega) | ((show _ < _); omega)⟩)
      · try simp only [decide_eq_true_eq, decide_eq_false_iff_not, Bool.not_eq_true, Bool.not_eq_false, Bool.not_eq_eq_eq_not, Bool.not_true, Bool.not_false, Int.not_lt, Int.not_le] at hc31
        refine c_seq ?_
        refine r_plain ?_
        refine p1 (x_eql rfl rfl) ?_
        refine p1 (x_assign (by conv => lhs; whnf)) ?_
        refine r_nil ?_
        refine t_n ?_
        first | refine c_dec rfl (fun hc46 => ?_) (fun hc46 => ?_) | refine c_if rfl (fun hc46 => ?_) (fun hc46 => ?_)
        · try simp only [decide_eq_true_eq, decide_eq_false_iff_not, Bool.not_eq_true, Bool.not_eq_false, Bool.not_eq_eq_eq_not, Bool.not_true, Bool.not_false, Int.not_lt, Int.not_le] at hc46
          refine r_tail 11 mixed (by kernel_rfl) ?_
          intro w10 hE10
          have hX := hX.ext hE10
          have hT := hT.ext hE10
          refine s1 (x_move (by conv => lhs; whnf)) ?_
          refine s1 (x_move (by conv => lhs; whnf)) ?_
          refine s1 (x_move (by conv => lhs; whnf)) ?_
          refine s1 (x_ixs u68 sz74 rfl rfl ((hA.ext hX).adr kAct_pos (by omega)) (by omega) (by omega)) ?_
          refine s1 (x_fieldAddr fo74_1 sz9 rfl) ?_
          refine s1 (x_load1 un9 rfl (hX.cell (hrowa 1 _ rfl))) ?_
          refine s1 (x_move (by conv => lhs; whnf)) ?_
          refine s1 (x_move (by conv => lhs; whnf)) ?_
          refine s1 (x_ixs u68 sz74 rfl rfl ((hA.ext hX).adr kAct_pos (by omega)) (by omega) (by omega)) ?_
          refine s1 (x_fieldAddr fo74_2 sz31 rfl) ?_
          refine s1 (x_load1 un31 rfl (hX.cell (hrowa 2 _ rfl))) ?_
          refine s_nil ?_
          refine o_call Try.func51 fn51 fb51 (branch_Move _ _ gT rT l (acts.getD i default).2.1 (acts.getD i default).2.2 _ _ _ _ _ hT (hSa.ext hX) hkb) rfl ?_
          rintro v11 w11 ⟨rfl, hT, hM11⟩
          have hX := hX.mod hM11 (Nat.le_refl _)
          refine r_nil ?_
          refine b_n ?_
          refine b_n ?_
          refine t_n ?_
          refine r_plain ?_
          refine p1 (x_move (by conv => lhs; whnf)) ?_
          refine p1 (x_add rfl rfl (fits_i64 (by omega) (by omega))) ?_
          refine p1 (x_assign (by conv => lhs; whnf)) ?_
          refine r_nil ?_
          first
            | exact t_n (At.mk ((i + 1, (brCreate l (acts.getD i default).2.1 (acts.getD i default).2.2).1)) (by repeat (first | exact Agr.refl _ _ | exact Agr.hav _ _ _ | refine Agr.upd rfl ?_ | refine Agr.updL ?_ _ rfl | refine Agr.hav' rfl ?_)) ⟨rfl, trivial⟩ ⟨⟨hX, ⟨hT.now, by omega⟩⟩, by first | (dsimp only; omega) | ((show _ < _); omega)⟩)
            | exact t_n (At.mk ((i + 1, (brMove l (acts.getD i default).2.1 (acts.getD i default).2.2).1)) (by repeat (first | exact Agr.refl _ _ | exact Agr.hav _ _ _ | refine Agr.upd rfl ?_ | refine Agr.updL ?_ _ rfl | refine Agr.hav' rfl ?_)) ⟨rfl, trivial⟩ ⟨⟨hX, ⟨hT.now, by omega⟩⟩, by first | (dsimp only; omega) | ((show _ < _); omega)⟩)
            | exact t_n (At.mk ((i + 1, (brDelete l (acts.getD i default).2.1).1)) (by repeat (first | exact Agr.refl _ _ | exact Agr.hav _ _ _ | refine Agr.upd rfl ?_ | refine Agr.updL ?_ _ rfl | refine Agr.hav' rfl ?_)) ⟨rfl, trivial⟩ ⟨⟨hX, ⟨hT.now, by omega⟩⟩, by first | (dsimp only; omega) | ((show _ < _); omega)⟩)
        · try simp only [decide_eq_true_eq, decide_eq_false_iff_not, Bool.not_eq_true, Bool.not_eq_false, Bool.not_eq_eq_eq_not, Bool.not_true, Bool.not_false, Int.not_lt, Int.not_le] at hc46
          refine r_plain ?_
          refine p1 (x_move (by conv => lhs; whnf)) ?_
          refine p1 (x_move (by conv => lhs; whnf)) ?_
          refine p1 (x_move (by conv => lhs; whnf)) ?_
          refine p1 (x_ixs u68 sz74 rfl rfl ((hA.ext hX).adr kAct_pos (by omega)) (by omega) (by omega)) ?_
          refine p1 (x_fieldAddr fo74_1 sz9 rfl) ?_
          refine p1 (x_load1 un9 rfl (hX.cell (hrowa 1 _ rfl))) ?_
          refine o_call Try.func52 fn52 fb52 (branch_Delete _ _ gT rT l (acts.getD i default).2.1 _ hT) rfl ?_
          rintro v12 w12 ⟨rfl, hT, hM12⟩
          have hX := hX.mod hM12 (Nat.le_refl _)
          refine r_nil ?_
          refine b_n ?_
          refine b_n ?_
          refine t_n ?_
          refine r_plain ?_
          refine p1 (x_move (by conv => lhs; whnf)) ?_
          refine p1 (x_add rfl rfl (fits_i64 (by omega) (by omega))) ?_
          refine p1 (x_assign (by conv => lhs; whnf)) ?_
          refine r_nil ?_
          first
            | exact t_n (At.mk ((i + 1, (brCreate l (acts.getD i default).2.1 (acts.getD i default).2.2).1)) (by repeat (first | exact Agr.refl _ _ | exact Agr.hav _ _ _ | refine Agr.upd rfl ?_ | refine Agr.updL ?_ _ rfl | refine Agr.hav' rfl ?_)) ⟨rfl, trivial⟩ ⟨⟨hX, ⟨hT.now, by omega⟩⟩, by first | (dsimp only; omega) | ((show _ < _); omega)⟩)
            | exact t_n (At.mk ((i + 1, (brMove l (acts.getD i default).2.1 (acts.getD i default).2.2).1)) (by repeat (first | exact Agr.refl _ _ | exact Agr.hav _ _ _ | refine Agr.upd rfl ?_ | refine Agr.updL ?_ _ rfl | refine Agr.hav' rfl ?_)) ⟨rfl, trivial⟩ ⟨⟨hX, ⟨hT.now, by omega⟩⟩, by first | (dsimp only; omega) | ((show _ < _); omega)⟩)
            | exact t_n (At.mk ((i + 1, (brDelete l (acts.getD i default).2.1).1)) (by repeat (first | exact Agr.refl _ _ | exact Agr.hav _ _ _ | refine Agr.upd rfl ?_ | refine Agr.updL ?_ _ rfl | refine Agr.hav' rfl ?_)) ⟨rfl, trivial⟩ ⟨⟨hX, ⟨hT.now, by omega⟩⟩, by first | (dsimp only; omega) | ((show _ < _); omega)⟩)
  · try simp only [decide_eq_true_eq, decide_eq_false_iff_not, Bool.not_eq_true, Bool.not_eq_false, Bool.not_eq_eq_eq_not, Bool.not_true, Bool.not_false, Int.not_lt, Int.not_le] at hc15
    refine c_exit ?_
    refine t_e ?_
    refine t_e ?_
    refine b_hit ?_
    refine t_n ?_
    refine c_seq ?_
    refine r_plain ?_
    refine p1 (x_move (by conv => lhs; whnf)) ?_
    refine o_call Try.func53 fn53 fb53 (branch_List _ _ gT rT l _ hT) rfl ?_
    rintro v13 w13 ⟨⟨q5, m5, c5, rfl, hO⟩, hE13⟩
    have hX := hX.ext hE13
    have hT := hT.ext hE13
    have hml := hO.len
    have hfew := hT.few
    have hrl := hT.rise
    refine p1 (x_assign (by conv => lhs; whnf)) ?_
    refine r_nil ?_
    refine t_n ?_
    refine c_seq ?_
    refine r_plain ?_
    refine p1 (x_move (by conv => lhs; whnf)) ?_
    refine o_call Try.func68 fn68 fb68 (branch_Load_ok l _ _ _ _ _ hO.sl.brA (fun x hx => by have := isName_size (hT.ok x hx).1; omega) (okL_of hT)) rfl ?_
    rintro v14 w14 ⟨⟨gU, rU, rfl, hU⟩, hE14⟩
    have hX := hX.ext hE14
    have hT := hT.ext hE14
    have hO := hO.ext hE14
    refine p1 (x_move (by conv => lhs; whnf)) ?_
    refine p1 (x_extract rfl rfl) ?_
    refine p1 (x_extract rfl rfl) ?_
    refine p1 (x_assign (by conv => lhs; whnf)) ?_
    refine p1 (x_assign (by conv => lhs; whnf)) ?_
    refine r_nil ?_
    refine t_n ?_
    refine c_seq ?_
    refine c_seq ?_
    refine r_plain ?_
    refine p1 (x_move (by conv => lhs; whnf)) ?_
    refine p1 ((x_neq rfl rfl).cast (congrArg Value.bool (decide_eq_false (by simp)))) ?_
    refine p1 (x_move (by conv => lhs; whnf)) ?_
    refine g1 69 rfl rfl (x_move (by conv => lhs; whnf)) ?_
    refine g1 69 rfl rfl ((x_eql_ptrnil u59 rfl rfl).cast (congrArg Value.bool (decide_eq_false (by simp)))) ?_
    refine p1 (x_pick_f rfl (by conv => lhs; whnf)) ?_
    refine p1 (x_move (by conv => lhs; whnf)) ?_
    refine g1 73 rfl rfl (x_move (by conv => lhs; whnf)) ?_
    refine g_drop 73 rfl rfl ?_
    refine o_call Try.func53 fn53 fb53 (branch_List _ _ gU rU l _ hU) rfl ?_
    rintro v15 w15 ⟨⟨q6, m6, c6, rfl, hO2⟩, hE15⟩
    have hX := hX.ext hE15
    have hT := hT.ext hE15
    have hO := hO.ext hE15
    have hU := hU.ext hE15
    refine g1 73 rfl rfl (x_move (by conv => lhs; whnf)) ?_
    refine g_drop 73 rfl rfl ?_
    refine o_call Try.func66 fn66 fb66 ((branch_Same l l _ _ _ _ _ _ _ _ _ hO2.sl.brA hO.sl.brA).known (c := .bool true) (congrArg Value.bool (decide_eq_true rfl))) rfl ?_
    rintro v16 w16 ⟨rfl, hE16⟩
    have hX := hX.ext hE16
    have hT := hT.ext hE16
    have hO := hO.ext hE16
    have hU := hU.ext hE16
    have hO2 := hO2.ext hE16
    refine g1 73 rfl rfl (x_not rfl) ?_
    refine p1 (x_pick_f rfl (by conv => lhs; whnf)) ?_
    refine p1 (x_move (by conv => lhs; whnf)) ?_
    refine g1 80 rfl rfl (x_move (by conv => lhs; whnf)) ?_
    refine g1 80 rfl rfl (x_len_slice u30 rfl) ?_
    refine g1 80 rfl rfl ((x_gtr rfl rfl).cast (congrArg Value.bool (decide_eq_false (by omega)))) ?_
    refine p1 (x_pick_f rfl (by conv => lhs; whnf)) ?_
    refine r_nil ?_
    refine t_n ?_
    refine c_f rfl ?_
    refine c_skip ?_
    refine t_n ?_
    refine c_seq ?_
    refine c_seq ?_
    refine r_plain ?_
    refine p1 (x_assign (by conv => lhs; whnf)) ?_
    refine r_nil ?_
    refine t_n ?_
    refine c_block ?_
    refine c_loop (ι := Nat) [2, 8, 9, 10, 85, 86, 87, 88, 89, 90, 91, 92, 93, 94, 95, 96, 97, 98, 99, 100, 101, 102, 103, 104, 105, 106, 107, 108, 109, 110, 111, 112, 113, 114, 115, 116, 117, 118, 119, 120, 121, 122, 123, 124, 125, 126, 127, 128, 129, 130, 131] (fun i => [(8, .int .i64 (i : Int))]) (fun i w' => Ext w w' ∧ (Tbl _ _ w' gU rU l ∧ Own (kBr _) 81 0 _ w' q5 m5 c5 l ∧ i ≤ m5)) (fun i => m5 - i) (0) ⟨rfl, trivial⟩ ⟨hX, ⟨hU, hO, by omega⟩⟩ ?_
    rintro i GL3 w17 ⟨hE17, hU, hO, hi⟩
    have hX := hE17
    have hsm := hO.small
    refine c_seq ?_
    refine c_seq ?_
    refine r_plain ?_
    refine p1 (x_move (by conv => lhs; whnf)) ?_
    refine p1 (x_move (by conv => lhs; whnf)) ?_
    refine p1 (x_len_slice u30 rfl) ?_
    refine p1 (x_lss rfl rfl) ?_
    refine r_nil ?_
    refine t_n ?_
    first | refine c_dec rfl (fun hc88 => ?_) (fun hc88 => ?_) | refine c_if rfl (fun hc88 => ?_) (fun hc88 => ?_)
    · try simp only [decide_eq_true_eq, decide_eq_false_iff_not, Bool.not_eq_true, Bool.not_eq_false, Bool.not_eq_eq_eq_not, Bool.not_true, Bool.not_false, Int.not_lt, Int.not_le] at hc88
      refine c_skip ?_
      refine t_n ?_
      refine c_seq ?_
      refine c_block ?_
      refine c_seq ?_
      obtain ⟨q1, m1, c1, hrow1, hc0_1, hc1_1, hS1⟩ := hO.sl.brAtS i (by omega)
      refine r_plain ?_
      refine p1 (x_move (by conv => lhs; whnf)) ?_
      refine p1 (x_move (by conv => lhs; whnf)) ?_
      refine p1 (x_move (by conv => lhs; whnf)) ?_
      refine p1 (x_ixs u30 sz81 rfl rfl (hO.sl.adr kBr_pos (by omega)) (by omega) (by omega)) ?_
      refine p1 (x_fieldAddr fo81_0 sz9 rfl) ?_
      refine p1 (x_load1 un9 rfl hc0_1) ?_
      refine o_call Try.func49 fn49 fb49 (branch_Heads _ _ gU rU l (l.getD i default).1 _ hU) rfl ?_
      rintro v18 w18 ⟨⟨q4, m4, c4, rfl, hH⟩, hE18⟩
      have hX := hX.ext hE18
      have hU := hU.ext hE18
      have hO := hO.ext hE18
      have hbh := brHeads_of (asc_of_mem hrl (mem_getD (l := l) (k := i) (by omega)))
      rw [hbh] at hH
      have hHl : (l.getD i default).2.length = m4 := hH.len
      refine p1 (x_move (by conv => lhs; whnf)) ?_
      refine p1 (x_extract rfl rfl) ?_
      refine p1 (x_extract rfl rfl) ?_
      refine p1 (x_assign (by conv => lhs; whnf)) ?_
      refine p1 (x_assign (by conv => lhs; whnf)) ?_
      refine r_nil ?_
      refine t_n ?_
      refine c_seq ?_
      refine r_still mixed (by kernel_rfl) ?_
      intro w19 hE19
      have hX := hX.ext hE19
      have hU := hU.ext hE19
      have hO := hO.ext hE19
      have hH := hH.ext hE19
      obtain ⟨q2, m2, c2, hrow2, hc0_2, hc1_2, hS2⟩ := hO.sl.brAtS i (by omega)
      have hl2 := hS2.len
      have ez : ((i : Int) - 1).toNat = i - 1 := by omega
      refine s1 (x_move (by conv => lhs; whnf)) ?_
      refine s1 ((x_neq rfl rfl).cast (congrArg Value.bool (decide_eq_false (by rw [hbh]; simp)))) ?_
      refine s1 (x_move (by conv => lhs; whnf)) ?_
      refine sg1 103 rfl rfl (x_move (by conv => lhs; whnf)) ?_
      refine sg1 103 rfl rfl (x_len_slice u31 rfl) ?_
      refine sg1 103 rfl rfl (x_move (by conv => lhs; whnf)) ?_
      refine sg1 103 rfl rfl (x_move (by conv => lhs; whnf)) ?_
      refine sg1 103 rfl rfl (x_ixs u30 sz81 rfl rfl (hO.sl.adr kBr_pos (by omega)) (by omega) (by omega)) ?_
      refine sg1 103 rfl rfl (x_fieldAddr fo81_1 sz31 rfl) ?_
      refine sg1 103 rfl rfl (x_load1 un31 rfl hc1_2) ?_
      refine sg1 103 rfl rfl (x_len_slice u31 rfl) ?_
      refine sg1 103 rfl rfl ((x_neq rfl rfl).cast (congrArg Value.bool (decide_eq_false (by omega)))) ?_
      refine s1 (x_pick_f rfl (by conv => lhs; whnf)) ?_
      refine s1 (x_move (by conv => lhs; whnf)) ?_
      refine sg1 114 rfl rfl (x_move (by conv => lhs; whnf)) ?_
      refine sg1 114 rfl rfl (x_gtr rfl rfl) ?_
      refine sg1b 114 rfl rfl (x_move (by conv => lhs; whnf)) (fun hb20_16 => ?_) (fun hb20_16 => ?_)
      · try simp only [decide_eq_true_eq, decide_eq_false_iff_not, Bool.not_eq_true, Bool.not_eq_false, Bool.not_eq_eq_eq_not, Bool.not_true, Bool.not_false, Int.not_lt, Int.not_le] at hb20_16
        obtain ⟨q3, m3, c3, hrow3, hc0_3, hc1_3, hS3⟩ := hO.sl.brAtS ((i : Int) - 1).toNat (by omega)
        have hrat := rise_at (k := i) hrl (by omega) (by omega)
        rw [← ez] at hrat
        refine sg1 117 rfl rfl (x_move (by conv => lhs; whnf)) ?_
        refine sg1 117 rfl rfl (x_move (by conv => lhs; whnf)) ?_
        refine sg1 117 rfl rfl (x_sub rfl rfl (fits_i64 (by omega) (by omega))) ?_
        refine sg1 117 rfl rfl (x_ixs u30 sz81 rfl rfl (hO.sl.adr kBr_pos (by omega)) (by omega) (by omega)) ?_
        refine sg1 117 rfl rfl (x_fieldAddr fo81_0 sz9 rfl) ?_
        refine sg1 117 rfl rfl (x_load1 un9 rfl hc0_3) ?_
        refine sg1 117 rfl rfl (x_move (by conv => lhs; whnf)) ?_
        refine sg1 117 rfl rfl (x_move (by conv => lhs; whnf)) ?_
        refine sg1 117 rfl rfl (x_ixs u30 sz81 rfl rfl (hO.sl.adr kBr_pos (by omega)) (by omega) (by omega)) ?_
        refine sg1 117 rfl rfl (x_fieldAddr fo81_0 sz9 rfl) ?_
        refine sg1 117 rfl rfl (x_load1 un9 rfl hc0_2) ?_
        refine sg1 117 rfl rfl ((x_geq_str rfl rfl).cast (congrArg Value.bool (show _ = false by rw [hrat]; rfl))) ?_
        refine sg1 114 rfl rfl (x_pick_t rfl (by conv => lhs; whnf)) ?_
        refine s1 (x_pick_f rfl (by conv => lhs; whnf)) ?_
        refine s_nil ?_
        refine t_n ?_
        refine c_f rfl ?_
        refine c_skip ?_
        refine b_n ?_
        refine t_n ?_
        refine r_plain ?_
        refine p1 (x_move (by conv => lhs; whnf)) ?_
        refine p1 (x_add rfl rfl (fits_i64 (by omega) (by omega))) ?_
        refine p1 (x_assign (by conv => lhs; whnf)) ?_
        refine r_nil ?_
        refine t_n (At.mk (i + 1) (by repeat (first | exact Agr.refl _ _ | exact Agr.hav _ _ _ | refine Agr.upd rfl ?_ | refine Agr.updL ?_ _ rfl | refine Agr.hav' rfl ?_)) ⟨rfl, trivial⟩ ?_)
        exact ⟨⟨hX, ⟨hU, hO, by omega⟩⟩, by first | (dsimp only; omega) | ((show _ < _); omega)⟩
      · try simp only [decide_eq_true_eq, decide_eq_false_iff_not, Bool.not_eq_true, Bool.not_eq_false, Bool.not_eq_eq_eq_not, Bool.not_true, Bool.not_false, Int.not_lt, Int.not_le] at hb20_16
        refine sg0 117 rfl (by first | exact .inl rfl | exact .inr rfl) ?_
        refine sg0 117 rfl (by first | exact .inl rfl | exact .inr rfl) ?_
        refine sg0 117 rfl (by first | exact .inl rfl | exact .inr rfl) ?_
        refine sg0 117 rfl (by first | exact .inl rfl | exact .inr rfl) ?_
        refine sg0 117 rfl (by first | exact .inl rfl | exact .inr rfl) ?_
        refine sg0 117 rfl (by first | exact .inl rfl | exact .inr rfl) ?_
        refine sg0 117 rfl (by first | exact .inl rfl | exact .inr rfl) ?_
        refine sg0 117 rfl (by first | exact .inl rfl | exact .inr rfl) ?_
        refine sg0 117 rfl (by first | exact .inl rfl | exact .inr rfl) ?_
        refine sg0 117 rfl (by first | exact .inl rfl | exact .inr rfl) ?_
        refine sg0 117 rfl (by first | exact .inl rfl | exact .inr rfl) ?_
        refine sg0 117 rfl (by first | exact .inl rfl | exact .inr rfl) ?_
        refine sg1 114 rfl rfl (x_pick_f rfl (by conv => lhs; whnf)) ?_
        refine s1 (x_pick_f rfl (by conv => lhs; whnf)) ?_
        refine s_nil ?_
        refine t_n ?_
        refine c_f rfl ?_
        refine c_skip ?_
        refine b_n ?_
        refine t_n ?_
        refine r_plain ?_
        refine p1 (x_move (by conv => lhs; whnf)) ?_
        refine p1 (x_add rfl rfl (fits_i64 (by omega) (by omega))) ?_
        refine p1 (x_assign (by conv => lhs; whnf)) ?_
        refine r_nil ?_
        refine t_n (At.mk (i + 1) (by repeat (first | exact Agr.refl _ _ | exact Agr.hav _ _ _ | refine Agr.upd rfl ?_ | refine Agr.updL ?_ _ rfl | refine Agr.hav' rfl ?_)) ⟨rfl, trivial⟩ ?_)
        exact ⟨⟨hX, ⟨hU, hO, by omega⟩⟩, by first | (dsimp only; omega) | ((show _ < _); omega)⟩
    · try simp only [decide_eq_true_eq, decide_eq_false_iff_not, Bool.not_eq_true, Bool.not_eq_false, Bool.not_eq_eq_eq_not, Bool.not_true, Bool.not_false, Int.not_lt, Int.not_le] at hc88
      refine c_exit ?_
      refine t_e ?_
      refine t_e ?_
      refine b_hit ?_
      refine t_n ?_
      refine c_seq ?_
      refine r_plain ?_
      refine o_call Try.func55 fn55 fb55 (law15_awake _) rfl ?_
      rintro v20 w20 ⟨rfl, hE20⟩
      have hX := hX.ext hE20
      have hU := hU.ext hE20
      have hO := hO.ext hE20
      refine p1 (x_assign (by conv => lhs; whnf)) ?_
      refine r_nil ?_
      refine t_n ?_
      refine c_ret ?_
      refine end1 rfl (by conv => lhs; whnf) ?_
      exact ⟨rfl, hX⟩
end Go.Proofs.Eng
