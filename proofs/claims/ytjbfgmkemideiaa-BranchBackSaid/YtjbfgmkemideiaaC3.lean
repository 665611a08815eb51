import Derived.Test.YtjbfgmkemideiaaC2
import Derived.Test.YtjbfgmkemideiaaT3
set_option linter.unusedVariables false
set_option linter.unusedSimpArgs false
set_option maxRecDepth 100000
set_option maxHeartbeats 4000000
namespace Go.Proofs.Eng
open Go.RowKit
open Extern.Stop (cell)
def cmpN (a b : ByteArray) : Int := if lssB a b = true then -1 else 1
theorem Ext.range {w w2 : World} (h : Ext w w2) {b o : Nat} {cs : List Value} (hr : w.rangeAt b o cs) : w2.rangeAt b o cs := fun j v hv => h.cell (hr j v hv)
theorem branch_List1 (a b : ByteArray) (p q : Option Addr) (n c m c2 : Nat) (w : World) :
    Ret Try.prog 104 [.agg #[.string a, .slice p n c], .agg #[.string b, .slice q m c2]] w (fun v w' => v = .int .i64 (cmpN a b) ∧ Ext w w') := by
  have hX := Ext.refl w
  refine enter 10 _ Try.func104 rfl rfl (Nat.le_of_ble_eq_true rfl) ?_
  refine c_seq ?_
  refine r_plain ?_
  refine o_boxA (by conv => lhs; whnf) ?_
  intro w1 g2 hN2
  have hE1 := hN2.ext
  have hX := hX.ext hE1
  have hB2 := hN2.blk
  refine o_boxA (by conv => lhs; whnf) ?_
  intro w2 g3 hN3
  have hE2 := hN3.ext
  have hX := hX.ext hE2
  have hB2 := hB2.ext hE2
  have hB3 := hN3.blk
  refine p1 (x_assign (by conv => lhs; whnf)) ?_
  refine r_nil ?_
  refine t_n ?_
  refine c_seq ?_
  refine c_seq ?_
  refine r_plain ?_
  refine p1 (x_fieldAddr fo81_0 sz9 rfl) ?_
  refine p1 (x_load1 un9 rfl (hB2.cell (rfl))) ?_
  refine p1 (x_fieldAddr fo81_0 sz9 rfl) ?_
  refine p1 (x_load1 un9 rfl (hB3.cell (rfl))) ?_
  refine p1 (x_lss_str rfl rfl) ?_
  refine r_nil ?_
  refine t_n ?_
  first | refine c_dec rfl (fun hc9 => ?_) (fun hc9 => ?_) | refine c_if rfl (fun hc9 => ?_) (fun hc9 => ?_)
  · try simp only [decide_eq_true_eq, decide_eq_false_iff_not, Bool.not_eq_true, Bool.not_eq_false, Bool.not_eq_eq_eq_not, Bool.not_true, Bool.not_false, Int.not_lt, Int.not_le] at hc9
    have hp : cmpN a b = -1 := by unfold cmpN; rw [if_pos hc9]
    refine c_seq ?_
    refine r_plain ?_
    refine p1 (x_assign (by conv => lhs; whnf)) ?_
    refine r_nil ?_
    refine t_n ?_
    refine c_ret ?_
    refine t_r ?_
    refine end1 rfl (by conv => lhs; whnf) ?_
    exact ⟨by rw [hp], hX⟩
  · try simp only [decide_eq_true_eq, decide_eq_false_iff_not, Bool.not_eq_true, Bool.not_eq_false, Bool.not_eq_eq_eq_not, Bool.not_true, Bool.not_false, Int.not_lt, Int.not_le] at hc9
    have hp : cmpN a b = 1 := by unfold cmpN; rw [if_neg (by simp [hc9])]
    refine c_skip ?_
    refine t_n ?_
    refine c_seq ?_
    refine r_plain ?_
    refine p1 (x_assign (by conv => lhs; whnf)) ?_
    refine r_nil ?_
    refine t_n ?_
    refine c_ret ?_
    refine end1 rfl (by conv => lhs; whnf) ?_
    exact ⟨by rw [hp], hX⟩
theorem branch_Same1 (a b : ByteArray) (p q : Option Addr) (n c m c2 : Nat) (B B2 : Nat) (xs ys : List Hash) (w : World) (ha : Sl kHash 35 B w p n c xs) (hb : Sl kHash 35 B2 w q m c2 ys) :
    Ret Try.prog 113 [.agg #[.string a, .slice p n c], .agg #[.string b, .slice q m c2]] w (fun v w' => v = .bool (decide ((a, xs) = (b, ys))) ∧ Ext w w') := by
  have hX := Ext.refl w
  refine enter 17 _ Try.func113 rfl rfl (Nat.le_of_ble_eq_true rfl) ?_
  refine c_seq ?_
  refine r_plain ?_
  refine o_boxA (by conv => lhs; whnf) ?_
  intro w1 g2 hN2
  have hE1 := hN2.ext
  have hX := hX.ext hE1
  have hB2 := hN2.blk
  refine o_boxA (by conv => lhs; whnf) ?_
  intro w2 g3 hN3
  have hE2 := hN3.ext
  have hX := hX.ext hE2
  have hB2 := hB2.ext hE2
  have hB3 := hN3.blk
  refine p1 (x_assign (by conv => lhs; whnf)) ?_
  refine r_nil ?_
  refine t_n ?_
  refine c_seq ?_
  refine r_plain ?_
  refine p1 (x_fieldAddr fo81_0 sz9 rfl) ?_
  refine p1 (x_load1 un9 rfl (hB2.cell (rfl))) ?_
  refine p1 (x_fieldAddr fo81_0 sz9 rfl) ?_
  refine p1 (x_load1 un9 rfl (hB3.cell (rfl))) ?_
  refine p1 (x_eql_str rfl rfl) ?_
  refine p1b (x_move (by conv => lhs; whnf)) (fun hb1_5 => ?_) (fun hb1_5 => ?_)
  · try simp only [decide_eq_true_eq, decide_eq_false_iff_not, Bool.not_eq_true, Bool.not_eq_false, Bool.not_eq_eq_eq_not, Bool.not_true, Bool.not_false, Int.not_lt, Int.not_le] at hb1_5
    refine g1 10 rfl rfl (x_fieldAddr fo81_1 sz31 rfl) ?_
    refine g1 10 rfl rfl (x_load1 un31 rfl (hB2.cell (rfl))) ?_
    refine g1 10 rfl rfl (x_fieldAddr fo81_1 sz31 rfl) ?_
    refine g1 10 rfl rfl (x_load1 un31 rfl (hB3.cell (rfl))) ?_
    refine g_drop 10 rfl rfl ?_
    refine o_call Try.func88 fn88 fb88 (slices_Equal_hash xs ys _ _ _ _ _ _ _ _ _ (ha.ext hX) (hb.ext hX)) rfl ?_
    rintro v3 w3 ⟨rfl, hE3⟩
    have hX := hX.ext hE3
    have hB2 := hB2.ext hE3
    have hB3 := hB3.ext hE3
    refine p1 (x_pick_t rfl (by conv => lhs; whnf)) ?_
    refine p1 (x_assign (by conv => lhs; whnf)) ?_
    refine r_nil ?_
    refine t_n ?_
    refine c_ret ?_
    refine end1 rfl (by conv => lhs; whnf) ?_
    first | exact ⟨congrArg Value.bool (decide_eq_decide.2 (by simp_all)), hX⟩ | exact ⟨congrArg Value.bool (decide_eq_false (fun e => hb1_5 (congrArg Prod.fst e))).symm, hX⟩
  · try simp only [decide_eq_true_eq, decide_eq_false_iff_not, Bool.not_eq_true, Bool.not_eq_false, Bool.not_eq_eq_eq_not, Bool.not_true, Bool.not_false, Int.not_lt, Int.not_le] at hb1_5
    refine g0 10 rfl (by first | exact .inl rfl | exact .inr rfl) ?_
    refine g0 10 rfl (by first | exact .inl rfl | exact .inr rfl) ?_
    refine g0 10 rfl (by first | exact .inl rfl | exact .inr rfl) ?_
    refine g0 10 rfl (by first | exact .inl rfl | exact .inr rfl) ?_
    refine g0 10 rfl (by first | exact .inl rfl | exact .inr rfl) ?_
    refine p1 (x_pick_f rfl (by conv => lhs; whnf)) ?_
    refine p1 (x_assign (by conv => lhs; whnf)) ?_
    refine r_nil ?_
    refine t_n ?_
    refine c_ret ?_
    refine end1 rfl (by conv => lhs; whnf) ?_
    first | exact ⟨congrArg Value.bool (decide_eq_decide.2 (by simp_all)), hX⟩ | exact ⟨congrArg Value.bool (decide_eq_false (fun e => hb1_5 (congrArg Prod.fst e))).symm, hX⟩
theorem slices_EqualFunc_br (l l2 : List Br) (B B2 : Nat) (p q : Option Addr) (n c m c2 : Nat) (w : World) (ha : Sl kBrA 81 B w p n c l) (hb : Sl kBrA 81 B2 w q m c2 l2) :
    Ret Try.prog 112 [.slice p n c, .slice q m c2, .func (.func 113) #[] #[]] w (fun v w' => v = .bool (decide (l = l2)) ∧ Ext w w') := by
  have hX := Ext.refl w
  refine enter 32 _ Try.func112 rfl rfl (Nat.le_of_ble_eq_true rfl) ?_
  refine c_seq ?_
  refine r_plain ?_
  refine p1 (x_assign (by conv => lhs; whnf)) ?_
  refine r_nil ?_
  refine t_n ?_
  refine c_seq ?_
  refine c_seq ?_
  refine r_plain ?_
  refine p1 (x_move (by conv => lhs; whnf)) ?_
  refine p1 (x_len_slice u30 rfl) ?_
  refine p1 (x_move (by conv => lhs; whnf)) ?_
  refine p1 (x_len_slice u30 rfl) ?_
  refine p1 (x_neq rfl rfl) ?_
  refine r_nil ?_
  refine t_n ?_
  first | refine c_dec rfl (fun hc14 => ?_) (fun hc14 => ?_) | refine c_if rfl (fun hc14 => ?_) (fun hc14 => ?_)
  · try simp only [decide_eq_true_eq, decide_eq_false_iff_not, Bool.not_eq_true, Bool.not_eq_false, Bool.not_eq_eq_eq_not, Bool.not_true, Bool.not_false, Int.not_lt, Int.not_le] at hc14
    have hlen := ha.len
    have hlen2 := hb.len
    have hp : decide (l = l2) = false := decide_eq_false (fun e => by subst e; omega)
    refine c_seq ?_
    refine r_plain ?_
    refine p1 (x_assign (by conv => lhs; whnf)) ?_
    refine r_nil ?_
    refine t_n ?_
    refine c_ret ?_
    refine t_r ?_
    refine end1 rfl (by conv => lhs; whnf) ?_
    exact ⟨by rw [hp], hX⟩
  · try simp only [decide_eq_true_eq, decide_eq_false_iff_not, Bool.not_eq_true, Bool.not_eq_false, Bool.not_eq_eq_eq_not, Bool.not_true, Bool.not_false, Int.not_lt, Int.not_le] at hc14
    refine c_skip ?_
    refine t_n ?_
    refine c_seq ?_
    refine c_seq ?_
    refine r_plain ?_
    refine p1 (x_move (by conv => lhs; whnf)) ?_
    refine p1 (x_len_slice u30 rfl) ?_
    refine p1 (x_move (by conv => lhs; whnf)) ?_
    refine r_nil ?_
    refine t_n ?_
    refine c_block ?_
    have hlen := ha.len
    have hfit := ha.fit
    have hcap := ha.cap
    have hlen2 := hb.len
    refine c_loop (ι := Nat) [6, 7, 8, 9, 17, 18, 19, 20, 21, 22, 23, 24, 25, 26, 27, 28, 29, 30, 31] (fun i => [(17, .int .i64 (i : Int))]) (fun i w' => Ext w w' ∧ (i ≤ n ∧ ∀ j, j < i → l.getD j default = l2.getD j default)) (fun i => n - i) (0) ⟨rfl, trivial⟩ ⟨hX, ⟨by omega, fun j hj => by omega⟩⟩ ?_
    rintro i GL0 w1 ⟨hE1, hi, hL0⟩
    have hX := hE1
    refine c_seq ?_
    refine r_plain ?_
    refine p1 (x_lss rfl rfl) ?_
    refine r_nil ?_
    refine t_n ?_
    refine c_seq ?_
    first | refine c_dec rfl (fun hc18 => ?_) (fun hc18 => ?_) | refine c_if rfl (fun hc18 => ?_) (fun hc18 => ?_)
    · try simp only [decide_eq_true_eq, decide_eq_false_iff_not, Bool.not_eq_true, Bool.not_eq_false, Bool.not_eq_eq_eq_not, Bool.not_true, Bool.not_false, Int.not_lt, Int.not_le] at hc18
      refine c_skip ?_
      refine t_n ?_
      refine c_seq ?_
      refine c_block ?_
      refine c_seq ?_
      obtain ⟨q1, m1, c1, hrow1, hc0_1, hc1_1, hS1⟩ := ha.brAt i (by omega)
      refine r_plain ?_
      refine p1 (x_move (by conv => lhs; whnf)) ?_
      refine p1 (x_ixs u30 sz81 rfl rfl ((ha.ext hX).adr kBrA_pos (by omega)) (by omega) (by omega)) ?_
      refine p1 (x_loadN ua81 rfl (by exact sz81) (hX.range hrow1)) ?_
      have hXs8 := hX.size
      refine o_alloc zr81 ?_
      intro w2 g8 hN8
      have hE2 := hN8.ext
      have hX := hX.ext hE2
      have hB8 := hN8.blk
      refine p1 (x_assign (by conv => lhs; whnf)) ?_
      refine o_storeAll rfl (by conv => lhs; whnf) (by simp [Value.oneCell']) (by exact sz81) hB8 (by rfl) ?_
      intro w3 hP3
      have hX := hX.put hP3 (by rw [hN8.g_eq]; exact hXs8)
      have hB8 := hP3.blk
      refine r_nil ?_
      refine t_n ?_
      refine c_seq ?_
      obtain ⟨q2, m2, c2, hrow2, hc0_2, hc1_2, hS2⟩ := hb.brAt i (by omega)
      refine r_plain ?_
      refine p1 (x_move (by conv => lhs; whnf)) ?_
      refine p1 (x_move (by conv => lhs; whnf)) ?_
      refine p1 (x_ixs u30 sz81 rfl rfl ((hb.ext hX).adr kBrA_pos (by omega)) (by omega) (by omega)) ?_
      refine p1 (x_loadN ua81 rfl (by exact sz81) (hX.range hrow2)) ?_
      have hXs9 := hX.size
      have hB8lt := hB8.lt
      refine o_alloc zr81 ?_
      intro w4 g9 hN9
      have hE4 := hN9.ext
      have hX := hX.ext hE4
      have hB8 := hB8.ext hE4
      have hB9 := hN9.blk
      have hg9 := hN9.g_eq
      refine o_storeAll rfl (by conv => lhs; whnf) (by simp [Value.oneCell']) (by exact sz81) hB9 (by rfl) ?_
      intro w5 hP5
      have hX := hX.put hP5 (by rw [hN9.g_eq]; exact hXs9)
      have hB8 := hP5.keep hB8 (by omega)
      have hB9 := hP5.blk
      refine r_nil ?_
      refine t_n ?_
      refine c_seq ?_
      refine r_plain ?_
      refine p1 (x_move (by conv => lhs; whnf)) ?_
      refine p1 (x_loadB ua81 rfl hB8 sz81) ?_
      refine p1 (x_loadB ua81 rfl hB9 sz81) ?_
      refine o_callv (fs := []) (cs := []) rfl Try.func113 fn113 fb113 rfl rfl (branch_Same1 _ _ _ _ _ _ _ _ _ _ (l.getD i default).2 (l2.getD i default).2 _ (hS1.ext hX) (hS2.ext hX)) ?_
      rintro v6 w6 ⟨rfl, hE6⟩
      have hX := hX.ext hE6
      have hB8 := hB8.ext hE6
      have hB9 := hB9.ext hE6
      first | refine p1 (x_notd rfl) ?_ | refine p1 (x_not rfl) ?_
      refine r_nil ?_
      refine t_n ?_
      first | refine c_dec rfl (fun hc30 => ?_) (fun hc30 => ?_) | refine c_if rfl (fun hc30 => ?_) (fun hc30 => ?_)
      · try simp only [decide_eq_true_eq, decide_eq_false_iff_not, Bool.not_eq_true, Bool.not_eq_false, Bool.not_eq_eq_eq_not, Bool.not_true, Bool.not_false, Int.not_lt, Int.not_le] at hc30
        have hp : decide (l = l2) = false := decide_eq_false (fun e => hc30 (by rw [e]))
        refine c_seq ?_
        refine r_plain ?_
        refine p1 (x_assign (by conv => lhs; whnf)) ?_
        refine r_nil ?_
        refine t_n ?_
        refine c_ret ?_
        refine b_r ?_
        refine t_r ?_
        refine t_r ?_
        refine b_r ?_
        refine t_r ?_
        refine end1 rfl (by conv => lhs; whnf) ?_
        exact ⟨by rw [hp], hX⟩
      · try simp only [decide_eq_true_eq, decide_eq_false_iff_not, Bool.not_eq_true, Bool.not_eq_false, Bool.not_eq_eq_eq_not, Bool.not_true, Bool.not_false, Int.not_lt, Int.not_le] at hc30
        have h1 : l.getD i default = l2.getD i default := Prod.ext_iff.2 (by simpa using hc30)
        refine c_skip ?_
        refine b_n ?_
        refine t_n ?_
        refine r_plain ?_
        refine p1 (x_add rfl rfl (fits_i64 (by omega) (by omega))) ?_
        refine p1 (x_move (by conv => lhs; whnf)) ?_
        refine r_nil ?_
        refine t_n (At.mk (i + 1) (by repeat (first | exact Agr.refl _ _ | exact Agr.hav _ _ _ | refine Agr.upd rfl ?_ | refine Agr.updL ?_ _ rfl | refine Agr.hav' rfl ?_)) ⟨rfl, trivial⟩ ?_)
        exact ⟨⟨hX, ⟨by omega, fun j hj => if h : j < i then hL0 j h else by rw [show j = i from by omega]; exact h1⟩⟩, by first | (dsimp only; omega) | ((show _ < _); omega)⟩
    · try simp only [decide_eq_true_eq, decide_eq_false_iff_not, Bool.not_eq_true, Bool.not_eq_false, Bool.not_eq_eq_eq_not, Bool.not_true, Bool.not_false, Int.not_lt, Int.not_le] at hc18
      have hp : decide (l = l2) = true := decide_eq_true (br_ext (by omega) (fun j hj => hL0 j (by omega)))
      refine c_exit ?_
      refine t_e ?_
      refine t_e ?_
      refine b_hit ?_
      refine t_n ?_
      refine c_seq ?_
      refine r_plain ?_
      refine p1 (x_assign (by conv => lhs; whnf)) ?_
      refine r_nil ?_
      refine t_n ?_
      refine c_ret ?_
      refine end1 rfl (by conv => lhs; whnf) ?_
      exact ⟨by rw [hp], hX⟩
theorem branch_Same (l l2 : List Br) (B B2 : Nat) (p q : Option Addr) (n c m c2 : Nat) (w : World) (ha : Sl kBrA 81 B w p n c l) (hb : Sl kBrA 81 B2 w q m c2 l2) :
    Ret Try.prog 66 [.slice p n c, .slice q m c2] w (fun v w' => v = .bool (decide (l = l2)) ∧ Ext w w') := by
  have hX := Ext.refl w
  refine enter 8 _ Try.func66 rfl rfl (Nat.le_of_ble_eq_true rfl) ?_
  refine c_seq ?_
  refine r_plain ?_
  refine p1 (x_assign (by conv => lhs; whnf)) ?_
  refine r_nil ?_
  refine t_n ?_
  refine c_seq ?_
  refine r_plain ?_
  refine p1 (x_move (by conv => lhs; whnf)) ?_
  refine p1 (x_move (by conv => lhs; whnf)) ?_
  refine o_call Try.func112 fn112 fb112 (slices_EqualFunc_br l l2 _ _ _ _ _ _ _ _ _ (ha.ext hX) (hb.ext hX)) rfl ?_
  rintro v1 w1 ⟨rfl, hE1⟩
  have hX := hX.ext hE1
  refine p1 (x_assign (by conv => lhs; whnf)) ?_
  refine r_nil ?_
  refine t_n ?_
  refine c_ret ?_
  refine end1 rfl (by conv => lhs; whnf) ?_
  exact ⟨rfl, hX⟩
theorem ref15_Same (l l2 : List Br) (B B2 : Nat) (p q : Option Addr) (n c m c2 : Nat) (w : World) (ha : Sl kBrA 81 B w p n c l) (hb : Sl kBrA 81 B2 w q m c2 l2) :
    Ret Try.prog 81 [.slice p n c, .slice q m c2] w (fun v w' => v = .bool (decide (l = l2)) ∧ Ext w w') := by
  have hX := Ext.refl w
  refine enter 42 _ Try.func81 rfl rfl (Nat.le_of_ble_eq_true rfl) ?_
  refine c_seq ?_
  refine r_plain ?_
  refine p1 (x_assign (by conv => lhs; whnf)) ?_
  refine r_nil ?_
  refine t_n ?_
  refine c_seq ?_
  refine c_seq ?_
  refine r_plain ?_
  refine p1 (x_move (by conv => lhs; whnf)) ?_
  refine p1 (x_len_slice u30 rfl) ?_
  refine p1 (x_move (by conv => lhs; whnf)) ?_
  refine p1 (x_len_slice u30 rfl) ?_
  refine p1 (x_neq rfl rfl) ?_
  refine r_nil ?_
  refine t_n ?_
  first | refine c_dec rfl (fun hc10 => ?_) (fun hc10 => ?_) | refine c_if rfl (fun hc10 => ?_) (fun hc10 => ?_)
  · try simp only [decide_eq_true_eq, decide_eq_false_iff_not, Bool.not_eq_true, Bool.not_eq_false, Bool.not_eq_eq_eq_not, Bool.not_true, Bool.not_false, Int.not_lt, Int.not_le] at hc10
    have hlen := ha.len
    have hlen2 := hb.len
    have hp : decide (l = l2) = false := decide_eq_false (fun e => by subst e; omega)
    refine c_seq ?_
    refine r_plain ?_
    refine p1 (x_assign (by conv => lhs; whnf)) ?_
    refine r_nil ?_
    refine t_n ?_
    refine c_ret ?_
    refine t_r ?_
    refine end1 rfl (by conv => lhs; whnf) ?_
    exact ⟨by rw [hp], hX⟩
  · try simp only [decide_eq_true_eq, decide_eq_false_iff_not, Bool.not_eq_true, Bool.not_eq_false, Bool.not_eq_eq_eq_not, Bool.not_true, Bool.not_false, Int.not_lt, Int.not_le] at hc10
    refine c_skip ?_
    refine t_n ?_
    refine c_seq ?_
    refine c_seq ?_
    refine r_plain ?_
    refine p1 (x_assign (by conv => lhs; whnf)) ?_
    refine r_nil ?_
    refine t_n ?_
    refine c_block ?_
    have hWL0 := Ext.refl w
    have hlen := ha.len
    have hfit := ha.fit
    have hcap := ha.cap
    have hlen2 := hb.len
    refine c_loop (ι := Nat) [4, 5, 11, 12, 13, 14, 15, 16, 17, 18, 19, 20, 21, 22, 23, 24, 25, 26, 27, 28, 29, 30, 31, 32, 33, 34, 35, 36, 37, 38, 39, 40, 41] (fun i => [(5, .int .i64 (i : Int))]) (fun i w' => Ext w w' ∧ (i ≤ n ∧ ∀ j, j < i → l.getD j default = l2.getD j default)) (fun i => n - i) (0) ⟨rfl, trivial⟩ ⟨Ext.refl _, ⟨by omega, fun j hj => by omega⟩⟩ ?_
    rintro i GL0 w1 ⟨hE1, hi, hL0⟩
    have hX := hX.ext hE1
    have hWL0 := hE1
    refine c_seq ?_
    refine c_seq ?_
    refine r_plain ?_
    refine p1 (x_move (by conv => lhs; whnf)) ?_
    refine p1 (x_move (by conv => lhs; whnf)) ?_
    refine p1 (x_len_slice u30 rfl) ?_
    refine p1 (x_lss rfl rfl) ?_
    refine r_nil ?_
    refine t_n ?_
    first | refine c_dec rfl (fun hc14 => ?_) (fun hc14 => ?_) | refine c_if rfl (fun hc14 => ?_) (fun hc14 => ?_)
    · try simp only [decide_eq_true_eq, decide_eq_false_iff_not, Bool.not_eq_true, Bool.not_eq_false, Bool.not_eq_eq_eq_not, Bool.not_true, Bool.not_false, Int.not_lt, Int.not_le] at hc14
      refine c_skip ?_
      refine t_n ?_
      refine c_seq ?_
      refine c_block ?_
      refine c_seq ?_
      refine r_tail 22 mixed (by kernel_rfl) ?_
      intro w2 hE2
      have hX := hX.ext hE2
      have hWL0 := hWL0.ext hE2
      obtain ⟨q1, m1, c1, hrow1, hc0_1, hc1_1, hS1⟩ := (ha.ext hX).brAt i (by omega)
      obtain ⟨q2, m2, c2, hrow2, hc0_2, hc1_2, hS2⟩ := (hb.ext hX).brAt i (by omega)
      refine s1 (x_move (by conv => lhs; whnf)) ?_
      refine s1 (x_move (by conv => lhs; whnf)) ?_
      refine s1 (x_ixs u30 sz81 rfl rfl ((ha.ext hX).adr kBrA_pos (by omega)) (by omega) (by omega)) ?_
      refine s1 (x_fieldAddr fo81_0 sz9 rfl) ?_
      refine s1 (x_load1 un9 rfl hc0_1) ?_
      refine s1 (x_move (by conv => lhs; whnf)) ?_
      refine s1 (x_move (by conv => lhs; whnf)) ?_
      refine s1 (x_ixs u30 sz81 rfl rfl ((hb.ext hX).adr kBrA_pos (by omega)) (by omega) (by omega)) ?_
      refine s1 (x_fieldAddr fo81_0 sz9 rfl) ?_
      refine s1 (x_load1 un9 rfl hc0_2) ?_
      refine s1 (x_neq_str rfl rfl) ?_
      refine s1b (x_move (by conv => lhs; whnf)) (fun hb6_11 => ?_) (fun hb6_11 => ?_)
      · try simp only [decide_eq_true_eq, decide_eq_false_iff_not, Bool.not_eq_true, Bool.not_eq_false, Bool.not_eq_eq_eq_not, Bool.not_true, Bool.not_false, Int.not_lt, Int.not_le] at hb6_11
        have hp : decide (l = l2) = false := decide_eq_false (fun e => hb6_11 (by rw [e]))
        refine sg0 28 rfl (by first | exact .inl rfl | exact .inr rfl) ?_
        refine sg0 28 rfl (by first | exact .inl rfl | exact .inr rfl) ?_
        refine sg0 28 rfl (by first | exact .inl rfl | exact .inr rfl) ?_
        refine sg0 28 rfl (by first | exact .inl rfl | exact .inr rfl) ?_
        refine sg0 28 rfl (by first | exact .inl rfl | exact .inr rfl) ?_
        refine sg0 28 rfl (by first | exact .inl rfl | exact .inr rfl) ?_
        refine sg0 28 rfl (by first | exact .inl rfl | exact .inr rfl) ?_
        refine sg0 28 rfl (by first | exact .inl rfl | exact .inr rfl) ?_
        refine sg0 28 rfl (by first | exact .inl rfl | exact .inr rfl) ?_
        refine sg0 28 rfl (by first | exact .inl rfl | exact .inr rfl) ?_
        refine s_nil ?_
        refine g0 28 rfl (by first | exact .inl rfl | exact .inr rfl) ?_
        refine g0 28 rfl (by first | exact .inl rfl | exact .inr rfl) ?_
        refine p1 (x_pick_t rfl (by conv => lhs; whnf)) ?_
        refine r_nil ?_
        refine t_n ?_
        refine c_t rfl ?_
        have hp : decide (l = l2) = false := by first | exact hp | exact decide_eq_false (fun e => hc41 (by rw [e]))
        refine c_seq ?_
        refine r_plain ?_
        refine p1 (x_assign (by conv => lhs; whnf)) ?_
        refine r_nil ?_
        refine t_n ?_
        refine c_ret ?_
        refine b_r ?_
        refine t_r ?_
        refine t_r ?_
        refine b_r ?_
        refine t_r ?_
        refine end1 rfl (by conv => lhs; whnf) ?_
        exact ⟨by rw [hp], hX⟩
      · try simp only [decide_eq_true_eq, decide_eq_false_iff_not, Bool.not_eq_true, Bool.not_eq_false, Bool.not_eq_eq_eq_not, Bool.not_true, Bool.not_false, Int.not_lt, Int.not_le] at hb6_11
        refine sg1 28 rfl rfl (x_move (by conv => lhs; whnf)) ?_
        refine sg1 28 rfl rfl (x_move (by conv => lhs; whnf)) ?_
        refine sg1 28 rfl rfl (x_ixs u30 sz81 rfl rfl ((ha.ext hX).adr kBrA_pos (by omega)) (by omega) (by omega)) ?_
        refine sg1 28 rfl rfl (x_fieldAddr fo81_1 sz31 rfl) ?_
        refine sg1 28 rfl rfl (x_load1 un31 rfl hc1_1) ?_
        refine sg1 28 rfl rfl (x_move (by conv => lhs; whnf)) ?_
        refine sg1 28 rfl rfl (x_move (by conv => lhs; whnf)) ?_
        refine sg1 28 rfl rfl (x_ixs u30 sz81 rfl rfl ((hb.ext hX).adr kBrA_pos (by omega)) (by omega) (by omega)) ?_
        refine sg1 28 rfl rfl (x_fieldAddr fo81_1 sz31 rfl) ?_
        refine sg1 28 rfl rfl (x_load1 un31 rfl hc1_2) ?_
        refine s_nil ?_
        refine g_drop 28 rfl rfl ?_
        refine o_call Try.func36 fn36 fb36 (ref06_Same _ _ _ _ _ _ _ _ _ _ _ hS1 hS2) rfl ?_
        rintro v3 w3 ⟨rfl, hE3⟩
        have hX := hX.ext hE3
        have hWL0 := hWL0.ext hE3
        first | refine g1 28 rfl rfl (x_notd rfl) ?_ | refine g1 28 rfl rfl (x_not rfl) ?_
        refine p1 (x_pick_f rfl (by conv => lhs; whnf)) ?_
        refine r_nil ?_
        refine t_n ?_
        first | refine c_dec rfl (fun hc41 => ?_) (fun hc41 => ?_) | refine c_if rfl (fun hc41 => ?_) (fun hc41 => ?_)
        · try simp only [decide_eq_true_eq, decide_eq_false_iff_not, Bool.not_eq_true, Bool.not_eq_false, Bool.not_eq_eq_eq_not, Bool.not_true, Bool.not_false, Int.not_lt, Int.not_le] at hc41
          have hp : decide (l = l2) = false := by first | exact hp | exact decide_eq_false (fun e => hc41 (by rw [e]))
          refine c_seq ?_
          refine r_plain ?_
          refine p1 (x_assign (by conv => lhs; whnf)) ?_
          refine r_nil ?_
          refine t_n ?_
          refine c_ret ?_
          refine b_r ?_
          refine t_r ?_
          refine t_r ?_
          refine b_r ?_
          refine t_r ?_
          refine end1 rfl (by conv => lhs; whnf) ?_
          exact ⟨by rw [hp], hX⟩
        · try simp only [decide_eq_true_eq, decide_eq_false_iff_not, Bool.not_eq_true, Bool.not_eq_false, Bool.not_eq_eq_eq_not, Bool.not_true, Bool.not_false, Int.not_lt, Int.not_le] at hc41
          have h1 : l.getD i default = l2.getD i default := Prod.ext (by simpa using hb6_11) (by simpa using hc41)
          refine c_skip ?_
          refine b_n ?_
          refine t_n ?_
          refine r_plain ?_
          refine p1 (x_move (by conv => lhs; whnf)) ?_
          refine p1 (x_add rfl rfl (fits_i64 (by omega) (by omega))) ?_
          refine p1 (x_assign (by conv => lhs; whnf)) ?_
          refine r_nil ?_
          refine t_n (At.mk (i + 1) (by repeat (first | exact Agr.refl _ _ | exact Agr.hav _ _ _ | refine Agr.upd rfl ?_ | refine Agr.updL ?_ _ rfl | refine Agr.hav' rfl ?_)) ⟨rfl, trivial⟩ ?_)
          exact ⟨⟨hWL0, ⟨by omega, fun j hj => if h : j < i then hL0 j h else by rw [show j = i from by omega]; exact h1⟩⟩, by first | (dsimp only; omega) | ((show _ < _); omega)⟩
    · try simp only [decide_eq_true_eq, decide_eq_false_iff_not, Bool.not_eq_true, Bool.not_eq_false, Bool.not_eq_eq_eq_not, Bool.not_true, Bool.not_false, Int.not_lt, Int.not_le] at hc14
      have hp : decide (l = l2) = true := decide_eq_true (br_ext (by omega) (fun j hj => hL0 j (by omega)))
      refine c_exit ?_
      refine t_e ?_
      refine t_e ?_
      refine b_hit ?_
      refine t_n ?_
      refine c_seq ?_
      refine r_plain ?_
      refine p1 (x_assign (by conv => lhs; whnf)) ?_
      refine r_nil ?_
      refine t_n ?_
      refine c_ret ?_
      refine end1 rfl (by conv => lhs; whnf) ?_
      exact ⟨by rw [hp], hX⟩
end Go.Proofs.Eng
