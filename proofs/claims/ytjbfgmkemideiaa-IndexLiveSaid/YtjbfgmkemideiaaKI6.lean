import Derived.Test.YtjbfgmkemideiaaKI5
/- Merged: DD T13 DE R2 R3 B1 DF -/
section
set_option linter.unusedVariables false
set_option linter.unusedSimpArgs false
set_option maxRecDepth 100000
set_option maxHeartbeats 4000000
namespace Go.Proofs.Eng
open Go.RowKit
open Extern.Stop (cell)
def rA : Rec := (⟨#[97]⟩, [], [])
theorem rA_right : rightP rA := ⟨by decide, ⟨by decide, List.Pairwise.nil, fun x hx => by cases hx⟩, by decide, by decide⟩
theorem putI_a : putI [rA] = ([1, 1, 1, 97, 0, 0], 0) := by
  have h1 : recsOk [rA] := ⟨fun x hx => by simp only [List.mem_singleton] at hx; rw [hx]; exact rA_right, List.pairwise_singleton _ _⟩
  have h2 : outB [rA] = [1, 1, 1, 97, 0, 0] := by
    have l0 : lebU 0 = [0] := lebU_lt (by omega)
    have l1 : lebU 1 = [1] := lebU_lt (by omega)
    unfold outB recsB
    simp only [List.length_cons, List.length_nil, List.map_cons, List.map_nil, List.flatten_cons, List.flatten_nil, recB, txtL, brsB, putB, rA, List.flatMap_nil, List.append_nil]
    show 1 :: lebU 1 ++ (lebU 1 ++ [97] ++ lebU 0 ++ lebU 0) = _
    rw [l0, l1]; rfl
  unfold putI
  rw [if_neg (by intro h; exact h.elim (fun h => by simp at h) (fun h => h h1)), h2, if_neg (by decide)]
theorem getI_a : getI [1, 1, 1, 97, 0, 0] = ([rA], 0) := by
  have := getI_put (l := [rA]) (by rw [putI_a])
  rw [putI_a] at this
  exact this
theorem index_Put_a (B : Nat) (p : Option Addr) (n c : Nat) (w : World) (hl : Sl kRecA 33 B w p n c [rA]) : Ret Try.prog 27 [.slice p n c] w (fun v w' => (∃ q m c', v = .tuple #[.slice q m c', .int .i64 0] ∧ Own kByte 5 0 w.heap.size w' q m c' [1, 1, 1, 97, 0, 0]) ∧ Ext w w') :=
  (index_Put [rA] B p n c w hl (by intro x hx; simp only [List.mem_singleton] at hx; rw [hx]; exact ⟨by decide, fun y hy => by cases hy⟩)).mono fun v w' h => by rw [putI_a] at h; exact h
theorem index_Get_a (B : Nat) (p : Option Addr) (n c : Nat) (w : World) (hl : Sl kByte 5 B w p n c [1, 1, 1, 97, 0, 0]) : Ret Try.prog 21 [.slice p n c] w (fun v w' => (∃ q m c', v = .tuple #[.slice q m c', .int .i64 0] ∧ Own (kRec (from' w.heap.size w')) 33 0 w.heap.size w' q m c' [rA]) ∧ Ext w w') :=
  (index_Get _ B p n c w hl (by have := hl.len; simp at this; omega)).mono fun v w' h => by rw [getI_a] at h; exact h
theorem law17_awake (w : World) :
    Ret Try.prog 24 [] w (fun v w' => v = .bool true ∧ Ext w w') := by
  have hX := Ext.refl w
  refine enter 47 _ Try.func24 rfl rfl (Nat.le_of_ble_eq_true rfl) ?_
  refine c_seq ?_
  refine r_plain ?_
  refine p1 (x_assign (by conv => lhs; whnf)) ?_
  refine r_nil ?_
  refine t_n ?_
  refine c_seq ?_
  refine r_plain ?_
  refine p1 (x_build1of3 pl33 (by conv => lhs; whnf) rfl) ?_
  refine o_buildSlice u23 inf33 rfl (by decide) (fun base hb => fill_one (by rfl) base hb) ?_
  intro w1 g7 hN7
  have hE1 := hN7.ext
  have hX := hX.ext hE1
  have hJ : Own kRecA 33 0 0 w1 (some ⟨g7, 0, none⟩) 1 1 [rA] := Own.made _ 33 0 0 hN7 [rA] [[.string ⟨#[97]⟩, .slice none 0 0, .slice none 0 0]] 1 1 rfl ⟨⟨_, _, _, _, _, _, rfl, Sl.nil _ _ _ _ _ _ (by omega), Sl.nil _ _ _ _ _ _ (by omega)⟩, trivial⟩ (Nat.zero_le _) (by omega) (by omega) (by rfl) (by rfl)
  refine o_call Try.func27 fn27 fb27 (index_Put_a _ _ _ _ _ hJ.sl) rfl ?_
  rintro v2 w2 ⟨⟨q1, m1, c1, rfl, hU⟩, hE2⟩
  have hX := hX.ext hE2
  refine p1 (x_move (by conv => lhs; whnf)) ?_
  refine p1 (x_extract rfl rfl) ?_
  refine p1 (x_extract rfl rfl) ?_
  refine p1 (x_assign (by conv => lhs; whnf)) ?_
  refine p1 (x_assign (by conv => lhs; whnf)) ?_
  refine r_nil ?_
  refine t_n ?_
  refine c_seq ?_
  refine r_plain ?_
  refine p1 (x_move (by conv => lhs; whnf)) ?_
  refine o_call Try.func21 fn21 fb21 (index_Get_a _ _ _ _ _ hU.sl) rfl ?_
  rintro v3 w3 ⟨⟨q2, m2, c2, rfl, hV⟩, hE3⟩
  have hX := hX.ext hE3
  have hU := hU.ext hE3
  have hVl : m2 = 1 := hV.len.symm
  refine p1 (x_move (by conv => lhs; whnf)) ?_
  refine p1 (x_extract rfl rfl) ?_
  refine p1 (x_extract rfl rfl) ?_
  refine p1 (x_assign (by conv => lhs; whnf)) ?_
  refine p1 (x_assign (by conv => lhs; whnf)) ?_
  refine r_nil ?_
  refine t_n ?_
  refine c_seq ?_
  obtain ⟨pb1, nb1, cb1, pc1, nc1, cc1, hrow1, hS1b, hS1c⟩ := hV.sl.recA.recAt 0 (by omega)
  have hVc := hV.sl.cap
  have hVf := hV.sl.fit
  refine r_plain ?_
  refine p1 (x_move (by conv => lhs; whnf)) ?_
  refine p1 (x_bytes_str u22 u5 u9 rfl hU.sl) ?_
  refine p1 ((x_eql_str rfl rfl).cast (congrArg Value.bool (decide_eq_true rfl))) ?_
  refine p1 (x_move (by conv => lhs; whnf)) ?_
  refine g1 19 rfl rfl (x_move (by conv => lhs; whnf)) ?_
  refine g1 19 rfl rfl ((x_eql rfl rfl).cast (congrArg _ (decide_eq_true rfl))) ?_
  refine p1 (x_pick_t rfl (by conv => lhs; whnf)) ?_
  refine p1 (x_move (by conv => lhs; whnf)) ?_
  refine g1 23 rfl rfl (x_move (by conv => lhs; whnf)) ?_
  refine g1 23 rfl rfl ((x_eql rfl rfl).cast (congrArg _ (decide_eq_true rfl))) ?_
  refine p1 (x_pick_t rfl (by conv => lhs; whnf)) ?_
  refine p1 (x_move (by conv => lhs; whnf)) ?_
  refine g1 27 rfl rfl (x_move (by conv => lhs; whnf)) ?_
  refine g1 27 rfl rfl (x_len_slice u23 rfl) ?_
  refine g1 27 rfl rfl ((x_eql rfl rfl).cast (congrArg Value.bool (decide_eq_true (by omega)))) ?_
  refine p1 (x_pick_t rfl (by conv => lhs; whnf)) ?_
  refine p1 (x_move (by conv => lhs; whnf)) ?_
  refine g1 32 rfl rfl (x_move (by conv => lhs; whnf)) ?_
  refine g1 32 rfl rfl (x_ixs u23 sz33 rfl rfl (hV.sl.adr kRec_pos (by omega)) (by omega) (by omega)) ?_
  refine g1 32 rfl rfl (x_fieldAddr fo33_0 sz9 rfl) ?_
  refine g1 32 rfl rfl (x_load1 un9 rfl (hrow1 0 _ rfl)) ?_
  refine g1 32 rfl rfl ((x_eql_str rfl rfl).cast (congrArg Value.bool (decide_eq_true rfl))) ?_
  refine p1 (x_pick_t rfl (by conv => lhs; whnf)) ?_
  refine p1 (x_move (by conv => lhs; whnf)) ?_
  refine p1 (x_pick_t rfl (by conv => lhs; whnf)) ?_
  refine p1 (x_move (by conv => lhs; whnf)) ?_
  refine p1 (x_pick_t rfl (by conv => lhs; whnf)) ?_
  refine p1 (x_move (by conv => lhs; whnf)) ?_
  refine p1 (x_pick_t rfl (by conv => lhs; whnf)) ?_
  refine p1 (x_move (by conv => lhs; whnf)) ?_
  refine p1 (x_pick_t rfl (by conv => lhs; whnf)) ?_
  refine p1 (x_assign (by conv => lhs; whnf)) ?_
  refine r_nil ?_
  refine t_n ?_
  refine c_ret ?_
  refine end1 rfl (by conv => lhs; whnf) ?_
  exact ⟨rfl, hX⟩
theorem law_IndexPuts (l : List Rec) (B : Nat) (p : Option Addr) (n c : Nat) (w : World) (hl : Sl kRecA 33 B w p n c l) (hkk : ∀ x ∈ l, x.1.size ≤ 9223372036854775807 ∧ ∀ y ∈ x.2.1, y.1.size ≤ 9223372036854775807) (hhd : ∀ x ∈ l, ∀ y ∈ x.2.1, y.2.length ≤ 4398046511104) :
    Ret Try.prog 4 [.slice p n c] w (fun v w' => v = .bool true ∧ Ext w w') := by
  have hX := Ext.refl w
  refine enter 48 _ Try.func4 rfl rfl (Nat.le_of_ble_eq_true rfl) ?_
  refine c_seq ?_
  refine r_plain ?_
  refine p1 (x_assign (by conv => lhs; whnf)) ?_
  refine r_nil ?_
  refine t_n ?_
  refine c_seq ?_
  refine c_seq ?_
  refine r_plain ?_
  refine p1 (x_move (by conv => lhs; whnf)) ?_
  refine o_call Try.func25 fn25 fb25 (law17_few l _ _ _ _ _ (hl.ext hX)) rfl ?_
  rintro v1 w1 ⟨⟨bf, rfl, hfew⟩, hE1⟩
  have hX := hX.ext hE1
  first | refine p1 (x_notd rfl) ?_ | refine p1 (x_not rfl) ?_
  refine r_nil ?_
  refine t_n ?_
  first | refine c_dec rfl (fun hc10 => ?_) (fun hc10 => ?_) | refine c_if rfl (fun hc10 => ?_) (fun hc10 => ?_)
  · try simp only [decide_eq_true_eq, decide_eq_false_iff_not, Bool.not_eq_true, Bool.not_eq_false, Bool.not_eq_eq_eq_not, Bool.not_true, Bool.not_false, Int.not_lt, Int.not_le] at hc10
    refine c_seq ?_
    refine r_plain ?_
    refine o_call Try.func24 fn24 fb24 (law17_awake _) rfl ?_
    rintro v2 w2 ⟨rfl, hE2⟩
    have hX := hX.ext hE2
    refine p1 (x_assign (by conv => lhs; whnf)) ?_
    refine r_nil ?_
    refine t_n ?_
    refine c_ret ?_
    refine t_r ?_
    refine end1 rfl (by conv => lhs; whnf) ?_
    exact ⟨rfl, hX⟩
  · try simp only [decide_eq_true_eq, decide_eq_false_iff_not, Bool.not_eq_true, Bool.not_eq_false, Bool.not_eq_eq_eq_not, Bool.not_true, Bool.not_false, Int.not_lt, Int.not_le] at hc10
    obtain ⟨hfw, hmm⟩ := hfew (by cases bf <;> simp_all)
    refine c_skip ?_
    refine t_n ?_
    refine c_seq ?_
    refine r_plain ?_
    refine p1 (x_move (by conv => lhs; whnf)) ?_
    refine o_call Try.func26 fn26 fb26 (ref17_Copy l _ _ _ _ _ (hl.ext hX) hkk hhd hfw hmm) rfl ?_
    rintro v3 w3 ⟨⟨q3, m3, c3, rfl, hI⟩, hE3⟩
    have hX := hX.ext hE3
    refine p1 (x_assign (by conv => lhs; whnf)) ?_
    refine r_nil ?_
    refine t_n ?_
    refine c_seq ?_
    refine r_plain ?_
    refine p1 (x_move (by conv => lhs; whnf)) ?_
    refine o_call Try.func27 fn27 fb27 (index_Put l _ _ _ _ _ hI.sl.recA hkk) rfl ?_
    rintro v4 w4 ⟨⟨q4, m4, c4, rfl, hU⟩, hE4⟩
    have hX := hX.ext hE4
    have hI := hI.ext hE4
    refine p1 (x_move (by conv => lhs; whnf)) ?_
    refine p1 (x_extract rfl rfl) ?_
    refine p1 (x_extract rfl rfl) ?_
    refine p1 (x_assign (by conv => lhs; whnf)) ?_
    refine p1 (x_assign (by conv => lhs; whnf)) ?_
    refine r_nil ?_
    refine t_n ?_
    refine c_seq ?_
    refine r_plain ?_
    refine p1 (x_move (by conv => lhs; whnf)) ?_
    refine o_call Try.func28 fn28 fb28 (ref17_Put l _ _ _ _ _ (hl.ext hX) hkk) rfl ?_
    rintro v5 w5 ⟨⟨q5, m5, c5, rfl, hV⟩, hE5⟩
    have hX := hX.ext hE5
    have hI := hI.ext hE5
    have hU := hU.ext hE5
    refine p1 (x_move (by conv => lhs; whnf)) ?_
    refine p1 (x_extract rfl rfl) ?_
    refine p1 (x_extract rfl rfl) ?_
    refine p1 (x_assign (by conv => lhs; whnf)) ?_
    refine p1 (x_assign (by conv => lhs; whnf)) ?_
    refine r_nil ?_
    refine t_n ?_
    refine c_seq ?_
    refine r_plain ?_
    refine p1 (x_move (by conv => lhs; whnf)) ?_
    refine p1 (x_bytes_str u22 u5 u9 rfl hU.sl) ?_
    refine p1 (x_move (by conv => lhs; whnf)) ?_
    refine p1 (x_bytes_str u22 u5 u9 rfl hV.sl) ?_
    refine p1 ((x_eql_str rfl rfl).cast (congrArg Value.bool (decide_eq_true rfl))) ?_
    refine p1 (x_move (by conv => lhs; whnf)) ?_
    refine g1 29 rfl rfl (x_move (by conv => lhs; whnf)) ?_
    refine g1 29 rfl rfl (x_move (by conv => lhs; whnf)) ?_
    refine g1 29 rfl rfl ((x_eql rfl rfl).cast (congrArg _ (decide_eq_true rfl))) ?_
    refine p1 (x_pick_t rfl (by conv => lhs; whnf)) ?_
    refine p1 (x_move (by conv => lhs; whnf)) ?_
    refine g1 34 rfl rfl (x_move (by conv => lhs; whnf)) ?_
    refine g_drop 34 rfl rfl ?_
    refine o_call Try.func29 fn29 fb29 (index_Check l _ _ _ _ _ hI.sl.recA hkk) rfl ?_
    rintro v6 w6 ⟨rfl, hE6⟩
    have hX := hX.ext hE6
    have hI := hI.ext hE6
    have hU := hU.ext hE6
    have hV := hV.ext hE6
    refine g1 34 rfl rfl (x_move (by conv => lhs; whnf)) ?_
    refine g1 34 rfl rfl ((x_eql rfl rfl).cast (congrArg _ (decide_eq_true rfl))) ?_
    refine p1 (x_pick_t rfl (by conv => lhs; whnf)) ?_
    refine p1 (x_move (by conv => lhs; whnf)) ?_
    refine g1 40 rfl rfl (x_move (by conv => lhs; whnf)) ?_
    refine g1 40 rfl rfl (x_move (by conv => lhs; whnf)) ?_
    refine g_drop 40 rfl rfl ?_
    refine o_call Try.func23 fn23 fb23 ((ref17_Same l l _ _ _ _ _ _ _ _ _ hI.sl.recA (hl.ext hX)).known (c := .bool true) (congrArg Value.bool (decide_eq_true rfl))) rfl ?_
    rintro v7 w7 ⟨rfl, hE7⟩
    have hX := hX.ext hE7
    have hI := hI.ext hE7
    have hU := hU.ext hE7
    have hV := hV.ext hE7
    refine p1 (x_pick_t rfl (by conv => lhs; whnf)) ?_
    refine p1 (x_move (by conv => lhs; whnf)) ?_
    refine g_drop 45 rfl rfl ?_
    refine o_call Try.func24 fn24 fb24 (law17_awake _) rfl ?_
    rintro v8 w8 ⟨rfl, hE8⟩
    have hX := hX.ext hE8
    have hI := hI.ext hE8
    have hU := hU.ext hE8
    have hV := hV.ext hE8
    refine p1 (x_pick_t rfl (by conv => lhs; whnf)) ?_
    refine p1 (x_assign (by conv => lhs; whnf)) ?_
    refine r_nil ?_
    refine t_n ?_
    refine c_ret ?_
    refine end1 rfl (by conv => lhs; whnf) ?_
    exact ⟨rfl, hX⟩
theorem law_IndexLive (l l2 : List Rec) (B B2 : Nat) (p q : Option Addr) (n c m c2 : Nat) (w : World) (ha : Sl kRecA 33 B w p n c l) (hb : Sl kRecA 33 B2 w q m c2 l2) (hhd : ∀ x ∈ l, ∀ y ∈ x.2.1, y.2.length ≤ 4398046511104) (hkk : ∀ x ∈ l, x.1.size ≤ 9223372036854775807 ∧ ∀ y ∈ x.2.1, y.1.size ≤ 9223372036854775807) :
    Ret Try.prog 20 [.slice p n c, .slice q m c2] w (fun v w' => v = .bool true ∧ Ext w w') := by
  have hX := Ext.refl w
  refine enter 37 _ Try.func20 rfl rfl (Nat.le_of_ble_eq_true rfl) ?_
  refine c_seq ?_
  refine r_plain ?_
  refine p1 (x_assign (by conv => lhs; whnf)) ?_
  refine r_nil ?_
  refine t_n ?_
  refine c_seq ?_
  refine c_seq ?_
  refine r_plain ?_
  refine p1 (x_move (by conv => lhs; whnf)) ?_
  refine o_call Try.func25 fn25 fb25 (law17_few l _ _ _ _ _ (ha.ext hX)) rfl ?_
  rintro v1 w1 ⟨⟨bf, rfl, hfew⟩, hE1⟩
  have hX := hX.ext hE1
  first | refine p1 (x_notd rfl) ?_ | refine p1 (x_not rfl) ?_
  refine p1b (x_move (by conv => lhs; whnf)) (fun hb1_3 => ?_) (fun hb1_3 => ?_)
  · try simp only [decide_eq_true_eq, decide_eq_false_iff_not, Bool.not_eq_true, Bool.not_eq_false, Bool.not_eq_eq_eq_not, Bool.not_true, Bool.not_false, Int.not_lt, Int.not_le] at hb1_3
    refine g0 8 rfl (by first | exact .inl rfl | exact .inr rfl) ?_
    refine g0 8 rfl (by first | exact .inl rfl | exact .inr rfl) ?_
    refine g0 8 rfl (by first | exact .inl rfl | exact .inr rfl) ?_
    refine p1 (x_pick_t rfl (by conv => lhs; whnf)) ?_
    refine r_nil ?_
    refine t_n ?_
    refine c_t rfl ?_
    refine c_seq ?_
    refine r_plain ?_
    refine o_call Try.func24 fn24 fb24 (law17_awake _) rfl ?_
    rintro v2 w2 ⟨rfl, hE2⟩
    have hX := hX.ext hE2
    refine p1 (x_assign (by conv => lhs; whnf)) ?_
    refine r_nil ?_
    refine t_n ?_
    refine c_ret ?_
    refine t_r ?_
    refine end1 rfl (by conv => lhs; whnf) ?_
    exact ⟨rfl, hX⟩
  · try simp only [decide_eq_true_eq, decide_eq_false_iff_not, Bool.not_eq_true, Bool.not_eq_false, Bool.not_eq_eq_eq_not, Bool.not_true, Bool.not_false, Int.not_lt, Int.not_le] at hb1_3
    refine g1 8 rfl rfl (x_move (by conv => lhs; whnf)) ?_
    refine g_drop 8 rfl rfl ?_
    refine o_call Try.func25 fn25 fb25 (law17_few l2 _ _ _ _ _ (hb.ext hX)) rfl ?_
    rintro v3 w3 ⟨⟨bf2, rfl, hfew2⟩, hE3⟩
    have hX := hX.ext hE3
    first | refine g1 8 rfl rfl (x_notd rfl) ?_ | refine g1 8 rfl rfl (x_not rfl) ?_
    refine p1 (x_pick_f rfl (by conv => lhs; whnf)) ?_
    refine r_nil ?_
    refine t_n ?_
    first | refine c_dec rfl (fun hc12 => ?_) (fun hc12 => ?_) | refine c_if rfl (fun hc12 => ?_) (fun hc12 => ?_)
    · try simp only [decide_eq_true_eq, decide_eq_false_iff_not, Bool.not_eq_true, Bool.not_eq_false, Bool.not_eq_eq_eq_not, Bool.not_true, Bool.not_false, Int.not_lt, Int.not_le] at hc12
      refine c_seq ?_
      refine r_plain ?_
      refine o_call Try.func24 fn24 fb24 (law17_awake _) rfl ?_
      rintro v4 w4 ⟨rfl, hE4⟩
      have hX := hX.ext hE4
      refine p1 (x_assign (by conv => lhs; whnf)) ?_
      refine r_nil ?_
      refine t_n ?_
      refine c_ret ?_
      refine t_r ?_
      refine end1 rfl (by conv => lhs; whnf) ?_
      exact ⟨rfl, hX⟩
    · try simp only [decide_eq_true_eq, decide_eq_false_iff_not, Bool.not_eq_true, Bool.not_eq_false, Bool.not_eq_eq_eq_not, Bool.not_true, Bool.not_false, Int.not_lt, Int.not_le] at hc12
      obtain ⟨hfw, hmm⟩ := hfew (by cases bf <;> simp_all)
      have hlen := ha.len
      refine c_skip ?_
      refine t_n ?_
      refine c_seq ?_
      refine r_plain ?_
      refine p1 (x_move (by conv => lhs; whnf)) ?_
      refine o_call Try.func70 fn70 fb70 (index_Live l _ _ _ _ _ (ha.ext hX) (by omega) (fun x hx => (hmm x hx).2)) rfl ?_
      rintro v5 w5 ⟨⟨q3, m3, c3, rfl, hm3, hU⟩, hE5⟩
      have hX := hX.ext hE5
      refine p1 (x_move (by conv => lhs; whnf)) ?_
      refine o_call Try.func71 fn71 fb71 (ref17_Live l _ _ _ _ _ (ha.ext hX) (by omega) (fun x hx => (hmm x hx).2)) rfl ?_
      rintro v6 w6 ⟨⟨q4, m4, c4, rfl, hV⟩, hE6⟩
      have hX := hX.ext hE6
      have hU := hU.ext hE6
      refine o_call Try.func36 fn36 fb36 ((ref06_Same _ _ _ _ _ _ _ _ _ _ _ hU.sl hV).known (c := .bool true) (congrArg Value.bool (decide_eq_true rfl))) rfl ?_
      rintro v7 w7 ⟨rfl, hE7⟩
      have hX := hX.ext hE7
      have hU := hU.ext hE7
      have hV := hV.ext hE7
      refine p1 (x_move (by conv => lhs; whnf)) ?_
      refine g1 19 rfl rfl (x_move (by conv => lhs; whnf)) ?_
      refine g1 19 rfl rfl (x_move (by conv => lhs; whnf)) ?_
      refine g_drop 19 rfl rfl ?_
      refine o_call Try.func30 fn30 fb30 (index_Same l l2 _ _ _ _ _ _ _ _ _ (ha.ext hX) (hb.ext hX)) rfl ?_
      rintro v8 w8 ⟨rfl, hE8⟩
      have hX := hX.ext hE8
      have hU := hU.ext hE8
      have hV := hV.ext hE8
      refine g1 19 rfl rfl (x_move (by conv => lhs; whnf)) ?_
      refine g1 19 rfl rfl (x_move (by conv => lhs; whnf)) ?_
      refine g_drop 19 rfl rfl ?_
      refine o_call Try.func23 fn23 fb23 (ref17_Same l l2 _ _ _ _ _ _ _ _ _ (ha.ext hX) (hb.ext hX)) rfl ?_
      rintro v9 w9 ⟨rfl, hE9⟩
      have hX := hX.ext hE9
      have hU := hU.ext hE9
      have hV := hV.ext hE9
      refine g1 19 rfl rfl ((x_eql_bool u4 rfl rfl).cast (congrArg Value.bool (decide_eq_true rfl))) ?_
      refine p1 (x_pick_t rfl (by conv => lhs; whnf)) ?_
      refine p1 (x_move (by conv => lhs; whnf)) ?_
      refine g1 28 rfl rfl (x_move (by conv => lhs; whnf)) ?_
      refine g1 28 rfl rfl (x_move (by conv => lhs; whnf)) ?_
      refine g_drop 28 rfl rfl ?_
      refine o_call Try.func26 fn26 fb26 (ref17_Copy l _ _ _ _ _ (ha.ext hX) hkk hhd hfw hmm) rfl ?_
      rintro v10 w10 ⟨⟨q5, m5, c5, rfl, hI⟩, hE10⟩
      have hX := hX.ext hE10
      have hU := hU.ext hE10
      have hV := hV.ext hE10
      refine g_drop 28 rfl rfl ?_
      refine o_call Try.func30 fn30 fb30 ((index_Same l l _ _ _ _ _ _ _ _ _ (ha.ext hX) hI.sl.recA).known (c := .bool true) (congrArg Value.bool (decide_eq_true rfl))) rfl ?_
      rintro v11 w11 ⟨rfl, hE11⟩
      have hX := hX.ext hE11
      have hU := hU.ext hE11
      have hV := hV.ext hE11
      have hI := hI.ext hE11
      refine p1 (x_pick_t rfl (by conv => lhs; whnf)) ?_
      refine p1 (x_move (by conv => lhs; whnf)) ?_
      refine g_drop 34 rfl rfl ?_
      refine o_call Try.func24 fn24 fb24 (law17_awake _) rfl ?_
      rintro v12 w12 ⟨rfl, hE12⟩
      have hX := hX.ext hE12
      have hU := hU.ext hE12
      have hV := hV.ext hE12
      have hI := hI.ext hE12
      refine p1 (x_pick_t rfl (by conv => lhs; whnf)) ?_
      refine p1 (x_assign (by conv => lhs; whnf)) ?_
      refine r_nil ?_
      refine t_n ?_
      refine c_ret ?_
      refine end1 rfl (by conv => lhs; whnf) ?_
      exact ⟨rfl, hX⟩
end Go.Proofs.Eng
end
section
set_option linter.unusedVariables false
set_option linter.unusedSimpArgs false
set_option maxRecDepth 100000
set_option maxHeartbeats 4000000
namespace Go.Proofs.Eng
open Go.RowKit
open Extern.Stop (cell)
theorem fb22 : Try.f22.body.isNone = false := by kernel_rfl
theorem fn22 : (Try.f22.name == "runtime.NumGoroutine") = false := by kernel_rfl
end Go.Proofs.Eng
end
section
set_option linter.unusedVariables false
set_option linter.unusedSimpArgs false
set_option maxRecDepth 100000
set_option maxHeartbeats 4000000
namespace Go.Proofs.Eng
open Go.RowKit
open Extern.Stop (cell)
theorem law_IndexGets (xs : List UInt8) (B : Nat) (p : Option Addr) (n c : Nat) (w : World) (hl : Sl kByte 5 B w p n c xs) (hs : n ≤ 140737490000000) :
    Ret Try.prog 3 [.slice p n c] w (fun v w' => v = .bool true ∧ Ext w w') := by
  have hX := Ext.refl w
  refine enter 80 _ Try.func3 rfl rfl (Nat.le_of_ble_eq_true rfl) ?_
  refine c_seq ?_
  refine r_plain ?_
  refine p1 (x_assign (by conv => lhs; whnf)) ?_
  refine r_nil ?_
  refine t_n ?_
  refine c_seq ?_
  refine r_plain ?_
  have hXs := hX.size
  have hlen := hl.len
  refine o_buildSlice u22 inf5 rfl (by decide) (fun base hb => by have h0 : base = #[] := Array.eq_empty_of_size_eq_zero (by simpa using hb); subst h0; rfl) ?_
  intro w1 g12 hN12
  have hE1 := hN12.ext
  have hX := hX.ext hE1
  have hI : Own kByte 5 0 w.heap.size w1 (some ⟨g12, 0, none⟩) 0 0 [] := Own.made kByte 5 0 _ hN12 [] [] 0 0 rfl trivial hXs (by omega) (by omega) (by rfl) (by simp)
  refine p1 (x_move (by conv => lhs; whnf)) ?_
  have hB0 := hX.size
  have hl2 := hl.ext hX
  refine o_append (d := kByte) (xs) u22 inf5 rfl kByte_pos rfl rfl hI (src_pure u22 hl2 (by decide)) hl.len (byte_all _ _ _) (rfl) (by omega) (by omega) (by omega) (by omega) (by decide) ?_
  intro p14 c14 w2 hI hM2
  have hX := hX.mod hM2 (Nat.le_refl _)
  rw [List.nil_append] at hI
  refine p1 (x_assign (by conv => lhs; whnf)) ?_
  refine r_nil ?_
  refine t_n ?_
  refine c_seq ?_
  refine r_plain ?_
  refine p1 (x_move (by conv => lhs; whnf)) ?_
  have hXs2 := hX.size
  refine o_call Try.func21 fn21 fb21 (index_Get xs _ _ _ _ _ hI.sl (by omega)) rfl ?_
  rintro v3 w3 ⟨⟨q4, m4, c4, rfl, hG⟩, hE3⟩
  have hX := hX.ext hE3
  have hI := hI.ext hE3
  obtain ⟨Bc, hBc⟩ : ∃ x, x = w3.heap.size := ⟨_, rfl⟩
  have hG := hG.recMono (S' := (fun j => w.heap.size ≤ j ∧ j < Bc)) (fun j hj h => ⟨Nat.le_trans hXs2 h.1, by rw [hBc]; exact h.2⟩)
  have hWs : Lw Bc w3 := ⟨Nat.le_of_eq hBc⟩
  refine p1 (x_move (by conv => lhs; whnf)) ?_
  refine p1 (x_extract rfl rfl) ?_
  refine p1 (x_extract rfl rfl) ?_
  refine p1 (x_assign (by conv => lhs; whnf)) ?_
  refine p1 (x_assign (by conv => lhs; whnf)) ?_
  refine r_nil ?_
  refine t_n ?_
  refine c_seq ?_
  refine r_plain ?_
  refine p1 (x_move (by conv => lhs; whnf)) ?_
  have hWl := hWs.le
  refine o_call Try.func22 fn22 fb22 (ref17_Get xs _ _ _ _ _ (hl.ext hX) (by omega)) rfl ?_
  rintro v4 w4 ⟨⟨q5, m5, c5, rfl, hY0⟩, hE4⟩
  have hX := hX.ext hE4
  have hI := hI.ext hE4
  have hG := hG.ext hE4
  have hWs := hWs.ext hE4
  have hY := (hY0.recMono (S' := (fun j => Bc ≤ j)) (fun j hj h => Nat.le_trans hWl h.1)).sl
  refine p1 (x_move (by conv => lhs; whnf)) ?_
  refine p1 (x_extract rfl rfl) ?_
  refine p1 (x_extract rfl rfl) ?_
  refine p1 (x_assign (by conv => lhs; whnf)) ?_
  refine p1 (x_assign (by conv => lhs; whnf)) ?_
  refine r_nil ?_
  refine t_n ?_
  refine c_seq ?_
  refine c_seq ?_
  refine r_plain ?_
  refine p1 (x_move (by conv => lhs; whnf)) ?_
  refine p1 (x_move (by conv => lhs; whnf)) ?_
  refine o_call Try.func23 fn23 fb23 ((ref17_Same _ _ _ _ _ _ _ _ _ _ _ hG.sl.recA hY.recA).known (c := .bool true) (congrArg Value.bool (decide_eq_true rfl))) rfl ?_
  rintro v5 w5 ⟨rfl, hE5⟩
  have hX := hX.ext hE5
  have hI := hI.ext hE5
  have hG := hG.ext hE5
  have hWs := hWs.ext hE5
  have hY := hY.ext hE5
  refine p1 ((x_not rfl)) ?_
  refine p1 (x_move (by conv => lhs; whnf)) ?_
  refine g1 29 rfl rfl (x_move (by conv => lhs; whnf)) ?_
  refine g1 29 rfl rfl (x_move (by conv => lhs; whnf)) ?_
  refine g1 29 rfl rfl ((x_neq rfl rfl).cast (congrArg Value.bool (decide_eq_false (by simp)))) ?_
  refine p1 (x_pick_f rfl (by conv => lhs; whnf)) ?_
  refine r_nil ?_
  refine t_n ?_
  refine c_f rfl ?_
  refine c_skip ?_
  refine t_n ?_
  refine c_seq ?_
  refine c_seq ?_
  refine r_plain ?_
  refine p1 (x_assign (by conv => lhs; whnf)) ?_
  refine r_nil ?_
  refine t_n ?_
  refine c_block ?_
  have hS := hG.sl.recN
  have hml := hG.len
  refine c_loop (ι := Nat) [8, 9, 34, 35, 36, 37, 38, 39, 40, 41, 42, 43, 44, 45, 46, 47, 48, 49, 50, 51, 52, 53, 54, 55, 56, 57, 58, 59, 60, 61] (fun i => [(8, .int .i64 (i : Int))]) (fun i w' => Ext w w' ∧ (Sl (kRecN (fun j => w.heap.size ≤ j ∧ j < Bc)) 33 0 w' q4 m4 c4 ((getI xs).1.map fun x => x.2.2.length) ∧ Sl (kRec (fun j => Bc ≤ j)) 33 0 w' q5 m5 c5 (getI xs).1 ∧ Own kByte 5 0 w.heap.size w' p14 (0 + n) c14 xs ∧ i ≤ m4)) (fun i => m4 - i) (0) ⟨rfl, trivial⟩ ⟨hX, ⟨hS, hY, hI, by omega⟩⟩ ?_
  rintro i GL0 w6 ⟨hE6, hS, hY, hI, hi⟩
  have hX := hE6
  have hcap5 := hS.cap
  have hfit5 := hS.fit
  refine c_seq ?_
  refine c_seq ?_
  refine r_plain ?_
  refine p1 (x_move (by conv => lhs; whnf)) ?_
  refine p1 (x_move (by conv => lhs; whnf)) ?_
  refine p1 (x_len_slice u23 rfl) ?_
  refine p1 (x_lss rfl rfl) ?_
  refine r_nil ?_
  refine t_n ?_
  first | refine c_dec rfl (fun hc37 => ?_) (fun hc37 => ?_) | refine c_if rfl (fun hc37 => ?_) (fun hc37 => ?_)
  · try simp only [decide_eq_true_eq, decide_eq_false_iff_not, Bool.not_eq_true, Bool.not_eq_false, Bool.not_eq_eq_eq_not, Bool.not_true, Bool.not_false, Int.not_lt, Int.not_le] at hc37
    refine c_skip ?_
    refine t_n ?_
    refine c_seq ?_
    refine c_block ?_
    refine c_seq ?_
    refine r_plain ?_
    refine p1 (x_assign (by conv => lhs; whnf)) ?_
    refine r_nil ?_
    refine t_n ?_
    refine c_block ?_
    refine c_loop (ι := Nat) [9, 40, 41, 42, 43, 44, 45, 46, 47, 48, 49, 50, 51, 52, 53, 54, 55, 56, 57, 58, 59, 60, 61] (fun k => [(9, .int .i64 (k : Int))]) (fun k w' => Ext w w' ∧ (Sl (kRecN (fun j => w.heap.size ≤ j ∧ j < Bc)) 33 0 w' q4 m4 c4 ((getI xs).1.map fun x => x.2.2.length) ∧ Sl (kRec (fun j => Bc ≤ j)) 33 0 w' q5 m5 c5 (getI xs).1 ∧ Own kByte 5 0 w.heap.size w' p14 (0 + n) c14 xs ∧ k ≤ ((getI xs).1.map fun x => x.2.2.length).getD i 0)) (fun k => ((getI xs).1.map fun x => x.2.2.length).getD i 0 - k) (0) ⟨rfl, trivial⟩ ⟨hX, ⟨hS, hY, hI, by omega⟩⟩ ?_
    rintro k GL2 w7 ⟨hE7, hS, hY, hI, hk⟩
    have hX := hE7
    refine c_seq ?_
    refine c_seq ?_
    obtain ⟨qh, ch, hch, hsh⟩ := hS.recNAt i (by omega)
    have hfh := hsh.fit
    refine r_plain ?_
    refine p1 (x_move (by conv => lhs; whnf)) ?_
    refine p1 (x_move (by conv => lhs; whnf)) ?_
    refine p1 (x_move (by conv => lhs; whnf)) ?_
    refine p1 (x_ixs u23 sz33 rfl rfl (hS.adr kRecN_pos (by omega)) (by omega) (by omega)) ?_
    refine p1 (x_fieldAddr fo33_2 sz31 rfl) ?_
    refine p1 (x_load1 un31 rfl hch) ?_
    refine p1 (x_len_slice u31 rfl) ?_
    refine p1 (x_lss rfl rfl) ?_
    refine r_nil ?_
    refine t_n ?_
    first | refine c_dec rfl (fun hc47 => ?_) (fun hc47 => ?_) | refine c_if rfl (fun hc47 => ?_) (fun hc47 => ?_)
    · try simp only [decide_eq_true_eq, decide_eq_false_iff_not, Bool.not_eq_true, Bool.not_eq_false, Bool.not_eq_eq_eq_not, Bool.not_true, Bool.not_false, Int.not_lt, Int.not_le] at hc47
      refine c_skip ?_
      refine t_n ?_
      refine c_seq ?_
      refine c_block ?_
      refine r_tail 12 mixed (by kernel_rfl) ?_
      intro w8 hE8
      have hX := hX.ext hE8
      have hS := hS.ext hE8
      have hY := hY.ext hE8
      have hI := hI.ext hE8
      obtain ⟨qh, ch, hch, hsh⟩ := hS.recNAt i (by omega)
      obtain ⟨bb, hbb⟩ := hsh.cells (k * 32) (by omega)
      refine s1 (x_move (by conv => lhs; whnf)) ?_
      refine s1 (x_move (by conv => lhs; whnf)) ?_
      refine s1 (x_ixs u23 sz33 rfl rfl (hS.adr kRecN_pos (by omega)) (by omega) (by omega)) ?_
      refine s1 (x_fieldAddr fo33_2 sz31 rfl) ?_
      refine s1 (x_load1 un31 rfl hch) ?_
      refine s1 (x_move (by conv => lhs; whnf)) ?_
      refine s1 (x_ixs u31 sz35 rfl rfl (hsh.fp (by omega)).1 (by omega) (by omega)) ?_
      refine s1 (x_ixa u35 sz5 rfl rfl (by omega) (by omega)) ?_
      refine s1 (x_load1 un5 rfl hbb) ?_
      refine s1 ((x_addw rfl rfl).cast (congrArg _ (u8_inc bb))) ?_
      refine s1 (x_ixs u31 sz35 rfl rfl (hsh.fp (by omega)).1 (by omega) (by omega)) ?_
      refine s1 (x_ixa u35 sz5 rfl rfl (by omega) (by omega)) ?_
      refine s_nil ?_
      refine o_storeSh (j := k * 32) (b := bb + 1) hsh (by omega) rfl rfl sz5 ?_
      intro w9 cs9 hBc2 hP9
      have hin := (hsh.fp (by omega)).2.1
      have hX := hX.put hP9 hin.1
      have hS := hS.recNSet (by decide) hBc2 hP9
      have hY := hY.recPut hP9 (fun h => by have h1 : Bc ≤ ab qh := h; have := hin.2; omega) (by decide)
      have hI := hI.mod (hP9.mod 0 (Nat.zero_le _)) (Nat.zero_le _) (by decide)
      refine r_nil ?_
      refine b_n ?_
      refine t_n ?_
      refine r_plain ?_
      refine p1 (x_move (by conv => lhs; whnf)) ?_
      refine p1 (x_add rfl rfl (fits_i64 (by omega) (by omega))) ?_
      refine p1 (x_assign (by conv => lhs; whnf)) ?_
      refine r_nil ?_
      refine t_n (At.mk (k + 1) (by repeat (first | exact Agr.refl _ _ | exact Agr.hav _ _ _ | refine Agr.upd rfl ?_ | refine Agr.updL ?_ _ rfl | refine Agr.hav' rfl ?_)) ⟨rfl, trivial⟩ ?_)
      exact ⟨⟨hX, ⟨hS, hY, hI, by omega⟩⟩, by first | (dsimp only; omega) | ((show _ < _); omega)⟩
    · try simp only [decide_eq_true_eq, decide_eq_false_iff_not, Bool.not_eq_true, Bool.not_eq_false, Bool.not_eq_eq_eq_not, Bool.not_true, Bool.not_false, Int.not_lt, Int.not_le] at hc47
      refine c_exit ?_
      refine t_e ?_
      refine t_e ?_
      refine b_hit ?_
      refine b_n ?_
      refine t_n ?_
      refine r_plain ?_
      refine p1 (x_move (by conv => lhs; whnf)) ?_
      refine p1 (x_add rfl rfl (fits_i64 (by omega) (by omega))) ?_
      refine p1 (x_assign (by conv => lhs; whnf)) ?_
      refine r_nil ?_
      refine t_n (At.mk (i + 1) (by repeat (first | exact Agr.refl _ _ | exact Agr.hav _ _ _ | refine Agr.upd rfl ?_ | refine Agr.updL ?_ _ rfl | refine Agr.hav' rfl ?_)) ⟨rfl, trivial⟩ ?_)
      exact ⟨⟨hX, ⟨hS, hY, hI, by omega⟩⟩, by first | (dsimp only; omega) | ((show _ < _); omega)⟩
  · try simp only [decide_eq_true_eq, decide_eq_false_iff_not, Bool.not_eq_true, Bool.not_eq_false, Bool.not_eq_eq_eq_not, Bool.not_true, Bool.not_false, Int.not_lt, Int.not_le] at hc37
    refine c_exit ?_
    refine t_e ?_
    refine t_e ?_
    refine b_hit ?_
    refine t_n ?_
    refine c_seq ?_
    refine r_plain ?_
    refine p1 (x_move (by conv => lhs; whnf)) ?_
    refine o_call Try.func21 fn21 fb21 (index_Get xs _ _ _ _ _ hI.sl (by omega)) rfl ?_
    rintro v10 w10 ⟨⟨q6, m6, c6, rfl, hZ⟩, hE10⟩
    have hX := hX.ext hE10
    have hS := hS.ext hE10
    have hY := hY.ext hE10
    have hI := hI.ext hE10
    refine p1 (x_move (by conv => lhs; whnf)) ?_
    refine p1 (x_extract rfl rfl) ?_
    refine p1 (x_extract rfl rfl) ?_
    refine p1 (x_assign (by conv => lhs; whnf)) ?_
    refine p1 (x_assign (by conv => lhs; whnf)) ?_
    refine r_nil ?_
    refine t_n ?_
    refine c_seq ?_
    refine r_plain ?_
    refine p1 (x_move (by conv => lhs; whnf)) ?_
    refine p1 (x_move (by conv => lhs; whnf)) ?_
    refine o_call Try.func23 fn23 fb23 ((ref17_Same _ _ _ _ _ _ _ _ _ _ _ hZ.sl.recA hY.recA).known (c := .bool true) (congrArg Value.bool (decide_eq_true rfl))) rfl ?_
    rintro v11 w11 ⟨rfl, hE11⟩
    have hX := hX.ext hE11
    have hS := hS.ext hE11
    have hY := hY.ext hE11
    have hI := hI.ext hE11
    have hZ := hZ.ext hE11
    refine p1 (x_move (by conv => lhs; whnf)) ?_
    refine g1 70 rfl rfl (x_move (by conv => lhs; whnf)) ?_
    refine g1 70 rfl rfl (x_bytes_str u22 u5 u9 rfl hI.sl) ?_
    refine g1 70 rfl rfl (x_move (by conv => lhs; whnf)) ?_
    refine g1 70 rfl rfl (x_bytes_str u22 u5 u9 rfl (hl.ext hX)) ?_
    refine g1 70 rfl rfl ((x_eql_str rfl rfl).cast (congrArg Value.bool (decide_eq_true rfl))) ?_
    refine p1 (x_pick_t rfl (by conv => lhs; whnf)) ?_
    refine p1 (x_move (by conv => lhs; whnf)) ?_
    refine g_drop 77 rfl rfl ?_
    refine o_call Try.func24 fn24 fb24 (law17_awake _) rfl ?_
    rintro v12 w12 ⟨rfl, hE12⟩
    have hX := hX.ext hE12
    have hS := hS.ext hE12
    have hY := hY.ext hE12
    have hI := hI.ext hE12
    have hZ := hZ.ext hE12
    refine p1 (x_pick_t rfl (by conv => lhs; whnf)) ?_
    refine p1 (x_assign (by conv => lhs; whnf)) ?_
    refine r_nil ?_
    refine t_n ?_
    refine c_ret ?_
    refine end1 rfl (by conv => lhs; whnf) ?_
    exact ⟨rfl, hX⟩
end Go.Proofs.Eng
end
section
set_option linter.unusedVariables false
set_option linter.unusedSimpArgs false
namespace Go.Proofs.Eng
open Go.ChangeShapes Go.WideShapes Go.ChangeAt Go.RowKit
section
variable {H : Type} {enc : TypeId × Value → H} {P : Program} {W : World} {α : Type}
/-- .. and what its weights say of it. -/
def OpensW (enc : TypeId × Value → H) (P : Program) (W : World) (d : Kind α) (e : TypeId) (φ : α → Prop) : Prop :=
  ∀ fuel cs x, DataW.trod enc P W 0 (fun _ => true) true fuel e cs = some x → ∃ y, d.K W.heap.size W y cs ∧ ((x.1.weights P e).all (· ≤ reachBytes) = true → φ y)
theorem weightsAll_mem {e : TypeId} {p : Nat → Bool} : ∀ {ds : List (DataW H)}, (DataW.weightsAll P e ds).all p = true → ∀ d ∈ ds, (d.weights P e).all p = true
  | [], _, _, h => by simp at h
  | d :: ds, hp, x, hx => by
    unfold DataW.weightsAll at hp
    rw [List.all_append, Bool.and_eq_true] at hp
    rcases List.mem_cons.1 hx with rfl | hx
    · exact hp.1
    · exact weightsAll_mem hp.2 x hx
theorem weight_head {t : TypeId} {ts : List TypeId} {ds : List (DataW H)} {d : DataW H} (h : (DataW.weightsEach P (t :: ts) (d :: ds)).all (· ≤ reachBytes) = true) : (d.weights P t).all (· ≤ reachBytes) = true := by
  unfold DataW.weightsEach at h
  rw [List.all_append, Bool.and_eq_true] at h
  exact h.1
theorem open_slW [Inhabited α] {d : Kind α} {t e : TypeId} {φ : α → Prop} (ht : P.underlying t = some (.slice e)) (hc : P.cellsOf e = d.sz) (hO : OpensW enc P W d e φ) {fuel : Nat} {cs : List Value} {x : DataW H × List MemPlace}
    (h : DataW.trod enc P W 0 (fun _ => true) true fuel t cs = some x) : ∃ p n c xs, cs = [.slice p n c] ∧ Sl d e W.heap.size W p n c xs ∧ c ≤ maxLen ∧ (x.1 = .nil ∧ n = 0 ∨ ∃ es rs, x.1 = .slice es rs ∧ es.length = n) ∧ ((x.1.weights P t).all (· ≤ reachBytes) = true → ∀ y ∈ xs, φ y) := by
  rcases Deep.open_slice ht h with ⟨h0, h1⟩ | ⟨a, len, cap, m, n, D, Pl, rfl, hb, hl, hm, hmm, rfl, hx⟩
  · exact ⟨none, 0, 0, [], h0, Sl.nil _ _ _ _ _ _ (by omega), by unfold maxLen; omega, .inl ⟨by rw [h1], rfl⟩, fun _ y hy => by simp at hy⟩
  · have hmm : m = cap := by simpa using hmm
    subst hmm
    rw [hc] at hx
    obtain ⟨C, hC⟩ := Deep.choose_lt (α := List Value) (n := len) (p := fun i cs' => W.cells? 0 (a.add (i * d.sz)) d.sz = some cs' ∧ DataW.trod enc P W 0 (fun _ => true) true n e cs' = some (D i, Pl i)) (fun i hi => hx i (by omega))
    obtain ⟨Y, hY⟩ := Deep.choose_lt (α := α) (n := len) (p := fun i y => d.K W.heap.size W y (C i) ∧ (((D i).weights P e).all (· ≤ reachBytes) = true → φ y)) (fun i hi => hO _ _ _ (hC i hi).2)
    have hfit : m ≤ 9223372036854775807 := by unfold maxLen at hm; omega
    have cell : ∀ j v, (((List.range len).map C).flatten)[j]? = some v → W.cell? (a.add j) = some v := by
      intro j v hv
      obtain ⟨hs, hi, hr⟩ := flat_inv len j v (fun i hi => d.len (hY i hi).1) hv
      obtain ⟨_, hlen, hcell⟩ := World.cells?_some (hC _ hi).1
      have := hcell (j % d.sz) (Nat.mod_lt _ hs)
      rw [hr] at this
      have e1 : j / d.sz * d.sz + j % d.sz = j := by have := Nat.div_add_mod j d.sz; rw [Nat.mul_comm] at this; omega
      rw [Addr.add_add, e1] at this
      exact this
    have plain : ((List.range len).map C).flatten ≠ [] → a = ⟨a.block, a.off, none⟩ := by
      intro hne
      cases hfl : ((List.range len).map C).flatten with
      | nil => exact absurd hfl hne
      | cons v r =>
        have := cell 0 v (by rw [hfl]; rfl)
        rw [add_nought] at this; exact cell_plain this
    refine ⟨some a, len, m, (List.range len).map Y, rfl, ⟨by simp, hl, hfit, (List.range len).map C, all_map _ (fun i hi => (hY i (by simpa using hi)).1), ?_⟩, hm, .inr ⟨_, _, rfl, by simp⟩, ?_⟩
    · refine ⟨⟨fun hne => congrArg some (plain hne), fun j v hv => ?_⟩, fun hne => ?_⟩
      · have hp := plain (by intro e; rw [e] at hv; simp at hv)
        have := cell j v hv
        show W.cell? ⟨a.block, a.off + j, none⟩ = some v
        rw [hp, Addr.add_mid] at this
        exact this
      · left
        cases hfl : ((List.range len).map C).flatten with
        | nil => exact absurd hfl hne
        | cons v r =>
          have := World.block_lt_of_cell? W _ (cell 0 v (by rw [hfl]; rfl))
          show a.block < W.heap.size
          have e2 : (a.add 0).block = a.block := by unfold Addr.add; split <;> rfl
          rw [e2] at this; exact this
    · intro hw y hy
      obtain ⟨i, hi, rfl⟩ := List.mem_map.1 hy
      have hi' : i < len := by simpa using hi
      refine (hY i hi').2 ?_
      unfold DataW.weights at hw
      rw [ht] at hw
      simp only [List.all_cons, List.all_append, Bool.and_eq_true] at hw
      exact weightsAll_mem hw.2.1 (D i) (List.mem_map.2 ⟨i, hi, rfl⟩)
theorem arg_slW [Inhabited α] {k : Kind α} {t e : TypeId} {r : Reach} {b0 : Nat} {v : Value} {d : DataW H} {ps : List MemPlace} {φ : α → Prop} (ht : P.underlying t = some (.slice e)) (hc : P.cellsOf e = k.sz) (hO : OpensW enc P W k e φ) (hval : Value.okWide P W r b0 t v)
    (h : DataW.Trod enc P W 0 (fun _ => true) true t v d ps) : ∃ p n c xs, v = .slice p n c ∧ Sl k e W.heap.size W p n c xs ∧ c ≤ maxLen ∧ (d = .nil ∧ n = 0 ∨ ∃ es rs, d = .slice es rs ∧ es.length = n) ∧ ((d.weights P t).all (· ≤ reachBytes) = true → ∀ y ∈ xs, φ y) := by
  obtain ⟨p, n, c, rfl⟩ := okWide_slice ht hval
  obtain ⟨fuel, hf⟩ := h
  obtain ⟨p', n', c', xs, h1, h2, h3, h4, h5⟩ := open_slW ht hc hO hf
  have h1 : [Value.slice p n c] = [.slice p' n' c'] := h1
  injection h1 with h1
  injection h1 with e1 e2 e3
  subst e1 e2 e3
  exact ⟨p, n, c, xs, rfl, h2, h3, h4, h5⟩
theorem len_of_weights {t e : TypeId} {d : DataW H} {n : Nat} (ht : P.underlying t = some (.slice e)) (hb : P.bytesOf e = 32) (h : (d.weights P t).all (· ≤ reachBytes) = true) (hd : d = .nil ∧ n = 0 ∨ ∃ es rs, d = .slice es rs ∧ es.length = n) : n * 32 ≤ 140737488351232 := by
  rcases hd with ⟨_, rfl⟩ | ⟨es, rs, rfl, rfl⟩
  · omega
  · unfold DataW.weights at h
    rw [ht] at h
    simp only [List.all_cons, Bool.and_eq_true, decide_eq_true_eq, hb] at h
    have h2 : (es.length + rs.length) * 32 ≤ 140737488351232 := h.1
    omega
/-- A branch among the arguments. -/
theorem opens_brA {t : TypeId} {f0 f1 : Field} (ht : P.underlying t = some (.struct #[f0, f1])) (hs : P.underlying f0.type = some .string) (hl : P.underlying f1.type = some (.slice 35)) (o0 : f0.offset = 0) (o1 : f1.offset = 1) (c0 : P.cellsOf f0.type = 1) (c1 : P.cellsOf f1.type = 1) (ct : P.cellsOf t = 2)
    (ce : P.cellsOf 35 = kHash.sz) (hb : P.bytesOf 35 = 32) (hO : Opens enc P W kHash 35) : OpensW enc P W kBrA t (fun y => y.1.size ≤ maxLen ∧ y.2.length * 32 ≤ 140737488351232) := by
  intro fuel cs x h
  obtain ⟨xs, n, rfl, rfl, hlen, hxl, hx⟩ := DataW.trod_struct ht h
  rw [ct] at hlen
  match cs, hlen with
  | [a, b], _ =>
    have hx0 := hx 0 f0 rfl
    have hx1 := hx 1 f1 rfl
    rw [o0, c0] at hx0
    rw [o1, c1] at hx1
    have hxl : xs.length = 2 := hxl
    match xs, hxl with
    | [y0, y1], _ =>
      obtain ⟨s, e0, _, hw⟩ := DataW.trod_string hs hx0
      have q0 : a = .string s := by simpa using e0
      obtain ⟨p, m, c, hsl, e1, h2, _, h4⟩ := open_sl hl ce hO hx1
      have q1 : b = .slice p m c := by simpa using e1
      clear e0 e1
      subst q0 q1
      refine ⟨(s, hsl), ⟨p, m, c, rfl, h2⟩, fun hwt => ⟨hw, ?_⟩⟩
      unfold DataW.weights at hwt
      rw [ht] at hwt
      have hwt' : (DataW.weightsEach P [f0.type, f1.type] [y0.1, y1.1]).all (· ≤ reachBytes) = true := hwt
      have := len_of_weights hl hb (weight_head (weight_tail hwt')) h4
      show hsl.length * 32 ≤ _
      rw [h2.len]; exact this
end
end Go.Proofs.Eng
end
section
set_option linter.unusedVariables false
set_option linter.unusedSimpArgs false
namespace Go.Proofs.Eng
open Go.ChangeShapes Go.WideShapes Go.ChangeAt Go.RowKit
section
variable {H : Type} {enc : TypeId × Value → H} {P : Program} {W : World} {α : Type}
/-- What the weights say of a record. -/
def recW (x : Rec) : Prop := (x.1.size ≤ maxLen) ∧ ∀ y ∈ x.2.1, y.1.size ≤ maxLen ∧ y.2.length * 32 ≤ 140737488351232
/-- A record among the arguments. -/
theorem opens_recA {t : TypeId} {f0 f1 f2 : Field} (ht : P.underlying t = some (.struct #[f0, f1, f2])) (hs : P.underlying f0.type = some .string) (hl : P.underlying f1.type = some (.slice 81)) (hm : P.underlying f2.type = some (.slice 35)) (o0 : f0.offset = 0) (o1 : f1.offset = 1) (o2 : f2.offset = 2) (c0 : P.cellsOf f0.type = 1) (c1 : P.cellsOf f1.type = 1) (c2 : P.cellsOf f2.type = 1) (ct : P.cellsOf t = 3)
    (cb : P.cellsOf 81 = kBrA.sz) (ce : P.cellsOf 35 = kHash.sz) (hB : OpensW enc P W kBrA 81 (fun y => y.1.size ≤ maxLen ∧ y.2.length * 32 ≤ 140737488351232)) (hO : Opens enc P W kHash 35) : OpensW enc P W kRecA t recW := by
  intro fuel cs x h
  obtain ⟨xs, n, rfl, rfl, hlen, hxl, hx⟩ := DataW.trod_struct ht h
  rw [ct] at hlen
  match cs, hlen with
  | [a, b, b2], _ =>
    have hx0 := hx 0 f0 rfl
    have hx1 := hx 1 f1 rfl
    have hx2 := hx 2 f2 rfl
    rw [o0, c0] at hx0
    rw [o1, c1] at hx1
    rw [o2, c2] at hx2
    have hxl : xs.length = 3 := hxl
    match xs, hxl with
    | [y0, y1, y2], _ =>
      obtain ⟨s, e0, _, hw⟩ := DataW.trod_string hs hx0
      have q0 : a = .string s := by simpa using e0
      obtain ⟨p, m, c, brs, e1, h2, _, _, h5⟩ := open_slW hl cb hB hx1
      have q1 : b = .slice p m c := by simpa using e1
      obtain ⟨p2, m2, c2, hsl, e2, h3, _, _⟩ := open_sl hm ce hO hx2
      have q2 : b2 = .slice p2 m2 c2 := by simpa using e2
      clear e0 e1 e2
      subst q0 q1 q2
      refine ⟨(s, brs, hsl), ⟨p, m, c, p2, m2, c2, rfl, h2, h3⟩, fun hwt => ⟨hw, ?_⟩⟩
      unfold DataW.weights at hwt
      rw [ht] at hwt
      have hwt' : (DataW.weightsEach P [f0.type, f1.type, f2.type] [y0.1, y1.1, y2.1]).all (· ≤ reachBytes) = true := hwt
      exact h5 (weight_head (weight_tail hwt'))
theorem recW_k {l : List Rec} (h : ∀ x ∈ l, recW x) : ∀ x ∈ l, x.1.size ≤ 9223372036854775807 ∧ ∀ y ∈ x.2.1, y.1.size ≤ 9223372036854775807 :=
  fun x hx => ⟨by have := (h x hx).1; unfold maxLen at this; omega, fun y hy => by have := ((h x hx).2 y hy).1; unfold maxLen at this; omega⟩
theorem recW_h {l : List Rec} (h : ∀ x ∈ l, recW x) : ∀ x ∈ l, ∀ y ∈ x.2.1, y.2.length ≤ 4398046511104 := fun x hx y hy => by have := ((h x hx).2 y hy).2; omega
end
end Go.Proofs.Eng
end
section
set_option linter.unusedVariables false
set_option linter.unusedSimpArgs false
set_option maxRecDepth 100000
set_option maxHeartbeats 4000000
namespace Go.Proofs.Eng
open Go.RowKit
open Extern.Stop (cell)
theorem slices_Concat_hash_grow (m : Nat) (w : World) (hs : m ≤ 4194304000) :
    Ret Try.prog 126 [.slice none 0 0, .int .i64 (m : Int)] w (fun v w' => (∃ p c', v = .slice p 0 c' ∧ Own kHash 35 0 w.heap.size w' p 0 c' []) ∧ Ext w w') := by
  have hX := Ext.refl w
  refine enter 27 _ Try.func126 rfl rfl (Nat.le_of_ble_eq_true rfl) ?_
  refine c_seq ?_
  refine r_plain ?_
  refine p1 (x_assign (by conv => lhs; whnf)) ?_
  refine r_nil ?_
  refine t_n ?_
  refine c_seq ?_
  refine c_seq ?_
  refine r_plain ?_
  refine p1 (x_move (by conv => lhs; whnf)) ?_
  refine p1 ((x_lss rfl rfl).cast (congrArg _ (decide_eq_false (by omega)))) ?_
  refine r_nil ?_
  refine t_n ?_
  refine c_f rfl ?_
  refine c_skip ?_
  refine t_n ?_
  refine c_seq ?_
  refine c_seq ?_
  refine r_plain ?_
  refine p1 (x_move (by conv => lhs; whnf)) ?_
  refine p1 (x_move (by conv => lhs; whnf)) ?_
  refine p1 (x_cap_slice u31 rfl) ?_
  refine p1 (x_move (by conv => lhs; whnf)) ?_
  refine p1 (x_len_slice u31 rfl) ?_
  refine p1 (x_sub rfl rfl (fits_i64 (by omega) (by omega))) ?_
  refine p1 ((x_sub rfl rfl (fits_i64 (by omega) (by omega))).cast (congrArg (Value.int .i64) (show _ = (m : Int) by omega))) ?_
  refine p1 (x_assign (by conv => lhs; whnf)) ?_
  refine r_nil ?_
  refine t_n ?_
  refine c_seq ?_
  refine r_plain ?_
  refine p1 (x_move (by conv => lhs; whnf)) ?_
  refine p1 (x_gtr rfl rfl) ?_
  refine r_nil ?_
  refine t_n ?_
  first | refine c_dec rfl (fun hc16 => ?_) (fun hc16 => ?_) | refine c_if rfl (fun hc16 => ?_) (fun hc16 => ?_)
  · try simp only [decide_eq_true_eq, decide_eq_false_iff_not, Bool.not_eq_true, Bool.not_eq_false, Bool.not_eq_eq_eq_not, Bool.not_true, Bool.not_false, Int.not_lt, Int.not_le] at hc16
    refine r_plain ?_
    refine p1 (x_move (by conv => lhs; whnf)) ?_
    refine p1 (x_move (by conv => lhs; whnf)) ?_
    refine p1 (x_cap_slice u31 rfl) ?_
    refine p1 (x_slice_hN u31 sz35 rfl rfl (Nat.le_refl _)) ?_
    refine p1 (x_move (by conv => lhs; whnf)) ?_
    have hXs := hX.size
    refine o_growNil (kHash) (m := m) u31 u3 inf35 rfl kHash_pos rfl rfl (by omega) (by omega) (by omega) ?_
    intro p22 c22 w1 hK22 hge22 hE1
    have hX := hX.ext hE1
    have hO := hK22 0 w.heap.size (hXs)
    refine p1 (x_move (by conv => lhs; whnf)) ?_
    refine p1 (x_len_slice u31 rfl) ?_
    refine p1 (x_slice_hN u31 sz35 rfl rfl (Nat.zero_le _)) ?_
    refine p1 (x_assign (by conv => lhs; whnf)) ?_
    refine r_nil ?_
    refine t_n ?_
    refine c_seq ?_
    refine r_plain ?_
    refine p1 (x_move (by conv => lhs; whnf)) ?_
    refine p1 (x_assign (by conv => lhs; whnf)) ?_
    refine r_nil ?_
    refine t_n ?_
    refine c_ret ?_
    refine end1 rfl (by conv => lhs; whnf) ?_
    first | exact ⟨⟨_, _, rfl, hO⟩, hX⟩ | exact ⟨⟨_, _, rfl, Own.nil _ _ _ _ _⟩, hX⟩
  · try simp only [decide_eq_true_eq, decide_eq_false_iff_not, Bool.not_eq_true, Bool.not_eq_false, Bool.not_eq_eq_eq_not, Bool.not_true, Bool.not_false, Int.not_lt, Int.not_le] at hc16
    refine c_skip ?_
    refine t_n ?_
    refine c_seq ?_
    refine r_plain ?_
    refine p1 (x_move (by conv => lhs; whnf)) ?_
    refine p1 (x_assign (by conv => lhs; whnf)) ?_
    refine r_nil ?_
    refine t_n ?_
    refine c_ret ?_
    refine end1 rfl (by conv => lhs; whnf) ?_
    first | exact ⟨⟨_, _, rfl, hO⟩, hX⟩ | exact ⟨⟨_, _, rfl, Own.nil _ _ _ _ _⟩, hX⟩
theorem slices_Concat_hash {B : Nat} (xss : List _) (p : Option Addr) (n c : Nat) (w : World) (hl : Sl (kSl kHash 35) 31 B w p n c xss) (hs : xss.flatten.length ≤ 4194304000) :
    Ret Try.prog 106 [.slice p n c] w (fun v w' => (∃ q m c', v = .slice q m c' ∧ Own kHash 35 0 w.heap.size w' q m c' xss.flatten) ∧ Ext w w') := by
  have hX := Ext.refl w
  refine enter 36 _ Try.func106 rfl rfl (Nat.le_of_ble_eq_true rfl) ?_
  refine c_seq ?_
  refine r_plain ?_
  refine p1 (x_assign (by conv => lhs; whnf)) ?_
  refine r_nil ?_
  refine t_n ?_
  refine c_seq ?_
  refine r_plain ?_
  refine p1 (x_assign (by conv => lhs; whnf)) ?_
  refine r_nil ?_
  refine t_n ?_
  refine c_seq ?_
  refine c_seq ?_
  refine r_plain ?_
  refine p1 (x_move (by conv => lhs; whnf)) ?_
  refine p1 (x_len_slice u151 rfl) ?_
  refine p1 (x_move (by conv => lhs; whnf)) ?_
  refine r_nil ?_
  refine t_n ?_
  refine c_block ?_
  have hWL0 := Ext.refl w
  have hlen := hl.len
  have hfit := hl.fit
  have hcap := hl.cap
  refine c_loop (ι := Nat) [3, 5, 11, 12, 13, 14, 15, 16, 17, 18, 19, 20, 21, 22] (fun k => [(3, .int .i64 (((xss.take k).flatten.length : Nat) : Int)), (11, .int .i64 (k : Int))]) (fun k w' => Ext w w' ∧ (k ≤ n)) (fun k => n - k) (0) ⟨rfl, rfl, trivial⟩ ⟨Ext.refl _, by omega⟩ ?_
  rintro k GL0 w1 ⟨hE1, hL⟩
  have hX := hX.ext hE1
  have hWL0 := hE1
  refine c_seq ?_
  refine r_plain ?_
  refine p1 (x_lss rfl rfl) ?_
  refine r_nil ?_
  refine t_n ?_
  refine c_seq ?_
  first | refine c_dec rfl (fun hc12 => ?_) (fun hc12 => ?_) | refine c_if rfl (fun hc12 => ?_) (fun hc12 => ?_)
  · try simp only [decide_eq_true_eq, decide_eq_false_iff_not, Bool.not_eq_true, Bool.not_eq_false, Bool.not_eq_eq_eq_not, Bool.not_true, Bool.not_false, Int.not_lt, Int.not_le] at hc12
    refine c_skip ?_
    refine t_n ?_
    refine c_seq ?_
    refine c_block ?_
    refine c_seq ?_
    obtain ⟨q1, m1, c1, hcell1, hS1⟩ := (hl.ext hX).slAt k (by omega)
    have hS1l := hS1.len
    have hadd := flat_take_add (xss := xss) (k := k) (by omega)
    have hsuc := congrArg List.length (flat_take_succ (xss := xss) (k := k) (by omega))
    rw [List.length_append] at hsuc
    refine r_plain ?_
    refine p1 (x_ixs0 u151 sz31 rfl rfl ((hl.ext hX).adr kSl_pos (by omega)) (by omega)) ?_
    refine p1 (x_load1 un31 rfl hcell1) ?_
    refine p1 (x_assign (by conv => lhs; whnf)) ?_
    refine r_nil ?_
    refine t_n ?_
    refine c_seq ?_
    refine r_plain ?_
    refine p1 (x_move (by conv => lhs; whnf)) ?_
    refine p1 (x_move (by conv => lhs; whnf)) ?_
    refine p1 (x_len_slice u31 rfl) ?_
    refine p1 ((x_add rfl rfl (fits_i64 (by omega) (by omega))).cast (congrArg (Value.int .i64) (show _ = (((xss.take (k + 1)).flatten.length : Nat) : Int) by omega))) ?_
    refine p1 (x_assign (by conv => lhs; whnf)) ?_
    refine r_nil ?_
    refine t_n ?_
    refine c_seq ?_
    refine r_plain ?_
    refine p1 (x_move (by conv => lhs; whnf)) ?_
    refine p1 ((x_lss rfl rfl).cast (congrArg _ (decide_eq_false (by omega)))) ?_
    refine r_nil ?_
    refine t_n ?_
    refine c_f rfl ?_
    refine c_skip ?_
    refine b_n ?_
    refine t_n ?_
    refine r_plain ?_
    refine p1 (x_add rfl rfl (fits_i64 (by omega) (by omega))) ?_
    refine p1 (x_move (by conv => lhs; whnf)) ?_
    refine r_nil ?_
    refine t_n (At.mk (k + 1) (by repeat (first | exact Agr.refl _ _ | exact Agr.hav _ _ _ | refine Agr.upd rfl ?_ | refine Agr.updL ?_ _ rfl | refine Agr.hav' rfl ?_)) ⟨rfl, rfl, trivial⟩ ?_)
    exact ⟨⟨hWL0, by omega⟩, by first | (dsimp only; omega) | ((show _ < _); omega)⟩
  · try simp only [decide_eq_true_eq, decide_eq_false_iff_not, Bool.not_eq_true, Bool.not_eq_false, Bool.not_eq_eq_eq_not, Bool.not_true, Bool.not_false, Int.not_lt, Int.not_le] at hc12
    refine c_exit ?_
    refine t_e ?_
    refine t_e ?_
    refine b_hit ?_
    refine t_n ?_
    refine c_seq ?_
    have hle9 := flat_take_le xss k
    have hXs := hX.size
    refine r_plain ?_
    refine p1 (x_move (by conv => lhs; whnf)) ?_
    refine o_call Try.func126 fn126 fb126 (slices_Concat_hash_grow ((xss.take k).flatten.length : Nat) _ (by omega)) rfl ?_
    rintro v2 w2 ⟨⟨pG, cG, rfl, hO⟩, hE2⟩
    have hX := hX.ext hE2
    have hO := hO.lower hXs
    refine p1 (x_assign (by conv => lhs; whnf)) ?_
    refine r_nil ?_
    refine t_n ?_
    refine c_seq ?_
    refine c_seq ?_
    refine r_plain ?_
    refine p1 (x_move (by conv => lhs; whnf)) ?_
    refine p1 (x_len_slice u151 rfl) ?_
    refine p1 (x_move (by conv => lhs; whnf)) ?_
    refine r_nil ?_
    refine t_n ?_
    refine c_block ?_
    refine c_loop (ι := Nat × Option Addr × Nat × Nat) [6, 8, 27, 28, 29, 30, 31, 32, 33, 34] (fun (k2, q, m, c2) => [(6, .slice q m c2), (27, .int .i64 (k2 : Int))]) (fun (k2, q, m, c2) w' => Ext w w' ∧ (Own kHash 35 0 w.heap.size w' q m c2 (xss.take k2).flatten ∧ k2 ≤ n)) (fun (k2, q, m, c2) => n - k2) ((0, pG, 0, cG)) ⟨rfl, rfl, trivial⟩ ⟨hX, ⟨by simpa using hO, by omega⟩⟩ ?_
    rintro ⟨k2, q, m, c2⟩ GL2 w3 ⟨hE3, hO, hk2⟩
    have hX := hE3
    refine c_seq ?_
    refine r_plain ?_
    refine p1 (x_lss rfl rfl) ?_
    refine r_nil ?_
    refine t_n ?_
    refine c_seq ?_
    first | refine c_dec rfl (fun hc28 => ?_) (fun hc28 => ?_) | refine c_if rfl (fun hc28 => ?_) (fun hc28 => ?_)
    · try simp only [decide_eq_true_eq, decide_eq_false_iff_not, Bool.not_eq_true, Bool.not_eq_false, Bool.not_eq_eq_eq_not, Bool.not_true, Bool.not_false, Int.not_lt, Int.not_le] at hc28
      refine c_skip ?_
      refine t_n ?_
      refine c_seq ?_
      refine c_block ?_
      refine c_seq ?_
      obtain ⟨q2, m2, c3, hcell2, hS2⟩ := (hl.ext hX).slAt k2 (by omega)
      have hS2l := hS2.len
      have hOl := hO.len
      have hadd2 := flat_take_add (xss := xss) (k := k2) (by omega)
      refine r_plain ?_
      refine p1 (x_ixs0 u151 sz31 rfl rfl ((hl.ext hX).adr kSl_pos (by omega)) (by omega)) ?_
      refine p1 (x_load1 un31 rfl hcell2) ?_
      refine p1 (x_assign (by conv => lhs; whnf)) ?_
      refine r_nil ?_
      refine t_n ?_
      refine r_plain ?_
      refine p1 (x_move (by conv => lhs; whnf)) ?_
      refine p1 (x_move (by conv => lhs; whnf)) ?_
      have hq1 := hX.size
      refine o_append (d := kHash) (xss.getD k2 []) u31 inf35 rfl kHash_pos rfl rfl hO (src_pure u31 hS2 (by decide)) hS2.len (hash_all _ _ _) (rfl) (by omega) (by omega) (by omega) (by omega) (by decide) ?_
      intro p33 c33 w4 hO hM4
      have hX := hX.mod hM4 (Nat.le_refl _)
      refine p1 (x_assign (by conv => lhs; whnf)) ?_
      refine r_nil ?_
      refine b_n ?_
      refine t_n ?_
      refine r_plain ?_
      refine p1 (x_add rfl rfl (fits_i64 (by omega) (by omega))) ?_
      refine p1 (x_move (by conv => lhs; whnf)) ?_
      refine r_nil ?_
      refine t_n (At.mk ((k2 + 1, p33, m + m2, c33)) (by repeat (first | exact Agr.refl _ _ | exact Agr.hav _ _ _ | refine Agr.upd rfl ?_ | refine Agr.updL ?_ _ rfl | refine Agr.hav' rfl ?_)) ⟨rfl, rfl, trivial⟩ ?_)
      exact ⟨⟨hX, ⟨by rw [flat_take_succ (by omega)]; exact hO, by omega⟩⟩, by first | (dsimp only; omega) | ((show _ < _); omega)⟩
    · try simp only [decide_eq_true_eq, decide_eq_false_iff_not, Bool.not_eq_true, Bool.not_eq_false, Bool.not_eq_eq_eq_not, Bool.not_true, Bool.not_false, Int.not_lt, Int.not_le] at hc28
      have hkn : k2 = n := by omega
      rw [hkn, List.take_of_length_le (by omega)] at hO
      refine c_exit ?_
      refine t_e ?_
      refine t_e ?_
      refine b_hit ?_
      refine t_n ?_
      refine c_seq ?_
      refine r_plain ?_
      refine p1 (x_move (by conv => lhs; whnf)) ?_
      refine p1 (x_assign (by conv => lhs; whnf)) ?_
      refine r_nil ?_
      refine t_n ?_
      refine c_ret ?_
      refine end1 rfl (by conv => lhs; whnf) ?_
      exact ⟨⟨_, _, _, rfl, hO⟩, hX⟩
theorem hashes_Union (xs ys : List Hash) (B B2 : Nat) (p q : Option Addr) (n c m c2 : Nat) (w : World) (ha : Sl kHash 35 B w p n c xs) (hb : Sl kHash 35 B2 w q m c2 ys) (hs : n ≤ 2097152000) (hs2 : m ≤ 2097152000) :
    Ret Try.prog 56 [.slice p n c, .slice q m c2] w (fun v w' => (∃ q1 m1 c1, v = .slice q1 m1 c1 ∧ m1 ≤ n + m ∧ Own kHash 35 0 w.heap.size w' q1 m1 c1 (srt (xs ++ ys))) ∧ Ext w w') := by
  have hX := Ext.refl w
  refine enter 10 _ Try.func56 rfl rfl (Nat.le_of_ble_eq_true rfl) ?_
  refine c_seq ?_
  refine r_plain ?_
  refine p1 (x_assign (by conv => lhs; whnf)) ?_
  refine r_nil ?_
  refine t_n ?_
  refine c_seq ?_
  refine r_plain ?_
  refine p1 (x_move (by conv => lhs; whnf)) ?_
  refine p1 (x_move (by conv => lhs; whnf)) ?_
  have hla := ha.len
  have hlb := hb.len
  refine o_buildSlice u151 inf31 rfl (by decide) (fun base hb => fill_kn [.slice p n c, .slice q m c2] (by intro v hv'; simp only [List.mem_cons, List.not_mem_nil, or_false] at hv'; rcases hv' with rfl | rfl <;> rfl) base hb) ?_
  intro w1 g7 hN7
  have hE1 := hN7.ext
  have hX := hX.ext hE1
  have hI : Own (kSl kHash 35) 31 (B + B2) 0 w1 (some ⟨g7, 0, none⟩) 2 2 [xs, ys] := Own.made _ 31 (B + B2) 0 hN7 [xs, ys] [[.slice p n c], [.slice q m c2]] 2 2 rfl ⟨⟨_, _, _, rfl, (ha.mono (by omega)).ext hX⟩, ⟨_, _, _, rfl, (hb.mono (by omega)).ext hX⟩, trivial⟩ (Nat.zero_le _) (by omega) (by omega) rfl rfl
  have hXs := hX.size
  refine o_call Try.func106 fn106 fb106 (slices_Concat_hash [xs, ys] _ _ _ _ hI.sl (by simp; omega)) rfl ?_
  rintro v2 w2 ⟨⟨q3, m3, c3, rfl, hO⟩, hE2⟩
  have hX := hX.ext hE2
  have hO := hO.lower hXs
  have hOl := hO.len
  simp only [List.flatten_cons, List.flatten_nil, List.append_nil, List.length_append] at hO hOl
  have hXs := hX.size
  refine o_call Try.func35 fn35 fb35 (hashes_Sort (xs ++ ys) _ _ _ _ _ hO.sl (by omega)) rfl ?_
  rintro v3 w3 ⟨⟨q4, m4, c4, rfl, hm4, hS⟩, hE3⟩
  have hX := hX.ext hE3
  have hO := hO.ext hE3
  have hS := hS.lower hXs
  refine p1 (x_assign (by conv => lhs; whnf)) ?_
  refine r_nil ?_
  refine t_n ?_
  refine c_ret ?_
  refine end1 rfl (by conv => lhs; whnf) ?_
  exact ⟨⟨_, _, _, rfl, by omega, hS⟩, hX⟩
end Go.Proofs.Eng
end
section
set_option linter.unusedVariables false
set_option linter.unusedSimpArgs false
set_option maxRecDepth 100000
set_option maxHeartbeats 4000000
namespace Go.Proofs.Eng
open Go.RowKit
open Extern.Stop (cell)
theorem putI_names {l : List Rec} {b : List UInt8} (h : putI l = (b, 0)) : ∀ x ∈ l, x.1.size ≤ 9223372036854775807 ∧ ∀ y ∈ x.2.1, y.1.size ≤ 9223372036854775807 := by
  obtain ⟨h1, _⟩ := putI_ok (l := l) (by rw [h])
  intro x hx
  have h2 := h1 x hx
  exact ⟨by have := name_size h2.1; omega, fun y hy => by have := name_size (h2.2.1.2.2 y hy).1; omega⟩
theorem putI_small {l : List Rec} (h : (putI l).2 = 0) : (putI l).1.length ≤ 524288 ∧ (putI l).1.length ≠ 0 := by
  obtain ⟨_, _, _, h4, h5⟩ := putI_ok h
  rw [h4]; exact ⟨h5, Nat.pos_iff_ne_zero.1 (outB_pos l)⟩
theorem putI_err {l : List Rec} (h : (putI l).2 ≠ 0) : (putI l).1 = [] := by
  unfold putI at h ⊢
  by_cases h1 : 64 < l.length ∨ ¬ recsOk l
  · rw [if_pos h1]
  · rw [if_neg h1] at h ⊢
    by_cases h2 : 524288 < (outB l).length
    · rw [if_pos h2]
    · rw [if_neg h2] at h; exact absurd rfl h
theorem law_IndexBack (l : List Rec) (raw : List UInt8) (B B2 : Nat) (p q : Option Addr) (n c m c2 : Nat) (w : World) (hl : Sl kRecA 33 B w p n c l) (hr : Sl kByte 5 B2 w q m c2 raw) (hkk : ∀ x ∈ l, x.1.size ≤ 9223372036854775807 ∧ ∀ y ∈ x.2.1, y.1.size ≤ 9223372036854775807) (hs : m ≤ 140737490000000) :
    Ret Try.prog 5 [.slice p n c, .slice q m c2] w (fun v w' => v = .bool true ∧ Ext w w') := by
  have hX := Ext.refl w
  refine enter 105 _ Try.func5 rfl rfl (Nat.le_of_ble_eq_true rfl) ?_
  refine c_seq ?_
  refine r_plain ?_
  refine p1 (x_assign (by conv => lhs; whnf)) ?_
  refine r_nil ?_
  refine t_n ?_
  refine c_seq ?_
  refine r_plain ?_
  refine p1 (x_move (by conv => lhs; whnf)) ?_
  refine o_call Try.func21 fn21 fb21 (index_Get raw _ _ _ _ _ (hr.ext hX) hs) rfl ?_
  rintro v1 w1 ⟨⟨q3, m3, c3, rfl, hG⟩, hE1⟩
  have hX := hX.ext hE1
  refine p1 (x_move (by conv => lhs; whnf)) ?_
  refine p1 (x_extract rfl rfl) ?_
  refine p1 (x_extract rfl rfl) ?_
  refine p1 (x_assign (by conv => lhs; whnf)) ?_
  refine p1 (x_assign (by conv => lhs; whnf)) ?_
  refine r_nil ?_
  refine t_n ?_
  refine c_seq ?_
  refine c_seq ?_
  refine r_plain ?_
  refine p1 (x_move (by conv => lhs; whnf)) ?_
  refine p1 (x_eql rfl rfl) ?_
  refine r_nil ?_
  refine t_n ?_
  first | refine c_dec rfl (fun hc23 => ?_) (fun hc23 => ?_) | refine c_if rfl (fun hc23 => ?_) (fun hc23 => ?_)
  · try simp only [decide_eq_true_eq, decide_eq_false_iff_not, Bool.not_eq_true, Bool.not_eq_false, Bool.not_eq_eq_eq_not, Bool.not_true, Bool.not_false, Int.not_lt, Int.not_le] at hc23
    have hpr := getI_ok (b := raw) hc23
    refine c_seq ?_
    refine r_plain ?_
    refine p1 (x_move (by conv => lhs; whnf)) ?_
    refine o_call Try.func27 fn27 fb27 (index_Put _ _ _ _ _ _ hG.sl.recA (putI_names hpr)) rfl ?_
    rintro v2 w2 ⟨⟨q4, m4, c4, rfl, hU⟩, hE2⟩
    have hX := hX.ext hE2
    refine p1 (x_move (by conv => lhs; whnf)) ?_
    refine p1 (x_extract rfl rfl) ?_
    refine p1 (x_extract rfl rfl) ?_
    refine p1 (x_assign (by conv => lhs; whnf)) ?_
    refine p1 (x_assign (by conv => lhs; whnf)) ?_
    refine r_nil ?_
    refine t_n ?_
    refine c_seq ?_
    refine r_plain ?_
    refine p1 (x_move (by conv => lhs; whnf)) ?_
    refine p1 ((x_neq rfl rfl).cast (congrArg Value.bool (decide_eq_false (by rw [hpr]; simp)))) ?_
    refine p1 (x_move (by conv => lhs; whnf)) ?_
    refine g1 31 rfl rfl (x_move (by conv => lhs; whnf)) ?_
    refine g1 31 rfl rfl (x_bytes_str u22 u5 u9 rfl hU.sl) ?_
    refine g1 31 rfl rfl (x_move (by conv => lhs; whnf)) ?_
    refine g1 31 rfl rfl (x_bytes_str u22 u5 u9 rfl (hr.ext hX)) ?_
    refine g1 31 rfl rfl ((x_neq_str rfl rfl).cast (congrArg Value.bool (decide_eq_false (by rw [hpr]; simp)))) ?_
    refine p1 (x_pick_f rfl (by conv => lhs; whnf)) ?_
    refine r_nil ?_
    refine t_n ?_
    refine c_f rfl ?_
    refine c_skip ?_
    refine t_n ?_
    refine c_seq ?_
    refine c_seq ?_
    refine r_plain ?_
    refine p1 (x_move (by conv => lhs; whnf)) ?_
    refine o_call Try.func25 fn25 fb25 (law17_few l _ _ _ _ _ (hl.ext hX)) rfl ?_
    rintro v3 w3 ⟨⟨bf, rfl, hfew⟩, hE3⟩
    have hX := hX.ext hE3
    first | refine p1 (x_notd rfl) ?_ | refine p1 (x_not rfl) ?_
    refine r_nil ?_
    refine t_n ?_
    first | refine c_dec rfl (fun hc40 => ?_) (fun hc40 => ?_) | refine c_if rfl (fun hc40 => ?_) (fun hc40 => ?_)
    · try simp only [decide_eq_true_eq, decide_eq_false_iff_not, Bool.not_eq_true, Bool.not_eq_false, Bool.not_eq_eq_eq_not, Bool.not_true, Bool.not_false, Int.not_lt, Int.not_le] at hc40
      refine c_seq ?_
      refine r_plain ?_
      refine o_call Try.func24 fn24 fb24 (law17_awake _) rfl ?_
      rintro v4 w4 ⟨rfl, hE4⟩
      have hX := hX.ext hE4
      refine p1 (x_assign (by conv => lhs; whnf)) ?_
      refine r_nil ?_
      refine t_n ?_
      refine c_ret ?_
      refine t_r ?_
      refine end1 rfl (by conv => lhs; whnf) ?_
      exact ⟨rfl, hX⟩
    · try simp only [decide_eq_true_eq, decide_eq_false_iff_not, Bool.not_eq_true, Bool.not_eq_false, Bool.not_eq_eq_eq_not, Bool.not_true, Bool.not_false, Int.not_lt, Int.not_le] at hc40
      obtain ⟨hfw, hmm⟩ := hfew (by cases bf <;> simp_all)
      refine c_skip ?_
      refine t_n ?_
      refine c_seq ?_
      refine r_plain ?_
      refine p1 (x_move (by conv => lhs; whnf)) ?_
      refine o_call Try.func27 fn27 fb27 (index_Put l _ _ _ _ _ (hl.ext hX) hkk) rfl ?_
      rintro v5 w5 ⟨⟨q9, m9, c9, rfl, hP⟩, hE5⟩
      have hX := hX.ext hE5
      have hPl := hP.len
      refine p1 (x_move (by conv => lhs; whnf)) ?_
      refine p1 (x_extract rfl rfl) ?_
      refine p1 (x_extract rfl rfl) ?_
      refine p1 (x_assign (by conv => lhs; whnf)) ?_
      refine p1 (x_assign (by conv => lhs; whnf)) ?_
      refine r_nil ?_
      refine t_n ?_
      refine c_seq ?_
      refine c_seq ?_
      refine r_plain ?_
      refine p1 (x_move (by conv => lhs; whnf)) ?_
      refine p1 (x_neq rfl rfl) ?_
      refine r_nil ?_
      refine t_n ?_
      first | refine c_dec rfl (fun hc48 => ?_) (fun hc48 => ?_) | refine c_if rfl (fun hc48 => ?_) (fun hc48 => ?_)
      · try simp only [decide_eq_true_eq, decide_eq_false_iff_not, Bool.not_eq_true, Bool.not_eq_false, Bool.not_eq_eq_eq_not, Bool.not_true, Bool.not_false, Int.not_lt, Int.not_le] at hc48
        have hpe := putI_err hc48
        have hm0 : m9 = 0 := by rw [← hPl, hpe]; rfl
        refine c_seq ?_
        refine r_plain ?_
        refine p1 (x_move (by conv => lhs; whnf)) ?_
        refine o_call Try.func29 fn29 fb29 (index_Check l _ _ _ _ _ (hl.ext hX) hkk) rfl ?_
        rintro v6 w6 ⟨rfl, hE6⟩
        have hX := hX.ext hE6
        have hP := hP.ext hE6
        refine p1 (x_move (by conv => lhs; whnf)) ?_
        refine p1 ((x_eql rfl rfl).cast (congrArg _ (decide_eq_true rfl))) ?_
        refine p1 (x_move (by conv => lhs; whnf)) ?_
        refine g1 53 rfl rfl (x_move (by conv => lhs; whnf)) ?_
        refine g1 53 rfl rfl (x_len_slice u22 rfl) ?_
        refine g1 53 rfl rfl ((x_eql rfl rfl).cast (congrArg Value.bool (decide_eq_true (by omega)))) ?_
        refine p1 (x_pick_t rfl (by conv => lhs; whnf)) ?_
        refine p1 (x_move (by conv => lhs; whnf)) ?_
        refine g_drop 58 rfl rfl ?_
        refine o_call Try.func24 fn24 fb24 (law17_awake _) rfl ?_
        rintro v7 w7 ⟨rfl, hE7⟩
        have hX := hX.ext hE7
        have hP := hP.ext hE7
        refine p1 (x_pick_t rfl (by conv => lhs; whnf)) ?_
        refine p1 (x_assign (by conv => lhs; whnf)) ?_
        refine r_nil ?_
        refine t_n ?_
        refine c_ret ?_
        refine t_r ?_
        refine end1 rfl (by conv => lhs; whnf) ?_
        exact ⟨rfl, hX⟩
      · try simp only [decide_eq_true_eq, decide_eq_false_iff_not, Bool.not_eq_true, Bool.not_eq_false, Bool.not_eq_eq_eq_not, Bool.not_true, Bool.not_false, Int.not_lt, Int.not_le] at hc48
        have hpo : (putI l).2 = 0 := Classical.byContradiction hc48
        have hps := putI_small hpo
        have hgi := getI_put hpo
        refine c_skip ?_
        refine t_n ?_
        refine c_seq ?_
        refine c_seq ?_
        refine r_plain ?_
        refine p1 (x_move (by conv => lhs; whnf)) ?_
        refine p1 (x_len_slice u22 rfl) ?_
        refine p1 ((x_eql rfl rfl).cast (congrArg Value.bool (decide_eq_false (by omega)))) ?_
        refine r_nil ?_
        refine t_n ?_
        refine c_f rfl ?_
        refine c_skip ?_
        refine t_n ?_
        refine c_seq ?_
        refine r_plain ?_
        refine p1 (x_move (by conv => lhs; whnf)) ?_
        refine o_call Try.func21 fn21 fb21 (index_Get _ _ _ _ _ _ hP.sl (by omega)) rfl ?_
        rintro v8 w8 ⟨⟨q10, m10, c10, rfl, hV⟩, hE8⟩
        have hX := hX.ext hE8
        have hP := hP.ext hE8
        rw [hgi] at hV
        refine p1 (x_move (by conv => lhs; whnf)) ?_
        refine p1 (x_extract rfl rfl) ?_
        refine p1 (x_extract rfl rfl) ?_
        refine p1 (x_assign (by conv => lhs; whnf)) ?_
        refine p1 (x_assign (by conv => lhs; whnf)) ?_
        refine r_nil ?_
        refine t_n ?_
        refine c_seq ?_
        refine r_plain ?_
        obtain ⟨Bq, hBq⟩ : ∃ x, x = w8.heap.size := ⟨_, rfl⟩
        have hXq : w.heap.size ≤ Bq := by rw [hBq]; exact hX.size
        have hPb : q9 = none ∨ ab q9 < Bq := by rw [hBq]; exact hP.below
        have hPm : ((putI l).1 ++ [(0 : UInt8)]).length = m9 + 1 := by rw [List.length_append]; simp; exact hPl
        refine o_buildSlice u22 inf5 rfl (by decide) (fun base hb => by have h0 : base = #[] := Array.eq_empty_of_size_eq_zero (by simpa using hb); subst h0; rfl) ?_
        intro w9 g70 hN70
        have hE9 := hN70.ext
        have hX := hX.ext hE9
        have hP := hP.ext hE9
        have hV := hV.ext hE9
        have hI : Own kByte 5 0 Bq w9 (some ⟨g70, 0, none⟩) 0 0 [] := Own.made kByte 5 0 _ hN70 [] [] 0 0 rfl trivial (Nat.le_of_eq hBq) (by omega) (by omega) (by rfl) (by simp)
        have hWs : Lw Bq w9 := ⟨by rw [hBq]; exact hN70.ext.size⟩
        refine p1 (x_move (by conv => lhs; whnf)) ?_
        have hB0 := hWs.le
        refine o_append (d := kByte) ((putI l).1) u22 inf5 rfl kByte_pos rfl rfl hI (src_pure u22 hP.sl (by decide)) hPl (byte_all _ _ _) (rfl) (by omega) (by omega) (by omega) (by omega) (by decide) ?_
        intro p72 c72 w10 hI hM10
        have hX := hX.mod hM10 (hXq)
        have hP := hP.modB hM10 (Nat.zero_le _) (by decide) hPb
        have hV := hV.mod hM10 (Nat.zero_le _) (by simp [kRec])
        have hWs := hWs.mod hM10 (by first | exact Nat.le_refl _ | exact trivial | omega)
        refine o_buildSlice u22 inf5 rfl (by decide) (fun base hb => fill_one (by rfl) base hb) ?_
        intro w11 g73 hN73
        have hE11 := hN73.ext
        have hX := hX.ext hE11
        have hP := hP.ext hE11
        have hV := hV.ext hE11
        have hWs := hWs.ext hE11
        have hI := hI.ext hE11
        have hJ : Own kByte 5 0 0 w11 (some ⟨g73, 0, none⟩) 1 1 [0] := own_lit [0] hN73 (Nat.zero_le _) (by decide)
        have hB0 := hWs.le
        refine o_append (d := kByte) ([(0 : UInt8)]) u22 inf5 rfl kByte_pos rfl rfl hI (src_pure u22 hJ.sl (by decide)) rfl (byte_all _ _ _) (rfl) (by omega) (by omega) (by omega) (by omega) (by decide) ?_
        intro p74 c74 w12 hI hM12
        have hX := hX.mod hM12 (hXq)
        have hP := hP.modB hM12 (Nat.zero_le _) (by decide) hPb
        have hV := hV.mod hM12 (Nat.zero_le _) (by simp [kRec])
        have hWs := hWs.mod hM12 (by first | exact Nat.le_refl _ | exact trivial | omega)
        rw [List.nil_append] at hI
        refine o_call Try.func21 fn21 fb21 (index_Get _ _ _ _ _ _ hI.sl (by omega)) rfl ?_
        rintro v13 w13 ⟨⟨q11, m11, c11, rfl, _⟩, hE13⟩
        have hX := hX.ext hE13
        have hP := hP.ext hE13
        have hV := hV.ext hE13
        have hWs := hWs.ext hE13
        have hI := hI.ext hE13
        refine p1 (x_move (by conv => lhs; whnf)) ?_
        refine p1 (x_extract rfl rfl) ?_
        refine p1 (x_extract rfl rfl) ?_
        refine p1 (x_assign (by conv => lhs; whnf)) ?_
        refine p1 (x_assign (by conv => lhs; whnf)) ?_
        refine r_nil ?_
        refine t_n ?_
        refine c_seq ?_
        refine r_plain ?_
        refine p1 (x_move (by conv => lhs; whnf)) ?_
        refine p1 (x_move (by conv => lhs; whnf)) ?_
        refine p1 (x_len_slice u22 rfl) ?_
        refine p1 ((x_sub rfl rfl (fits_i64 (by omega) (by omega))).cast (congrArg (Value.int .i64) (by omega : (m9 : Int) - 1 = ((m9 - 1 : Nat) : Int)))) ?_
        refine p1 (x_slice_hN u22 sz5 rfl rfl (by have := hP.sl.cap; omega)) ?_
        have htl : ((putI l).1.take (m9 - 1)).length = m9 - 1 := by rw [List.length_take]; omega
        have hgl : getI ((putI l).1.take (m9 - 1)) = ([], 4) := getI_less hpo (by omega) (by rw [htl])
        refine o_call Try.func21 fn21 fb21 (index_Get _ _ _ _ _ _ (hP.sl.take (m9 - 1) (by omega)) (by omega)) rfl ?_
        rintro v14 w14 ⟨⟨q12, m12, c12, rfl, _⟩, hE14⟩
        have hX := hX.ext hE14
        have hP := hP.ext hE14
        have hV := hV.ext hE14
        have hWs := hWs.ext hE14
        have hI := hI.ext hE14
        refine p1 (x_move (by conv => lhs; whnf)) ?_
        refine p1 (x_extract rfl rfl) ?_
        refine p1 (x_extract rfl rfl) ?_
        refine p1 (x_assign (by conv => lhs; whnf)) ?_
        refine p1 (x_assign (by conv => lhs; whnf)) ?_
        refine r_nil ?_
        refine t_n ?_
        refine c_seq ?_
        refine r_plain ?_
        refine p1 (x_move (by conv => lhs; whnf)) ?_
        refine p1 ((x_eql rfl rfl).cast (congrArg Value.bool (decide_eq_true (by rw [hgi])))) ?_
        refine p1 (x_move (by conv => lhs; whnf)) ?_
        refine g1 89 rfl rfl (x_move (by conv => lhs; whnf)) ?_
        refine g1 89 rfl rfl (x_move (by conv => lhs; whnf)) ?_
        refine g_drop 89 rfl rfl ?_
        refine o_call Try.func30 fn30 fb30 ((index_Same l l _ _ _ _ _ _ _ _ _ hV.sl.recA (hl.ext hX)).known (c := .bool true) (congrArg Value.bool (decide_eq_true rfl))) rfl ?_
        rintro v15 w15 ⟨rfl, hE15⟩
        have hX := hX.ext hE15
        have hP := hP.ext hE15
        have hV := hV.ext hE15
        have hWs := hWs.ext hE15
        have hI := hI.ext hE15
        refine p1 (x_pick_t rfl (by conv => lhs; whnf)) ?_
        refine p1 (x_move (by conv => lhs; whnf)) ?_
        refine g1 94 rfl rfl (x_move (by conv => lhs; whnf)) ?_
        refine g1 94 rfl rfl ((x_eql rfl rfl).cast (congrArg Value.bool (decide_eq_true (by rw [getI_more hpo (by simp)])))) ?_
        refine p1 (x_pick_t rfl (by conv => lhs; whnf)) ?_
        refine p1 (x_move (by conv => lhs; whnf)) ?_
        refine g1 98 rfl rfl (x_move (by conv => lhs; whnf)) ?_
        refine g1 98 rfl rfl ((x_eql rfl rfl).cast (congrArg Value.bool (decide_eq_true (by rw [hgl])))) ?_
        refine p1 (x_pick_t rfl (by conv => lhs; whnf)) ?_
        refine p1 (x_move (by conv => lhs; whnf)) ?_
        refine g_drop 102 rfl rfl ?_
        refine o_call Try.func24 fn24 fb24 (law17_awake _) rfl ?_
        rintro v16 w16 ⟨rfl, hE16⟩
        have hX := hX.ext hE16
        have hP := hP.ext hE16
        have hV := hV.ext hE16
        have hWs := hWs.ext hE16
        have hI := hI.ext hE16
        refine p1 (x_pick_t rfl (by conv => lhs; whnf)) ?_
        refine p1 (x_assign (by conv => lhs; whnf)) ?_
        refine r_nil ?_
        refine t_n ?_
        refine c_ret ?_
        refine end1 rfl (by conv => lhs; whnf) ?_
        exact ⟨rfl, hX⟩
  · try simp only [decide_eq_true_eq, decide_eq_false_iff_not, Bool.not_eq_true, Bool.not_eq_false, Bool.not_eq_eq_eq_not, Bool.not_true, Bool.not_false, Int.not_lt, Int.not_le] at hc23
    refine c_skip ?_
    refine t_n ?_
    refine c_seq ?_
    refine c_seq ?_
    refine r_plain ?_
    refine p1 (x_move (by conv => lhs; whnf)) ?_
    refine o_call Try.func25 fn25 fb25 (law17_few l _ _ _ _ _ (hl.ext hX)) rfl ?_
    rintro v17 w17 ⟨⟨bf, rfl, hfew⟩, hE17⟩
    have hX := hX.ext hE17
    first | refine p1 (x_notd rfl) ?_ | refine p1 (x_not rfl) ?_
    refine r_nil ?_
    refine t_n ?_
    first | refine c_dec rfl (fun hc40 => ?_) (fun hc40 => ?_) | refine c_if rfl (fun hc40 => ?_) (fun hc40 => ?_)
    · try simp only [decide_eq_true_eq, decide_eq_false_iff_not, Bool.not_eq_true, Bool.not_eq_false, Bool.not_eq_eq_eq_not, Bool.not_true, Bool.not_false, Int.not_lt, Int.not_le] at hc40
      refine c_seq ?_
      refine r_plain ?_
      refine o_call Try.func24 fn24 fb24 (law17_awake _) rfl ?_
      rintro v18 w18 ⟨rfl, hE18⟩
      have hX := hX.ext hE18
      refine p1 (x_assign (by conv => lhs; whnf)) ?_
      refine r_nil ?_
      refine t_n ?_
      refine c_ret ?_
      refine t_r ?_
      refine end1 rfl (by conv => lhs; whnf) ?_
      exact ⟨rfl, hX⟩
    · try simp only [decide_eq_true_eq, decide_eq_false_iff_not, Bool.not_eq_true, Bool.not_eq_false, Bool.not_eq_eq_eq_not, Bool.not_true, Bool.not_false, Int.not_lt, Int.not_le] at hc40
      obtain ⟨hfw, hmm⟩ := hfew (by cases bf <;> simp_all)
      refine c_skip ?_
      refine t_n ?_
      refine c_seq ?_
      refine r_plain ?_
      refine p1 (x_move (by conv => lhs; whnf)) ?_
      refine o_call Try.func27 fn27 fb27 (index_Put l _ _ _ _ _ (hl.ext hX) hkk) rfl ?_
      rintro v19 w19 ⟨⟨q9, m9, c9, rfl, hP⟩, hE19⟩
      have hX := hX.ext hE19
      have hPl := hP.len
      refine p1 (x_move (by conv => lhs; whnf)) ?_
      refine p1 (x_extract rfl rfl) ?_
      refine p1 (x_extract rfl rfl) ?_
      refine p1 (x_assign (by conv => lhs; whnf)) ?_
      refine p1 (x_assign (by conv => lhs; whnf)) ?_
      refine r_nil ?_
      refine t_n ?_
      refine c_seq ?_
      refine c_seq ?_
      refine r_plain ?_
      refine p1 (x_move (by conv => lhs; whnf)) ?_
      refine p1 (x_neq rfl rfl) ?_
      refine r_nil ?_
      refine t_n ?_
      first | refine c_dec rfl (fun hc48 => ?_) (fun hc48 => ?_) | refine c_if rfl (fun hc48 => ?_) (fun hc48 => ?_)
      · try simp only [decide_eq_true_eq, decide_eq_false_iff_not, Bool.not_eq_true, Bool.not_eq_false, Bool.not_eq_eq_eq_not, Bool.not_true, Bool.not_false, Int.not_lt, Int.not_le] at hc48
        have hpe := putI_err hc48
        have hm0 : m9 = 0 := by rw [← hPl, hpe]; rfl
        refine c_seq ?_
        refine r_plain ?_
        refine p1 (x_move (by conv => lhs; whnf)) ?_
        refine o_call Try.func29 fn29 fb29 (index_Check l _ _ _ _ _ (hl.ext hX) hkk) rfl ?_
        rintro v20 w20 ⟨rfl, hE20⟩
        have hX := hX.ext hE20
        have hP := hP.ext hE20
        refine p1 (x_move (by conv => lhs; whnf)) ?_
        refine p1 ((x_eql rfl rfl).cast (congrArg _ (decide_eq_true rfl))) ?_
        refine p1 (x_move (by conv => lhs; whnf)) ?_
        refine g1 53 rfl rfl (x_move (by conv => lhs; whnf)) ?_
        refine g1 53 rfl rfl (x_len_slice u22 rfl) ?_
        refine g1 53 rfl rfl ((x_eql rfl rfl).cast (congrArg Value.bool (decide_eq_true (by omega)))) ?_
        refine p1 (x_pick_t rfl (by conv => lhs; whnf)) ?_
        refine p1 (x_move (by conv => lhs; whnf)) ?_
        refine g_drop 58 rfl rfl ?_
        refine o_call Try.func24 fn24 fb24 (law17_awake _) rfl ?_
        rintro v21 w21 ⟨rfl, hE21⟩
        have hX := hX.ext hE21
        have hP := hP.ext hE21
        refine p1 (x_pick_t rfl (by conv => lhs; whnf)) ?_
        refine p1 (x_assign (by conv => lhs; whnf)) ?_
        refine r_nil ?_
        refine t_n ?_
        refine c_ret ?_
        refine t_r ?_
        refine end1 rfl (by conv => lhs; whnf) ?_
        exact ⟨rfl, hX⟩
      · try simp only [decide_eq_true_eq, decide_eq_false_iff_not, Bool.not_eq_true, Bool.not_eq_false, Bool.not_eq_eq_eq_not, Bool.not_true, Bool.not_false, Int.not_lt, Int.not_le] at hc48
        have hpo : (putI l).2 = 0 := Classical.byContradiction hc48
        have hps := putI_small hpo
        have hgi := getI_put hpo
        refine c_skip ?_
        refine t_n ?_
        refine c_seq ?_
        refine c_seq ?_
        refine r_plain ?_
        refine p1 (x_move (by conv => lhs; whnf)) ?_
        refine p1 (x_len_slice u22 rfl) ?_
        refine p1 ((x_eql rfl rfl).cast (congrArg Value.bool (decide_eq_false (by omega)))) ?_
        refine r_nil ?_
        refine t_n ?_
        refine c_f rfl ?_
        refine c_skip ?_
        refine t_n ?_
        refine c_seq ?_
        refine r_plain ?_
        refine p1 (x_move (by conv => lhs; whnf)) ?_
        refine o_call Try.func21 fn21 fb21 (index_Get _ _ _ _ _ _ hP.sl (by omega)) rfl ?_
        rintro v22 w22 ⟨⟨q10, m10, c10, rfl, hV⟩, hE22⟩
        have hX := hX.ext hE22
        have hP := hP.ext hE22
        rw [hgi] at hV
        refine p1 (x_move (by conv => lhs; whnf)) ?_
        refine p1 (x_extract rfl rfl) ?_
        refine p1 (x_extract rfl rfl) ?_
        refine p1 (x_assign (by conv => lhs; whnf)) ?_
        refine p1 (x_assign (by conv => lhs; whnf)) ?_
        refine r_nil ?_
        refine t_n ?_
        refine c_seq ?_
        refine r_plain ?_
        obtain ⟨Bq, hBq⟩ : ∃ x, x = w22.heap.size := ⟨_, rfl⟩
        have hXq : w.heap.size ≤ Bq := by rw [hBq]; exact hX.size
        have hPb : q9 = none ∨ ab q9 < Bq := by rw [hBq]; exact hP.below
        have hPm : ((putI l).1 ++ [(0 : UInt8)]).length = m9 + 1 := by rw [List.length_append]; simp; exact hPl
        refine o_buildSlice u22 inf5 rfl (by decide) (fun base hb => by have h0 : base = #[] := Array.eq_empty_of_size_eq_zero (by simpa using hb); subst h0; rfl) ?_
        intro w23 g70 hN70
        have hE23 := hN70.ext
        have hX := hX.ext hE23
        have hP := hP.ext hE23
        have hV := hV.ext hE23
        have hI : Own kByte 5 0 Bq w23 (some ⟨g70, 0, none⟩) 0 0 [] := Own.made kByte 5 0 _ hN70 [] [] 0 0 rfl trivial (Nat.le_of_eq hBq) (by omega) (by omega) (by rfl) (by simp)
        have hWs : Lw Bq w23 := ⟨by rw [hBq]; exact hN70.ext.size⟩
        refine p1 (x_move (by conv => lhs; whnf)) ?_
        have hB0 := hWs.le
        refine o_append (d := kByte) ((putI l).1) u22 inf5 rfl kByte_pos rfl rfl hI (src_pure u22 hP.sl (by decide)) hPl (byte_all _ _ _) (rfl) (by omega) (by omega) (by omega) (by omega) (by decide) ?_
        intro p72 c72 w24 hI hM24
        have hX := hX.mod hM24 (hXq)
        have hP := hP.modB hM24 (Nat.zero_le _) (by decide) hPb
        have hV := hV.mod hM24 (Nat.zero_le _) (by simp [kRec])
        have hWs := hWs.mod hM24 (by first | exact Nat.le_refl _ | exact trivial | omega)
        refine o_buildSlice u22 inf5 rfl (by decide) (fun base hb => fill_one (by rfl) base hb) ?_
        intro w25 g73 hN73
        have hE25 := hN73.ext
        have hX := hX.ext hE25
        have hP := hP.ext hE25
        have hV := hV.ext hE25
        have hWs := hWs.ext hE25
        have hI := hI.ext hE25
        have hJ : Own kByte 5 0 0 w25 (some ⟨g73, 0, none⟩) 1 1 [0] := own_lit [0] hN73 (Nat.zero_le _) (by decide)
        have hB0 := hWs.le
        refine o_append (d := kByte) ([(0 : UInt8)]) u22 inf5 rfl kByte_pos rfl rfl hI (src_pure u22 hJ.sl (by decide)) rfl (byte_all _ _ _) (rfl) (by omega) (by omega) (by omega) (by omega) (by decide) ?_
        intro p74 c74 w26 hI hM26
        have hX := hX.mod hM26 (hXq)
        have hP := hP.modB hM26 (Nat.zero_le _) (by decide) hPb
        have hV := hV.mod hM26 (Nat.zero_le _) (by simp [kRec])
        have hWs := hWs.mod hM26 (by first | exact Nat.le_refl _ | exact trivial | omega)
        rw [List.nil_append] at hI
        refine o_call Try.func21 fn21 fb21 (index_Get _ _ _ _ _ _ hI.sl (by omega)) rfl ?_
        rintro v27 w27 ⟨⟨q11, m11, c11, rfl, _⟩, hE27⟩
        have hX := hX.ext hE27
        have hP := hP.ext hE27
        have hV := hV.ext hE27
        have hWs := hWs.ext hE27
        have hI := hI.ext hE27
        refine p1 (x_move (by conv => lhs; whnf)) ?_
        refine p1 (x_extract rfl rfl) ?_
        refine p1 (x_extract rfl rfl) ?_
        refine p1 (x_assign (by conv => lhs; whnf)) ?_
        refine p1 (x_assign (by conv => lhs; whnf)) ?_
        refine r_nil ?_
        refine t_n ?_
        refine c_seq ?_
        refine r_plain ?_
        refine p1 (x_move (by conv => lhs; whnf)) ?_
        refine p1 (x_move (by conv => lhs; whnf)) ?_
        refine p1 (x_len_slice u22 rfl) ?_
        refine p1 ((x_sub rfl rfl (fits_i64 (by omega) (by omega))).cast (congrArg (Value.int .i64) (by omega : (m9 : Int) - 1 = ((m9 - 1 : Nat) : Int)))) ?_
        refine p1 (x_slice_hN u22 sz5 rfl rfl (by have := hP.sl.cap; omega)) ?_
        have htl : ((putI l).1.take (m9 - 1)).length = m9 - 1 := by rw [List.length_take]; omega
        have hgl : getI ((putI l).1.take (m9 - 1)) = ([], 4) := getI_less hpo (by omega) (by rw [htl])
        refine o_call Try.func21 fn21 fb21 (index_Get _ _ _ _ _ _ (hP.sl.take (m9 - 1) (by omega)) (by omega)) rfl ?_
        rintro v28 w28 ⟨⟨q12, m12, c12, rfl, _⟩, hE28⟩
        have hX := hX.ext hE28
        have hP := hP.ext hE28
        have hV := hV.ext hE28
        have hWs := hWs.ext hE28
        have hI := hI.ext hE28
        refine p1 (x_move (by conv => lhs; whnf)) ?_
        refine p1 (x_extract rfl rfl) ?_
        refine p1 (x_extract rfl rfl) ?_
        refine p1 (x_assign (by conv => lhs; whnf)) ?_
        refine p1 (x_assign (by conv => lhs; whnf)) ?_
        refine r_nil ?_
        refine t_n ?_
        refine c_seq ?_
        refine r_plain ?_
        refine p1 (x_move (by conv => lhs; whnf)) ?_
        refine p1 ((x_eql rfl rfl).cast (congrArg Value.bool (decide_eq_true (by rw [hgi])))) ?_
        refine p1 (x_move (by conv => lhs; whnf)) ?_
        refine g1 89 rfl rfl (x_move (by conv => lhs; whnf)) ?_
        refine g1 89 rfl rfl (x_move (by conv => lhs; whnf)) ?_
        refine g_drop 89 rfl rfl ?_
        refine o_call Try.func30 fn30 fb30 ((index_Same l l _ _ _ _ _ _ _ _ _ hV.sl.recA (hl.ext hX)).known (c := .bool true) (congrArg Value.bool (decide_eq_true rfl))) rfl ?_
        rintro v29 w29 ⟨rfl, hE29⟩
        have hX := hX.ext hE29
        have hP := hP.ext hE29
        have hV := hV.ext hE29
        have hWs := hWs.ext hE29
        have hI := hI.ext hE29
        refine p1 (x_pick_t rfl (by conv => lhs; whnf)) ?_
        refine p1 (x_move (by conv => lhs; whnf)) ?_
        refine g1 94 rfl rfl (x_move (by conv => lhs; whnf)) ?_
        refine g1 94 rfl rfl ((x_eql rfl rfl).cast (congrArg Value.bool (decide_eq_true (by rw [getI_more hpo (by simp)])))) ?_
        refine p1 (x_pick_t rfl (by conv => lhs; whnf)) ?_
        refine p1 (x_move (by conv => lhs; whnf)) ?_
        refine g1 98 rfl rfl (x_move (by conv => lhs; whnf)) ?_
        refine g1 98 rfl rfl ((x_eql rfl rfl).cast (congrArg Value.bool (decide_eq_true (by rw [hgl])))) ?_
        refine p1 (x_pick_t rfl (by conv => lhs; whnf)) ?_
        refine p1 (x_move (by conv => lhs; whnf)) ?_
        refine g_drop 102 rfl rfl ?_
        refine o_call Try.func24 fn24 fb24 (law17_awake _) rfl ?_
        rintro v30 w30 ⟨rfl, hE30⟩
        have hX := hX.ext hE30
        have hP := hP.ext hE30
        have hV := hV.ext hE30
        have hWs := hWs.ext hE30
        have hI := hI.ext hE30
        refine p1 (x_pick_t rfl (by conv => lhs; whnf)) ?_
        refine p1 (x_assign (by conv => lhs; whnf)) ?_
        refine r_nil ?_
        refine t_n ?_
        refine c_ret ?_
        refine end1 rfl (by conv => lhs; whnf) ?_
        exact ⟨rfl, hX⟩
theorem live_join (l l2 : List Rec) : srt (liveU (l ++ l2)) = srt (srt (liveU l) ++ srt (liveU l2)) := by
  refine srt_congr fun z => ?_
  unfold liveU
  rw [List.flatMap_append, List.mem_append, List.mem_append, mem_srt, mem_srt]
theorem law_IndexJoins (l l2 : List Rec) (B B2 : Nat) (p q : Option Addr) (n c m c2 : Nat) (w : World) (ha : Sl kRecA 33 B w p n c l) (hb : Sl kRecA 33 B2 w q m c2 l2) (hB : B ≤ w.heap.size) (hB2 : B2 ≤ w.heap.size) :
    Ret Try.prog 19 [.slice p n c, .slice q m c2] w (fun v w' => v = .bool true ∧ Ext w w') := by
  have hX := Ext.refl w
  refine enter 35 _ Try.func19 rfl rfl (Nat.le_of_ble_eq_true rfl) ?_
  refine c_seq ?_
  refine r_plain ?_
  refine p1 (x_assign (by conv => lhs; whnf)) ?_
  refine r_nil ?_
  refine t_n ?_
  refine c_seq ?_
  refine c_seq ?_
  refine r_plain ?_
  refine p1 (x_move (by conv => lhs; whnf)) ?_
  refine o_call Try.func25 fn25 fb25 (law17_few l _ _ _ _ _ (ha.ext hX)) rfl ?_
  rintro v1 w1 ⟨⟨bf, rfl, hfew⟩, hE1⟩
  have hX := hX.ext hE1
  first | refine p1 (x_notd rfl) ?_ | refine p1 (x_not rfl) ?_
  refine p1b (x_move (by conv => lhs; whnf)) (fun hb1_3 => ?_) (fun hb1_3 => ?_)
  · try simp only [decide_eq_true_eq, decide_eq_false_iff_not, Bool.not_eq_true, Bool.not_eq_false, Bool.not_eq_eq_eq_not, Bool.not_true, Bool.not_false, Int.not_lt, Int.not_le] at hb1_3
    refine g0 9 rfl (by first | exact .inl rfl | exact .inr rfl) ?_
    refine g0 9 rfl (by first | exact .inl rfl | exact .inr rfl) ?_
    refine g0 9 rfl (by first | exact .inl rfl | exact .inr rfl) ?_
    refine p1 (x_pick_t rfl (by conv => lhs; whnf)) ?_
    refine r_nil ?_
    refine t_n ?_
    refine c_t rfl ?_
    refine c_seq ?_
    refine r_plain ?_
    refine o_call Try.func24 fn24 fb24 (law17_awake _) rfl ?_
    rintro v2 w2 ⟨rfl, hE2⟩
    have hX := hX.ext hE2
    refine p1 (x_assign (by conv => lhs; whnf)) ?_
    refine r_nil ?_
    refine t_n ?_
    refine c_ret ?_
    refine t_r ?_
    refine end1 rfl (by conv => lhs; whnf) ?_
    exact ⟨rfl, hX⟩
  · try simp only [decide_eq_true_eq, decide_eq_false_iff_not, Bool.not_eq_true, Bool.not_eq_false, Bool.not_eq_eq_eq_not, Bool.not_true, Bool.not_false, Int.not_lt, Int.not_le] at hb1_3
    refine g1 9 rfl rfl (x_move (by conv => lhs; whnf)) ?_
    refine g_drop 9 rfl rfl ?_
    refine o_call Try.func25 fn25 fb25 (law17_few l2 _ _ _ _ _ (hb.ext hX)) rfl ?_
    rintro v3 w3 ⟨⟨bf2, rfl, hfew2⟩, hE3⟩
    have hX := hX.ext hE3
    first | refine g1 9 rfl rfl (x_notd rfl) ?_ | refine g1 9 rfl rfl (x_not rfl) ?_
    refine p1 (x_pick_f rfl (by conv => lhs; whnf)) ?_
    refine r_nil ?_
    refine t_n ?_
    first | refine c_dec rfl (fun hc13 => ?_) (fun hc13 => ?_) | refine c_if rfl (fun hc13 => ?_) (fun hc13 => ?_)
    · try simp only [decide_eq_true_eq, decide_eq_false_iff_not, Bool.not_eq_true, Bool.not_eq_false, Bool.not_eq_eq_eq_not, Bool.not_true, Bool.not_false, Int.not_lt, Int.not_le] at hc13
      refine c_seq ?_
      refine r_plain ?_
      refine o_call Try.func24 fn24 fb24 (law17_awake _) rfl ?_
      rintro v4 w4 ⟨rfl, hE4⟩
      have hX := hX.ext hE4
      refine p1 (x_assign (by conv => lhs; whnf)) ?_
      refine r_nil ?_
      refine t_n ?_
      refine c_ret ?_
      refine t_r ?_
      refine end1 rfl (by conv => lhs; whnf) ?_
      exact ⟨rfl, hX⟩
    · try simp only [decide_eq_true_eq, decide_eq_false_iff_not, Bool.not_eq_true, Bool.not_eq_false, Bool.not_eq_eq_eq_not, Bool.not_true, Bool.not_false, Int.not_lt, Int.not_le] at hc13
      obtain ⟨hfw, hmm⟩ := hfew (by cases bf <;> simp_all)
      obtain ⟨hfw2, hmm2⟩ := hfew2 (by cases bf2 <;> simp_all)
      have hlen := ha.len
      have hlen2 := hb.len
      refine c_skip ?_
      refine t_n ?_
      refine c_seq ?_
      refine r_plain ?_
      have hXs := hX.size
      refine o_buildSlice u23 inf33 rfl (by decide) (fun base hb => by have h0 : base = #[] := Array.eq_empty_of_size_eq_zero (by simpa using hb); subst h0; rfl) ?_
      intro w5 g15 hN15
      have hE5 := hN15.ext
      have hX := hX.ext hE5
      have hO : Own kRecA 33 w.heap.size w.heap.size w5 (some ⟨g15, 0, none⟩) 0 0 [] := Own.made kRecA 33 _ _ hN15 [] [] 0 0 rfl trivial hXs (by omega) (by omega) (by rfl) (by simp)
      refine p1 (x_move (by conv => lhs; whnf)) ?_
      obtain ⟨css1, hA1, hsr1⟩ := src_kind u23 ((ha.ext hX).mono hB) kRecA_pos
      have hB0 := hX.size
      refine o_append (d := kRecA) (l) u23 inf33 rfl kRecA_pos rfl rfl hO (hsr1) hlen (hA1) (rfl) (by omega) (by omega) (by omega) (by omega) (by decide) ?_
      intro p17 c17 w6 hO hM6
      have hX := hX.mod hM6 (Nat.le_refl _)
      refine p1 (x_move (by conv => lhs; whnf)) ?_
      obtain ⟨css2, hA2, hsr2⟩ := src_kind u23 ((hb.ext hX).mono hB2) kRecA_pos
      have hB0 := hX.size
      refine o_append (d := kRecA) (l2) u23 inf33 rfl kRecA_pos rfl rfl hO (hsr2) hlen2 (hA2) (rfl) (by omega) (by omega) (by omega) (by omega) (by decide) ?_
      intro p19 c19 w7 hO hM7
      have hX := hX.mod hM7 (Nat.le_refl _)
      rw [List.nil_append] at hO
      refine o_call Try.func70 fn70 fb70 (index_Live (l ++ l2) _ _ _ _ _ hO.sl (by omega) (fun x hx => (List.mem_append.1 hx).elim (fun h => (hmm x h).2) (fun h => (hmm2 x h).2))) rfl ?_
      rintro v8 w8 ⟨⟨q3, m3, c3, rfl, hm3, hU⟩, hE8⟩
      have hX := hX.ext hE8
      have hO := hO.ext hE8
      refine p1 (x_assign (by conv => lhs; whnf)) ?_
      refine r_nil ?_
      refine t_n ?_
      refine c_seq ?_
      refine r_plain ?_
      refine p1 (x_move (by conv => lhs; whnf)) ?_
      refine p1 (x_move (by conv => lhs; whnf)) ?_
      refine o_call Try.func70 fn70 fb70 (index_Live l _ _ _ _ _ (ha.ext hX) (by omega) (fun x hx => (hmm x hx).2)) rfl ?_
      rintro v9 w9 ⟨⟨q4, m4, c4, rfl, hm4, hV⟩, hE9⟩
      have hX := hX.ext hE9
      have hO := hO.ext hE9
      have hU := hU.ext hE9
      refine p1 (x_move (by conv => lhs; whnf)) ?_
      refine o_call Try.func70 fn70 fb70 (index_Live l2 _ _ _ _ _ (hb.ext hX) (by omega) (fun x hx => (hmm2 x hx).2)) rfl ?_
      rintro v10 w10 ⟨⟨q5, m5, c5, rfl, hm5, hZ⟩, hE10⟩
      have hX := hX.ext hE10
      have hO := hO.ext hE10
      have hU := hU.ext hE10
      have hV := hV.ext hE10
      refine o_call Try.func56 fn56 fb56 (hashes_Union _ _ _ _ _ _ _ _ _ _ _ hV.sl hZ.sl (by omega) (by omega)) rfl ?_
      rintro v11 w11 ⟨⟨q6, m6, c6, rfl, hm6, hT⟩, hE11⟩
      have hX := hX.ext hE11
      have hO := hO.ext hE11
      have hU := hU.ext hE11
      have hV := hV.ext hE11
      have hZ := hZ.ext hE11
      refine o_call Try.func40 fn40 fb40 ((hashes_Same _ _ _ _ _ _ _ _ _ _ _ hU.sl hT.sl).known (c := .bool true) (congrArg Value.bool (decide_eq_true (live_join l l2)))) rfl ?_
      rintro v12 w12 ⟨rfl, hE12⟩
      have hX := hX.ext hE12
      have hO := hO.ext hE12
      have hU := hU.ext hE12
      have hV := hV.ext hE12
      have hZ := hZ.ext hE12
      have hT := hT.ext hE12
      refine p1 (x_move (by conv => lhs; whnf)) ?_
      refine g1 28 rfl rfl (x_move (by conv => lhs; whnf)) ?_
      refine g_drop 28 rfl rfl ?_
      refine o_call Try.func38 fn38 fb38 ((hashes_Rising _ _ _ _ _ _ hU.sl).known (c := .bool true) (congrArg Value.bool (rising_iff.2 (rise_srt _)))) rfl ?_
      rintro v13 w13 ⟨rfl, hE13⟩
      have hX := hX.ext hE13
      have hO := hO.ext hE13
      have hU := hU.ext hE13
      have hV := hV.ext hE13
      have hZ := hZ.ext hE13
      have hT := hT.ext hE13
      refine p1 (x_pick_t rfl (by conv => lhs; whnf)) ?_
      refine p1 (x_move (by conv => lhs; whnf)) ?_
      refine g_drop 32 rfl rfl ?_
      refine o_call Try.func24 fn24 fb24 (law17_awake _) rfl ?_
      rintro v14 w14 ⟨rfl, hE14⟩
      have hX := hX.ext hE14
      have hO := hO.ext hE14
      have hU := hU.ext hE14
      have hV := hV.ext hE14
      have hZ := hZ.ext hE14
      have hT := hT.ext hE14
      refine p1 (x_pick_t rfl (by conv => lhs; whnf)) ?_
      refine p1 (x_assign (by conv => lhs; whnf)) ?_
      refine r_nil ?_
      refine t_n ?_
      refine c_ret ?_
      refine end1 rfl (by conv => lhs; whnf) ?_
      exact ⟨rfl, hX⟩
end Go.Proofs.Eng
end
