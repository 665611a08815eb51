import Derived.Test.YtjbfgmkemideiaaC1
import Derived.Test.YtjbfgmkemideiaaA5
set_option linter.unusedVariables false
set_option linter.unusedSimpArgs false
set_option maxRecDepth 100000
set_option maxHeartbeats 4000000
namespace Go.Proofs.Eng
open Go.RowKit
open Extern.Stop (cell)
theorem ref15_place (S : Nat → Prop) (l : List Br) (k : ByteArray) (p : Option Addr) (n c : Nat) (w : World) (hL : Sl (kBr S) 81 0 w p n c l) :
    Ret Try.prog 111 [.agg #[.slice p n c], .string k] w (fun v w' => (∃ b, v = .tuple #[.int .i64 (plc l k : Int), .bool b] ∧ (b = true ↔ isAt l (plc l k) k)) ∧ Ext w w') := by
  have hX := Ext.refl w
  refine enter 40 _ Try.func111 rfl rfl (Nat.le_of_ble_eq_true rfl) ?_
  refine c_seq ?_
  refine r_plain ?_
  refine o_boxA (by conv => lhs; whnf) ?_
  intro w1 g2 hN2
  have hE1 := hN2.ext
  have hX := hX.ext hE1
  have hB2 := hN2.blk
  refine p1 (x_assign (by conv => lhs; whnf)) ?_
  refine p1 (x_assign (by conv => lhs; whnf)) ?_
  refine r_nil ?_
  refine t_n ?_
  refine c_seq ?_
  refine r_plain ?_
  refine p1 (x_assign (by conv => lhs; whnf)) ?_
  refine r_nil ?_
  refine t_n ?_
  refine c_seq ?_
  refine c_block ?_
  have hWL0 := Ext.refl w1
  have hlen := hL.len
  have hfit := hL.fit
  have hcap := hL.cap
  refine c_loop (ι := Nat) [6, 7, 8, 9, 10, 11, 12, 13, 14, 15, 16, 17, 18, 19, 20, 21, 22, 23] (fun i => [(6, .int .i64 (i : Int))]) (fun i w' => Ext w1 w' ∧ (i ≤ n ∧ ∀ j, j < i → lssB (l.getD j default).1 k = true)) (fun i => n - i) (0) ⟨rfl, trivial⟩ ⟨Ext.refl _, ⟨by omega, fun j hj => by omega⟩⟩ ?_
  rintro i GL0 w2 ⟨hE2, hi, hL0⟩
  have hX := hX.ext hE2
  have hB2 := hB2.ext hE2
  have hWL0 := hE2
  refine c_seq ?_
  refine c_seq ?_
  refine r_plain ?_
  refine p1 (x_move (by conv => lhs; whnf)) ?_
  refine p1 (x_fieldAddr fo70_0 sz30 rfl) ?_
  refine p1 (x_load1 un30 rfl (hB2.cell (rfl))) ?_
  refine p1 (x_len_slice u30 rfl) ?_
  refine p1 (x_lss rfl rfl) ?_
  refine p1b (x_move (by conv => lhs; whnf)) (fun hb2_5 => ?_) (fun hb2_5 => ?_)
  · try simp only [decide_eq_true_eq, decide_eq_false_iff_not, Bool.not_eq_true, Bool.not_eq_false, Bool.not_eq_eq_eq_not, Bool.not_true, Bool.not_false, Int.not_lt, Int.not_le] at hb2_5
    obtain ⟨q1, m1, c1, hrow1, hc0_1, hc1_1, hS1⟩ := (hL.ext hX).brAtS i (by omega)
    refine g1 12 rfl rfl (x_fieldAddr fo70_0 sz30 rfl) ?_
    refine g1 12 rfl rfl (x_load1 un30 rfl (hB2.cell (rfl))) ?_
    refine g1 12 rfl rfl (x_move (by conv => lhs; whnf)) ?_
    refine g1 12 rfl rfl (x_ixs u30 sz81 rfl rfl ((hL.ext hX).adr kBr_pos (by omega)) (by omega) (by omega)) ?_
    refine g1 12 rfl rfl (x_fieldAddr fo81_0 sz9 rfl) ?_
    refine g1 12 rfl rfl (x_load1 un9 rfl hc0_1) ?_
    refine g1 12 rfl rfl (x_move (by conv => lhs; whnf)) ?_
    refine g1 12 rfl rfl (x_lss_str rfl rfl) ?_
    refine p1 (x_pick_t rfl (by conv => lhs; whnf)) ?_
    refine r_nil ?_
    refine t_n ?_
    first | refine c_dec rfl (fun hc21 => ?_) (fun hc21 => ?_) | refine c_if rfl (fun hc21 => ?_) (fun hc21 => ?_)
    · try simp only [decide_eq_true_eq, decide_eq_false_iff_not, Bool.not_eq_true, Bool.not_eq_false, Bool.not_eq_eq_eq_not, Bool.not_true, Bool.not_false, Int.not_lt, Int.not_le] at hc21
      refine c_skip ?_
      refine t_n ?_
      refine c_block ?_
      refine r_plain ?_
      refine p1 (x_move (by conv => lhs; whnf)) ?_
      refine p1 (x_add rfl rfl (fits_i64 (by omega) (by omega))) ?_
      refine p1 (x_assign (by conv => lhs; whnf)) ?_
      refine r_nil ?_
      refine b_n ?_
      refine t_n (At.mk (i + 1) (by repeat (first | exact Agr.refl _ _ | exact Agr.hav _ _ _ | refine Agr.upd rfl ?_ | refine Agr.updL ?_ _ rfl | refine Agr.hav' rfl ?_)) ⟨rfl, trivial⟩ ?_)
      exact ⟨⟨hWL0, ⟨by omega, fun j hj => if h : j < i then hL0 j h else by rw [show j = i from by omega]; exact hc21⟩⟩, by first | (dsimp only; omega) | ((show _ < _); omega)⟩
    · try simp only [decide_eq_true_eq, decide_eq_false_iff_not, Bool.not_eq_true, Bool.not_eq_false, Bool.not_eq_eq_eq_not, Bool.not_true, Bool.not_false, Int.not_lt, Int.not_le] at hc21
      have hex : i < n → lssB (l.getD i default).1 k = false := by first | (intro h; exfalso; omega) | (intro _; exact hc21)
      have hpl := plc_spec l k i (by omega) hL0 (fun h => hex (by omega))
      refine c_exit ?_
      refine t_e ?_
      refine t_e ?_
      refine b_hit ?_
      refine t_n ?_
      refine c_seq ?_
      refine r_still mixed (by kernel_rfl) ?_
      intro w3 hE3
      have hX := hX.ext hE3
      have hB2 := hB2.ext hE3
      refine s1 (x_move (by conv => lhs; whnf)) ?_
      refine s1 (x_move (by conv => lhs; whnf)) ?_
      refine s1 (x_fieldAddr fo70_0 sz30 rfl) ?_
      refine s1 (x_load1 un30 rfl (hB2.cell (rfl))) ?_
      refine s1 (x_len_slice u30 rfl) ?_
      refine s1 (x_lss rfl rfl) ?_
      refine s1b (x_move (by conv => lhs; whnf)) (fun hb4_6 => ?_) (fun hb4_6 => ?_)
      · try simp only [decide_eq_true_eq, decide_eq_false_iff_not, Bool.not_eq_true, Bool.not_eq_false, Bool.not_eq_eq_eq_not, Bool.not_true, Bool.not_false, Int.not_lt, Int.not_le] at hb4_6
        obtain ⟨q2, m2, c2, hrow2, hc0_2, hc1_2, hS2⟩ := (hL.ext hX).brAtS i (by omega)
        refine sg1 30 rfl rfl (x_fieldAddr fo70_0 sz30 rfl) ?_
        refine sg1 30 rfl rfl (x_load1 un30 rfl (hB2.cell (rfl))) ?_
        refine sg1 30 rfl rfl (x_move (by conv => lhs; whnf)) ?_
        refine sg1 30 rfl rfl (x_ixs u30 sz81 rfl rfl ((hL.ext hX).adr kBr_pos (by omega)) (by omega) (by omega)) ?_
        refine sg1 30 rfl rfl (x_fieldAddr fo81_0 sz9 rfl) ?_
        refine sg1 30 rfl rfl (x_load1 un9 rfl hc0_2) ?_
        refine sg1 30 rfl rfl (x_move (by conv => lhs; whnf)) ?_
        refine sg1 30 rfl rfl (x_eql_str rfl rfl) ?_
        refine s1 (x_pick_t rfl (by conv => lhs; whnf)) ?_
        refine s1 (x_assign (by conv => lhs; whnf)) ?_
        refine s1 (x_assign (by conv => lhs; whnf)) ?_
        refine s_nil ?_
        refine t_n ?_
        refine c_ret ?_
        refine end2 rfl (by conv => lhs; whnf) (by conv => lhs; whnf) ?_
        first | exact ⟨⟨_, by rw [hpl], ⟨fun h => by rw [hpl]; exact ⟨by omega, of_decide_eq_true h⟩, fun h => by rw [hpl] at h; exact decide_eq_true h.2⟩⟩, hX⟩ | exact ⟨⟨_, by rw [hpl], ⟨fun h => (by cases h), fun h => (by rw [hpl] at h; exact absurd h.1 (by omega))⟩⟩, hX⟩
      · try simp only [decide_eq_true_eq, decide_eq_false_iff_not, Bool.not_eq_true, Bool.not_eq_false, Bool.not_eq_eq_eq_not, Bool.not_true, Bool.not_false, Int.not_lt, Int.not_le] at hb4_6
        refine sg0 30 rfl (by first | exact .inl rfl | exact .inr rfl) ?_
        refine sg0 30 rfl (by first | exact .inl rfl | exact .inr rfl) ?_
        refine sg0 30 rfl (by first | exact .inl rfl | exact .inr rfl) ?_
        refine sg0 30 rfl (by first | exact .inl rfl | exact .inr rfl) ?_
        refine sg0 30 rfl (by first | exact .inl rfl | exact .inr rfl) ?_
        refine sg0 30 rfl (by first | exact .inl rfl | exact .inr rfl) ?_
        refine sg0 30 rfl (by first | exact .inl rfl | exact .inr rfl) ?_
        refine sg0 30 rfl (by first | exact .inl rfl | exact .inr rfl) ?_
        refine s1 (x_pick_f rfl (by conv => lhs; whnf)) ?_
        refine s1 (x_assign (by conv => lhs; whnf)) ?_
        refine s1 (x_assign (by conv => lhs; whnf)) ?_
        refine s_nil ?_
        refine t_n ?_
        refine c_ret ?_
        refine end2 rfl (by conv => lhs; whnf) (by conv => lhs; whnf) ?_
        first | exact ⟨⟨_, by rw [hpl], ⟨fun h => by rw [hpl]; exact ⟨by omega, of_decide_eq_true h⟩, fun h => by rw [hpl] at h; exact decide_eq_true h.2⟩⟩, hX⟩ | exact ⟨⟨_, by rw [hpl], ⟨fun h => (by cases h), fun h => (by rw [hpl] at h; exact absurd h.1 (by omega))⟩⟩, hX⟩
  · try simp only [decide_eq_true_eq, decide_eq_false_iff_not, Bool.not_eq_true, Bool.not_eq_false, Bool.not_eq_eq_eq_not, Bool.not_true, Bool.not_false, Int.not_lt, Int.not_le] at hb2_5
    refine g0 12 rfl (by first | exact .inl rfl | exact .inr rfl) ?_
    refine g0 12 rfl (by first | exact .inl rfl | exact .inr rfl) ?_
    refine g0 12 rfl (by first | exact .inl rfl | exact .inr rfl) ?_
    refine g0 12 rfl (by first | exact .inl rfl | exact .inr rfl) ?_
    refine g0 12 rfl (by first | exact .inl rfl | exact .inr rfl) ?_
    refine g0 12 rfl (by first | exact .inl rfl | exact .inr rfl) ?_
    refine g0 12 rfl (by first | exact .inl rfl | exact .inr rfl) ?_
    refine g0 12 rfl (by first | exact .inl rfl | exact .inr rfl) ?_
    refine p1 (x_pick_f rfl (by conv => lhs; whnf)) ?_
    refine r_nil ?_
    refine t_n ?_
    refine c_f rfl ?_
    have hex : i < n → lssB (l.getD i default).1 k = false := by first | (intro h; exfalso; omega) | (intro _; exact hc21)
    have hpl := plc_spec l k i (by omega) hL0 (fun h => hex (by omega))
    refine c_exit ?_
    refine t_e ?_
    refine t_e ?_
    refine b_hit ?_
    refine t_n ?_
    refine c_seq ?_
    refine r_still mixed (by kernel_rfl) ?_
    intro w4 hE4
    have hX := hX.ext hE4
    have hB2 := hB2.ext hE4
    refine s1 (x_move (by conv => lhs; whnf)) ?_
    refine s1 (x_move (by conv => lhs; whnf)) ?_
    refine s1 (x_fieldAddr fo70_0 sz30 rfl) ?_
    refine s1 (x_load1 un30 rfl (hB2.cell (rfl))) ?_
    refine s1 (x_len_slice u30 rfl) ?_
    refine s1 (x_lss rfl rfl) ?_
    refine s1b (x_move (by conv => lhs; whnf)) (fun hb4_6 => ?_) (fun hb4_6 => ?_)
    · try simp only [decide_eq_true_eq, decide_eq_false_iff_not, Bool.not_eq_true, Bool.not_eq_false, Bool.not_eq_eq_eq_not, Bool.not_true, Bool.not_false, Int.not_lt, Int.not_le] at hb4_6
      obtain ⟨q2, m2, c2, hrow2, hc0_2, hc1_2, hS2⟩ := (hL.ext hX).brAtS i (by omega)
      refine sg1 30 rfl rfl (x_fieldAddr fo70_0 sz30 rfl) ?_
      refine sg1 30 rfl rfl (x_load1 un30 rfl (hB2.cell (rfl))) ?_
      refine sg1 30 rfl rfl (x_move (by conv => lhs; whnf)) ?_
      refine sg1 30 rfl rfl (x_ixs u30 sz81 rfl rfl ((hL.ext hX).adr kBr_pos (by omega)) (by omega) (by omega)) ?_
      refine sg1 30 rfl rfl (x_fieldAddr fo81_0 sz9 rfl) ?_
      refine sg1 30 rfl rfl (x_load1 un9 rfl hc0_2) ?_
      refine sg1 30 rfl rfl (x_move (by conv => lhs; whnf)) ?_
      refine sg1 30 rfl rfl (x_eql_str rfl rfl) ?_
      refine s1 (x_pick_t rfl (by conv => lhs; whnf)) ?_
      refine s1 (x_assign (by conv => lhs; whnf)) ?_
      refine s1 (x_assign (by conv => lhs; whnf)) ?_
      refine s_nil ?_
      refine t_n ?_
      refine c_ret ?_
      refine end2 rfl (by conv => lhs; whnf) (by conv => lhs; whnf) ?_
      first | exact ⟨⟨_, by rw [hpl], ⟨fun h => by rw [hpl]; exact ⟨by omega, of_decide_eq_true h⟩, fun h => by rw [hpl] at h; exact decide_eq_true h.2⟩⟩, hX⟩ | exact ⟨⟨_, by rw [hpl], ⟨fun h => (by cases h), fun h => (by rw [hpl] at h; exact absurd h.1 (by omega))⟩⟩, hX⟩
    · try simp only [decide_eq_true_eq, decide_eq_false_iff_not, Bool.not_eq_true, Bool.not_eq_false, Bool.not_eq_eq_eq_not, Bool.not_true, Bool.not_false, Int.not_lt, Int.not_le] at hb4_6
      refine sg0 30 rfl (by first | exact .inl rfl | exact .inr rfl) ?_
      refine sg0 30 rfl (by first | exact .inl rfl | exact .inr rfl) ?_
      refine sg0 30 rfl (by first | exact .inl rfl | exact .inr rfl) ?_
      refine sg0 30 rfl (by first | exact .inl rfl | exact .inr rfl) ?_
      refine sg0 30 rfl (by first | exact .inl rfl | exact .inr rfl) ?_
      refine sg0 30 rfl (by first | exact .inl rfl | exact .inr rfl) ?_
      refine sg0 30 rfl (by first | exact .inl rfl | exact .inr rfl) ?_
      refine sg0 30 rfl (by first | exact .inl rfl | exact .inr rfl) ?_
      refine s1 (x_pick_f rfl (by conv => lhs; whnf)) ?_
      refine s1 (x_assign (by conv => lhs; whnf)) ?_
      refine s1 (x_assign (by conv => lhs; whnf)) ?_
      refine s_nil ?_
      refine t_n ?_
      refine c_ret ?_
      refine end2 rfl (by conv => lhs; whnf) (by conv => lhs; whnf) ?_
      first | exact ⟨⟨_, by rw [hpl], ⟨fun h => by rw [hpl]; exact ⟨by omega, of_decide_eq_true h⟩, fun h => by rw [hpl] at h; exact decide_eq_true h.2⟩⟩, hX⟩ | exact ⟨⟨_, by rw [hpl], ⟨fun h => (by cases h), fun h => (by rw [hpl] at h; exact absurd h.1 (by omega))⟩⟩, hX⟩
theorem ref15_own (k : ByteArray) (hs : List Hash) (B : Nat) (p : Option Addr) (n c : Nat) (w : World) (ha : Sl kHash 35 B w p n c hs) (hn : n ≤ 4398046511104) :
    Ret Try.prog 114 [.string k, .slice p n c] w (fun v w' => (∃ g, v = .slice (some ⟨g, 0, none⟩) 1 1 ∧ Own (kBr (fun j => w.heap.size ≤ j)) 81 0 w.heap.size w' (some ⟨g, 0, none⟩) 1 1 [(k, hs)]) ∧ Ext w w') := by
  have hX := Ext.refl w
  refine enter 11 _ Try.func114 rfl rfl (Nat.le_of_ble_eq_true rfl) ?_
  refine c_seq ?_
  refine r_plain ?_
  refine p1 (x_assign (by conv => lhs; whnf)) ?_
  refine r_nil ?_
  refine t_n ?_
  refine c_seq ?_
  refine r_plain ?_
  refine p1 (x_move (by conv => lhs; whnf)) ?_
  have hXs := hX.size
  refine o_buildSlice u31 inf35 rfl (by decide) (fun base hb => by have h0 : base = #[] := Array.eq_empty_of_size_eq_zero (by simpa using hb); subst h0; rfl) ?_
  intro w1 g6 hN6
  have hE1 := hN6.ext
  have hX := hX.ext hE1
  have hO : Own kHash 35 0 w.heap.size w1 (some ⟨g6, 0, none⟩) 0 0 [] := Own.made kHash 35 0 _ hN6 [] [] 0 0 rfl trivial hXs (by omega) (by omega) (by rfl) (by simp)
  refine p1 (x_move (by conv => lhs; whnf)) ?_
  have hq1 := hX.size
  refine o_append (d := kHash) (hs) u31 inf35 rfl kHash_pos rfl rfl hO (src_pure u31 (ha.ext hX) (by decide)) ha.len (hash_all _ _ _) (rfl) (by omega) (by omega) (by omega) (by omega) (by decide) ?_
  intro p8 c8 w2 hO hM2
  have hX := hX.mod hM2 (Nat.le_refl _)
  rw [List.nil_append] at hO
  refine p1 (x_build2 pl81 (by conv => lhs; whnf) (by conv => lhs; whnf) rfl rfl) ?_
  have hXs := hX.size
  refine o_buildSlice u30 inf81 rfl (by decide) (fun base hb => fill_one (by rfl) base hb) ?_
  intro w3 g10 hN10
  have hE3 := hN10.ext
  have hX := hX.ext hE3
  have hO := hO.ext hE3
  have hI : Own (kBr (fun j => w.heap.size ≤ j)) 81 0 w.heap.size w3 (some ⟨g10, 0, none⟩) 1 1 [(k, hs)] := Own.made _ 81 0 _ hN10 [(k, hs)] [[.string k, .slice p8 (0 + n) c8]] 1 1 rfl ⟨⟨p8, _, c8, rfl, SlS.ofHash hO⟩, trivial⟩ hXs (by omega) (by omega) (by rfl) (by rfl)
  refine p1 (x_assign (by conv => lhs; whnf)) ?_
  refine r_nil ?_
  refine t_n ?_
  refine c_ret ?_
  refine end1 rfl (by conv => lhs; whnf) ?_
  exact ⟨⟨_, rfl, hI⟩, hX⟩
theorem ref15_put (S : Nat → Prop) (l : List Br) (new : List Br) (i m : Nat) (q : Option Addr) (n2 c2 : Nat) (p : Option Addr) (n c : Nat) (w : World) (hL : Sl (kBr S) 81 0 w p n c l) (hN : Sl (kBr S) 81 0 w q n2 c2 new) (hn : n ≤ 100000) (hn2 : n2 ≤ 100000) (him : i + m ≤ n) :
    Ret Try.prog 128 [.agg #[.slice p n c], .int .i64 (i : Int), .int .i64 (m : Int), .slice q n2 c2] w (fun v w' => (∃ q' m' c', v = .agg #[.slice q' m' c'] ∧ m' = i + n2 + (n - (i + m)) ∧ Own (kBr S) 81 0 w.heap.size w' q' m' c' (l.take i ++ new ++ l.drop (i + m))) ∧ Ext w w') := by
  have hX := Ext.refl w
  refine enter 27 _ Try.func128 rfl rfl (Nat.le_of_ble_eq_true rfl) ?_
  refine c_seq ?_
  refine r_plain ?_
  refine o_boxA (by conv => lhs; whnf) ?_
  intro w1 g4 hN4
  have hE1 := hN4.ext
  have hX := hX.ext hE1
  have hB4 := hN4.blk
  have hXs8 := hX.size
  have hB4lt := hB4.lt
  refine o_alloc zr70 ?_
  intro w2 g8 hN8
  have hE2 := hN8.ext
  have hX := hX.ext hE2
  have hB4 := hB4.ext hE2
  have hB8 := hN8.blk
  refine r_nil ?_
  refine t_n ?_
  refine c_seq ?_
  refine r_plain ?_
  refine p1 (x_assign (by conv => lhs; whnf)) ?_
  refine r_nil ?_
  refine t_n ?_
  refine c_seq ?_
  have hg8 := hN8.g_eq
  have hlen := hL.len
  have hcap := hL.cap
  have hlen2 := hN.len
  refine r_plain ?_
  refine p1 (x_move (by conv => lhs; whnf)) ?_
  refine p1 (x_fieldAddr fo70_0 sz30 rfl) ?_
  refine p1 (x_load1 un30 rfl (hB4.cell (rfl))) ?_
  refine p1 (x_move (by conv => lhs; whnf)) ?_
  refine p1 (x_slice_hN u30 sz81 rfl rfl (by omega)) ?_
  obtain ⟨css1, hA1, hsr1⟩ := src_kind u30 ((hL.ext hX).take i (by omega)) kBr_pos
  have hA1 : (kBr S).All 0 _ _ css1 := All.imp2 (fun _ _ h => h) hA1
  have hq1 := hX.size
  have hO : Own (kBr S) 81 0 w.heap.size w2 none 0 0 [] := Own.nil _ _ _ _ _
  refine o_append (d := (kBr S)) (l.take i) u30 inf81 rfl kBr_pos rfl rfl hO (hsr1) (by rw [List.length_take]; omega) (hA1) (rfl) (by omega) (by omega) (by omega) (by omega) (by simp [kBr]) ?_
  intro p15 c15 w3 hO hM3
  have hX := hX.mod hM3 (Nat.le_refl _)
  have hB4 := hB4.mod hM3 (by decide)
  have hB8 := hB8.mod hM3 (by decide)
  refine p1 (x_move (by conv => lhs; whnf)) ?_
  obtain ⟨css2, hA2, hsr2⟩ := src_kind u30 (hN.ext hX) kBr_pos
  have hA2 : (kBr S).All 0 _ _ css2 := All.imp2 (fun _ _ h => h) hA2
  have hq2 := hX.size
  refine o_append (d := (kBr S)) (new) u30 inf81 rfl kBr_pos rfl rfl hO (hsr2) hN.len (hA2) (rfl) (by omega) (by omega) (by omega) (by omega) (by simp [kBr]) ?_
  intro p17 c17 w4 hO hM4
  have hX := hX.mod hM4 (Nat.le_refl _)
  have hB4 := hB4.mod hM4 (by decide)
  have hB8 := hB8.mod hM4 (by decide)
  refine p1 (x_assign (by conv => lhs; whnf)) ?_
  refine r_nil ?_
  refine t_n ?_
  refine c_seq ?_
  refine r_plain ?_
  refine p1 (x_move (by conv => lhs; whnf)) ?_
  refine p1 (x_fieldAddr fo70_0 sz30 rfl) ?_
  refine p1 (x_load1 un30 rfl (hB4.cell (rfl))) ?_
  refine p1 (x_move (by conv => lhs; whnf)) ?_
  refine p1 (x_move (by conv => lhs; whnf)) ?_
  refine p1 (x_add rfl rfl (fits_i64 (by omega) (by omega))) ?_
  have ez : ((i : Int) + (m : Int)).toNat = i + m := by omega
  refine p1 (x_slice_l u30 sz81 rfl rfl (by omega) (by omega)) ?_
  obtain ⟨css3, hA3, hsr3⟩ := src_kind u30 ((hL.ext hX).dropI ((i : Int) + (m : Int)).toNat (by omega)) kBr_pos
  have hA3 : (kBr S).All 0 _ _ css3 := All.imp2 (fun _ _ h => h) hA3
  have hq3 := hX.size
  refine o_append (d := (kBr S)) (l.drop ((i : Int) + (m : Int)).toNat) u30 inf81 rfl kBr_pos rfl rfl hO (hsr3) (by rw [List.length_drop]; omega) (hA3) (rfl) (by omega) (by omega) (by omega) (by omega) (by simp [kBr]) ?_
  intro p25 c25 w5 hO hM5
  have hX := hX.mod hM5 (Nat.le_refl _)
  have hB4 := hB4.mod hM5 (by decide)
  have hB8 := hB8.mod hM5 (by decide)
  refine p1 (x_build1 pl70 (by conv => lhs; whnf) rfl) ?_
  refine o_storeAll rfl (by conv => lhs; whnf) (by simp [Value.oneCell']) (by exact sz70) hB8 (by rfl) ?_
  intro w6 hP6
  have hX := hX.put hP6 (by rw [hN8.g_eq]; exact hXs8)
  have hB4 := hP6.keep hB4 (by omega)
  have hB8 := hP6.blk
  have hO := hO.mod (hP6.mod 0 (Nat.zero_le _)) (Nat.zero_le _) (by simp [kBr])
  refine r_nil ?_
  refine t_n ?_
  refine c_ret ?_
  refine end1c rfl ua70 rfl hB8 sz70 ?_
  exact ⟨⟨_, _, _, rfl, by omega, by rw [ez, List.nil_append] at hO; exact hO⟩, hX⟩
theorem ref15_Create (S : Nat → Prop) (l : List Br) (k : ByteArray) (hs : List Hash) (B : Nat) (q : Option Addr) (n2 c2 : Nat) (p : Option Addr) (n c : Nat) (w : World) (hL : Sl (kBr S) 81 0 w p n c l) (hr : RiseN l) (hn : n ≤ 64) (ha : Sl kHash 35 B w q n2 c2 hs) (hk : k.size ≤ 9223372036854775807) :
    Ret Try.prog 108 [.agg #[.slice p n c], .string k, .slice q n2 c2] w (fun v w' => (∃ q' m' c', v = .tuple #[.agg #[.slice q' m' c'], .int .i64 (brCreate l k hs).2] ∧ Sl (kBr (fun j => S j ∨ w.heap.size ≤ j)) 81 0 w' q' m' c' (brCreate l k hs).1) ∧ Ext w w') := by
  have hX := Ext.refl w
  refine enter 41 _ Try.func108 rfl rfl (Nat.le_of_ble_eq_true rfl) ?_
  refine c_seq ?_
  refine r_plain ?_
  refine o_boxA (by conv => lhs; whnf) ?_
  intro w1 g3 hN3
  have hE1 := hN3.ext
  have hX := hX.ext hE1
  have hB3 := hN3.blk
  have hXs6 := hX.size
  have hB3lt := hB3.lt
  have hlen := hL.len
  have hple := plc_le l k
  refine o_alloc zr70 ?_
  intro w2 g6 hN6
  have hE2 := hN6.ext
  have hX := hX.ext hE2
  have hB3 := hB3.ext hE2
  have hB6 := hN6.blk
  refine p1 (x_assign (by conv => lhs; whnf)) ?_
  refine r_nil ?_
  refine t_n ?_
  refine c_seq ?_
  have hg6 := hN6.g_eq
  refine r_plain ?_
  refine p1 (x_loadB ua70 rfl hB3 sz70) ?_
  refine p1 (x_move (by conv => lhs; whnf)) ?_
  refine o_call Try.func111 fn111 fb111 (ref15_place S l k _ _ _ _ (hL.ext hX)) rfl ?_
  rintro v3 w3 ⟨⟨b13, rfl, hb13⟩, hE3⟩
  have hX := hX.ext hE3
  have hB3 := hB3.ext hE3
  have hB6 := hB6.ext hE3
  refine p1 (x_move (by conv => lhs; whnf)) ?_
  refine p1 (x_extract rfl rfl) ?_
  refine p1 (x_extract rfl rfl) ?_
  refine p1 (x_assign (by conv => lhs; whnf)) ?_
  refine p1 (x_assign (by conv => lhs; whnf)) ?_
  refine r_nil ?_
  refine t_n ?_
  refine c_seq ?_
  refine c_block ?_
  refine c_seq ?_
  refine r_plain ?_
  refine p1 (x_move (by conv => lhs; whnf)) ?_
  refine o_call Try.func32 fn32 fb32 (ref06_Name k _ hk) rfl ?_
  rintro v4 w4 ⟨rfl, hE4⟩
  have hX := hX.ext hE4
  have hB3 := hB3.ext hE4
  have hB6 := hB6.ext hE4
  first | refine p1 (x_notd rfl) ?_ | refine p1 (x_not rfl) ?_
  refine p1 (x_assign (by conv => lhs; whnf)) ?_
  refine r_nil ?_
  refine t_n ?_
  first | refine c_dec rfl (fun hc16 => ?_) (fun hc16 => ?_) | refine c_if rfl (fun hc16 => ?_) (fun hc16 => ?_)
  · try simp only [decide_eq_true_eq, decide_eq_false_iff_not, Bool.not_eq_true, Bool.not_eq_false, Bool.not_eq_eq_eq_not, Bool.not_true, Bool.not_false, Int.not_lt, Int.not_le] at hc16
    have hp : brCreate l k hs = (l, 30) := by unfold brCreate; rw [if_pos hc16]
    refine c_seq ?_
    refine r_plain ?_
    refine p1 (x_loadB ua70 rfl hB3 sz70) ?_
    refine o_storeAll rfl (by conv => lhs; whnf) (by simp [Value.oneCell']) (by exact sz70) hB6 (by rfl) ?_
    intro w5 hP5
    have hX := hX.put hP5 (by rw [hN6.g_eq]; exact hXs6)
    have hB3 := hP5.keep hB3 (by omega)
    have hB6 := hP5.blk
    refine p1 (x_assign (by conv => lhs; whnf)) ?_
    refine r_nil ?_
    refine t_n ?_
    refine c_ret ?_
    refine b_r ?_
    refine t_r ?_
    refine end2c rfl ua70 rfl (by conv => lhs; whnf) hB6 sz70 ?_
    first | exact ⟨⟨p, n, c, by rw [hp], by rw [hp]; exact (hL.ext hX).brMono (fun j _ h => .inl h)⟩, hX⟩ | exact ⟨⟨_, _, _, by rw [hp], by rw [hp, ← hins]; exact hO.sl⟩, hX⟩
  · try simp only [decide_eq_true_eq, decide_eq_false_iff_not, Bool.not_eq_true, Bool.not_eq_false, Bool.not_eq_eq_eq_not, Bool.not_true, Bool.not_false, Int.not_lt, Int.not_le] at hc16
    refine c_seq ?_
    refine r_plain ?_
    refine p1 (x_move (by conv => lhs; whnf)) ?_
    refine o_call Try.func115 fn115 fb115 (ref15_may hs _ _ _ _ _ (ha.ext hX)) rfl ?_
    rintro v6 w6 ⟨rfl, hE6⟩
    have hX := hX.ext hE6
    have hB3 := hB3.ext hE6
    have hB6 := hB6.ext hE6
    first | refine p1 (x_notd rfl) ?_ | refine p1 (x_not rfl) ?_
    refine p1 (x_assign (by conv => lhs; whnf)) ?_
    refine r_nil ?_
    refine t_n ?_
    first | refine c_dec rfl (fun hc21 => ?_) (fun hc21 => ?_) | refine c_if rfl (fun hc21 => ?_) (fun hc21 => ?_)
    · try simp only [decide_eq_true_eq, decide_eq_false_iff_not, Bool.not_eq_true, Bool.not_eq_false, Bool.not_eq_eq_eq_not, Bool.not_true, Bool.not_false, Int.not_lt, Int.not_le] at hc21
      have hp : brCreate l k hs = (l, 41) := by unfold brCreate; rw [if_neg (by simp [hc16]), if_pos hc21]
      refine c_seq ?_
      refine r_plain ?_
      refine p1 (x_loadB ua70 rfl hB3 sz70) ?_
      refine o_storeAll rfl (by conv => lhs; whnf) (by simp [Value.oneCell']) (by exact sz70) hB6 (by rfl) ?_
      intro w7 hP7
      have hX := hX.put hP7 (by rw [hN6.g_eq]; exact hXs6)
      have hB3 := hP7.keep hB3 (by omega)
      have hB6 := hP7.blk
      refine p1 (x_assign (by conv => lhs; whnf)) ?_
      refine r_nil ?_
      refine t_n ?_
      refine c_ret ?_
      refine b_r ?_
      refine t_r ?_
      refine end2c rfl ua70 rfl (by conv => lhs; whnf) hB6 sz70 ?_
      first | exact ⟨⟨p, n, c, by rw [hp], by rw [hp]; exact (hL.ext hX).brMono (fun j _ h => .inl h)⟩, hX⟩ | exact ⟨⟨_, _, _, by rw [hp], by rw [hp, ← hins]; exact hO.sl⟩, hX⟩
    · try simp only [decide_eq_true_eq, decide_eq_false_iff_not, Bool.not_eq_true, Bool.not_eq_false, Bool.not_eq_eq_eq_not, Bool.not_true, Bool.not_false, Int.not_lt, Int.not_le] at hc21
      have hn2 : n2 ≤ 4194304000 := by have h16 := mayB_len hc21; have := ha.len; omega
      refine c_seq ?_
      refine r_plain ?_
      refine p1 (x_move (by conv => lhs; whnf)) ?_
      refine p1 (x_assign (by conv => lhs; whnf)) ?_
      refine r_nil ?_
      refine t_n ?_
      first | refine c_dec rfl (fun hc26 => ?_) (fun hc26 => ?_) | refine c_if rfl (fun hc26 => ?_) (fun hc26 => ?_)
      · try simp only [decide_eq_true_eq, decide_eq_false_iff_not, Bool.not_eq_true, Bool.not_eq_false, Bool.not_eq_eq_eq_not, Bool.not_true, Bool.not_false, Int.not_lt, Int.not_le] at hc26
        have hp : brCreate l k hs = (l, 23) := by unfold brCreate; rw [if_neg (by simp [hc16]), if_neg (by simp [hc21]), if_pos ((isAt_iff hr k).1 (hb13.1 hc26))]
        refine c_seq ?_
        refine r_plain ?_
        refine p1 (x_loadB ua70 rfl hB3 sz70) ?_
        refine o_storeAll rfl (by conv => lhs; whnf) (by simp [Value.oneCell']) (by exact sz70) hB6 (by rfl) ?_
        intro w8 hP8
        have hX := hX.put hP8 (by rw [hN6.g_eq]; exact hXs6)
        have hB3 := hP8.keep hB3 (by omega)
        have hB6 := hP8.blk
        refine p1 (x_assign (by conv => lhs; whnf)) ?_
        refine r_nil ?_
        refine t_n ?_
        refine c_ret ?_
        refine b_r ?_
        refine t_r ?_
        refine end2c rfl ua70 rfl (by conv => lhs; whnf) hB6 sz70 ?_
        first | exact ⟨⟨p, n, c, by rw [hp], by rw [hp]; exact (hL.ext hX).brMono (fun j _ h => .inl h)⟩, hX⟩ | exact ⟨⟨_, _, _, by rw [hp], by rw [hp, ← hins]; exact hO.sl⟩, hX⟩
      · try simp only [decide_eq_true_eq, decide_eq_false_iff_not, Bool.not_eq_true, Bool.not_eq_false, Bool.not_eq_eq_eq_not, Bool.not_true, Bool.not_false, Int.not_lt, Int.not_le] at hc26
        have hna : ¬ isAt l (plc l k) k := fun h => by rw [hb13.2 h] at hc26; cases hc26
        have hnn : ¬ asc l k ≠ none := fun h => hna ((isAt_iff hr k).2 h)
        refine c_seq ?_
        refine r_plain ?_
        refine p1 (x_fieldAddr fo70_0 sz30 rfl) ?_
        refine p1 (x_load1 un30 rfl (hB3.cell (rfl))) ?_
        refine p1 (x_len_slice u30 rfl) ?_
        refine p1 (x_geq rfl rfl) ?_
        refine p1 (x_assign (by conv => lhs; whnf)) ?_
        refine r_nil ?_
        refine t_n ?_
        first | refine c_dec rfl (fun hc29 => ?_) (fun hc29 => ?_) | refine c_if rfl (fun hc29 => ?_) (fun hc29 => ?_)
        · try simp only [decide_eq_true_eq, decide_eq_false_iff_not, Bool.not_eq_true, Bool.not_eq_false, Bool.not_eq_eq_eq_not, Bool.not_true, Bool.not_false, Int.not_lt, Int.not_le] at hc29
          have hp : brCreate l k hs = (l, 21) := by unfold brCreate; rw [if_neg (by simp [hc16]), if_neg (by simp [hc21]), if_neg hnn, if_pos (by omega)]
          refine c_seq ?_
          refine r_plain ?_
          refine p1 (x_loadB ua70 rfl hB3 sz70) ?_
          refine o_storeAll rfl (by conv => lhs; whnf) (by simp [Value.oneCell']) (by exact sz70) hB6 (by rfl) ?_
          intro w9 hP9
          have hX := hX.put hP9 (by rw [hN6.g_eq]; exact hXs6)
          have hB3 := hP9.keep hB3 (by omega)
          have hB6 := hP9.blk
          refine p1 (x_assign (by conv => lhs; whnf)) ?_
          refine r_nil ?_
          refine t_n ?_
          refine c_ret ?_
          refine b_r ?_
          refine t_r ?_
          refine end2c rfl ua70 rfl (by conv => lhs; whnf) hB6 sz70 ?_
          first | exact ⟨⟨p, n, c, by rw [hp], by rw [hp]; exact (hL.ext hX).brMono (fun j _ h => .inl h)⟩, hX⟩ | exact ⟨⟨_, _, _, by rw [hp], by rw [hp, ← hins]; exact hO.sl⟩, hX⟩
        · try simp only [decide_eq_true_eq, decide_eq_false_iff_not, Bool.not_eq_true, Bool.not_eq_false, Bool.not_eq_eq_eq_not, Bool.not_true, Bool.not_false, Int.not_lt, Int.not_le] at hc29
          have hp : brCreate l k hs = (ins l k (some hs), 0) := by unfold brCreate; rw [if_neg (by simp [hc16]), if_neg (by simp [hc21]), if_neg hnn, if_neg (by omega)]
          have hins := ins_put k (some hs) 0 (.inr ⟨hna, rfl⟩)
          refine c_skip ?_
          refine b_n ?_
          refine t_n ?_
          refine c_seq ?_
          refine r_held (fun w1 w2 => Mod g6 70 w1 w2) mixed ?_
          intro w10 hE10
          have hX := hX.ext hE10
          have hB3 := hB3.ext hE10
          have hB6 := hB6.ext hE10
          have hSr10 : (fun w1 w2 => Mod g6 70 w1 w2) w10 w10 := Mod.refl _ _ _
          refine h_take 0 rfl (by kernel_rfl) (by kernel_rfl) (by kernel_rfl) hSr10 (fun wS hSS => by (have hB3 := hB3.modB hSS (by omega); exact (x_loadB ua70 rfl hB3 sz70))) ?_
          refine h_take 1 rfl (by kernel_rfl) (by kernel_rfl) (by kernel_rfl) hSr10 (fun wS hSS => by ( exact (x_move (by conv => lhs; whnf)))) ?_
          refine h_take 2 rfl (by kernel_rfl) (by kernel_rfl) (by kernel_rfl) hSr10 (fun wS hSS => by ( exact (x_move (by conv => lhs; whnf)))) ?_
          refine h_take 3 rfl (by kernel_rfl) (by kernel_rfl) (by kernel_rfl) hSr10 (fun wS hSS => by ( exact (x_move (by conv => lhs; whnf)))) ?_
          refine h_one 4 _ rfl (by kernel_rfl) (hop_of_list (fun Q4 hQ4 => ?_))
          have hXs := hX.size
          refine o_call Try.func114 fn114 fb114 (ref15_own k hs _ _ _ _ _ (ha.ext hX) (by omega)) rfl ?_
          rintro v11 w11 ⟨⟨gO, rfl, hI⟩, hE11⟩
          have hX := hX.ext hE11
          have hB3 := hB3.ext hE11
          have hB6 := hB6.ext hE11
          have hSr10 := hSr10.ext hE11
          have hI := hI.brMono (S' := (fun j => S j ∨ w.heap.size ≤ j)) (fun j _ h => .inr (Nat.le_trans hXs h))
          refine hop_end hQ4 ⟨hSr10, ?_⟩
          refine h_one 5 _ rfl (by kernel_rfl) (hop_of_list (fun Q5 hQ5 => ?_))
          have hXs := hX.size
          refine o_call Try.func128 fn128 fb128 (ref15_put (fun j => S j ∨ w.heap.size ≤ j) l [(k, hs)] (plc l k) 0 _ _ _ _ _ _ _ ((hL.ext hX).brMono (fun j _ h => .inl h)) hI.sl (by omega) (by omega) (by omega)) rfl ?_
          rintro v12 w12 ⟨⟨qp, mp, cp, rfl, hmp, hO⟩, hE12⟩
          have hX := hX.ext hE12
          have hB3 := hB3.ext hE12
          have hB6 := hB6.ext hE12
          have hSr10 := hSr10.ext hE12
          have hI := hI.ext hE12
          refine hop_end hQ5 ⟨hSr10, ?_⟩
          refine h_one 6 _ rfl (by kernel_rfl) (hop_of_list (fun Q6 hQ6 => ?_))
          refine o_storeAll rfl (by conv => lhs; whnf) (by simp [Value.oneCell']) (by exact sz70) hB6 (by rfl) ?_
          intro w13 hP13
          have hX := hX.put hP13 (by rw [hN6.g_eq]; exact hXs6)
          have hB3 := hP13.keep hB3 (by omega)
          have hB6 := hP13.blk
          have hSr10 := hSr10.mod (hP13.mod g6 (Nat.le_refl _)) trivial
          have hI := hI.mod (hP13.mod 0 (Nat.zero_le _)) (Nat.zero_le _) (by simp [kBr])
          have hO := hO.mod (hP13.mod 0 (Nat.zero_le _)) (Nat.zero_le _) (by simp [kBr])
          refine hop_end hQ6 ⟨hSr10, ?_⟩
          refine h_take 7 rfl (by kernel_rfl) (by kernel_rfl) (by kernel_rfl) hSr10 (fun wS hSS => by ( exact (x_assign (by conv => lhs; whnf)))) ?_
          refine h_done (by kernel_rfl) ?_
          refine t_n ?_
          refine c_ret ?_
          refine end2c rfl ua70 rfl (by conv => lhs; whnf) hB6 sz70 ?_
          first | exact ⟨⟨p, n, c, by rw [hp], by rw [hp]; exact (hL.ext hX).brMono (fun j _ h => .inl h)⟩, hX⟩ | exact ⟨⟨_, _, _, by rw [hp], by rw [hp, ← hins]; exact hO.sl⟩, hX⟩
theorem ref15_Move (S : Nat → Prop) (l : List Br) (k : ByteArray) (hs : List Hash) (B : Nat) (q : Option Addr) (n2 c2 : Nat) (p : Option Addr) (n c : Nat) (w : World) (hL : Sl (kBr S) 81 0 w p n c l) (hr : RiseN l) (hn : n ≤ 64) (ha : Sl kHash 35 B w q n2 c2 hs) (hk : k.size ≤ 9223372036854775807) :
    Ret Try.prog 109 [.agg #[.slice p n c], .string k, .slice q n2 c2] w (fun v w' => (∃ q' m' c', v = .tuple #[.agg #[.slice q' m' c'], .int .i64 (brMove l k hs).2] ∧ Sl (kBr (fun j => S j ∨ w.heap.size ≤ j)) 81 0 w' q' m' c' (brMove l k hs).1) ∧ Ext w w') := by
  have hX := Ext.refl w
  refine enter 31 _ Try.func109 rfl rfl (Nat.le_of_ble_eq_true rfl) ?_
  refine c_seq ?_
  refine r_plain ?_
  refine o_boxA (by conv => lhs; whnf) ?_
  intro w1 g3 hN3
  have hE1 := hN3.ext
  have hX := hX.ext hE1
  have hB3 := hN3.blk
  have hXs6 := hX.size
  have hB3lt := hB3.lt
  have hlen := hL.len
  have hple := plc_le l k
  refine o_alloc zr70 ?_
  intro w2 g6 hN6
  have hE2 := hN6.ext
  have hX := hX.ext hE2
  have hB3 := hB3.ext hE2
  have hB6 := hN6.blk
  refine p1 (x_assign (by conv => lhs; whnf)) ?_
  refine r_nil ?_
  refine t_n ?_
  refine c_seq ?_
  have hg6 := hN6.g_eq
  refine r_plain ?_
  refine p1 (x_loadB ua70 rfl hB3 sz70) ?_
  refine p1 (x_move (by conv => lhs; whnf)) ?_
  refine o_call Try.func111 fn111 fb111 (ref15_place S l k _ _ _ _ (hL.ext hX)) rfl ?_
  rintro v3 w3 ⟨⟨b13, rfl, hb13⟩, hE3⟩
  have hX := hX.ext hE3
  have hB3 := hB3.ext hE3
  have hB6 := hB6.ext hE3
  refine p1 (x_move (by conv => lhs; whnf)) ?_
  refine p1 (x_extract rfl rfl) ?_
  refine p1 (x_extract rfl rfl) ?_
  refine p1 (x_assign (by conv => lhs; whnf)) ?_
  refine p1 (x_assign (by conv => lhs; whnf)) ?_
  refine r_nil ?_
  refine t_n ?_
  refine c_seq ?_
  refine c_block ?_
  refine c_seq ?_
  refine r_plain ?_
  refine p1 (x_move (by conv => lhs; whnf)) ?_
  first | refine p1 (x_notd rfl) ?_ | refine p1 (x_not rfl) ?_
  refine p1 (x_assign (by conv => lhs; whnf)) ?_
  refine r_nil ?_
  refine t_n ?_
  first | refine c_dec rfl (fun hc16 => ?_) (fun hc16 => ?_) | refine c_if rfl (fun hc16 => ?_) (fun hc16 => ?_)
  · try simp only [decide_eq_true_eq, decide_eq_false_iff_not, Bool.not_eq_true, Bool.not_eq_false, Bool.not_eq_eq_eq_not, Bool.not_true, Bool.not_false, Int.not_lt, Int.not_le] at hc16
    have hn0 : asc l k = none := Classical.byContradiction fun h => by rw [hb13.2 ((isAt_iff hr k).2 h)] at hc16; cases hc16
    have hp : brMove l k hs = (l, 45) := by unfold brMove; rw [if_pos hn0]
    refine c_seq ?_
    refine r_plain ?_
    refine p1 (x_loadB ua70 rfl hB3 sz70) ?_
    refine o_storeAll rfl (by conv => lhs; whnf) (by simp [Value.oneCell']) (by exact sz70) hB6 (by rfl) ?_
    intro w4 hP4
    have hX := hX.put hP4 (by rw [hN6.g_eq]; exact hXs6)
    have hB3 := hP4.keep hB3 (by omega)
    have hB6 := hP4.blk
    refine p1 (x_assign (by conv => lhs; whnf)) ?_
    refine r_nil ?_
    refine t_n ?_
    refine c_ret ?_
    refine b_r ?_
    refine t_r ?_
    refine end2c rfl ua70 rfl (by conv => lhs; whnf) hB6 sz70 ?_
    first | exact ⟨⟨p, n, c, by rw [hp], by rw [hp]; exact (hL.ext hX).brMono (fun j _ h => .inl h)⟩, hX⟩ | exact ⟨⟨_, _, _, by rw [hp], by rw [hp, ← hins]; exact hO.sl⟩, hX⟩
  · try simp only [decide_eq_true_eq, decide_eq_false_iff_not, Bool.not_eq_true, Bool.not_eq_false, Bool.not_eq_eq_eq_not, Bool.not_true, Bool.not_false, Int.not_lt, Int.not_le] at hc16
    have hat := hb13.1 hc16
    have hat1 := hat.1
    have hn0 : asc l k ≠ none := (isAt_iff hr k).1 hat
    refine c_seq ?_
    refine r_plain ?_
    refine p1 (x_move (by conv => lhs; whnf)) ?_
    refine o_call Try.func115 fn115 fb115 (ref15_may hs _ _ _ _ _ (ha.ext hX)) rfl ?_
    rintro v5 w5 ⟨rfl, hE5⟩
    have hX := hX.ext hE5
    have hB3 := hB3.ext hE5
    have hB6 := hB6.ext hE5
    first | refine p1 (x_notd rfl) ?_ | refine p1 (x_not rfl) ?_
    refine p1 (x_assign (by conv => lhs; whnf)) ?_
    refine r_nil ?_
    refine t_n ?_
    first | refine c_dec rfl (fun hc20 => ?_) (fun hc20 => ?_) | refine c_if rfl (fun hc20 => ?_) (fun hc20 => ?_)
    · try simp only [decide_eq_true_eq, decide_eq_false_iff_not, Bool.not_eq_true, Bool.not_eq_false, Bool.not_eq_eq_eq_not, Bool.not_true, Bool.not_false, Int.not_lt, Int.not_le] at hc20
      have hp : brMove l k hs = (l, 41) := by unfold brMove; rw [if_neg hn0, if_pos hc20]
      refine c_seq ?_
      refine r_plain ?_
      refine p1 (x_loadB ua70 rfl hB3 sz70) ?_
      refine o_storeAll rfl (by conv => lhs; whnf) (by simp [Value.oneCell']) (by exact sz70) hB6 (by rfl) ?_
      intro w6 hP6
      have hX := hX.put hP6 (by rw [hN6.g_eq]; exact hXs6)
      have hB3 := hP6.keep hB3 (by omega)
      have hB6 := hP6.blk
      refine p1 (x_assign (by conv => lhs; whnf)) ?_
      refine r_nil ?_
      refine t_n ?_
      refine c_ret ?_
      refine b_r ?_
      refine t_r ?_
      refine end2c rfl ua70 rfl (by conv => lhs; whnf) hB6 sz70 ?_
      first | exact ⟨⟨p, n, c, by rw [hp], by rw [hp]; exact (hL.ext hX).brMono (fun j _ h => .inl h)⟩, hX⟩ | exact ⟨⟨_, _, _, by rw [hp], by rw [hp, ← hins]; exact hO.sl⟩, hX⟩
    · try simp only [decide_eq_true_eq, decide_eq_false_iff_not, Bool.not_eq_true, Bool.not_eq_false, Bool.not_eq_eq_eq_not, Bool.not_true, Bool.not_false, Int.not_lt, Int.not_le] at hc20
      have hn2 : n2 ≤ 4194304000 := by have h16 := mayB_len hc20; have := ha.len; omega
      have hp : brMove l k hs = (ins l k (some hs), 0) := by unfold brMove; rw [if_neg hn0, if_neg (by simp [hc20])]
      have hins := ins_put k (some hs) 1 (.inl ⟨hat, rfl⟩)
      refine c_skip ?_
      refine b_n ?_
      refine t_n ?_
      refine c_seq ?_
      refine r_held (fun w1 w2 => Mod g6 70 w1 w2) mixed ?_
      intro w7 hE7
      have hX := hX.ext hE7
      have hB3 := hB3.ext hE7
      have hB6 := hB6.ext hE7
      have hSr6 : (fun w1 w2 => Mod g6 70 w1 w2) w7 w7 := Mod.refl _ _ _
      refine h_take 0 rfl (by kernel_rfl) (by kernel_rfl) (by kernel_rfl) hSr6 (fun wS hSS => by (have hB3 := hB3.modB hSS (by omega); exact (x_loadB ua70 rfl hB3 sz70))) ?_
      refine h_take 1 rfl (by kernel_rfl) (by kernel_rfl) (by kernel_rfl) hSr6 (fun wS hSS => by ( exact (x_move (by conv => lhs; whnf)))) ?_
      refine h_take 2 rfl (by kernel_rfl) (by kernel_rfl) (by kernel_rfl) hSr6 (fun wS hSS => by ( exact (x_move (by conv => lhs; whnf)))) ?_
      refine h_take 3 rfl (by kernel_rfl) (by kernel_rfl) (by kernel_rfl) hSr6 (fun wS hSS => by ( exact (x_move (by conv => lhs; whnf)))) ?_
      refine h_one 4 _ rfl (by kernel_rfl) (hop_of_list (fun Q4 hQ4 => ?_))
      have hXs := hX.size
      refine o_call Try.func114 fn114 fb114 (ref15_own k hs _ _ _ _ _ (ha.ext hX) (by omega)) rfl ?_
      rintro v8 w8 ⟨⟨gO, rfl, hI⟩, hE8⟩
      have hX := hX.ext hE8
      have hB3 := hB3.ext hE8
      have hB6 := hB6.ext hE8
      have hSr6 := hSr6.ext hE8
      have hI := hI.brMono (S' := (fun j => S j ∨ w.heap.size ≤ j)) (fun j _ h => .inr (Nat.le_trans hXs h))
      refine hop_end hQ4 ⟨hSr6, ?_⟩
      refine h_one 5 _ rfl (by kernel_rfl) (hop_of_list (fun Q5 hQ5 => ?_))
      have hXs := hX.size
      refine o_call Try.func128 fn128 fb128 (ref15_put (fun j => S j ∨ w.heap.size ≤ j) l [(k, hs)] (plc l k) 1 _ _ _ _ _ _ _ ((hL.ext hX).brMono (fun j _ h => .inl h)) hI.sl (by omega) (by omega) (by omega)) rfl ?_
      rintro v9 w9 ⟨⟨qp, mp, cp, rfl, hmp, hO⟩, hE9⟩
      have hX := hX.ext hE9
      have hB3 := hB3.ext hE9
      have hB6 := hB6.ext hE9
      have hSr6 := hSr6.ext hE9
      have hI := hI.ext hE9
      refine hop_end hQ5 ⟨hSr6, ?_⟩
      refine h_one 6 _ rfl (by kernel_rfl) (hop_of_list (fun Q6 hQ6 => ?_))
      refine o_storeAll rfl (by conv => lhs; whnf) (by simp [Value.oneCell']) (by exact sz70) hB6 (by rfl) ?_
      intro w10 hP10
      have hX := hX.put hP10 (by rw [hN6.g_eq]; exact hXs6)
      have hB3 := hP10.keep hB3 (by omega)
      have hB6 := hP10.blk
      have hSr6 := hSr6.mod (hP10.mod g6 (Nat.le_refl _)) trivial
      have hI := hI.mod (hP10.mod 0 (Nat.zero_le _)) (Nat.zero_le _) (by simp [kBr])
      have hO := hO.mod (hP10.mod 0 (Nat.zero_le _)) (Nat.zero_le _) (by simp [kBr])
      refine hop_end hQ6 ⟨hSr6, ?_⟩
      refine h_take 7 rfl (by kernel_rfl) (by kernel_rfl) (by kernel_rfl) hSr6 (fun wS hSS => by ( exact (x_assign (by conv => lhs; whnf)))) ?_
      refine h_done (by kernel_rfl) ?_
      refine t_n ?_
      refine c_ret ?_
      refine end2c rfl ua70 rfl (by conv => lhs; whnf) hB6 sz70 ?_
      first | exact ⟨⟨p, n, c, by rw [hp], by rw [hp]; exact (hL.ext hX).brMono (fun j _ h => .inl h)⟩, hX⟩ | exact ⟨⟨_, _, _, by rw [hp], by rw [hp, ← hins]; exact hO.sl⟩, hX⟩
theorem ref15_Delete (S : Nat → Prop) (l : List Br) (k : ByteArray) (p : Option Addr) (n c : Nat) (w : World) (hL : Sl (kBr S) 81 0 w p n c l) (hr : RiseN l) (hn : n ≤ 64) :
    Ret Try.prog 110 [.agg #[.slice p n c], .string k] w (fun v w' => (∃ q' m' c', v = .tuple #[.agg #[.slice q' m' c'], .int .i64 (brDelete l k).2] ∧ Sl (kBr (fun j => S j ∨ w.heap.size ≤ j)) 81 0 w' q' m' c' (brDelete l k).1) ∧ Ext w w') := by
  have hX := Ext.refl w
  refine enter 20 _ Try.func110 rfl rfl (Nat.le_of_ble_eq_true rfl) ?_
  refine c_seq ?_
  refine r_plain ?_
  refine o_boxA (by conv => lhs; whnf) ?_
  intro w1 g2 hN2
  have hE1 := hN2.ext
  have hX := hX.ext hE1
  have hB2 := hN2.blk
  have hXs4 := hX.size
  have hB2lt := hB2.lt
  have hlen := hL.len
  have hple := plc_le l k
  refine o_alloc zr70 ?_
  intro w2 g4 hN4
  have hE2 := hN4.ext
  have hX := hX.ext hE2
  have hB2 := hB2.ext hE2
  have hB4 := hN4.blk
  refine p1 (x_assign (by conv => lhs; whnf)) ?_
  refine r_nil ?_
  refine t_n ?_
  refine c_seq ?_
  have hg4 := hN4.g_eq
  refine r_plain ?_
  refine p1 (x_loadB ua70 rfl hB2 sz70) ?_
  refine p1 (x_move (by conv => lhs; whnf)) ?_
  refine o_call Try.func111 fn111 fb111 (ref15_place S l k _ _ _ _ (hL.ext hX)) rfl ?_
  rintro v3 w3 ⟨⟨b13, rfl, hb13⟩, hE3⟩
  have hX := hX.ext hE3
  have hB2 := hB2.ext hE3
  have hB4 := hB4.ext hE3
  refine p1 (x_move (by conv => lhs; whnf)) ?_
  refine p1 (x_extract rfl rfl) ?_
  refine p1 (x_extract rfl rfl) ?_
  refine p1 (x_assign (by conv => lhs; whnf)) ?_
  refine p1 (x_assign (by conv => lhs; whnf)) ?_
  refine r_nil ?_
  refine t_n ?_
  refine c_seq ?_
  refine c_seq ?_
  refine r_plain ?_
  refine p1 (x_move (by conv => lhs; whnf)) ?_
  first | refine p1 (x_notd rfl) ?_ | refine p1 (x_not rfl) ?_
  refine r_nil ?_
  refine t_n ?_
  first | refine c_dec rfl (fun hc15 => ?_) (fun hc15 => ?_) | refine c_if rfl (fun hc15 => ?_) (fun hc15 => ?_)
  · try simp only [decide_eq_true_eq, decide_eq_false_iff_not, Bool.not_eq_true, Bool.not_eq_false, Bool.not_eq_eq_eq_not, Bool.not_true, Bool.not_false, Int.not_lt, Int.not_le] at hc15
    have hn0 : asc l k = none := Classical.byContradiction fun h => by rw [hb13.2 ((isAt_iff hr k).2 h)] at hc15; cases hc15
    have hp : brDelete l k = (l, 45) := by unfold brDelete; rw [if_pos hn0]
    refine c_seq ?_
    refine r_plain ?_
    refine p1 (x_loadB ua70 rfl hB2 sz70) ?_
    refine o_storeAll rfl (by conv => lhs; whnf) (by simp [Value.oneCell']) (by exact sz70) hB4 (by rfl) ?_
    intro w4 hP4
    have hX := hX.put hP4 (by rw [hN4.g_eq]; exact hXs4)
    have hB2 := hP4.keep hB2 (by omega)
    have hB4 := hP4.blk
    refine p1 (x_assign (by conv => lhs; whnf)) ?_
    refine r_nil ?_
    refine t_n ?_
    refine c_ret ?_
    refine t_r ?_
    refine end2c rfl ua70 rfl (by conv => lhs; whnf) hB4 sz70 ?_
    first | exact ⟨⟨p, n, c, by rw [hp], by rw [hp]; exact (hL.ext hX).brMono (fun j _ h => .inl h)⟩, hX⟩ | exact ⟨⟨_, _, _, by rw [hp], by rw [hp, ← hins]; exact hO.sl⟩, hX⟩
  · try simp only [decide_eq_true_eq, decide_eq_false_iff_not, Bool.not_eq_true, Bool.not_eq_false, Bool.not_eq_eq_eq_not, Bool.not_true, Bool.not_false, Int.not_lt, Int.not_le] at hc15
    have hat := hb13.1 hc15
    have hat1 := hat.1
    have hn0 : asc l k ≠ none := (isAt_iff hr k).1 hat
    have hp : brDelete l k = (ins l k none, 0) := by unfold brDelete; rw [if_neg hn0]
    have hins := ins_put k none 1 (.inl ⟨hat, rfl⟩)
    refine c_skip ?_
    refine t_n ?_
    refine c_seq ?_
    refine r_plain ?_
    refine p1 (x_loadB ua70 rfl hB2 sz70) ?_
    refine p1 (x_move (by conv => lhs; whnf)) ?_
    have hXs := hX.size
    refine o_call Try.func128 fn128 fb128 (ref15_put (fun j => S j ∨ w.heap.size ≤ j) l [] (plc l k) 1 _ _ _ _ _ _ _ ((hL.ext hX).brMono (fun j _ h => .inl h)) (Sl.nil _ _ _ _ _ _ (by omega)) (by omega) (by omega) (by omega)) rfl ?_
    rintro v5 w5 ⟨⟨qp, mp, cp, rfl, hmp, hO⟩, hE5⟩
    have hX := hX.ext hE5
    have hB2 := hB2.ext hE5
    have hB4 := hB4.ext hE5
    refine o_storeAll rfl (by conv => lhs; whnf) (by simp [Value.oneCell']) (by exact sz70) hB4 (by rfl) ?_
    intro w6 hP6
    have hX := hX.put hP6 (by rw [hN4.g_eq]; exact hXs4)
    have hB2 := hP6.keep hB2 (by omega)
    have hB4 := hP6.blk
    have hO := hO.mod (hP6.mod 0 (Nat.zero_le _)) (Nat.zero_le _) (by simp [kBr])
    refine p1 (x_assign (by conv => lhs; whnf)) ?_
    refine r_nil ?_
    refine t_n ?_
    refine c_ret ?_
    refine end2c rfl ua70 rfl (by conv => lhs; whnf) hB4 sz70 ?_
    first | exact ⟨⟨p, n, c, by rw [hp], by rw [hp]; exact (hL.ext hX).brMono (fun j _ h => .inl h)⟩, hX⟩ | exact ⟨⟨_, _, _, by rw [hp], by rw [hp, ← hins]; exact hO.sl⟩, hX⟩
theorem ref15_Heads (S : Nat → Prop) (l : List Br) (k : ByteArray) (p : Option Addr) (n c : Nat) (w : World) (hL : Sl (kBr S) 81 0 w p n c l) (hr : RiseN l) :
    Ret Try.prog 65 [.agg #[.slice p n c], .string k] w (fun v w' => (∃ q m c', v = .tuple #[.slice q m c', .int .i64 (brHeads l k).2] ∧ Sl kHash 35 0 w' q m c' (brHeads l k).1) ∧ Ext w w') := by
  have hX := Ext.refl w
  refine enter 22 _ Try.func65 rfl rfl (Nat.le_of_ble_eq_true rfl) ?_
  refine c_seq ?_
  refine r_plain ?_
  refine o_boxA (by conv => lhs; whnf) ?_
  intro w1 g2 hN2
  have hE1 := hN2.ext
  have hX := hX.ext hE1
  have hB2 := hN2.blk
  refine p1 (x_assign (by conv => lhs; whnf)) ?_
  refine p1 (x_assign (by conv => lhs; whnf)) ?_
  refine r_nil ?_
  refine t_n ?_
  refine c_seq ?_
  refine r_plain ?_
  refine p1 (x_loadB ua70 rfl hB2 sz70) ?_
  refine p1 (x_move (by conv => lhs; whnf)) ?_
  have hlen := hL.len
  refine o_call Try.func111 fn111 fb111 (ref15_place S l k _ _ _ _ (hL.ext hX)) rfl ?_
  rintro v2 w2 ⟨⟨b13, rfl, hb13⟩, hE2⟩
  have hX := hX.ext hE2
  have hB2 := hB2.ext hE2
  refine p1 (x_move (by conv => lhs; whnf)) ?_
  refine p1 (x_extract rfl rfl) ?_
  refine p1 (x_extract rfl rfl) ?_
  refine p1 (x_assign (by conv => lhs; whnf)) ?_
  refine p1 (x_assign (by conv => lhs; whnf)) ?_
  refine r_nil ?_
  refine t_n ?_
  refine c_seq ?_
  refine c_seq ?_
  refine r_plain ?_
  refine p1 (x_move (by conv => lhs; whnf)) ?_
  first | refine p1 (x_notd rfl) ?_ | refine p1 (x_not rfl) ?_
  refine r_nil ?_
  refine t_n ?_
  first | refine c_dec rfl (fun hc15 => ?_) (fun hc15 => ?_) | refine c_if rfl (fun hc15 => ?_) (fun hc15 => ?_)
  · try simp only [decide_eq_true_eq, decide_eq_false_iff_not, Bool.not_eq_true, Bool.not_eq_false, Bool.not_eq_eq_eq_not, Bool.not_true, Bool.not_false, Int.not_lt, Int.not_le] at hc15
    have hn0 : asc l k = none := Classical.byContradiction fun h => by rw [hb13.2 ((isAt_iff hr k).2 h)] at hc15; cases hc15
    have hp : brHeads l k = ([], 45) := by unfold brHeads; rw [hn0]
    refine c_seq ?_
    refine r_plain ?_
    refine p1 (x_assign (by conv => lhs; whnf)) ?_
    refine p1 (x_assign (by conv => lhs; whnf)) ?_
    refine r_nil ?_
    refine t_n ?_
    refine c_ret ?_
    refine t_r ?_
    refine end2 rfl (by conv => lhs; whnf) (by conv => lhs; whnf) ?_
    first | exact ⟨⟨none, 0, 0, by rw [hp], by rw [hp]; exact Sl.nil _ _ _ _ _ _ (by omega)⟩, hX⟩ | exact ⟨⟨_, _, _, by rw [hp], by rw [hp]; exact hS1.hash 0⟩, hX⟩
  · try simp only [decide_eq_true_eq, decide_eq_false_iff_not, Bool.not_eq_true, Bool.not_eq_false, Bool.not_eq_eq_eq_not, Bool.not_true, Bool.not_false, Int.not_lt, Int.not_le] at hc15
    have hat := hb13.1 hc15
    have hat1 := hat.1
    have hp : brHeads l k = ((l.getD (plc l k) default).2, 0) := by unfold brHeads; rw [asc_at hr hat]
    obtain ⟨q1, m1, c1, hrow1, hc0_1, hc1_1, hS1⟩ := (hL.ext hX).brAtS (plc l k) (by omega)
    refine c_skip ?_
    refine t_n ?_
    refine c_seq ?_
    refine r_plain ?_
    refine p1 (x_fieldAddr fo70_0 sz30 rfl) ?_
    refine p1 (x_load1 un30 rfl (hB2.cell (rfl))) ?_
    refine p1 (x_move (by conv => lhs; whnf)) ?_
    refine p1 (x_ixs u30 sz81 rfl rfl ((hL.ext hX).adr kBr_pos (by omega)) (by omega) (by omega)) ?_
    refine p1 (x_fieldAddr fo81_1 sz31 rfl) ?_
    refine p1 (x_load1 un31 rfl hc1_1) ?_
    refine p1 (x_assign (by conv => lhs; whnf)) ?_
    refine p1 (x_assign (by conv => lhs; whnf)) ?_
    refine r_nil ?_
    refine t_n ?_
    refine c_ret ?_
    refine end2 rfl (by conv => lhs; whnf) (by conv => lhs; whnf) ?_
    first | exact ⟨⟨none, 0, 0, by rw [hp], by rw [hp]; exact Sl.nil _ _ _ _ _ _ (by omega)⟩, hX⟩ | exact ⟨⟨_, _, _, by rw [hp], by rw [hp]; exact hS1.hash 0⟩, hX⟩
end Go.Proofs.Eng
