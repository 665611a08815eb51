import Derived.Test.YtjbfgmkemideiaaKI3
/- Merged: D5 P9 F5 A7 A12 D6 T9 A11 P4 D7 -/
section
set_option linter.unusedVariables false
set_option linter.unusedSimpArgs false
set_option maxRecDepth 100000
set_option maxHeartbeats 4000000
namespace Go.Proofs.Eng
open Go.RowKit
open Extern.Stop (cell)
theorem ref17_laid (l : List Rec) (B : Nat) (p : Option Addr) (n c : Nat) (w : World) (hl : Sl kRecA 33 B w p n c l) (hkk : ∀ x ∈ l, x.1.size ≤ 9223372036854775807 ∧ ∀ y ∈ x.2.1, y.1.size ≤ 9223372036854775807) :
    Ret Try.prog 80 [.slice p n c] w (fun v w' => (∃ q m c', v = .tuple #[.slice q m c', .int .i64 (putI l).2] ∧ Own kByte 5 0 w.heap.size w' q m c' (putI l).1) ∧ Ext w w') := by
  have hX := Ext.refl w
  refine enter 114 _ Try.func80 rfl rfl (Nat.le_of_ble_eq_true rfl) ?_
  refine c_seq ?_
  refine r_plain ?_
  refine p1 (x_assign (by conv => lhs; whnf)) ?_
  refine p1 (x_assign (by conv => lhs; whnf)) ?_
  refine r_nil ?_
  refine t_n ?_
  refine c_seq ?_
  refine c_seq ?_
  refine r_plain ?_
  refine p1 (x_move (by conv => lhs; whnf)) ?_
  refine p1 (x_len_slice u23 rfl) ?_
  refine p1 (x_gtr rfl rfl) ?_
  refine r_nil ?_
  refine t_n ?_
  first | refine c_dec rfl (fun hc12 => ?_) (fun hc12 => ?_) | refine c_if rfl (fun hc12 => ?_) (fun hc12 => ?_)
  · try simp only [decide_eq_true_eq, decide_eq_false_iff_not, Bool.not_eq_true, Bool.not_eq_false, Bool.not_eq_eq_eq_not, Bool.not_true, Bool.not_false, Int.not_lt, Int.not_le] at hc12
    have hlen := hl.len
    have hp : putI l = ([], 4) := by unfold putI; rw [if_pos (.inl (by omega))]
    refine c_seq ?_
    refine r_plain ?_
    refine p1 (x_assign (by conv => lhs; whnf)) ?_
    refine p1 (x_assign (by conv => lhs; whnf)) ?_
    refine r_nil ?_
    refine t_n ?_
    refine c_ret ?_
    refine t_r ?_
    refine end2 rfl (by conv => lhs; whnf) (by conv => lhs; whnf) ?_
    first | exact ⟨⟨none, 0, 0, by rw [hp], (by rw [hp]; exact Own.nil _ _ _ _ _)⟩, hX⟩ | exact ⟨⟨_, _, _, by rw [hp], by rw [hp]; exact hO⟩, hX⟩
  · try simp only [decide_eq_true_eq, decide_eq_false_iff_not, Bool.not_eq_true, Bool.not_eq_false, Bool.not_eq_eq_eq_not, Bool.not_true, Bool.not_false, Int.not_lt, Int.not_le] at hc12
    refine c_skip ?_
    refine t_n ?_
    refine c_seq ?_
    refine r_plain ?_
    have hXs := hX.size
    have hlen := hl.len
    refine o_buildSlice u22 inf5 rfl (by decide) (fun base hb => fill_one (by rfl) base hb) ?_
    intro w1 g13 hN13
    have hE1 := hN13.ext
    have hX := hX.ext hE1
    have hO : Own kByte 5 0 w.heap.size w1 (some ⟨g13, 0, none⟩) 1 1 [1] := (own_lit [1] hN13 hXs (by decide))
    refine p1 (x_move (by conv => lhs; whnf)) ?_
    refine p1 (x_len_slice u23 rfl) ?_
    refine p1 (x_convf u95 us3 rfl (fits_u64 (by omega) (by omega))) ?_
    have hXs := hX.size
    refine o_call Try.func98 fn98 fb98 (ref02_Uint n (by omega) _) rfl ?_
    rintro v2 w2 ⟨⟨qU, lU, cU, rfl, hU⟩, hE2⟩
    have hX := hX.ext hE2
    have hO := hO.ext hE2
    have hU := hU.lower hXs
    have hlU := lebU_len10 (n := n) (by omega)
    have hUl := hU.len
    have hq1 := hX.size
    obtain ⟨Bu, hBu⟩ : ∃ x, x = w2.heap.size := ⟨_, rfl⟩
    refine o_append (d := kByte) (lebU n) u22 inf5 rfl kByte_pos rfl rfl hO (src_pure u22 hU.sl (by decide)) hU.len (byte_all _ _ _) (rfl) (by omega) (by omega) (by omega) (by omega) (by decide) ?_
    intro p18 c18 w3 hO hM3
    have hX := hX.mod hM3 (Nat.le_refl _)
    refine p1 (x_assign (by conv => lhs; whnf)) ?_
    refine r_nil ?_
    refine t_n ?_
    refine c_seq ?_
    refine c_seq ?_
    refine r_plain ?_
    refine p1 (x_assign (by conv => lhs; whnf)) ?_
    refine r_nil ?_
    refine t_n ?_
    refine c_block ?_
    have hcap := hl.cap
    have hfit := hl.fit
    have hn64 : n ≤ 64 := by omega
    refine c_loop (ι := Nat × Option Addr × Nat × Nat) [2, 3, 4, 5, 6, 7, 8, 9, 19, 20, 21, 22, 23, 24, 25, 26, 27, 28, 29, 30, 31, 32, 33, 34, 35, 36, 37, 38, 39, 40, 41, 42, 43, 44, 45, 46, 47, 48, 49, 50, 51, 52, 53, 54, 55, 56, 57, 58, 59, 60, 61, 62, 63, 64, 65, 66, 67, 68, 69, 70, 71, 72, 73, 74, 75, 76, 77, 78, 79, 80, 81, 82, 83, 84, 85, 86, 87, 88, 89, 90, 91, 92, 93, 94, 95, 96, 97, 98, 99, 100, 101, 102, 103, 104, 105, 106, 107, 108, 109] (fun (i, q, m, c1) => [(4, .slice q m c1), (5, .int .i64 (i : Int))]) (fun (i, q, m, c1) w' => Ext w w' ∧ (Own kByte 5 0 w.heap.size w' q m c1 (1 :: lebU n ++ recsB (l.take i)) ∧ (∀ x ∈ l.take i, rightP x) ∧ RiseR (l.take i) ∧ i ≤ n ∧ m ≤ 11 + i * 167310)) (fun (i, q, m, c1) => n - i) ((0, p18, 1 + lU, c18)) ⟨rfl, rfl, trivial⟩ ⟨hX, ⟨by simpa [recsB] using hO, by simp, .nil, by omega, by omega⟩⟩ ?_
    rintro ⟨i, q, m, c1⟩ GL0 w4 ⟨hE4, hO, hro, hrs, hi, hmb⟩
    have hX := hE4
    refine c_seq ?_
    refine c_seq ?_
    refine r_plain ?_
    refine p1 (x_move (by conv => lhs; whnf)) ?_
    refine p1 (x_move (by conv => lhs; whnf)) ?_
    refine p1 (x_len_slice u23 rfl) ?_
    refine p1 (x_lss rfl rfl) ?_
    refine r_nil ?_
    refine t_n ?_
    first | refine c_dec rfl (fun hc22 => ?_) (fun hc22 => ?_) | refine c_if rfl (fun hc22 => ?_) (fun hc22 => ?_)
    · try simp only [decide_eq_true_eq, decide_eq_false_iff_not, Bool.not_eq_true, Bool.not_eq_false, Bool.not_eq_eq_eq_not, Bool.not_true, Bool.not_false, Int.not_lt, Int.not_le] at hc22
      refine c_skip ?_
      refine t_n ?_
      refine c_seq ?_
      refine c_block ?_
      refine c_seq ?_
      obtain ⟨pb1, n1, cc1, pb2, n2, cc2, hrow1, hS1, hS2⟩ := hl.recAt i (by omega)
      have hmem := rec_mem (l := l) (k := i) (by omega)
      have hkm := hkk _ hmem
      have hl1 := hS1.len
      have hl2 := hS2.len
      have ez : ((i : Int) - 1).toNat = i - 1 := by omega
      refine r_plain ?_
      refine p1 (x_move (by conv => lhs; whnf)) ?_
      refine p1 (x_move (by conv => lhs; whnf)) ?_
      refine p1 (x_ixs u23 sz33 rfl rfl ((hl.ext hX).adr kRecA_pos (by omega)) (by omega) (by omega)) ?_
      refine p1 (x_loadN ua33 rfl (by exact sz33) (hX.range hrow1)) ?_
      have hXs6 := hX.size
      refine o_alloc zr33 ?_
      intro w5 g6 hN6
      have hE5 := hN6.ext
      have hX := hX.ext hE5
      have hO := hO.ext hE5
      have hB6 := hN6.blk
      refine o_storeAll rfl (by conv => lhs; whnf) (by simp [Value.oneCell']) (by exact sz33) hB6 (by rfl) ?_
      intro w6 hP6
      have hX := hX.put hP6 (by rw [hN6.g_eq]; exact hXs6)
      have hO := hO.mod (hP6.mod 0 (Nat.zero_le _)) (Nat.zero_le _) (by decide)
      have hB6 := hP6.blk
      refine r_nil ?_
      refine t_n ?_
      refine c_seq ?_
      refine r_plain ?_
      refine p1 (x_fieldAddr fo33_1 sz30 rfl) ?_
      refine p1 (x_load1 un30 rfl (hB6.cell (rfl))) ?_
      refine o_call Try.func69 fn69 fb69 (ref15_Load_e (l.getD i default).2.1 _ _ _ _ _ (hS1.ext hX) hkm.2) rfl ?_
      rintro v7 w7 ⟨⟨q8, m8, c8, e1, rfl, he1⟩, hE7⟩
      have hX := hX.ext hE7
      have hO := hO.ext hE7
      have hB6 := hB6.ext hE7
      refine p1 (x_move (by conv => lhs; whnf)) ?_
      refine p1 (x_extract rfl rfl) ?_
      refine p1 (x_extract rfl rfl) ?_
      have hXs7 := hX.size
      have hB6lt := hB6.lt
      refine o_alloc zr70 ?_
      intro w8 g7 hN7
      have hE8 := hN7.ext
      have hX := hX.ext hE8
      have hO := hO.ext hE8
      have hB6 := hB6.ext hE8
      have hB7 := hN7.blk
      refine o_storeAll rfl (by conv => lhs; whnf) (by simp [Value.oneCell']) (by exact sz70) hB7 (by rfl) ?_
      intro w9 hP9
      have hX := hX.put hP9 (by rw [hN7.g_eq]; exact hXs7)
      have hO := hO.mod (hP9.mod 0 (Nat.zero_le _)) (Nat.zero_le _) (by decide)
      have hB6 := hB6.mod (hP9.mod 0 (Nat.zero_le _)) (by decide)
      have hB7 := hP9.blk
      refine p1 (x_assign (by conv => lhs; whnf)) ?_
      refine r_nil ?_
      refine t_n ?_
      refine c_seq ?_
      refine c_seq ?_
      refine r_held (fun w1 w2 => Ext w1 w2) mixed ?_
      intro w10 hE10
      have hX := hX.ext hE10
      have hO := hO.ext hE10
      have hB6 := hB6.ext hE10
      have hB7 := hB7.ext hE10
      have hSr9 : (fun w1 w2 => Ext w1 w2) w10 w10 := Ext.refl w10
      refine h_take 0 rfl (by kernel_rfl) (by kernel_rfl) (by kernel_rfl) hSr9 (fun wS hSS => by (have hX := hX.ext hSS; have hO := hO.ext hSS; have hB6 := hB6.ext hSS; have hB7 := hB7.ext hSS; exact (x_fieldAddr fo33_0 sz9 rfl))) ?_
      refine h_take 1 rfl (by kernel_rfl) (by kernel_rfl) (by kernel_rfl) hSr9 (fun wS hSS => by (have hX := hX.ext hSS; have hO := hO.ext hSS; have hB6 := hB6.ext hSS; have hB7 := hB7.ext hSS; exact (x_load1 un9 rfl (hB6.cell (rfl))))) ?_
      refine h_one 2 _ rfl (by kernel_rfl) (hop_of_list (fun Q2 hQ2 => ?_))
      refine o_call Try.func32 fn32 fb32 (ref06_Name (l.getD i default).1 _ hkm.1) rfl ?_
      rintro v11 w11 ⟨rfl, hE11⟩
      have hX := hX.ext hE11
      have hO := hO.ext hE11
      have hB6 := hB6.ext hE11
      have hB7 := hB7.ext hE11
      have hSr9 := hSr9.ext hE11
      refine hop_end hQ2 ⟨hSr9, ?_⟩
      refine h_take 3 rfl (by kernel_rfl) (by kernel_rfl) (by kernel_rfl) hSr9 (fun wS hSS => by ( exact (x_not rfl))) ?_
      refine h_takeb 4 rfl (by kernel_rfl) (by kernel_rfl) (by kernel_rfl) hSr9 (fun wS hSS => by ( exact (x_move (by conv => lhs; whnf)))) (fun hb9_4 => ?_) (fun hb9_4 => ?_)
      · try simp only [decide_eq_true_eq, decide_eq_false_iff_not, Bool.not_eq_true, Bool.not_eq_false, Bool.not_eq_eq_eq_not, Bool.not_true, Bool.not_false, Int.not_lt, Int.not_le] at hb9_4
        refine h_skip 5 39 rfl (by first | exact .inl rfl | exact .inr rfl) rfl (by kernel_rfl) (by kernel_rfl) (by kernel_rfl) hSr9 ?_
        refine h_skip 6 39 rfl (by first | exact .inl rfl | exact .inr rfl) rfl (by kernel_rfl) (by kernel_rfl) (by kernel_rfl) hSr9 ?_
        refine h_skip 7 39 rfl (by first | exact .inl rfl | exact .inr rfl) rfl (by kernel_rfl) (by kernel_rfl) (by kernel_rfl) hSr9 ?_
        refine h_skip 8 42 rfl (by first | exact .inl rfl | exact .inr rfl) rfl (by kernel_rfl) (by kernel_rfl) (by kernel_rfl) hSr9 ?_
        refine h_skip 9 42 rfl (by first | exact .inl rfl | exact .inr rfl) rfl (by kernel_rfl) (by kernel_rfl) (by kernel_rfl) hSr9 ?_
        refine h_skip 10 42 rfl (by first | exact .inl rfl | exact .inr rfl) rfl (by kernel_rfl) (by kernel_rfl) (by kernel_rfl) hSr9 ?_
        refine h_skip 11 42 rfl (by first | exact .inl rfl | exact .inr rfl) rfl (by kernel_rfl) (by kernel_rfl) (by kernel_rfl) hSr9 ?_
        refine h_skip 12 42 rfl (by first | exact .inl rfl | exact .inr rfl) rfl (by kernel_rfl) (by kernel_rfl) (by kernel_rfl) hSr9 ?_
        refine h_skip 13 42 rfl (by first | exact .inl rfl | exact .inr rfl) rfl (by kernel_rfl) (by kernel_rfl) (by kernel_rfl) hSr9 ?_
        refine h_skip 14 42 rfl (by first | exact .inl rfl | exact .inr rfl) rfl (by kernel_rfl) (by kernel_rfl) (by kernel_rfl) hSr9 ?_
        refine h_skip 15 42 rfl (by first | exact .inl rfl | exact .inr rfl) rfl (by kernel_rfl) (by kernel_rfl) (by kernel_rfl) hSr9 ?_
        refine h_skip 16 42 rfl (by first | exact .inl rfl | exact .inr rfl) rfl (by kernel_rfl) (by kernel_rfl) (by kernel_rfl) hSr9 ?_
        refine h_skip 17 39 rfl (by first | exact .inl rfl | exact .inr rfl) rfl (by kernel_rfl) (by kernel_rfl) (by kernel_rfl) hSr9 ?_
        refine h_take 18 rfl (by kernel_rfl) (by kernel_rfl) (by kernel_rfl) hSr9 (fun wS hSS => by ( exact (x_pick_t rfl (by conv => lhs; whnf)))) ?_
        refine h_take 19 rfl (by kernel_rfl) (by kernel_rfl) (by kernel_rfl) hSr9 (fun wS hSS => by ( exact (x_move (by conv => lhs; whnf)))) ?_
        refine h_skip 20 54 rfl (by first | exact .inl rfl | exact .inr rfl) rfl (by kernel_rfl) (by kernel_rfl) (by kernel_rfl) hSr9 ?_
        refine h_skip 21 54 rfl (by first | exact .inl rfl | exact .inr rfl) rfl (by kernel_rfl) (by kernel_rfl) (by kernel_rfl) hSr9 ?_
        refine h_take 22 rfl (by kernel_rfl) (by kernel_rfl) (by kernel_rfl) hSr9 (fun wS hSS => by ( exact (x_pick_t rfl (by conv => lhs; whnf)))) ?_
        refine h_take 23 rfl (by kernel_rfl) (by kernel_rfl) (by kernel_rfl) hSr9 (fun wS hSS => by ( exact (x_move (by conv => lhs; whnf)))) ?_
        refine h_skip 24 58 rfl (by first | exact .inl rfl | exact .inr rfl) rfl (by kernel_rfl) (by kernel_rfl) (by kernel_rfl) hSr9 ?_
        refine h_skip 25 58 rfl (by first | exact .inl rfl | exact .inr rfl) rfl (by kernel_rfl) (by kernel_rfl) (by kernel_rfl) hSr9 ?_
        refine h_skip 26 58 rfl (by first | exact .inl rfl | exact .inr rfl) rfl (by kernel_rfl) (by kernel_rfl) (by kernel_rfl) hSr9 ?_
        refine h_skip 27 58 rfl (by first | exact .inl rfl | exact .inr rfl) rfl (by kernel_rfl) (by kernel_rfl) (by kernel_rfl) hSr9 ?_
        refine h_take 28 rfl (by kernel_rfl) (by kernel_rfl) (by kernel_rfl) hSr9 (fun wS hSS => by ( exact (x_pick_t rfl (by conv => lhs; whnf)))) ?_
        refine h_take 29 rfl (by kernel_rfl) (by kernel_rfl) (by kernel_rfl) hSr9 (fun wS hSS => by ( exact (x_move (by conv => lhs; whnf)))) ?_
        refine h_skip 30 64 rfl (by first | exact .inl rfl | exact .inr rfl) rfl (by kernel_rfl) (by kernel_rfl) (by kernel_rfl) hSr9 ?_
        refine h_skip 31 64 rfl (by first | exact .inl rfl | exact .inr rfl) rfl (by kernel_rfl) (by kernel_rfl) (by kernel_rfl) hSr9 ?_
        refine h_skip 32 64 rfl (by first | exact .inl rfl | exact .inr rfl) rfl (by kernel_rfl) (by kernel_rfl) (by kernel_rfl) hSr9 ?_
        refine h_skip 33 64 rfl (by first | exact .inl rfl | exact .inr rfl) rfl (by kernel_rfl) (by kernel_rfl) (by kernel_rfl) hSr9 ?_
        refine h_take 34 rfl (by kernel_rfl) (by kernel_rfl) (by kernel_rfl) hSr9 (fun wS hSS => by ( exact (x_pick_t rfl (by conv => lhs; whnf)))) ?_
        refine h_done (by kernel_rfl) ?_
        refine t_n ?_
        refine c_t rfl ?_
        have hno : ¬ recsOk l := by
          intro h
          obtain ⟨r1, r2, r3, r4⟩ := h.1 _ hmem
          first | (rw [hb9_4] at r1; exact absurd r1 (by decide)) | exact absurd (he1.2 r2) hb9_23 | (exfalso; omega) | (rw [hc69] at r4; exact absurd r4 (by decide)) | exact not_riseR_at (k := i) (by omega) (by omega) (by rw [← ez]; simpa using hb9_19) h.2
        have hp : putI l = ([], 4) := by unfold putI; rw [if_pos (.inr hno)]
        refine c_seq ?_
        refine r_plain ?_
        refine p1 (x_assign (by conv => lhs; whnf)) ?_
        refine p1 (x_assign (by conv => lhs; whnf)) ?_
        refine r_nil ?_
        refine t_n ?_
        refine c_ret ?_
        refine t_r ?_
        refine b_r ?_
        refine t_r ?_
        refine t_r ?_
        refine b_r ?_
        refine t_r ?_
        refine end2 rfl (by conv => lhs; whnf) (by conv => lhs; whnf) ?_
        first | exact ⟨⟨none, 0, 0, by rw [hp], (by rw [hp]; exact Own.nil _ _ _ _ _)⟩, hX⟩ | exact ⟨⟨_, _, _, by rw [hp], by rw [hp]; exact hO⟩, hX⟩
      · try simp only [decide_eq_true_eq, decide_eq_false_iff_not, Bool.not_eq_true, Bool.not_eq_false, Bool.not_eq_eq_eq_not, Bool.not_true, Bool.not_false, Int.not_lt, Int.not_le] at hb9_4
        refine h_takeg 5 39 rfl rfl rfl (by kernel_rfl) (by kernel_rfl) (by kernel_rfl) hSr9 (fun wS hSS => by ( exact (x_move (by conv => lhs; whnf)))) ?_
        refine h_takeg 6 39 rfl rfl rfl (by kernel_rfl) (by kernel_rfl) (by kernel_rfl) hSr9 (fun wS hSS => by ( exact (x_gtr rfl rfl))) ?_
        refine h_takegb 7 39 rfl rfl rfl (by kernel_rfl) (by kernel_rfl) (by kernel_rfl) hSr9 (fun wS hSS => by ( exact (x_move (by conv => lhs; whnf)))) (fun hb9_7 => ?_) (fun hb9_7 => ?_)
        · try simp only [decide_eq_true_eq, decide_eq_false_iff_not, Bool.not_eq_true, Bool.not_eq_false, Bool.not_eq_eq_eq_not, Bool.not_true, Bool.not_false, Int.not_lt, Int.not_le] at hb9_7
          obtain ⟨pb3, n3, c3, pb4, n4, c4, hrow3, _, _⟩ := hl.recAt ((i : Int) - 1).toNat (by omega)
          refine h_takeg 8 42 rfl rfl rfl (by kernel_rfl) (by kernel_rfl) (by kernel_rfl) hSr9 (fun wS hSS => by ( exact (x_move (by conv => lhs; whnf)))) ?_
          refine h_takeg 9 42 rfl rfl rfl (by kernel_rfl) (by kernel_rfl) (by kernel_rfl) hSr9 (fun wS hSS => by ( exact (x_move (by conv => lhs; whnf)))) ?_
          refine h_takeg 10 42 rfl rfl rfl (by kernel_rfl) (by kernel_rfl) (by kernel_rfl) hSr9 (fun wS hSS => by ( exact (x_sub rfl rfl (fits_i64 (by omega) (by omega))))) ?_
          refine h_takeg 11 42 rfl rfl rfl (by kernel_rfl) (by kernel_rfl) (by kernel_rfl) hSr9 (fun wS hSS => by ( exact (x_ixs u23 sz33 rfl rfl (hl.adr kRecA_pos (by omega)) (by omega) (by omega)))) ?_
          refine h_takeg 12 42 rfl rfl rfl (by kernel_rfl) (by kernel_rfl) (by kernel_rfl) hSr9 (fun wS hSS => by ( exact (x_fieldAddr fo33_0 sz9 rfl))) ?_
          refine h_takeg 14 42 rfl rfl rfl (by kernel_rfl) (by kernel_rfl) (by kernel_rfl) hSr9 (fun wS hSS => by ( exact (x_fieldAddr fo33_0 sz9 rfl))) ?_
          refine h_two 13 15 _ _ rfl rfl (by kernel_rfl) (hop_of_list (fun Q13 hQ13 => ?_)) (hop_of_list (fun Q15 hQ15 => ?_))
          · skip
            refine g1 42 rfl rfl (x_load1 un9 rfl (hX.cell (hrow3 0 _ rfl))) ?_
            refine hop_end hQ13 ⟨hSr9, ?_⟩
            refine h_one 15 _ rfl (by kernel_rfl) (hop_of_list (fun Q15 hQ15 => ?_))
            refine g1 42 rfl rfl (x_load1 un9 rfl (hB6.cell (rfl))) ?_
            refine hop_end hQ15 ⟨hSr9, ?_⟩
            refine h_takeg 16 42 rfl rfl rfl (by kernel_rfl) (by kernel_rfl) (by kernel_rfl) hSr9 (fun wS hSS => by ( exact (x_geq_str rfl rfl))) ?_
            refine h_takeg 17 39 rfl rfl rfl (by kernel_rfl) (by kernel_rfl) (by kernel_rfl) hSr9 (fun wS hSS => by ( exact (x_pick_t rfl (by conv => lhs; whnf)))) ?_
            refine h_take 18 rfl (by kernel_rfl) (by kernel_rfl) (by kernel_rfl) hSr9 (fun wS hSS => by ( exact (x_pick_f rfl (by conv => lhs; whnf)))) ?_
            refine h_takeb 19 rfl (by kernel_rfl) (by kernel_rfl) (by kernel_rfl) hSr9 (fun wS hSS => by ( exact (x_move (by conv => lhs; whnf)))) (fun hb9_19 => ?_) (fun hb9_19 => ?_)
            · try simp only [decide_eq_true_eq, decide_eq_false_iff_not, Bool.not_eq_true, Bool.not_eq_false, Bool.not_eq_eq_eq_not, Bool.not_true, Bool.not_false, Int.not_lt, Int.not_le] at hb9_19
              refine h_skip 20 54 rfl (by first | exact .inl rfl | exact .inr rfl) rfl (by kernel_rfl) (by kernel_rfl) (by kernel_rfl) hSr9 ?_
              refine h_skip 21 54 rfl (by first | exact .inl rfl | exact .inr rfl) rfl (by kernel_rfl) (by kernel_rfl) (by kernel_rfl) hSr9 ?_
              refine h_take 22 rfl (by kernel_rfl) (by kernel_rfl) (by kernel_rfl) hSr9 (fun wS hSS => by ( exact (x_pick_t rfl (by conv => lhs; whnf)))) ?_
              refine h_take 23 rfl (by kernel_rfl) (by kernel_rfl) (by kernel_rfl) hSr9 (fun wS hSS => by ( exact (x_move (by conv => lhs; whnf)))) ?_
              refine h_skip 24 58 rfl (by first | exact .inl rfl | exact .inr rfl) rfl (by kernel_rfl) (by kernel_rfl) (by kernel_rfl) hSr9 ?_
              refine h_skip 25 58 rfl (by first | exact .inl rfl | exact .inr rfl) rfl (by kernel_rfl) (by kernel_rfl) (by kernel_rfl) hSr9 ?_
              refine h_skip 26 58 rfl (by first | exact .inl rfl | exact .inr rfl) rfl (by kernel_rfl) (by kernel_rfl) (by kernel_rfl) hSr9 ?_
              refine h_skip 27 58 rfl (by first | exact .inl rfl | exact .inr rfl) rfl (by kernel_rfl) (by kernel_rfl) (by kernel_rfl) hSr9 ?_
              refine h_take 28 rfl (by kernel_rfl) (by kernel_rfl) (by kernel_rfl) hSr9 (fun wS hSS => by ( exact (x_pick_t rfl (by conv => lhs; whnf)))) ?_
              refine h_take 29 rfl (by kernel_rfl) (by kernel_rfl) (by kernel_rfl) hSr9 (fun wS hSS => by ( exact (x_move (by conv => lhs; whnf)))) ?_
              refine h_skip 30 64 rfl (by first | exact .inl rfl | exact .inr rfl) rfl (by kernel_rfl) (by kernel_rfl) (by kernel_rfl) hSr9 ?_
              refine h_skip 31 64 rfl (by first | exact .inl rfl | exact .inr rfl) rfl (by kernel_rfl) (by kernel_rfl) (by kernel_rfl) hSr9 ?_
              refine h_skip 32 64 rfl (by first | exact .inl rfl | exact .inr rfl) rfl (by kernel_rfl) (by kernel_rfl) (by kernel_rfl) hSr9 ?_
              refine h_skip 33 64 rfl (by first | exact .inl rfl | exact .inr rfl) rfl (by kernel_rfl) (by kernel_rfl) (by kernel_rfl) hSr9 ?_
              refine h_take 34 rfl (by kernel_rfl) (by kernel_rfl) (by kernel_rfl) hSr9 (fun wS hSS => by ( exact (x_pick_t rfl (by conv => lhs; whnf)))) ?_
              refine h_done (by kernel_rfl) ?_
              refine t_n ?_
              refine c_t rfl ?_
              have hno : ¬ recsOk l := by
                intro h
                obtain ⟨r1, r2, r3, r4⟩ := h.1 _ hmem
                first | (rw [hb9_4] at r1; exact absurd r1 (by decide)) | exact absurd (he1.2 r2) hb9_23 | (exfalso; omega) | (rw [hc69] at r4; exact absurd r4 (by decide)) | exact not_riseR_at (k := i) (by omega) (by omega) (by rw [← ez]; simpa using hb9_19) h.2
              have hp : putI l = ([], 4) := by unfold putI; rw [if_pos (.inr hno)]
              refine c_seq ?_
              refine r_plain ?_
              refine p1 (x_assign (by conv => lhs; whnf)) ?_
              refine p1 (x_assign (by conv => lhs; whnf)) ?_
              refine r_nil ?_
              refine t_n ?_
              refine c_ret ?_
              refine t_r ?_
              refine b_r ?_
              refine t_r ?_
              refine t_r ?_
              refine b_r ?_
              refine t_r ?_
              refine end2 rfl (by conv => lhs; whnf) (by conv => lhs; whnf) ?_
              first | exact ⟨⟨none, 0, 0, by rw [hp], (by rw [hp]; exact Own.nil _ _ _ _ _)⟩, hX⟩ | exact ⟨⟨_, _, _, by rw [hp], by rw [hp]; exact hO⟩, hX⟩
            · try simp only [decide_eq_true_eq, decide_eq_false_iff_not, Bool.not_eq_true, Bool.not_eq_false, Bool.not_eq_eq_eq_not, Bool.not_true, Bool.not_false, Int.not_lt, Int.not_le] at hb9_19
              refine h_takeg 20 54 rfl rfl rfl (by kernel_rfl) (by kernel_rfl) (by kernel_rfl) hSr9 (fun wS hSS => by ( exact (x_move (by conv => lhs; whnf)))) ?_
              refine h_takeg 21 54 rfl rfl rfl (by kernel_rfl) (by kernel_rfl) (by kernel_rfl) hSr9 (fun wS hSS => by ( exact (x_neq rfl rfl))) ?_
              refine h_take 22 rfl (by kernel_rfl) (by kernel_rfl) (by kernel_rfl) hSr9 (fun wS hSS => by ( exact (x_pick_f rfl (by conv => lhs; whnf)))) ?_
              refine h_takeb 23 rfl (by kernel_rfl) (by kernel_rfl) (by kernel_rfl) hSr9 (fun wS hSS => by ( exact (x_move (by conv => lhs; whnf)))) (fun hb9_23 => ?_) (fun hb9_23 => ?_)
              · try simp only [decide_eq_true_eq, decide_eq_false_iff_not, Bool.not_eq_true, Bool.not_eq_false, Bool.not_eq_eq_eq_not, Bool.not_true, Bool.not_false, Int.not_lt, Int.not_le] at hb9_23
                refine h_skip 24 58 rfl (by first | exact .inl rfl | exact .inr rfl) rfl (by kernel_rfl) (by kernel_rfl) (by kernel_rfl) hSr9 ?_
                refine h_skip 25 58 rfl (by first | exact .inl rfl | exact .inr rfl) rfl (by kernel_rfl) (by kernel_rfl) (by kernel_rfl) hSr9 ?_
                refine h_skip 26 58 rfl (by first | exact .inl rfl | exact .inr rfl) rfl (by kernel_rfl) (by kernel_rfl) (by kernel_rfl) hSr9 ?_
                refine h_skip 27 58 rfl (by first | exact .inl rfl | exact .inr rfl) rfl (by kernel_rfl) (by kernel_rfl) (by kernel_rfl) hSr9 ?_
                refine h_take 28 rfl (by kernel_rfl) (by kernel_rfl) (by kernel_rfl) hSr9 (fun wS hSS => by ( exact (x_pick_t rfl (by conv => lhs; whnf)))) ?_
                refine h_take 29 rfl (by kernel_rfl) (by kernel_rfl) (by kernel_rfl) hSr9 (fun wS hSS => by ( exact (x_move (by conv => lhs; whnf)))) ?_
                refine h_skip 30 64 rfl (by first | exact .inl rfl | exact .inr rfl) rfl (by kernel_rfl) (by kernel_rfl) (by kernel_rfl) hSr9 ?_
                refine h_skip 31 64 rfl (by first | exact .inl rfl | exact .inr rfl) rfl (by kernel_rfl) (by kernel_rfl) (by kernel_rfl) hSr9 ?_
                refine h_skip 32 64 rfl (by first | exact .inl rfl | exact .inr rfl) rfl (by kernel_rfl) (by kernel_rfl) (by kernel_rfl) hSr9 ?_
                refine h_skip 33 64 rfl (by first | exact .inl rfl | exact .inr rfl) rfl (by kernel_rfl) (by kernel_rfl) (by kernel_rfl) hSr9 ?_
                refine h_take 34 rfl (by kernel_rfl) (by kernel_rfl) (by kernel_rfl) hSr9 (fun wS hSS => by ( exact (x_pick_t rfl (by conv => lhs; whnf)))) ?_
                refine h_done (by kernel_rfl) ?_
                refine t_n ?_
                refine c_t rfl ?_
                have hno : ¬ recsOk l := by
                  intro h
                  obtain ⟨r1, r2, r3, r4⟩ := h.1 _ hmem
                  first | (rw [hb9_4] at r1; exact absurd r1 (by decide)) | exact absurd (he1.2 r2) hb9_23 | (exfalso; omega) | (rw [hc69] at r4; exact absurd r4 (by decide)) | exact not_riseR_at (k := i) (by omega) (by omega) (by rw [← ez]; simpa using hb9_19) h.2
                have hp : putI l = ([], 4) := by unfold putI; rw [if_pos (.inr hno)]
                refine c_seq ?_
                refine r_plain ?_
                refine p1 (x_assign (by conv => lhs; whnf)) ?_
                refine p1 (x_assign (by conv => lhs; whnf)) ?_
                refine r_nil ?_
                refine t_n ?_
                refine c_ret ?_
                refine t_r ?_
                refine b_r ?_
                refine t_r ?_
                refine t_r ?_
                refine b_r ?_
                refine t_r ?_
                refine end2 rfl (by conv => lhs; whnf) (by conv => lhs; whnf) ?_
                first | exact ⟨⟨none, 0, 0, by rw [hp], (by rw [hp]; exact Own.nil _ _ _ _ _)⟩, hX⟩ | exact ⟨⟨_, _, _, by rw [hp], by rw [hp]; exact hO⟩, hX⟩
              · try simp only [decide_eq_true_eq, decide_eq_false_iff_not, Bool.not_eq_true, Bool.not_eq_false, Bool.not_eq_eq_eq_not, Bool.not_true, Bool.not_false, Int.not_lt, Int.not_le] at hb9_23
                refine h_takeg 24 58 rfl rfl rfl (by kernel_rfl) (by kernel_rfl) (by kernel_rfl) hSr9 (fun wS hSS => by ( exact (x_fieldAddr fo33_2 sz31 rfl))) ?_
                refine h_one 25 _ rfl (by kernel_rfl) (hop_of_list (fun Q25 hQ25 => ?_))
                refine g1 58 rfl rfl (x_load1 un31 rfl (hB6.cell (rfl))) ?_
                refine hop_end hQ25 ⟨hSr9, ?_⟩
                refine h_takeg 26 58 rfl rfl rfl (by kernel_rfl) (by kernel_rfl) (by kernel_rfl) hSr9 (fun wS hSS => by ( exact (x_len_slice u31 rfl))) ?_
                refine h_takeg 27 58 rfl rfl rfl (by kernel_rfl) (by kernel_rfl) (by kernel_rfl) hSr9 (fun wS hSS => by ( exact (x_gtr rfl rfl))) ?_
                refine h_take 28 rfl (by kernel_rfl) (by kernel_rfl) (by kernel_rfl) hSr9 (fun wS hSS => by ( exact (x_pick_f rfl (by conv => lhs; whnf)))) ?_
                refine h_takeb 29 rfl (by kernel_rfl) (by kernel_rfl) (by kernel_rfl) hSr9 (fun wS hSS => by ( exact (x_move (by conv => lhs; whnf)))) (fun hb9_29 => ?_) (fun hb9_29 => ?_)
                · try simp only [decide_eq_true_eq, decide_eq_false_iff_not, Bool.not_eq_true, Bool.not_eq_false, Bool.not_eq_eq_eq_not, Bool.not_true, Bool.not_false, Int.not_lt, Int.not_le] at hb9_29
                  refine h_skip 30 64 rfl (by first | exact .inl rfl | exact .inr rfl) rfl (by kernel_rfl) (by kernel_rfl) (by kernel_rfl) hSr9 ?_
                  refine h_skip 31 64 rfl (by first | exact .inl rfl | exact .inr rfl) rfl (by kernel_rfl) (by kernel_rfl) (by kernel_rfl) hSr9 ?_
                  refine h_skip 32 64 rfl (by first | exact .inl rfl | exact .inr rfl) rfl (by kernel_rfl) (by kernel_rfl) (by kernel_rfl) hSr9 ?_
                  refine h_skip 33 64 rfl (by first | exact .inl rfl | exact .inr rfl) rfl (by kernel_rfl) (by kernel_rfl) (by kernel_rfl) hSr9 ?_
                  refine h_take 34 rfl (by kernel_rfl) (by kernel_rfl) (by kernel_rfl) hSr9 (fun wS hSS => by ( exact (x_pick_t rfl (by conv => lhs; whnf)))) ?_
                  refine h_done (by kernel_rfl) ?_
                  refine t_n ?_
                  refine c_t rfl ?_
                  have hno : ¬ recsOk l := by
                    intro h
                    obtain ⟨r1, r2, r3, r4⟩ := h.1 _ hmem
                    first | (rw [hb9_4] at r1; exact absurd r1 (by decide)) | exact absurd (he1.2 r2) hb9_23 | (exfalso; omega) | (rw [hc69] at r4; exact absurd r4 (by decide)) | exact not_riseR_at (k := i) (by omega) (by omega) (by rw [← ez]; simpa using hb9_19) h.2
                  have hp : putI l = ([], 4) := by unfold putI; rw [if_pos (.inr hno)]
                  refine c_seq ?_
                  refine r_plain ?_
                  refine p1 (x_assign (by conv => lhs; whnf)) ?_
                  refine p1 (x_assign (by conv => lhs; whnf)) ?_
                  refine r_nil ?_
                  refine t_n ?_
                  refine c_ret ?_
                  refine t_r ?_
                  refine b_r ?_
                  refine t_r ?_
                  refine t_r ?_
                  refine b_r ?_
                  refine t_r ?_
                  refine end2 rfl (by conv => lhs; whnf) (by conv => lhs; whnf) ?_
                  first | exact ⟨⟨none, 0, 0, by rw [hp], (by rw [hp]; exact Own.nil _ _ _ _ _)⟩, hX⟩ | exact ⟨⟨_, _, _, by rw [hp], by rw [hp]; exact hO⟩, hX⟩
                · try simp only [decide_eq_true_eq, decide_eq_false_iff_not, Bool.not_eq_true, Bool.not_eq_false, Bool.not_eq_eq_eq_not, Bool.not_true, Bool.not_false, Int.not_lt, Int.not_le] at hb9_29
                  refine h_takeg 30 64 rfl rfl rfl (by kernel_rfl) (by kernel_rfl) (by kernel_rfl) hSr9 (fun wS hSS => by ( exact (x_fieldAddr fo33_2 sz31 rfl))) ?_
                  refine h_one 31 _ rfl (by kernel_rfl) (hop_of_list (fun Q31 hQ31 => ?_))
                  refine g1 64 rfl rfl (x_load1 un31 rfl (hB6.cell (rfl))) ?_
                  refine hop_end hQ31 ⟨hSr9, ?_⟩
                  refine h_one 32 _ rfl (by kernel_rfl) (hop_of_list (fun Q32 hQ32 => ?_))
                  refine g_drop 64 rfl rfl ?_
                  refine o_call Try.func39 fn39 fb39 (ref06_Rising (l.getD i default).2.2 _ _ _ _ _ (hS2.ext hX)) rfl ?_
                  rintro v12 w12 ⟨rfl, hE12⟩
                  have hX := hX.ext hE12
                  have hO := hO.ext hE12
                  have hB6 := hB6.ext hE12
                  have hB7 := hB7.ext hE12
                  have hSr9 := hSr9.ext hE12
                  refine hop_end hQ32 ⟨hSr9, ?_⟩
                  refine h_takeg 33 64 rfl rfl rfl (by kernel_rfl) (by kernel_rfl) (by kernel_rfl) hSr9 (fun wS hSS => by ( exact (x_not rfl))) ?_
                  refine h_take 34 rfl (by kernel_rfl) (by kernel_rfl) (by kernel_rfl) hSr9 (fun wS hSS => by ( exact (x_pick_f rfl (by conv => lhs; whnf)))) ?_
                  refine h_done (by kernel_rfl) ?_
                  refine t_n ?_
                  first | refine c_dec rfl (fun hc69 => ?_) (fun hc69 => ?_) | refine c_if rfl (fun hc69 => ?_) (fun hc69 => ?_)
                  · try simp only [decide_eq_true_eq, decide_eq_false_iff_not, Bool.not_eq_true, Bool.not_eq_false, Bool.not_eq_eq_eq_not, Bool.not_true, Bool.not_false, Int.not_lt, Int.not_le] at hc69
                    have hno : ¬ recsOk l := by
                      intro h
                      obtain ⟨r1, r2, r3, r4⟩ := h.1 _ hmem
                      first | (rw [hb9_4] at r1; exact absurd r1 (by decide)) | exact absurd (he1.2 r2) hb9_23 | (exfalso; omega) | (rw [hc69] at r4; exact absurd r4 (by decide)) | exact not_riseR_at (k := i) (by omega) (by omega) (by rw [← ez]; simpa using hb9_19) h.2
                    have hp : putI l = ([], 4) := by unfold putI; rw [if_pos (.inr hno)]
                    refine c_seq ?_
                    refine r_plain ?_
                    refine p1 (x_assign (by conv => lhs; whnf)) ?_
                    refine p1 (x_assign (by conv => lhs; whnf)) ?_
                    refine r_nil ?_
                    refine t_n ?_
                    refine c_ret ?_
                    refine t_r ?_
                    refine b_r ?_
                    refine t_r ?_
                    refine t_r ?_
                    refine b_r ?_
                    refine t_r ?_
                    refine end2 rfl (by conv => lhs; whnf) (by conv => lhs; whnf) ?_
                    first | exact ⟨⟨none, 0, 0, by rw [hp], (by rw [hp]; exact Own.nil _ _ _ _ _)⟩, hX⟩ | exact ⟨⟨_, _, _, by rw [hp], by rw [hp]; exact hO⟩, hX⟩
                  · try simp only [decide_eq_true_eq, decide_eq_false_iff_not, Bool.not_eq_true, Bool.not_eq_false, Bool.not_eq_eq_eq_not, Bool.not_true, Bool.not_false, Int.not_lt, Int.not_le] at hc69
                    have hord : i = 0 ∨ lssB (l.getD (i - 1) default).1 (l.getD i default).1 = true := by first | (left; omega) | (right; rw [← ez]; simpa using hb9_19)
                    have hrn := riseR_next hrs (by omega) hord
                    have hrg : rightP (l.getD i default) := ⟨hb9_4, he1.1 (by simpa using hb9_23), by omega, hc69⟩
                    have hon := right_take_succ hro (by omega) hrg
                    have hbl := recB_len hrg
                    have hlt := txtL_len (name_size hrg.1)
                    have hb64 := hrg.2.1.1
                    have hlu := lebU_len10 (n := n1) (by omega)
                    refine c_skip ?_
                    refine t_n ?_
                    refine c_seq ?_
                    refine r_held (fun w1 w2 => Mod w.heap.size 5 w1 w2) mixed ?_
                    intro w13 hE13
                    have hX := hX.ext hE13
                    have hO := hO.ext hE13
                    have hB6 := hB6.ext hE13
                    have hB7 := hB7.ext hE13
                    have hSr11 : (fun w1 w2 => Mod w.heap.size 5 w1 w2) w13 w13 := Mod.refl _ _ _
                    refine h_take 0 rfl (by kernel_rfl) (by kernel_rfl) (by kernel_rfl) hSr11 (fun wS hSS => by ( exact (x_move (by conv => lhs; whnf)))) ?_
                    refine h_take 1 rfl (by kernel_rfl) (by kernel_rfl) (by kernel_rfl) hSr11 (fun wS hSS => by ( exact (x_fieldAddr fo33_0 sz9 rfl))) ?_
                    refine h_take 2 rfl (by kernel_rfl) (by kernel_rfl) (by kernel_rfl) hSr11 (fun wS hSS => by (have hX := hX.mod hSS (Nat.le_refl _); have hB6 := hB6.mod hSS (by decide); exact (x_load1 un9 rfl (hB6.cell (rfl))))) ?_
                    refine h_take 5 rfl (by kernel_rfl) (by kernel_rfl) (by kernel_rfl) hSr11 (fun wS hSS => by ( exact (x_fieldAddr fo33_1 sz30 rfl))) ?_
                    refine h_take 6 rfl (by kernel_rfl) (by kernel_rfl) (by kernel_rfl) hSr11 (fun wS hSS => by (have hX := hX.mod hSS (Nat.le_refl _); have hB6 := hB6.mod hSS (by decide); exact (x_load1 un30 rfl (hB6.cell (rfl))))) ?_
                    refine h_take 7 rfl (by kernel_rfl) (by kernel_rfl) (by kernel_rfl) hSr11 (fun wS hSS => by (have hX := hX.mod hSS (Nat.le_refl _); have hB6 := hB6.mod hSS (by decide); exact (x_len_slice u30 rfl))) ?_
                    refine h_take 8 rfl (by kernel_rfl) (by kernel_rfl) (by kernel_rfl) hSr11 (fun wS hSS => by (have hX := hX.mod hSS (Nat.le_refl _); have hB6 := hB6.mod hSS (by decide); exact (x_convf u95 us3 rfl (fits_u64 (by omega) (by omega))))) ?_
                    refine h_one 3 _ rfl (by kernel_rfl) (hop_of_list (fun Q3 hQ3 => ?_))
                    have hXs := hX.size
                    refine o_call Try.func118 fn118 fb118 (ref02_Text (l.getD i default).1 (by have := name_size hrg.1; omega) _) rfl ?_
                    rintro v14 w14 ⟨⟨qT, lT, cT, rfl, hT⟩, hE14⟩
                    have hX := hX.ext hE14
                    have hO := hO.ext hE14
                    have hB6 := hB6.ext hE14
                    have hB7 := hB7.ext hE14
                    have hSr11 := hSr11.ext hE14
                    have hlT := hT.len
                    have hT : Own kByte 5 0 _ _ qT lT cT (txtL (l.getD i default).1) := hT
                    have hlT : (txtL (l.getD i default).1).length = lT := hT.len
                    refine hop_end hQ3 ⟨hSr11, ?_⟩
                    refine h_one 4 _ rfl (by kernel_rfl) (hop_of_list (fun Q4 hQ4 => ?_))
                    have hq1 := hX.size
                    have hOl := hO.len
                    simp only [List.length_append, List.length_cons] at hOl
                    refine o_append (d := kByte) (txtL (l.getD i default).1) u22 inf5 rfl kByte_pos rfl rfl hO (src_pure u22 hT.sl (by decide)) hT.len (byte_all _ _ _) (rfl) (by omega) (by omega) (by omega) (by omega) (by decide) ?_
                    intro p74 c74 w15 hO hM15
                    have hX := hX.mod hM15 (Nat.le_refl _)
                    have hB6 := hB6.mod hM15 (by decide)
                    have hB7 := hB7.mod hM15 (by decide)
                    have hSr11 := hSr11.mod hM15 (by first | exact Nat.le_refl _ | exact trivial | omega)
                    refine hop_end hQ4 ⟨hSr11, ?_⟩
                    refine h_one 9 _ rfl (by kernel_rfl) (hop_of_list (fun Q9 hQ9 => ?_))
                    have hXs := hX.size
                    refine o_call Try.func98 fn98 fb98 (ref02_Uint n1 (by omega) _) rfl ?_
                    rintro v16 w16 ⟨⟨qU, lU2, cU, rfl, hU⟩, hE16⟩
                    have hX := hX.ext hE16
                    have hB6 := hB6.ext hE16
                    have hB7 := hB7.ext hE16
                    have hSr11 := hSr11.ext hE16
                    have hO := hO.ext hE16
                    have hlU2 := hU.len
                    refine hop_end hQ9 ⟨hSr11, ?_⟩
                    refine h_one 10 _ rfl (by kernel_rfl) (hop_of_list (fun Q10 hQ10 => ?_))
                    have hq2 := hX.size
                    refine o_append (d := kByte) (lebU n1) u22 inf5 rfl kByte_pos rfl rfl hO (src_pure u22 hU.sl (by decide)) hU.len (byte_all _ _ _) (rfl) (by omega) (by omega) (by omega) (by omega) (by decide) ?_
                    intro p80 c80 w17 hO hM17
                    have hX := hX.mod hM17 (Nat.le_refl _)
                    have hB6 := hB6.mod hM17 (by decide)
                    have hB7 := hB7.mod hM17 (by decide)
                    have hSr11 := hSr11.mod hM17 (by first | exact Nat.le_refl _ | exact trivial | omega)
                    have hO2 := hO
                    refine hop_end hQ10 ⟨hSr11, ?_⟩
                    refine h_take 11 rfl (by kernel_rfl) (by kernel_rfl) (by kernel_rfl) hSr11 (fun wS hSS => by ( exact (x_assign (by conv => lhs; whnf)))) ?_
                    refine h_done (by kernel_rfl) ?_
                    refine t_n ?_
                    refine c_seq ?_
                    refine c_seq ?_
                    refine r_plain ?_
                    refine p1 (x_assign (by conv => lhs; whnf)) ?_
                    refine r_nil ?_
                    refine t_n ?_
                    refine c_block ?_
                    have hokb := hrg.2.1
                    have hcb := hS1.cap
                    have hfb := hS1.fit
                    refine c_loop (ι := Nat × Option Addr × Nat × Nat) [4, 9, 81, 82, 83, 84, 85, 86, 87, 88, 89, 90, 91, 92, 93, 94, 95, 96, 97, 98, 99, 100, 101, 102, 103, 104] (fun (k, q4, m4, c4) => [(4, .slice q4 m4 c4), (9, .int .i64 (k : Int))]) (fun (k, q4, m4, c4) w' => Ext w w' ∧ (Own kByte 5 0 w.heap.size w' q4 m4 c4 (1 :: lebU n ++ recsB (l.take i) ++ (txtL (l.getD i default).1 ++ lebU n1) ++ brsB ((l.getD i default).2.1.take k)) ∧ Blk w' g6 #[.string (l.getD i default).1, .slice pb1 n1 cc1, .slice pb2 n2 cc2] 33 ∧ k ≤ n1)) (fun (k, q4, m4, c4) => n1 - k) ((0, p80, m + lT + lU2, c80)) ⟨rfl, rfl, trivial⟩ ⟨hX, ⟨by simpa [brsB, List.append_assoc] using hO, hB6, by omega⟩⟩ ?_
                    rintro ⟨k, q4, m4, c4⟩ GL2 w18 ⟨hE18, hO, hB6, hk⟩
                    have hX := hE18
                    have hOl4 := hO.len
                    have hbk := brsB_take_len hokb k
                    simp only [List.length_append, List.length_cons] at hOl4
                    refine c_seq ?_
                    refine c_seq ?_
                    refine r_plain ?_
                    refine p1 (x_move (by conv => lhs; whnf)) ?_
                    refine p1 (x_fieldAddr fo33_1 sz30 rfl) ?_
                    refine p1 (x_load1 un30 rfl (hB6.cell (rfl))) ?_
                    refine p1 (x_len_slice u30 rfl) ?_
                    refine p1 (x_lss rfl rfl) ?_
                    refine r_nil ?_
                    refine t_n ?_
                    first | refine c_dec rfl (fun hc85 => ?_) (fun hc85 => ?_) | refine c_if rfl (fun hc85 => ?_) (fun hc85 => ?_)
                    · try simp only [decide_eq_true_eq, decide_eq_false_iff_not, Bool.not_eq_true, Bool.not_eq_false, Bool.not_eq_eq_eq_not, Bool.not_true, Bool.not_false, Int.not_lt, Int.not_le] at hc85
                      refine c_skip ?_
                      refine t_n ?_
                      refine c_seq ?_
                      refine c_block ?_
                      obtain ⟨q5, m5, c5x, hrow5, hc0_5, hc1_5, hS5⟩ := hS1.brAt k (by omega)
                      have hmb2 := mem_getD (l := (l.getD i default).2.1) (k := k) (by omega)
                      have hnb := (hokb.2.2 _ hmb2).1
                      have hmb3 := mayB_len (hokb.2.2 _ hmb2).2
                      have hl5 := hS5.len
                      have hbb := brB_len hnb (hokb.2.2 _ hmb2).2
                      refine r_held (fun w1 w2 => Mod w.heap.size 5 w1 w2) mixed ?_
                      intro w19 hE19
                      have hX := hX.ext hE19
                      have hO := hO.ext hE19
                      have hB6 := hB6.ext hE19
                      have hSr15 : (fun w1 w2 => Mod w.heap.size 5 w1 w2) w19 w19 := Mod.refl _ _ _
                      refine h_take 0 rfl (by kernel_rfl) (by kernel_rfl) (by kernel_rfl) hSr15 (fun wS hSS => by ( exact (x_move (by conv => lhs; whnf)))) ?_
                      refine h_take 1 rfl (by kernel_rfl) (by kernel_rfl) (by kernel_rfl) hSr15 (fun wS hSS => by ( exact (x_fieldAddr fo33_1 sz30 rfl))) ?_
                      refine h_take 2 rfl (by kernel_rfl) (by kernel_rfl) (by kernel_rfl) hSr15 (fun wS hSS => by (have hX := hX.mod hSS (Nat.le_refl _); have hB6 := hB6.mod hSS (by decide); exact (x_load1 un30 rfl (hB6.cell (rfl))))) ?_
                      refine h_take 3 rfl (by kernel_rfl) (by kernel_rfl) (by kernel_rfl) hSr15 (fun wS hSS => by ( exact (x_move (by conv => lhs; whnf)))) ?_
                      refine h_take 4 rfl (by kernel_rfl) (by kernel_rfl) (by kernel_rfl) hSr15 (fun wS hSS => by ( exact (x_ixs u30 sz81 rfl rfl ((hS1.ext hX).adr kBrA_pos (by omega)) (by omega) (by omega)))) ?_
                      refine h_take 5 rfl (by kernel_rfl) (by kernel_rfl) (by kernel_rfl) hSr15 (fun wS hSS => by ( exact (x_fieldAddr fo81_0 sz9 rfl))) ?_
                      refine h_take 6 rfl (by kernel_rfl) (by kernel_rfl) (by kernel_rfl) hSr15 (fun wS hSS => by (have hX := hX.mod hSS (Nat.le_refl _); have hB6 := hB6.mod hSS (by decide); exact (x_load1 un9 rfl (hX.cell hc0_5)))) ?_
                      refine h_take 9 rfl (by kernel_rfl) (by kernel_rfl) (by kernel_rfl) hSr15 (fun wS hSS => by ( exact (x_fieldAddr fo33_1 sz30 rfl))) ?_
                      refine h_take 10 rfl (by kernel_rfl) (by kernel_rfl) (by kernel_rfl) hSr15 (fun wS hSS => by (have hX := hX.mod hSS (Nat.le_refl _); have hB6 := hB6.mod hSS (by decide); exact (x_load1 un30 rfl (hB6.cell (rfl))))) ?_
                      refine h_take 11 rfl (by kernel_rfl) (by kernel_rfl) (by kernel_rfl) hSr15 (fun wS hSS => by ( exact (x_move (by conv => lhs; whnf)))) ?_
                      refine h_take 12 rfl (by kernel_rfl) (by kernel_rfl) (by kernel_rfl) hSr15 (fun wS hSS => by ( exact (x_ixs u30 sz81 rfl rfl ((hS1.ext hX).adr kBrA_pos (by omega)) (by omega) (by omega)))) ?_
                      refine h_take 13 rfl (by kernel_rfl) (by kernel_rfl) (by kernel_rfl) hSr15 (fun wS hSS => by ( exact (x_fieldAddr fo81_1 sz31 rfl))) ?_
                      refine h_take 14 rfl (by kernel_rfl) (by kernel_rfl) (by kernel_rfl) hSr15 (fun wS hSS => by (have hX := hX.mod hSS (Nat.le_refl _); have hB6 := hB6.mod hSS (by decide); exact (x_load1 un31 rfl (hX.cell hc1_5)))) ?_
                      refine h_one 7 _ rfl (by kernel_rfl) (hop_of_list (fun Q7 hQ7 => ?_))
                      have hXs := hX.size
                      refine o_call Try.func118 fn118 fb118 (ref02_Text ((l.getD i default).2.1.getD k default).1 (by have := name_size hnb; omega) _) rfl ?_
                      rintro v20 w20 ⟨⟨qT, lT, cT, rfl, hT⟩, hE20⟩
                      have hX := hX.ext hE20
                      have hO := hO.ext hE20
                      have hB6 := hB6.ext hE20
                      have hSr15 := hSr15.ext hE20
                      have hT : Own kByte 5 0 _ _ qT lT cT (txtL ((l.getD i default).2.1.getD k default).1) := hT
                      have hlT : (txtL ((l.getD i default).2.1.getD k default).1).length = lT := hT.len
                      have hlT2 := txtL_len (name_size hnb)
                      refine hop_end hQ7 ⟨hSr15, ?_⟩
                      refine h_one 8 _ rfl (by kernel_rfl) (hop_of_list (fun Q8 hQ8 => ?_))
                      have hq1 := hX.size
                      refine o_append (d := kByte) (txtL ((l.getD i default).2.1.getD k default).1) u22 inf5 rfl kByte_pos rfl rfl hO (src_pure u22 hT.sl (by decide)) hT.len (byte_all _ _ _) (rfl) (by omega) (by omega) (by omega) (by omega) (by decide) ?_
                      intro p96 c96 w21 hO hM21
                      have hX := hX.mod hM21 (Nat.le_refl _)
                      have hB6 := hB6.mod hM21 (by decide)
                      have hSr15 := hSr15.mod hM21 (by first | exact Nat.le_refl _ | exact trivial | omega)
                      refine hop_end hQ8 ⟨hSr15, ?_⟩
                      refine h_one 15 _ rfl (by kernel_rfl) (hop_of_list (fun Q15 hQ15 => ?_))
                      refine o_call Try.func46 fn46 fb46 (ref06_Put ((l.getD i default).2.1.getD k default).2 _ _ _ _ _ (hS5.ext hX) (by omega)) rfl ?_
                      rintro v22 w22 ⟨⟨qU, lU2, cU, rfl, hU⟩, hE22⟩
                      have hX := hX.ext hE22
                      have hB6 := hB6.ext hE22
                      have hSr15 := hSr15.ext hE22
                      have hO := hO.ext hE22
                      rw [← hl5] at hU
                      have hU : Own kByte 5 0 _ _ qU lU2 cU (putB ((l.getD i default).2.1.getD k default).2) := hU
                      have hlU2 : (putB ((l.getD i default).2.1.getD k default).2).length = lU2 := hU.len
                      have hlU3 := putB_len (hs := ((l.getD i default).2.1.getD k default).2) (by omega)
                      refine hop_end hQ15 ⟨hSr15, ?_⟩
                      refine h_one 16 _ rfl (by kernel_rfl) (hop_of_list (fun Q16 hQ16 => ?_))
                      have hq2 := hX.size
                      refine o_append (d := kByte) (putB ((l.getD i default).2.1.getD k default).2) u22 inf5 rfl kByte_pos rfl rfl hO (src_pure u22 hU.sl (by decide)) hU.len (byte_all _ _ _) (rfl) (by omega) (by omega) (by omega) (by omega) (by decide) ?_
                      intro p104 c104 w23 hO hM23
                      have hX := hX.mod hM23 (Nat.le_refl _)
                      have hB6 := hB6.mod hM23 (by decide)
                      have hSr15 := hSr15.mod hM23 (by first | exact Nat.le_refl _ | exact trivial | omega)
                      have hO2 := hO
                      refine hop_end hQ16 ⟨hSr15, ?_⟩
                      refine h_take 17 rfl (by kernel_rfl) (by kernel_rfl) (by kernel_rfl) hSr15 (fun wS hSS => by ( exact (x_assign (by conv => lhs; whnf)))) ?_
                      refine h_done (by kernel_rfl) ?_
                      refine b_n ?_
                      refine t_n ?_
                      refine r_plain ?_
                      refine p1 (x_move (by conv => lhs; whnf)) ?_
                      refine p1 (x_add rfl rfl (fits_i64 (by omega) (by omega))) ?_
                      refine p1 (x_assign (by conv => lhs; whnf)) ?_
                      refine r_nil ?_
                      refine t_n (At.mk ((k + 1, p104, m4 + lT + lU2, c104)) (by repeat (first | exact Agr.refl _ _ | exact Agr.hav _ _ _ | refine Agr.upd rfl ?_ | refine Agr.updL ?_ _ rfl | refine Agr.hav' rfl ?_)) ⟨rfl, rfl, trivial⟩ ?_)
                      exact ⟨⟨hX, ⟨by rw [brsB_succ (by omega)]; unfold brB; simpa only [List.append_assoc] using hO2, hB6, by omega⟩⟩, by first | (dsimp only; omega) | ((show _ < _); omega)⟩
                    · try simp only [decide_eq_true_eq, decide_eq_false_iff_not, Bool.not_eq_true, Bool.not_eq_false, Bool.not_eq_eq_eq_not, Bool.not_true, Bool.not_false, Int.not_lt, Int.not_le] at hc85
                      have hkn : k = n1 := by omega
                      rw [hkn, show (l.getD i default).2.1.take n1 = (l.getD i default).2.1 from List.take_of_length_le (by omega)] at hO hOl4
                      refine c_exit ?_
                      refine t_e ?_
                      refine t_e ?_
                      refine b_hit ?_
                      refine t_n ?_
                      refine r_plain ?_
                      refine p1 (x_move (by conv => lhs; whnf)) ?_
                      refine p1 (x_fieldAddr fo33_2 sz31 rfl) ?_
                      refine p1 (x_load1 un31 rfl (hB6.cell (rfl))) ?_
                      refine o_call Try.func46 fn46 fb46 (ref06_Put (l.getD i default).2.2 _ _ _ _ _ (hS2.ext hX) (by have := hrg.2.2.1; omega)) rfl ?_
                      rintro v24 w24 ⟨⟨qU, lU2, cU, rfl, hU⟩, hE24⟩
                      have hX := hX.ext hE24
                      have hO := hO.ext hE24
                      have hB6 := hB6.ext hE24
                      rw [← hl2] at hU
                      have hU : Own kByte 5 0 _ _ qU lU2 cU (putB (l.getD i default).2.2) := hU
                      have hlU2 : (putB (l.getD i default).2.2).length = lU2 := hU.len
                      have hlU3 := putB_len (hs := (l.getD i default).2.2) (by have := hrg.2.2.1; omega)
                      have h4096 := hrg.2.2.1
                      obtain ⟨Bz, hBz⟩ : ∃ x, x = w24.heap.size := ⟨_, rfl⟩
                      have hbk := brsB_take_len hokb n1
                      rw [show (l.getD i default).2.1.take n1 = (l.getD i default).2.1 from List.take_of_length_le (by omega)] at hbk
                      have hq1 := hX.size
                      refine o_append (d := kByte) (putB (l.getD i default).2.2) u22 inf5 rfl kByte_pos rfl rfl hO (src_pure u22 hU.sl (by decide)) hU.len (byte_all _ _ _) (rfl) (by omega) (by omega) (by omega) (by omega) (by decide) ?_
                      intro p109 c109 w25 hO hM25
                      have hX := hX.mod hM25 (Nat.le_refl _)
                      have hB6 := hB6.mod hM25 (by decide)
                      refine p1 (x_assign (by conv => lhs; whnf)) ?_
                      refine r_nil ?_
                      refine b_n ?_
                      refine t_n ?_
                      refine r_plain ?_
                      refine p1 (x_move (by conv => lhs; whnf)) ?_
                      refine p1 (x_add rfl rfl (fits_i64 (by omega) (by omega))) ?_
                      refine p1 (x_assign (by conv => lhs; whnf)) ?_
                      refine r_nil ?_
                      refine t_n (At.mk ((i + 1, p109, m4 + lU2, c109)) (by repeat (first | exact Agr.refl _ _ | exact Agr.hav _ _ _ | refine Agr.upd rfl ?_ | refine Agr.updL ?_ _ rfl | refine Agr.hav' rfl ?_)) ⟨rfl, rfl, trivial⟩ ?_)
                      exact ⟨⟨hX, ⟨by rw [recsB_succ (by omega)]; unfold recB; rw [hl1]; simpa only [List.append_assoc] using hO, hon, hrn, by omega, by have h9 := hO.len; have h8 : (recB (l.getD i default)).length = (txtL (l.getD i default).1).length + (lebU n1).length + (brsB (l.getD i default).2.1).length + (putB (l.getD i default).2.2).length := (by unfold recB; rw [hl1]; first | done | simp only [List.length_append]); simp only [List.length_append, List.length_cons] at h9; omega⟩⟩, by first | (dsimp only; omega) | ((show _ < _); omega)⟩
          · skip
            refine g1 42 rfl rfl (x_load1 un9 rfl (hB6.cell (rfl))) ?_
            refine hop_end hQ15 ⟨hSr9, ?_⟩
            refine h_one 13 _ rfl (by kernel_rfl) (hop_of_list (fun Q13 hQ13 => ?_))
            refine g1 42 rfl rfl (x_load1 un9 rfl (hX.cell (hrow3 0 _ rfl))) ?_
            refine hop_end hQ13 ⟨hSr9, ?_⟩
            refine h_takeg 16 42 rfl rfl rfl (by kernel_rfl) (by kernel_rfl) (by kernel_rfl) hSr9 (fun wS hSS => by ( exact (x_geq_str rfl rfl))) ?_
            refine h_takeg 17 39 rfl rfl rfl (by kernel_rfl) (by kernel_rfl) (by kernel_rfl) hSr9 (fun wS hSS => by ( exact (x_pick_t rfl (by conv => lhs; whnf)))) ?_
            refine h_take 18 rfl (by kernel_rfl) (by kernel_rfl) (by kernel_rfl) hSr9 (fun wS hSS => by ( exact (x_pick_f rfl (by conv => lhs; whnf)))) ?_
            refine h_takeb 19 rfl (by kernel_rfl) (by kernel_rfl) (by kernel_rfl) hSr9 (fun wS hSS => by ( exact (x_move (by conv => lhs; whnf)))) (fun hb9_19 => ?_) (fun hb9_19 => ?_)
            · try simp only [decide_eq_true_eq, decide_eq_false_iff_not, Bool.not_eq_true, Bool.not_eq_false, Bool.not_eq_eq_eq_not, Bool.not_true, Bool.not_false, Int.not_lt, Int.not_le] at hb9_19
              refine h_skip 20 54 rfl (by first | exact .inl rfl | exact .inr rfl) rfl (by kernel_rfl) (by kernel_rfl) (by kernel_rfl) hSr9 ?_
              refine h_skip 21 54 rfl (by first | exact .inl rfl | exact .inr rfl) rfl (by kernel_rfl) (by kernel_rfl) (by kernel_rfl) hSr9 ?_
              refine h_take 22 rfl (by kernel_rfl) (by kernel_rfl) (by kernel_rfl) hSr9 (fun wS hSS => by ( exact (x_pick_t rfl (by conv => lhs; whnf)))) ?_
              refine h_take 23 rfl (by kernel_rfl) (by kernel_rfl) (by kernel_rfl) hSr9 (fun wS hSS => by ( exact (x_move (by conv => lhs; whnf)))) ?_
              refine h_skip 24 58 rfl (by first | exact .inl rfl | exact .inr rfl) rfl (by kernel_rfl) (by kernel_rfl) (by kernel_rfl) hSr9 ?_
              refine h_skip 25 58 rfl (by first | exact .inl rfl | exact .inr rfl) rfl (by kernel_rfl) (by kernel_rfl) (by kernel_rfl) hSr9 ?_
              refine h_skip 26 58 rfl (by first | exact .inl rfl | exact .inr rfl) rfl (by kernel_rfl) (by kernel_rfl) (by kernel_rfl) hSr9 ?_
              refine h_skip 27 58 rfl (by first | exact .inl rfl | exact .inr rfl) rfl (by kernel_rfl) (by kernel_rfl) (by kernel_rfl) hSr9 ?_
              refine h_take 28 rfl (by kernel_rfl) (by kernel_rfl) (by kernel_rfl) hSr9 (fun wS hSS => by ( exact (x_pick_t rfl (by conv => lhs; whnf)))) ?_
              refine h_take 29 rfl (by kernel_rfl) (by kernel_rfl) (by kernel_rfl) hSr9 (fun wS hSS => by ( exact (x_move (by conv => lhs; whnf)))) ?_
              refine h_skip 30 64 rfl (by first | exact .inl rfl | exact .inr rfl) rfl (by kernel_rfl) (by kernel_rfl) (by kernel_rfl) hSr9 ?_
              refine h_skip 31 64 rfl (by first | exact .inl rfl | exact .inr rfl) rfl (by kernel_rfl) (by kernel_rfl) (by kernel_rfl) hSr9 ?_
              refine h_skip 32 64 rfl (by first | exact .inl rfl | exact .inr rfl) rfl (by kernel_rfl) (by kernel_rfl) (by kernel_rfl) hSr9 ?_
              refine h_skip 33 64 rfl (by first | exact .inl rfl | exact .inr rfl) rfl (by kernel_rfl) (by kernel_rfl) (by kernel_rfl) hSr9 ?_
              refine h_take 34 rfl (by kernel_rfl) (by kernel_rfl) (by kernel_rfl) hSr9 (fun wS hSS => by ( exact (x_pick_t rfl (by conv => lhs; whnf)))) ?_
              refine h_done (by kernel_rfl) ?_
              refine t_n ?_
              refine c_t rfl ?_
              have hno : ¬ recsOk l := by
                intro h
                obtain ⟨r1, r2, r3, r4⟩ := h.1 _ hmem
                first | (rw [hb9_4] at r1; exact absurd r1 (by decide)) | exact absurd (he1.2 r2) hb9_23 | (exfalso; omega) | (rw [hc69] at r4; exact absurd r4 (by decide)) | exact not_riseR_at (k := i) (by omega) (by omega) (by rw [← ez]; simpa using hb9_19) h.2
              have hp : putI l = ([], 4) := by unfold putI; rw [if_pos (.inr hno)]
              refine c_seq ?_
              refine r_plain ?_
              refine p1 (x_assign (by conv => lhs; whnf)) ?_
              refine p1 (x_assign (by conv => lhs; whnf)) ?_
              refine r_nil ?_
              refine t_n ?_
              refine c_ret ?_
              refine t_r ?_
              refine b_r ?_
              refine t_r ?_
              refine t_r ?_
              refine b_r ?_
              refine t_r ?_
              refine end2 rfl (by conv => lhs; whnf) (by conv => lhs; whnf) ?_
              first | exact ⟨⟨none, 0, 0, by rw [hp], (by rw [hp]; exact Own.nil _ _ _ _ _)⟩, hX⟩ | exact ⟨⟨_, _, _, by rw [hp], by rw [hp]; exact hO⟩, hX⟩
            · try simp only [decide_eq_true_eq, decide_eq_false_iff_not, Bool.not_eq_true, Bool.not_eq_false, Bool.not_eq_eq_eq_not, Bool.not_true, Bool.not_false, Int.not_lt, Int.not_le] at hb9_19
              refine h_takeg 20 54 rfl rfl rfl (by kernel_rfl) (by kernel_rfl) (by kernel_rfl) hSr9 (fun wS hSS => by ( exact (x_move (by conv => lhs; whnf)))) ?_
              refine h_takeg 21 54 rfl rfl rfl (by kernel_rfl) (by kernel_rfl) (by kernel_rfl) hSr9 (fun wS hSS => by ( exact (x_neq rfl rfl))) ?_
              refine h_take 22 rfl (by kernel_rfl) (by kernel_rfl) (by kernel_rfl) hSr9 (fun wS hSS => by ( exact (x_pick_f rfl (by conv => lhs; whnf)))) ?_
              refine h_takeb 23 rfl (by kernel_rfl) (by kernel_rfl) (by kernel_rfl) hSr9 (fun wS hSS => by ( exact (x_move (by conv => lhs; whnf)))) (fun hb9_23 => ?_) (fun hb9_23 => ?_)
              · try simp only [decide_eq_true_eq, decide_eq_false_iff_not, Bool.not_eq_true, Bool.not_eq_false, Bool.not_eq_eq_eq_not, Bool.not_true, Bool.not_false, Int.not_lt, Int.not_le] at hb9_23
                refine h_skip 24 58 rfl (by first | exact .inl rfl | exact .inr rfl) rfl (by kernel_rfl) (by kernel_rfl) (by kernel_rfl) hSr9 ?_
                refine h_skip 25 58 rfl (by first | exact .inl rfl | exact .inr rfl) rfl (by kernel_rfl) (by kernel_rfl) (by kernel_rfl) hSr9 ?_
                refine h_skip 26 58 rfl (by first | exact .inl rfl | exact .inr rfl) rfl (by kernel_rfl) (by kernel_rfl) (by kernel_rfl) hSr9 ?_
                refine h_skip 27 58 rfl (by first | exact .inl rfl | exact .inr rfl) rfl (by kernel_rfl) (by kernel_rfl) (by kernel_rfl) hSr9 ?_
                refine h_take 28 rfl (by kernel_rfl) (by kernel_rfl) (by kernel_rfl) hSr9 (fun wS hSS => by ( exact (x_pick_t rfl (by conv => lhs; whnf)))) ?_
                refine h_take 29 rfl (by kernel_rfl) (by kernel_rfl) (by kernel_rfl) hSr9 (fun wS hSS => by ( exact (x_move (by conv => lhs; whnf)))) ?_
                refine h_skip 30 64 rfl (by first | exact .inl rfl | exact .inr rfl) rfl (by kernel_rfl) (by kernel_rfl) (by kernel_rfl) hSr9 ?_
                refine h_skip 31 64 rfl (by first | exact .inl rfl | exact .inr rfl) rfl (by kernel_rfl) (by kernel_rfl) (by kernel_rfl) hSr9 ?_
                refine h_skip 32 64 rfl (by first | exact .inl rfl | exact .inr rfl) rfl (by kernel_rfl) (by kernel_rfl) (by kernel_rfl) hSr9 ?_
                refine h_skip 33 64 rfl (by first | exact .inl rfl | exact .inr rfl) rfl (by kernel_rfl) (by kernel_rfl) (by kernel_rfl) hSr9 ?_
                refine h_take 34 rfl (by kernel_rfl) (by kernel_rfl) (by kernel_rfl) hSr9 (fun wS hSS => by ( exact (x_pick_t rfl (by conv => lhs; whnf)))) ?_
                refine h_done (by kernel_rfl) ?_
                refine t_n ?_
                refine c_t rfl ?_
                have hno : ¬ recsOk l := by
                  intro h
                  obtain ⟨r1, r2, r3, r4⟩ := h.1 _ hmem
                  first | (rw [hb9_4] at r1; exact absurd r1 (by decide)) | exact absurd (he1.2 r2) hb9_23 | (exfalso; omega) | (rw [hc69] at r4; exact absurd r4 (by decide)) | exact not_riseR_at (k := i) (by omega) (by omega) (by rw [← ez]; simpa using hb9_19) h.2
                have hp : putI l = ([], 4) := by unfold putI; rw [if_pos (.inr hno)]
                refine c_seq ?_
                refine r_plain ?_
                refine p1 (x_assign (by conv => lhs; whnf)) ?_
                refine p1 (x_assign (by conv => lhs; whnf)) ?_
                refine r_nil ?_
                refine t_n ?_
                refine c_ret ?_
                refine t_r ?_
                refine b_r ?_
                refine t_r ?_
                refine t_r ?_
                refine b_r ?_
                refine t_r ?_
                refine end2 rfl (by conv => lhs; whnf) (by conv => lhs; whnf) ?_
                first | exact ⟨⟨none, 0, 0, by rw [hp], (by rw [hp]; exact Own.nil _ _ _ _ _)⟩, hX⟩ | exact ⟨⟨_, _, _, by rw [hp], by rw [hp]; exact hO⟩, hX⟩
              · try simp only [decide_eq_true_eq, decide_eq_false_iff_not, Bool.not_eq_true, Bool.not_eq_false, Bool.not_eq_eq_eq_not, Bool.not_true, Bool.not_false, Int.not_lt, Int.not_le] at hb9_23
                refine h_takeg 24 58 rfl rfl rfl (by kernel_rfl) (by kernel_rfl) (by kernel_rfl) hSr9 (fun wS hSS => by ( exact (x_fieldAddr fo33_2 sz31 rfl))) ?_
                refine h_one 25 _ rfl (by kernel_rfl) (hop_of_list (fun Q25 hQ25 => ?_))
                refine g1 58 rfl rfl (x_load1 un31 rfl (hB6.cell (rfl))) ?_
                refine hop_end hQ25 ⟨hSr9, ?_⟩
                refine h_takeg 26 58 rfl rfl rfl (by kernel_rfl) (by kernel_rfl) (by kernel_rfl) hSr9 (fun wS hSS => by ( exact (x_len_slice u31 rfl))) ?_
                refine h_takeg 27 58 rfl rfl rfl (by kernel_rfl) (by kernel_rfl) (by kernel_rfl) hSr9 (fun wS hSS => by ( exact (x_gtr rfl rfl))) ?_
                refine h_take 28 rfl (by kernel_rfl) (by kernel_rfl) (by kernel_rfl) hSr9 (fun wS hSS => by ( exact (x_pick_f rfl (by conv => lhs; whnf)))) ?_
                refine h_takeb 29 rfl (by kernel_rfl) (by kernel_rfl) (by kernel_rfl) hSr9 (fun wS hSS => by ( exact (x_move (by conv => lhs; whnf)))) (fun hb9_29 => ?_) (fun hb9_29 => ?_)
                · try simp only [decide_eq_true_eq, decide_eq_false_iff_not, Bool.not_eq_true, Bool.not_eq_false, Bool.not_eq_eq_eq_not, Bool.not_true, Bool.not_false, Int.not_lt, Int.not_le] at hb9_29
                  refine h_skip 30 64 rfl (by first | exact .inl rfl | exact .inr rfl) rfl (by kernel_rfl) (by kernel_rfl) (by kernel_rfl) hSr9 ?_
                  refine h_skip 31 64 rfl (by first | exact .inl rfl | exact .inr rfl) rfl (by kernel_rfl) (by kernel_rfl) (by kernel_rfl) hSr9 ?_
                  refine h_skip 32 64 rfl (by first | exact .inl rfl | exact .inr rfl) rfl (by kernel_rfl) (by kernel_rfl) (by kernel_rfl) hSr9 ?_
                  refine h_skip 33 64 rfl (by first | exact .inl rfl | exact .inr rfl) rfl (by kernel_rfl) (by kernel_rfl) (by kernel_rfl) hSr9 ?_
                  refine h_take 34 rfl (by kernel_rfl) (by kernel_rfl) (by kernel_rfl) hSr9 (fun wS hSS => by ( exact (x_pick_t rfl (by conv => lhs; whnf)))) ?_
                  refine h_done (by kernel_rfl) ?_
                  refine t_n ?_
                  refine c_t rfl ?_
                  have hno : ¬ recsOk l := by
                    intro h
                    obtain ⟨r1, r2, r3, r4⟩ := h.1 _ hmem
                    first | (rw [hb9_4] at r1; exact absurd r1 (by decide)) | exact absurd (he1.2 r2) hb9_23 | (exfalso; omega) | (rw [hc69] at r4; exact absurd r4 (by decide)) | exact not_riseR_at (k := i) (by omega) (by omega) (by rw [← ez]; simpa using hb9_19) h.2
                  have hp : putI l = ([], 4) := by unfold putI; rw [if_pos (.inr hno)]
                  refine c_seq ?_
                  refine r_plain ?_
                  refine p1 (x_assign (by conv => lhs; whnf)) ?_
                  refine p1 (x_assign (by conv => lhs; whnf)) ?_
                  refine r_nil ?_
                  refine t_n ?_
                  refine c_ret ?_
                  refine t_r ?_
                  refine b_r ?_
                  refine t_r ?_
                  refine t_r ?_
                  refine b_r ?_
                  refine t_r ?_
                  refine end2 rfl (by conv => lhs; whnf) (by conv => lhs; whnf) ?_
                  first | exact ⟨⟨none, 0, 0, by rw [hp], (by rw [hp]; exact Own.nil _ _ _ _ _)⟩, hX⟩ | exact ⟨⟨_, _, _, by rw [hp], by rw [hp]; exact hO⟩, hX⟩
                · try simp only [decide_eq_true_eq, decide_eq_false_iff_not, Bool.not_eq_true, Bool.not_eq_false, Bool.not_eq_eq_eq_not, Bool.not_true, Bool.not_false, Int.not_lt, Int.not_le] at hb9_29
                  refine h_takeg 30 64 rfl rfl rfl (by kernel_rfl) (by kernel_rfl) (by kernel_rfl) hSr9 (fun wS hSS => by ( exact (x_fieldAddr fo33_2 sz31 rfl))) ?_
                  refine h_one 31 _ rfl (by kernel_rfl) (hop_of_list (fun Q31 hQ31 => ?_))
                  refine g1 64 rfl rfl (x_load1 un31 rfl (hB6.cell (rfl))) ?_
                  refine hop_end hQ31 ⟨hSr9, ?_⟩
                  refine h_one 32 _ rfl (by kernel_rfl) (hop_of_list (fun Q32 hQ32 => ?_))
                  refine g_drop 64 rfl rfl ?_
                  refine o_call Try.func39 fn39 fb39 (ref06_Rising (l.getD i default).2.2 _ _ _ _ _ (hS2.ext hX)) rfl ?_
                  rintro v26 w26 ⟨rfl, hE26⟩
                  have hX := hX.ext hE26
                  have hO := hO.ext hE26
                  have hB6 := hB6.ext hE26
                  have hB7 := hB7.ext hE26
                  have hSr9 := hSr9.ext hE26
                  refine hop_end hQ32 ⟨hSr9, ?_⟩
                  refine h_takeg 33 64 rfl rfl rfl (by kernel_rfl) (by kernel_rfl) (by kernel_rfl) hSr9 (fun wS hSS => by ( exact (x_not rfl))) ?_
                  refine h_take 34 rfl (by kernel_rfl) (by kernel_rfl) (by kernel_rfl) hSr9 (fun wS hSS => by ( exact (x_pick_f rfl (by conv => lhs; whnf)))) ?_
                  refine h_done (by kernel_rfl) ?_
                  refine t_n ?_
                  first | refine c_dec rfl (fun hc69 => ?_) (fun hc69 => ?_) | refine c_if rfl (fun hc69 => ?_) (fun hc69 => ?_)
                  · try simp only [decide_eq_true_eq, decide_eq_false_iff_not, Bool.not_eq_true, Bool.not_eq_false, Bool.not_eq_eq_eq_not, Bool.not_true, Bool.not_false, Int.not_lt, Int.not_le] at hc69
                    have hno : ¬ recsOk l := by
                      intro h
                      obtain ⟨r1, r2, r3, r4⟩ := h.1 _ hmem
                      first | (rw [hb9_4] at r1; exact absurd r1 (by decide)) | exact absurd (he1.2 r2) hb9_23 | (exfalso; omega) | (rw [hc69] at r4; exact absurd r4 (by decide)) | exact not_riseR_at (k := i) (by omega) (by omega) (by rw [← ez]; simpa using hb9_19) h.2
                    have hp : putI l = ([], 4) := by unfold putI; rw [if_pos (.inr hno)]
                    refine c_seq ?_
                    refine r_plain ?_
                    refine p1 (x_assign (by conv => lhs; whnf)) ?_
                    refine p1 (x_assign (by conv => lhs; whnf)) ?_
                    refine r_nil ?_
                    refine t_n ?_
                    refine c_ret ?_
                    refine t_r ?_
                    refine b_r ?_
                    refine t_r ?_
                    refine t_r ?_
                    refine b_r ?_
                    refine t_r ?_
                    refine end2 rfl (by conv => lhs; whnf) (by conv => lhs; whnf) ?_
                    first | exact ⟨⟨none, 0, 0, by rw [hp], (by rw [hp]; exact Own.nil _ _ _ _ _)⟩, hX⟩ | exact ⟨⟨_, _, _, by rw [hp], by rw [hp]; exact hO⟩, hX⟩
                  · try simp only [decide_eq_true_eq, decide_eq_false_iff_not, Bool.not_eq_true, Bool.not_eq_false, Bool.not_eq_eq_eq_not, Bool.not_true, Bool.not_false, Int.not_lt, Int.not_le] at hc69
                    have hord : i = 0 ∨ lssB (l.getD (i - 1) default).1 (l.getD i default).1 = true := by first | (left; omega) | (right; rw [← ez]; simpa using hb9_19)
                    have hrn := riseR_next hrs (by omega) hord
                    have hrg : rightP (l.getD i default) := ⟨hb9_4, he1.1 (by simpa using hb9_23), by omega, hc69⟩
                    have hon := right_take_succ hro (by omega) hrg
                    have hbl := recB_len hrg
                    have hlt := txtL_len (name_size hrg.1)
                    have hb64 := hrg.2.1.1
                    have hlu := lebU_len10 (n := n1) (by omega)
                    refine c_skip ?_
                    refine t_n ?_
                    refine c_seq ?_
                    refine r_held (fun w1 w2 => Mod w.heap.size 5 w1 w2) mixed ?_
                    intro w27 hE27
                    have hX := hX.ext hE27
                    have hO := hO.ext hE27
                    have hB6 := hB6.ext hE27
                    have hB7 := hB7.ext hE27
                    have hSr11 : (fun w1 w2 => Mod w.heap.size 5 w1 w2) w27 w27 := Mod.refl _ _ _
                    refine h_take 0 rfl (by kernel_rfl) (by kernel_rfl) (by kernel_rfl) hSr11 (fun wS hSS => by ( exact (x_move (by conv => lhs; whnf)))) ?_
                    refine h_take 1 rfl (by kernel_rfl) (by kernel_rfl) (by kernel_rfl) hSr11 (fun wS hSS => by ( exact (x_fieldAddr fo33_0 sz9 rfl))) ?_
                    refine h_take 2 rfl (by kernel_rfl) (by kernel_rfl) (by kernel_rfl) hSr11 (fun wS hSS => by (have hX := hX.mod hSS (Nat.le_refl _); have hB6 := hB6.mod hSS (by decide); exact (x_load1 un9 rfl (hB6.cell (rfl))))) ?_
                    refine h_take 5 rfl (by kernel_rfl) (by kernel_rfl) (by kernel_rfl) hSr11 (fun wS hSS => by ( exact (x_fieldAddr fo33_1 sz30 rfl))) ?_
                    refine h_take 6 rfl (by kernel_rfl) (by kernel_rfl) (by kernel_rfl) hSr11 (fun wS hSS => by (have hX := hX.mod hSS (Nat.le_refl _); have hB6 := hB6.mod hSS (by decide); exact (x_load1 un30 rfl (hB6.cell (rfl))))) ?_
                    refine h_take 7 rfl (by kernel_rfl) (by kernel_rfl) (by kernel_rfl) hSr11 (fun wS hSS => by (have hX := hX.mod hSS (Nat.le_refl _); have hB6 := hB6.mod hSS (by decide); exact (x_len_slice u30 rfl))) ?_
                    refine h_take 8 rfl (by kernel_rfl) (by kernel_rfl) (by kernel_rfl) hSr11 (fun wS hSS => by (have hX := hX.mod hSS (Nat.le_refl _); have hB6 := hB6.mod hSS (by decide); exact (x_convf u95 us3 rfl (fits_u64 (by omega) (by omega))))) ?_
                    refine h_one 3 _ rfl (by kernel_rfl) (hop_of_list (fun Q3 hQ3 => ?_))
                    have hXs := hX.size
                    refine o_call Try.func118 fn118 fb118 (ref02_Text (l.getD i default).1 (by have := name_size hrg.1; omega) _) rfl ?_
                    rintro v28 w28 ⟨⟨qT, lT, cT, rfl, hT⟩, hE28⟩
                    have hX := hX.ext hE28
                    have hO := hO.ext hE28
                    have hB6 := hB6.ext hE28
                    have hB7 := hB7.ext hE28
                    have hSr11 := hSr11.ext hE28
                    have hlT := hT.len
                    have hT : Own kByte 5 0 _ _ qT lT cT (txtL (l.getD i default).1) := hT
                    have hlT : (txtL (l.getD i default).1).length = lT := hT.len
                    refine hop_end hQ3 ⟨hSr11, ?_⟩
                    refine h_one 4 _ rfl (by kernel_rfl) (hop_of_list (fun Q4 hQ4 => ?_))
                    have hq1 := hX.size
                    have hOl := hO.len
                    simp only [List.length_append, List.length_cons] at hOl
                    refine o_append (d := kByte) (txtL (l.getD i default).1) u22 inf5 rfl kByte_pos rfl rfl hO (src_pure u22 hT.sl (by decide)) hT.len (byte_all _ _ _) (rfl) (by omega) (by omega) (by omega) (by omega) (by decide) ?_
                    intro p74 c74 w29 hO hM29
                    have hX := hX.mod hM29 (Nat.le_refl _)
                    have hB6 := hB6.mod hM29 (by decide)
                    have hB7 := hB7.mod hM29 (by decide)
                    have hSr11 := hSr11.mod hM29 (by first | exact Nat.le_refl _ | exact trivial | omega)
                    refine hop_end hQ4 ⟨hSr11, ?_⟩
                    refine h_one 9 _ rfl (by kernel_rfl) (hop_of_list (fun Q9 hQ9 => ?_))
                    have hXs := hX.size
                    refine o_call Try.func98 fn98 fb98 (ref02_Uint n1 (by omega) _) rfl ?_
                    rintro v30 w30 ⟨⟨qU, lU2, cU, rfl, hU⟩, hE30⟩
                    have hX := hX.ext hE30
                    have hB6 := hB6.ext hE30
                    have hB7 := hB7.ext hE30
                    have hSr11 := hSr11.ext hE30
                    have hO := hO.ext hE30
                    have hlU2 := hU.len
                    refine hop_end hQ9 ⟨hSr11, ?_⟩
                    refine h_one 10 _ rfl (by kernel_rfl) (hop_of_list (fun Q10 hQ10 => ?_))
                    have hq2 := hX.size
                    refine o_append (d := kByte) (lebU n1) u22 inf5 rfl kByte_pos rfl rfl hO (src_pure u22 hU.sl (by decide)) hU.len (byte_all _ _ _) (rfl) (by omega) (by omega) (by omega) (by omega) (by decide) ?_
                    intro p80 c80 w31 hO hM31
                    have hX := hX.mod hM31 (Nat.le_refl _)
                    have hB6 := hB6.mod hM31 (by decide)
                    have hB7 := hB7.mod hM31 (by decide)
                    have hSr11 := hSr11.mod hM31 (by first | exact Nat.le_refl _ | exact trivial | omega)
                    have hO2 := hO
                    refine hop_end hQ10 ⟨hSr11, ?_⟩
                    refine h_take 11 rfl (by kernel_rfl) (by kernel_rfl) (by kernel_rfl) hSr11 (fun wS hSS => by ( exact (x_assign (by conv => lhs; whnf)))) ?_
                    refine h_done (by kernel_rfl) ?_
                    refine t_n ?_
                    refine c_seq ?_
                    refine c_seq ?_
                    refine r_plain ?_
                    refine p1 (x_assign (by conv => lhs; whnf)) ?_
                    refine r_nil ?_
                    refine t_n ?_
                    refine c_block ?_
                    have hokb := hrg.2.1
                    have hcb := hS1.cap
                    have hfb := hS1.fit
                    refine c_loop (ι := Nat × Option Addr × Nat × Nat) [4, 9, 81, 82, 83, 84, 85, 86, 87, 88, 89, 90, 91, 92, 93, 94, 95, 96, 97, 98, 99, 100, 101, 102, 103, 104] (fun (k, q4, m4, c4) => [(4, .slice q4 m4 c4), (9, .int .i64 (k : Int))]) (fun (k, q4, m4, c4) w' => Ext w w' ∧ (Own kByte 5 0 w.heap.size w' q4 m4 c4 (1 :: lebU n ++ recsB (l.take i) ++ (txtL (l.getD i default).1 ++ lebU n1) ++ brsB ((l.getD i default).2.1.take k)) ∧ Blk w' g6 #[.string (l.getD i default).1, .slice pb1 n1 cc1, .slice pb2 n2 cc2] 33 ∧ k ≤ n1)) (fun (k, q4, m4, c4) => n1 - k) ((0, p80, m + lT + lU2, c80)) ⟨rfl, rfl, trivial⟩ ⟨hX, ⟨by simpa [brsB, List.append_assoc] using hO, hB6, by omega⟩⟩ ?_
                    rintro ⟨k, q4, m4, c4⟩ GL2 w32 ⟨hE32, hO, hB6, hk⟩
                    have hX := hE32
                    have hOl4 := hO.len
                    have hbk := brsB_take_len hokb k
                    simp only [List.length_append, List.length_cons] at hOl4
                    refine c_seq ?_
                    refine c_seq ?_
                    refine r_plain ?_
                    refine p1 (x_move (by conv => lhs; whnf)) ?_
                    refine p1 (x_fieldAddr fo33_1 sz30 rfl) ?_
                    refine p1 (x_load1 un30 rfl (hB6.cell (rfl))) ?_
                    refine p1 (x_len_slice u30 rfl) ?_
                    refine p1 (x_lss rfl rfl) ?_
                    refine r_nil ?_
                    refine t_n ?_
                    first | refine c_dec rfl (fun hc85 => ?_) (fun hc85 => ?_) | refine c_if rfl (fun hc85 => ?_) (fun hc85 => ?_)
                    · try simp only [decide_eq_true_eq, decide_eq_false_iff_not, Bool.not_eq_true, Bool.not_eq_false, Bool.not_eq_eq_eq_not, Bool.not_true, Bool.not_false, Int.not_lt, Int.not_le] at hc85
                      refine c_skip ?_
                      refine t_n ?_
                      refine c_seq ?_
                      refine c_block ?_
                      obtain ⟨q5, m5, c5x, hrow5, hc0_5, hc1_5, hS5⟩ := hS1.brAt k (by omega)
                      have hmb2 := mem_getD (l := (l.getD i default).2.1) (k := k) (by omega)
                      have hnb := (hokb.2.2 _ hmb2).1
                      have hmb3 := mayB_len (hokb.2.2 _ hmb2).2
                      have hl5 := hS5.len
                      have hbb := brB_len hnb (hokb.2.2 _ hmb2).2
                      refine r_held (fun w1 w2 => Mod w.heap.size 5 w1 w2) mixed ?_
                      intro w33 hE33
                      have hX := hX.ext hE33
                      have hO := hO.ext hE33
                      have hB6 := hB6.ext hE33
                      have hSr15 : (fun w1 w2 => Mod w.heap.size 5 w1 w2) w33 w33 := Mod.refl _ _ _
                      refine h_take 0 rfl (by kernel_rfl) (by kernel_rfl) (by kernel_rfl) hSr15 (fun wS hSS => by ( exact (x_move (by conv => lhs; whnf)))) ?_
                      refine h_take 1 rfl (by kernel_rfl) (by kernel_rfl) (by kernel_rfl) hSr15 (fun wS hSS => by ( exact (x_fieldAddr fo33_1 sz30 rfl))) ?_
                      refine h_take 2 rfl (by kernel_rfl) (by kernel_rfl) (by kernel_rfl) hSr15 (fun wS hSS => by (have hX := hX.mod hSS (Nat.le_refl _); have hB6 := hB6.mod hSS (by decide); exact (x_load1 un30 rfl (hB6.cell (rfl))))) ?_
                      refine h_take 3 rfl (by kernel_rfl) (by kernel_rfl) (by kernel_rfl) hSr15 (fun wS hSS => by ( exact (x_move (by conv => lhs; whnf)))) ?_
                      refine h_take 4 rfl (by kernel_rfl) (by kernel_rfl) (by kernel_rfl) hSr15 (fun wS hSS => by ( exact (x_ixs u30 sz81 rfl rfl ((hS1.ext hX).adr kBrA_pos (by omega)) (by omega) (by omega)))) ?_
                      refine h_take 5 rfl (by kernel_rfl) (by kernel_rfl) (by kernel_rfl) hSr15 (fun wS hSS => by ( exact (x_fieldAddr fo81_0 sz9 rfl))) ?_
                      refine h_take 6 rfl (by kernel_rfl) (by kernel_rfl) (by kernel_rfl) hSr15 (fun wS hSS => by (have hX := hX.mod hSS (Nat.le_refl _); have hB6 := hB6.mod hSS (by decide); exact (x_load1 un9 rfl (hX.cell hc0_5)))) ?_
                      refine h_take 9 rfl (by kernel_rfl) (by kernel_rfl) (by kernel_rfl) hSr15 (fun wS hSS => by ( exact (x_fieldAddr fo33_1 sz30 rfl))) ?_
                      refine h_take 10 rfl (by kernel_rfl) (by kernel_rfl) (by kernel_rfl) hSr15 (fun wS hSS => by (have hX := hX.mod hSS (Nat.le_refl _); have hB6 := hB6.mod hSS (by decide); exact (x_load1 un30 rfl (hB6.cell (rfl))))) ?_
                      refine h_take 11 rfl (by kernel_rfl) (by kernel_rfl) (by kernel_rfl) hSr15 (fun wS hSS => by ( exact (x_move (by conv => lhs; whnf)))) ?_
                      refine h_take 12 rfl (by kernel_rfl) (by kernel_rfl) (by kernel_rfl) hSr15 (fun wS hSS => by ( exact (x_ixs u30 sz81 rfl rfl ((hS1.ext hX).adr kBrA_pos (by omega)) (by omega) (by omega)))) ?_
                      refine h_take 13 rfl (by kernel_rfl) (by kernel_rfl) (by kernel_rfl) hSr15 (fun wS hSS => by ( exact (x_fieldAddr fo81_1 sz31 rfl))) ?_
                      refine h_take 14 rfl (by kernel_rfl) (by kernel_rfl) (by kernel_rfl) hSr15 (fun wS hSS => by (have hX := hX.mod hSS (Nat.le_refl _); have hB6 := hB6.mod hSS (by decide); exact (x_load1 un31 rfl (hX.cell hc1_5)))) ?_
                      refine h_one 7 _ rfl (by kernel_rfl) (hop_of_list (fun Q7 hQ7 => ?_))
                      have hXs := hX.size
                      refine o_call Try.func118 fn118 fb118 (ref02_Text ((l.getD i default).2.1.getD k default).1 (by have := name_size hnb; omega) _) rfl ?_
                      rintro v34 w34 ⟨⟨qT, lT, cT, rfl, hT⟩, hE34⟩
                      have hX := hX.ext hE34
                      have hO := hO.ext hE34
                      have hB6 := hB6.ext hE34
                      have hSr15 := hSr15.ext hE34
                      have hT : Own kByte 5 0 _ _ qT lT cT (txtL ((l.getD i default).2.1.getD k default).1) := hT
                      have hlT : (txtL ((l.getD i default).2.1.getD k default).1).length = lT := hT.len
                      have hlT2 := txtL_len (name_size hnb)
                      refine hop_end hQ7 ⟨hSr15, ?_⟩
                      refine h_one 8 _ rfl (by kernel_rfl) (hop_of_list (fun Q8 hQ8 => ?_))
                      have hq1 := hX.size
                      refine o_append (d := kByte) (txtL ((l.getD i default).2.1.getD k default).1) u22 inf5 rfl kByte_pos rfl rfl hO (src_pure u22 hT.sl (by decide)) hT.len (byte_all _ _ _) (rfl) (by omega) (by omega) (by omega) (by omega) (by decide) ?_
                      intro p96 c96 w35 hO hM35
                      have hX := hX.mod hM35 (Nat.le_refl _)
                      have hB6 := hB6.mod hM35 (by decide)
                      have hSr15 := hSr15.mod hM35 (by first | exact Nat.le_refl _ | exact trivial | omega)
                      refine hop_end hQ8 ⟨hSr15, ?_⟩
                      refine h_one 15 _ rfl (by kernel_rfl) (hop_of_list (fun Q15 hQ15 => ?_))
                      refine o_call Try.func46 fn46 fb46 (ref06_Put ((l.getD i default).2.1.getD k default).2 _ _ _ _ _ (hS5.ext hX) (by omega)) rfl ?_
                      rintro v36 w36 ⟨⟨qU, lU2, cU, rfl, hU⟩, hE36⟩
                      have hX := hX.ext hE36
                      have hB6 := hB6.ext hE36
                      have hSr15 := hSr15.ext hE36
                      have hO := hO.ext hE36
                      rw [← hl5] at hU
                      have hU : Own kByte 5 0 _ _ qU lU2 cU (putB ((l.getD i default).2.1.getD k default).2) := hU
                      have hlU2 : (putB ((l.getD i default).2.1.getD k default).2).length = lU2 := hU.len
                      have hlU3 := putB_len (hs := ((l.getD i default).2.1.getD k default).2) (by omega)
                      refine hop_end hQ15 ⟨hSr15, ?_⟩
                      refine h_one 16 _ rfl (by kernel_rfl) (hop_of_list (fun Q16 hQ16 => ?_))
                      have hq2 := hX.size
                      refine o_append (d := kByte) (putB ((l.getD i default).2.1.getD k default).2) u22 inf5 rfl kByte_pos rfl rfl hO (src_pure u22 hU.sl (by decide)) hU.len (byte_all _ _ _) (rfl) (by omega) (by omega) (by omega) (by omega) (by decide) ?_
                      intro p104 c104 w37 hO hM37
                      have hX := hX.mod hM37 (Nat.le_refl _)
                      have hB6 := hB6.mod hM37 (by decide)
                      have hSr15 := hSr15.mod hM37 (by first | exact Nat.le_refl _ | exact trivial | omega)
                      have hO2 := hO
                      refine hop_end hQ16 ⟨hSr15, ?_⟩
                      refine h_take 17 rfl (by kernel_rfl) (by kernel_rfl) (by kernel_rfl) hSr15 (fun wS hSS => by ( exact (x_assign (by conv => lhs; whnf)))) ?_
                      refine h_done (by kernel_rfl) ?_
                      refine b_n ?_
                      refine t_n ?_
                      refine r_plain ?_
                      refine p1 (x_move (by conv => lhs; whnf)) ?_
                      refine p1 (x_add rfl rfl (fits_i64 (by omega) (by omega))) ?_
                      refine p1 (x_assign (by conv => lhs; whnf)) ?_
                      refine r_nil ?_
                      refine t_n (At.mk ((k + 1, p104, m4 + lT + lU2, c104)) (by repeat (first | exact Agr.refl _ _ | exact Agr.hav _ _ _ | refine Agr.upd rfl ?_ | refine Agr.updL ?_ _ rfl | refine Agr.hav' rfl ?_)) ⟨rfl, rfl, trivial⟩ ?_)
                      exact ⟨⟨hX, ⟨by rw [brsB_succ (by omega)]; unfold brB; simpa only [List.append_assoc] using hO2, hB6, by omega⟩⟩, by first | (dsimp only; omega) | ((show _ < _); omega)⟩
                    · try simp only [decide_eq_true_eq, decide_eq_false_iff_not, Bool.not_eq_true, Bool.not_eq_false, Bool.not_eq_eq_eq_not, Bool.not_true, Bool.not_false, Int.not_lt, Int.not_le] at hc85
                      have hkn : k = n1 := by omega
                      rw [hkn, show (l.getD i default).2.1.take n1 = (l.getD i default).2.1 from List.take_of_length_le (by omega)] at hO hOl4
                      refine c_exit ?_
                      refine t_e ?_
                      refine t_e ?_
                      refine b_hit ?_
                      refine t_n ?_
                      refine r_plain ?_
                      refine p1 (x_move (by conv => lhs; whnf)) ?_
                      refine p1 (x_fieldAddr fo33_2 sz31 rfl) ?_
                      refine p1 (x_load1 un31 rfl (hB6.cell (rfl))) ?_
                      refine o_call Try.func46 fn46 fb46 (ref06_Put (l.getD i default).2.2 _ _ _ _ _ (hS2.ext hX) (by have := hrg.2.2.1; omega)) rfl ?_
                      rintro v38 w38 ⟨⟨qU, lU2, cU, rfl, hU⟩, hE38⟩
                      have hX := hX.ext hE38
                      have hO := hO.ext hE38
                      have hB6 := hB6.ext hE38
                      rw [← hl2] at hU
                      have hU : Own kByte 5 0 _ _ qU lU2 cU (putB (l.getD i default).2.2) := hU
                      have hlU2 : (putB (l.getD i default).2.2).length = lU2 := hU.len
                      have hlU3 := putB_len (hs := (l.getD i default).2.2) (by have := hrg.2.2.1; omega)
                      have h4096 := hrg.2.2.1
                      obtain ⟨Bz, hBz⟩ : ∃ x, x = w38.heap.size := ⟨_, rfl⟩
                      have hbk := brsB_take_len hokb n1
                      rw [show (l.getD i default).2.1.take n1 = (l.getD i default).2.1 from List.take_of_length_le (by omega)] at hbk
                      have hq1 := hX.size
                      refine o_append (d := kByte) (putB (l.getD i default).2.2) u22 inf5 rfl kByte_pos rfl rfl hO (src_pure u22 hU.sl (by decide)) hU.len (byte_all _ _ _) (rfl) (by omega) (by omega) (by omega) (by omega) (by decide) ?_
                      intro p109 c109 w39 hO hM39
                      have hX := hX.mod hM39 (Nat.le_refl _)
                      have hB6 := hB6.mod hM39 (by decide)
                      refine p1 (x_assign (by conv => lhs; whnf)) ?_
                      refine r_nil ?_
                      refine b_n ?_
                      refine t_n ?_
                      refine r_plain ?_
                      refine p1 (x_move (by conv => lhs; whnf)) ?_
                      refine p1 (x_add rfl rfl (fits_i64 (by omega) (by omega))) ?_
                      refine p1 (x_assign (by conv => lhs; whnf)) ?_
                      refine r_nil ?_
                      refine t_n (At.mk ((i + 1, p109, m4 + lU2, c109)) (by repeat (first | exact Agr.refl _ _ | exact Agr.hav _ _ _ | refine Agr.upd rfl ?_ | refine Agr.updL ?_ _ rfl | refine Agr.hav' rfl ?_)) ⟨rfl, rfl, trivial⟩ ?_)
                      exact ⟨⟨hX, ⟨by rw [recsB_succ (by omega)]; unfold recB; rw [hl1]; simpa only [List.append_assoc] using hO, hon, hrn, by omega, by have h9 := hO.len; have h8 : (recB (l.getD i default)).length = (txtL (l.getD i default).1).length + (lebU n1).length + (brsB (l.getD i default).2.1).length + (putB (l.getD i default).2.2).length := (by unfold recB; rw [hl1]; first | done | simp only [List.length_append]); simp only [List.length_append, List.length_cons] at h9; omega⟩⟩, by first | (dsimp only; omega) | ((show _ < _); omega)⟩
        · try simp only [decide_eq_true_eq, decide_eq_false_iff_not, Bool.not_eq_true, Bool.not_eq_false, Bool.not_eq_eq_eq_not, Bool.not_true, Bool.not_false, Int.not_lt, Int.not_le] at hb9_7
          refine h_skip 8 42 rfl (by first | exact .inl rfl | exact .inr rfl) rfl (by kernel_rfl) (by kernel_rfl) (by kernel_rfl) hSr9 ?_
          refine h_skip 9 42 rfl (by first | exact .inl rfl | exact .inr rfl) rfl (by kernel_rfl) (by kernel_rfl) (by kernel_rfl) hSr9 ?_
          refine h_skip 10 42 rfl (by first | exact .inl rfl | exact .inr rfl) rfl (by kernel_rfl) (by kernel_rfl) (by kernel_rfl) hSr9 ?_
          refine h_skip 11 42 rfl (by first | exact .inl rfl | exact .inr rfl) rfl (by kernel_rfl) (by kernel_rfl) (by kernel_rfl) hSr9 ?_
          refine h_skip 12 42 rfl (by first | exact .inl rfl | exact .inr rfl) rfl (by kernel_rfl) (by kernel_rfl) (by kernel_rfl) hSr9 ?_
          refine h_skip 13 42 rfl (by first | exact .inl rfl | exact .inr rfl) rfl (by kernel_rfl) (by kernel_rfl) (by kernel_rfl) hSr9 ?_
          refine h_skip 14 42 rfl (by first | exact .inl rfl | exact .inr rfl) rfl (by kernel_rfl) (by kernel_rfl) (by kernel_rfl) hSr9 ?_
          refine h_skip 15 42 rfl (by first | exact .inl rfl | exact .inr rfl) rfl (by kernel_rfl) (by kernel_rfl) (by kernel_rfl) hSr9 ?_
          refine h_skip 16 42 rfl (by first | exact .inl rfl | exact .inr rfl) rfl (by kernel_rfl) (by kernel_rfl) (by kernel_rfl) hSr9 ?_
          refine h_takeg 17 39 rfl rfl rfl (by kernel_rfl) (by kernel_rfl) (by kernel_rfl) hSr9 (fun wS hSS => by ( exact (x_pick_f rfl (by conv => lhs; whnf)))) ?_
          refine h_take 18 rfl (by kernel_rfl) (by kernel_rfl) (by kernel_rfl) hSr9 (fun wS hSS => by ( exact (x_pick_f rfl (by conv => lhs; whnf)))) ?_
          refine h_take 19 rfl (by kernel_rfl) (by kernel_rfl) (by kernel_rfl) hSr9 (fun wS hSS => by ( exact (x_move (by conv => lhs; whnf)))) ?_
          refine h_takeg 20 54 rfl rfl rfl (by kernel_rfl) (by kernel_rfl) (by kernel_rfl) hSr9 (fun wS hSS => by ( exact (x_move (by conv => lhs; whnf)))) ?_
          refine h_takeg 21 54 rfl rfl rfl (by kernel_rfl) (by kernel_rfl) (by kernel_rfl) hSr9 (fun wS hSS => by ( exact (x_neq rfl rfl))) ?_
          refine h_take 22 rfl (by kernel_rfl) (by kernel_rfl) (by kernel_rfl) hSr9 (fun wS hSS => by ( exact (x_pick_f rfl (by conv => lhs; whnf)))) ?_
          refine h_takeb 23 rfl (by kernel_rfl) (by kernel_rfl) (by kernel_rfl) hSr9 (fun wS hSS => by ( exact (x_move (by conv => lhs; whnf)))) (fun hb9_23 => ?_) (fun hb9_23 => ?_)
          · try simp only [decide_eq_true_eq, decide_eq_false_iff_not, Bool.not_eq_true, Bool.not_eq_false, Bool.not_eq_eq_eq_not, Bool.not_true, Bool.not_false, Int.not_lt, Int.not_le] at hb9_23
            refine h_skip 24 58 rfl (by first | exact .inl rfl | exact .inr rfl) rfl (by kernel_rfl) (by kernel_rfl) (by kernel_rfl) hSr9 ?_
            refine h_skip 25 58 rfl (by first | exact .inl rfl | exact .inr rfl) rfl (by kernel_rfl) (by kernel_rfl) (by kernel_rfl) hSr9 ?_
            refine h_skip 26 58 rfl (by first | exact .inl rfl | exact .inr rfl) rfl (by kernel_rfl) (by kernel_rfl) (by kernel_rfl) hSr9 ?_
            refine h_skip 27 58 rfl (by first | exact .inl rfl | exact .inr rfl) rfl (by kernel_rfl) (by kernel_rfl) (by kernel_rfl) hSr9 ?_
            refine h_take 28 rfl (by kernel_rfl) (by kernel_rfl) (by kernel_rfl) hSr9 (fun wS hSS => by ( exact (x_pick_t rfl (by conv => lhs; whnf)))) ?_
            refine h_take 29 rfl (by kernel_rfl) (by kernel_rfl) (by kernel_rfl) hSr9 (fun wS hSS => by ( exact (x_move (by conv => lhs; whnf)))) ?_
            refine h_skip 30 64 rfl (by first | exact .inl rfl | exact .inr rfl) rfl (by kernel_rfl) (by kernel_rfl) (by kernel_rfl) hSr9 ?_
            refine h_skip 31 64 rfl (by first | exact .inl rfl | exact .inr rfl) rfl (by kernel_rfl) (by kernel_rfl) (by kernel_rfl) hSr9 ?_
            refine h_skip 32 64 rfl (by first | exact .inl rfl | exact .inr rfl) rfl (by kernel_rfl) (by kernel_rfl) (by kernel_rfl) hSr9 ?_
            refine h_skip 33 64 rfl (by first | exact .inl rfl | exact .inr rfl) rfl (by kernel_rfl) (by kernel_rfl) (by kernel_rfl) hSr9 ?_
            refine h_take 34 rfl (by kernel_rfl) (by kernel_rfl) (by kernel_rfl) hSr9 (fun wS hSS => by ( exact (x_pick_t rfl (by conv => lhs; whnf)))) ?_
            refine h_done (by kernel_rfl) ?_
            refine t_n ?_
            refine c_t rfl ?_
            have hno : ¬ recsOk l := by
              intro h
              obtain ⟨r1, r2, r3, r4⟩ := h.1 _ hmem
              first | (rw [hb9_4] at r1; exact absurd r1 (by decide)) | exact absurd (he1.2 r2) hb9_23 | (exfalso; omega) | (rw [hc69] at r4; exact absurd r4 (by decide)) | exact not_riseR_at (k := i) (by omega) (by omega) (by rw [← ez]; simpa using hb9_19) h.2
            have hp : putI l = ([], 4) := by unfold putI; rw [if_pos (.inr hno)]
            refine c_seq ?_
            refine r_plain ?_
            refine p1 (x_assign (by conv => lhs; whnf)) ?_
            refine p1 (x_assign (by conv => lhs; whnf)) ?_
            refine r_nil ?_
            refine t_n ?_
            refine c_ret ?_
            refine t_r ?_
            refine b_r ?_
            refine t_r ?_
            refine t_r ?_
            refine b_r ?_
            refine t_r ?_
            refine end2 rfl (by conv => lhs; whnf) (by conv => lhs; whnf) ?_
            first | exact ⟨⟨none, 0, 0, by rw [hp], (by rw [hp]; exact Own.nil _ _ _ _ _)⟩, hX⟩ | exact ⟨⟨_, _, _, by rw [hp], by rw [hp]; exact hO⟩, hX⟩
          · try simp only [decide_eq_true_eq, decide_eq_false_iff_not, Bool.not_eq_true, Bool.not_eq_false, Bool.not_eq_eq_eq_not, Bool.not_true, Bool.not_false, Int.not_lt, Int.not_le] at hb9_23
            refine h_takeg 24 58 rfl rfl rfl (by kernel_rfl) (by kernel_rfl) (by kernel_rfl) hSr9 (fun wS hSS => by ( exact (x_fieldAddr fo33_2 sz31 rfl))) ?_
            refine h_one 25 _ rfl (by kernel_rfl) (hop_of_list (fun Q25 hQ25 => ?_))
            refine g1 58 rfl rfl (x_load1 un31 rfl (hB6.cell (rfl))) ?_
            refine hop_end hQ25 ⟨hSr9, ?_⟩
            refine h_takeg 26 58 rfl rfl rfl (by kernel_rfl) (by kernel_rfl) (by kernel_rfl) hSr9 (fun wS hSS => by ( exact (x_len_slice u31 rfl))) ?_
            refine h_takeg 27 58 rfl rfl rfl (by kernel_rfl) (by kernel_rfl) (by kernel_rfl) hSr9 (fun wS hSS => by ( exact (x_gtr rfl rfl))) ?_
            refine h_take 28 rfl (by kernel_rfl) (by kernel_rfl) (by kernel_rfl) hSr9 (fun wS hSS => by ( exact (x_pick_f rfl (by conv => lhs; whnf)))) ?_
            refine h_takeb 29 rfl (by kernel_rfl) (by kernel_rfl) (by kernel_rfl) hSr9 (fun wS hSS => by ( exact (x_move (by conv => lhs; whnf)))) (fun hb9_29 => ?_) (fun hb9_29 => ?_)
            · try simp only [decide_eq_true_eq, decide_eq_false_iff_not, Bool.not_eq_true, Bool.not_eq_false, Bool.not_eq_eq_eq_not, Bool.not_true, Bool.not_false, Int.not_lt, Int.not_le] at hb9_29
              refine h_skip 30 64 rfl (by first | exact .inl rfl | exact .inr rfl) rfl (by kernel_rfl) (by kernel_rfl) (by kernel_rfl) hSr9 ?_
              refine h_skip 31 64 rfl (by first | exact .inl rfl | exact .inr rfl) rfl (by kernel_rfl) (by kernel_rfl) (by kernel_rfl) hSr9 ?_
              refine h_skip 32 64 rfl (by first | exact .inl rfl | exact .inr rfl) rfl (by kernel_rfl) (by kernel_rfl) (by kernel_rfl) hSr9 ?_
              refine h_skip 33 64 rfl (by first | exact .inl rfl | exact .inr rfl) rfl (by kernel_rfl) (by kernel_rfl) (by kernel_rfl) hSr9 ?_
              refine h_take 34 rfl (by kernel_rfl) (by kernel_rfl) (by kernel_rfl) hSr9 (fun wS hSS => by ( exact (x_pick_t rfl (by conv => lhs; whnf)))) ?_
              refine h_done (by kernel_rfl) ?_
              refine t_n ?_
              refine c_t rfl ?_
              have hno : ¬ recsOk l := by
                intro h
                obtain ⟨r1, r2, r3, r4⟩ := h.1 _ hmem
                first | (rw [hb9_4] at r1; exact absurd r1 (by decide)) | exact absurd (he1.2 r2) hb9_23 | (exfalso; omega) | (rw [hc69] at r4; exact absurd r4 (by decide)) | exact not_riseR_at (k := i) (by omega) (by omega) (by rw [← ez]; simpa using hb9_19) h.2
              have hp : putI l = ([], 4) := by unfold putI; rw [if_pos (.inr hno)]
              refine c_seq ?_
              refine r_plain ?_
              refine p1 (x_assign (by conv => lhs; whnf)) ?_
              refine p1 (x_assign (by conv => lhs; whnf)) ?_
              refine r_nil ?_
              refine t_n ?_
              refine c_ret ?_
              refine t_r ?_
              refine b_r ?_
              refine t_r ?_
              refine t_r ?_
              refine b_r ?_
              refine t_r ?_
              refine end2 rfl (by conv => lhs; whnf) (by conv => lhs; whnf) ?_
              first | exact ⟨⟨none, 0, 0, by rw [hp], (by rw [hp]; exact Own.nil _ _ _ _ _)⟩, hX⟩ | exact ⟨⟨_, _, _, by rw [hp], by rw [hp]; exact hO⟩, hX⟩
            · try simp only [decide_eq_true_eq, decide_eq_false_iff_not, Bool.not_eq_true, Bool.not_eq_false, Bool.not_eq_eq_eq_not, Bool.not_true, Bool.not_false, Int.not_lt, Int.not_le] at hb9_29
              refine h_takeg 30 64 rfl rfl rfl (by kernel_rfl) (by kernel_rfl) (by kernel_rfl) hSr9 (fun wS hSS => by ( exact (x_fieldAddr fo33_2 sz31 rfl))) ?_
              refine h_one 31 _ rfl (by kernel_rfl) (hop_of_list (fun Q31 hQ31 => ?_))
              refine g1 64 rfl rfl (x_load1 un31 rfl (hB6.cell (rfl))) ?_
              refine hop_end hQ31 ⟨hSr9, ?_⟩
              refine h_one 32 _ rfl (by kernel_rfl) (hop_of_list (fun Q32 hQ32 => ?_))
              refine g_drop 64 rfl rfl ?_
              refine o_call Try.func39 fn39 fb39 (ref06_Rising (l.getD i default).2.2 _ _ _ _ _ (hS2.ext hX)) rfl ?_
              rintro v40 w40 ⟨rfl, hE40⟩
              have hX := hX.ext hE40
              have hO := hO.ext hE40
              have hB6 := hB6.ext hE40
              have hB7 := hB7.ext hE40
              have hSr9 := hSr9.ext hE40
              refine hop_end hQ32 ⟨hSr9, ?_⟩
              refine h_takeg 33 64 rfl rfl rfl (by kernel_rfl) (by kernel_rfl) (by kernel_rfl) hSr9 (fun wS hSS => by ( exact (x_not rfl))) ?_
              refine h_take 34 rfl (by kernel_rfl) (by kernel_rfl) (by kernel_rfl) hSr9 (fun wS hSS => by ( exact (x_pick_f rfl (by conv => lhs; whnf)))) ?_
              refine h_done (by kernel_rfl) ?_
              refine t_n ?_
              first | refine c_dec rfl (fun hc69 => ?_) (fun hc69 => ?_) | refine c_if rfl (fun hc69 => ?_) (fun hc69 => ?_)
              · try simp only [decide_eq_true_eq, decide_eq_false_iff_not, Bool.not_eq_true, Bool.not_eq_false, Bool.not_eq_eq_eq_not, Bool.not_true, Bool.not_false, Int.not_lt, Int.not_le] at hc69
                have hno : ¬ recsOk l := by
                  intro h
                  obtain ⟨r1, r2, r3, r4⟩ := h.1 _ hmem
                  first | (rw [hb9_4] at r1; exact absurd r1 (by decide)) | exact absurd (he1.2 r2) hb9_23 | (exfalso; omega) | (rw [hc69] at r4; exact absurd r4 (by decide)) | exact not_riseR_at (k := i) (by omega) (by omega) (by rw [← ez]; simpa using hb9_19) h.2
                have hp : putI l = ([], 4) := by unfold putI; rw [if_pos (.inr hno)]
                refine c_seq ?_
                refine r_plain ?_
                refine p1 (x_assign (by conv => lhs; whnf)) ?_
                refine p1 (x_assign (by conv => lhs; whnf)) ?_
                refine r_nil ?_
                refine t_n ?_
                refine c_ret ?_
                refine t_r ?_
                refine b_r ?_
                refine t_r ?_
                refine t_r ?_
                refine b_r ?_
                refine t_r ?_
                refine end2 rfl (by conv => lhs; whnf) (by conv => lhs; whnf) ?_
                first | exact ⟨⟨none, 0, 0, by rw [hp], (by rw [hp]; exact Own.nil _ _ _ _ _)⟩, hX⟩ | exact ⟨⟨_, _, _, by rw [hp], by rw [hp]; exact hO⟩, hX⟩
              · try simp only [decide_eq_true_eq, decide_eq_false_iff_not, Bool.not_eq_true, Bool.not_eq_false, Bool.not_eq_eq_eq_not, Bool.not_true, Bool.not_false, Int.not_lt, Int.not_le] at hc69
                have hord : i = 0 ∨ lssB (l.getD (i - 1) default).1 (l.getD i default).1 = true := by first | (left; omega) | (right; rw [← ez]; simpa using hb9_19)
                have hrn := riseR_next hrs (by omega) hord
                have hrg : rightP (l.getD i default) := ⟨hb9_4, he1.1 (by simpa using hb9_23), by omega, hc69⟩
                have hon := right_take_succ hro (by omega) hrg
                have hbl := recB_len hrg
                have hlt := txtL_len (name_size hrg.1)
                have hb64 := hrg.2.1.1
                have hlu := lebU_len10 (n := n1) (by omega)
                refine c_skip ?_
                refine t_n ?_
                refine c_seq ?_
                refine r_held (fun w1 w2 => Mod w.heap.size 5 w1 w2) mixed ?_
                intro w41 hE41
                have hX := hX.ext hE41
                have hO := hO.ext hE41
                have hB6 := hB6.ext hE41
                have hB7 := hB7.ext hE41
                have hSr11 : (fun w1 w2 => Mod w.heap.size 5 w1 w2) w41 w41 := Mod.refl _ _ _
                refine h_take 0 rfl (by kernel_rfl) (by kernel_rfl) (by kernel_rfl) hSr11 (fun wS hSS => by ( exact (x_move (by conv => lhs; whnf)))) ?_
                refine h_take 1 rfl (by kernel_rfl) (by kernel_rfl) (by kernel_rfl) hSr11 (fun wS hSS => by ( exact (x_fieldAddr fo33_0 sz9 rfl))) ?_
                refine h_take 2 rfl (by kernel_rfl) (by kernel_rfl) (by kernel_rfl) hSr11 (fun wS hSS => by (have hX := hX.mod hSS (Nat.le_refl _); have hB6 := hB6.mod hSS (by decide); exact (x_load1 un9 rfl (hB6.cell (rfl))))) ?_
                refine h_take 5 rfl (by kernel_rfl) (by kernel_rfl) (by kernel_rfl) hSr11 (fun wS hSS => by ( exact (x_fieldAddr fo33_1 sz30 rfl))) ?_
                refine h_take 6 rfl (by kernel_rfl) (by kernel_rfl) (by kernel_rfl) hSr11 (fun wS hSS => by (have hX := hX.mod hSS (Nat.le_refl _); have hB6 := hB6.mod hSS (by decide); exact (x_load1 un30 rfl (hB6.cell (rfl))))) ?_
                refine h_take 7 rfl (by kernel_rfl) (by kernel_rfl) (by kernel_rfl) hSr11 (fun wS hSS => by (have hX := hX.mod hSS (Nat.le_refl _); have hB6 := hB6.mod hSS (by decide); exact (x_len_slice u30 rfl))) ?_
                refine h_take 8 rfl (by kernel_rfl) (by kernel_rfl) (by kernel_rfl) hSr11 (fun wS hSS => by (have hX := hX.mod hSS (Nat.le_refl _); have hB6 := hB6.mod hSS (by decide); exact (x_convf u95 us3 rfl (fits_u64 (by omega) (by omega))))) ?_
                refine h_one 3 _ rfl (by kernel_rfl) (hop_of_list (fun Q3 hQ3 => ?_))
                have hXs := hX.size
                refine o_call Try.func118 fn118 fb118 (ref02_Text (l.getD i default).1 (by have := name_size hrg.1; omega) _) rfl ?_
                rintro v42 w42 ⟨⟨qT, lT, cT, rfl, hT⟩, hE42⟩
                have hX := hX.ext hE42
                have hO := hO.ext hE42
                have hB6 := hB6.ext hE42
                have hB7 := hB7.ext hE42
                have hSr11 := hSr11.ext hE42
                have hlT := hT.len
                have hT : Own kByte 5 0 _ _ qT lT cT (txtL (l.getD i default).1) := hT
                have hlT : (txtL (l.getD i default).1).length = lT := hT.len
                refine hop_end hQ3 ⟨hSr11, ?_⟩
                refine h_one 4 _ rfl (by kernel_rfl) (hop_of_list (fun Q4 hQ4 => ?_))
                have hq1 := hX.size
                have hOl := hO.len
                simp only [List.length_append, List.length_cons] at hOl
                refine o_append (d := kByte) (txtL (l.getD i default).1) u22 inf5 rfl kByte_pos rfl rfl hO (src_pure u22 hT.sl (by decide)) hT.len (byte_all _ _ _) (rfl) (by omega) (by omega) (by omega) (by omega) (by decide) ?_
                intro p74 c74 w43 hO hM43
                have hX := hX.mod hM43 (Nat.le_refl _)
                have hB6 := hB6.mod hM43 (by decide)
                have hB7 := hB7.mod hM43 (by decide)
                have hSr11 := hSr11.mod hM43 (by first | exact Nat.le_refl _ | exact trivial | omega)
                refine hop_end hQ4 ⟨hSr11, ?_⟩
                refine h_one 9 _ rfl (by kernel_rfl) (hop_of_list (fun Q9 hQ9 => ?_))
                have hXs := hX.size
                refine o_call Try.func98 fn98 fb98 (ref02_Uint n1 (by omega) _) rfl ?_
                rintro v44 w44 ⟨⟨qU, lU2, cU, rfl, hU⟩, hE44⟩
                have hX := hX.ext hE44
                have hB6 := hB6.ext hE44
                have hB7 := hB7.ext hE44
                have hSr11 := hSr11.ext hE44
                have hO := hO.ext hE44
                have hlU2 := hU.len
                refine hop_end hQ9 ⟨hSr11, ?_⟩
                refine h_one 10 _ rfl (by kernel_rfl) (hop_of_list (fun Q10 hQ10 => ?_))
                have hq2 := hX.size
                refine o_append (d := kByte) (lebU n1) u22 inf5 rfl kByte_pos rfl rfl hO (src_pure u22 hU.sl (by decide)) hU.len (byte_all _ _ _) (rfl) (by omega) (by omega) (by omega) (by omega) (by decide) ?_
                intro p80 c80 w45 hO hM45
                have hX := hX.mod hM45 (Nat.le_refl _)
                have hB6 := hB6.mod hM45 (by decide)
                have hB7 := hB7.mod hM45 (by decide)
                have hSr11 := hSr11.mod hM45 (by first | exact Nat.le_refl _ | exact trivial | omega)
                have hO2 := hO
                refine hop_end hQ10 ⟨hSr11, ?_⟩
                refine h_take 11 rfl (by kernel_rfl) (by kernel_rfl) (by kernel_rfl) hSr11 (fun wS hSS => by ( exact (x_assign (by conv => lhs; whnf)))) ?_
                refine h_done (by kernel_rfl) ?_
                refine t_n ?_
                refine c_seq ?_
                refine c_seq ?_
                refine r_plain ?_
                refine p1 (x_assign (by conv => lhs; whnf)) ?_
                refine r_nil ?_
                refine t_n ?_
                refine c_block ?_
                have hokb := hrg.2.1
                have hcb := hS1.cap
                have hfb := hS1.fit
                refine c_loop (ι := Nat × Option Addr × Nat × Nat) [4, 9, 81, 82, 83, 84, 85, 86, 87, 88, 89, 90, 91, 92, 93, 94, 95, 96, 97, 98, 99, 100, 101, 102, 103, 104] (fun (k, q4, m4, c4) => [(4, .slice q4 m4 c4), (9, .int .i64 (k : Int))]) (fun (k, q4, m4, c4) w' => Ext w w' ∧ (Own kByte 5 0 w.heap.size w' q4 m4 c4 (1 :: lebU n ++ recsB (l.take i) ++ (txtL (l.getD i default).1 ++ lebU n1) ++ brsB ((l.getD i default).2.1.take k)) ∧ Blk w' g6 #[.string (l.getD i default).1, .slice pb1 n1 cc1, .slice pb2 n2 cc2] 33 ∧ k ≤ n1)) (fun (k, q4, m4, c4) => n1 - k) ((0, p80, m + lT + lU2, c80)) ⟨rfl, rfl, trivial⟩ ⟨hX, ⟨by simpa [brsB, List.append_assoc] using hO, hB6, by omega⟩⟩ ?_
                rintro ⟨k, q4, m4, c4⟩ GL2 w46 ⟨hE46, hO, hB6, hk⟩
                have hX := hE46
                have hOl4 := hO.len
                have hbk := brsB_take_len hokb k
                simp only [List.length_append, List.length_cons] at hOl4
                refine c_seq ?_
                refine c_seq ?_
                refine r_plain ?_
                refine p1 (x_move (by conv => lhs; whnf)) ?_
                refine p1 (x_fieldAddr fo33_1 sz30 rfl) ?_
                refine p1 (x_load1 un30 rfl (hB6.cell (rfl))) ?_
                refine p1 (x_len_slice u30 rfl) ?_
                refine p1 (x_lss rfl rfl) ?_
                refine r_nil ?_
                refine t_n ?_
                first | refine c_dec rfl (fun hc85 => ?_) (fun hc85 => ?_) | refine c_if rfl (fun hc85 => ?_) (fun hc85 => ?_)
                · try simp only [decide_eq_true_eq, decide_eq_false_iff_not, Bool.not_eq_true, Bool.not_eq_false, Bool.not_eq_eq_eq_not, Bool.not_true, Bool.not_false, Int.not_lt, Int.not_le] at hc85
                  refine c_skip ?_
                  refine t_n ?_
                  refine c_seq ?_
                  refine c_block ?_
                  obtain ⟨q5, m5, c5x, hrow5, hc0_5, hc1_5, hS5⟩ := hS1.brAt k (by omega)
                  have hmb2 := mem_getD (l := (l.getD i default).2.1) (k := k) (by omega)
                  have hnb := (hokb.2.2 _ hmb2).1
                  have hmb3 := mayB_len (hokb.2.2 _ hmb2).2
                  have hl5 := hS5.len
                  have hbb := brB_len hnb (hokb.2.2 _ hmb2).2
                  refine r_held (fun w1 w2 => Mod w.heap.size 5 w1 w2) mixed ?_
                  intro w47 hE47
                  have hX := hX.ext hE47
                  have hO := hO.ext hE47
                  have hB6 := hB6.ext hE47
                  have hSr15 : (fun w1 w2 => Mod w.heap.size 5 w1 w2) w47 w47 := Mod.refl _ _ _
                  refine h_take 0 rfl (by kernel_rfl) (by kernel_rfl) (by kernel_rfl) hSr15 (fun wS hSS => by ( exact (x_move (by conv => lhs; whnf)))) ?_
                  refine h_take 1 rfl (by kernel_rfl) (by kernel_rfl) (by kernel_rfl) hSr15 (fun wS hSS => by ( exact (x_fieldAddr fo33_1 sz30 rfl))) ?_
                  refine h_take 2 rfl (by kernel_rfl) (by kernel_rfl) (by kernel_rfl) hSr15 (fun wS hSS => by (have hX := hX.mod hSS (Nat.le_refl _); have hB6 := hB6.mod hSS (by decide); exact (x_load1 un30 rfl (hB6.cell (rfl))))) ?_
                  refine h_take 3 rfl (by kernel_rfl) (by kernel_rfl) (by kernel_rfl) hSr15 (fun wS hSS => by ( exact (x_move (by conv => lhs; whnf)))) ?_
                  refine h_take 4 rfl (by kernel_rfl) (by kernel_rfl) (by kernel_rfl) hSr15 (fun wS hSS => by ( exact (x_ixs u30 sz81 rfl rfl ((hS1.ext hX).adr kBrA_pos (by omega)) (by omega) (by omega)))) ?_
                  refine h_take 5 rfl (by kernel_rfl) (by kernel_rfl) (by kernel_rfl) hSr15 (fun wS hSS => by ( exact (x_fieldAddr fo81_0 sz9 rfl))) ?_
                  refine h_take 6 rfl (by kernel_rfl) (by kernel_rfl) (by kernel_rfl) hSr15 (fun wS hSS => by (have hX := hX.mod hSS (Nat.le_refl _); have hB6 := hB6.mod hSS (by decide); exact (x_load1 un9 rfl (hX.cell hc0_5)))) ?_
                  refine h_take 9 rfl (by kernel_rfl) (by kernel_rfl) (by kernel_rfl) hSr15 (fun wS hSS => by ( exact (x_fieldAddr fo33_1 sz30 rfl))) ?_
                  refine h_take 10 rfl (by kernel_rfl) (by kernel_rfl) (by kernel_rfl) hSr15 (fun wS hSS => by (have hX := hX.mod hSS (Nat.le_refl _); have hB6 := hB6.mod hSS (by decide); exact (x_load1 un30 rfl (hB6.cell (rfl))))) ?_
                  refine h_take 11 rfl (by kernel_rfl) (by kernel_rfl) (by kernel_rfl) hSr15 (fun wS hSS => by ( exact (x_move (by conv => lhs; whnf)))) ?_
                  refine h_take 12 rfl (by kernel_rfl) (by kernel_rfl) (by kernel_rfl) hSr15 (fun wS hSS => by ( exact (x_ixs u30 sz81 rfl rfl ((hS1.ext hX).adr kBrA_pos (by omega)) (by omega) (by omega)))) ?_
                  refine h_take 13 rfl (by kernel_rfl) (by kernel_rfl) (by kernel_rfl) hSr15 (fun wS hSS => by ( exact (x_fieldAddr fo81_1 sz31 rfl))) ?_
                  refine h_take 14 rfl (by kernel_rfl) (by kernel_rfl) (by kernel_rfl) hSr15 (fun wS hSS => by (have hX := hX.mod hSS (Nat.le_refl _); have hB6 := hB6.mod hSS (by decide); exact (x_load1 un31 rfl (hX.cell hc1_5)))) ?_
                  refine h_one 7 _ rfl (by kernel_rfl) (hop_of_list (fun Q7 hQ7 => ?_))
                  have hXs := hX.size
                  refine o_call Try.func118 fn118 fb118 (ref02_Text ((l.getD i default).2.1.getD k default).1 (by have := name_size hnb; omega) _) rfl ?_
                  rintro v48 w48 ⟨⟨qT, lT, cT, rfl, hT⟩, hE48⟩
                  have hX := hX.ext hE48
                  have hO := hO.ext hE48
                  have hB6 := hB6.ext hE48
                  have hSr15 := hSr15.ext hE48
                  have hT : Own kByte 5 0 _ _ qT lT cT (txtL ((l.getD i default).2.1.getD k default).1) := hT
                  have hlT : (txtL ((l.getD i default).2.1.getD k default).1).length = lT := hT.len
                  have hlT2 := txtL_len (name_size hnb)
                  refine hop_end hQ7 ⟨hSr15, ?_⟩
                  refine h_one 8 _ rfl (by kernel_rfl) (hop_of_list (fun Q8 hQ8 => ?_))
                  have hq1 := hX.size
                  refine o_append (d := kByte) (txtL ((l.getD i default).2.1.getD k default).1) u22 inf5 rfl kByte_pos rfl rfl hO (src_pure u22 hT.sl (by decide)) hT.len (byte_all _ _ _) (rfl) (by omega) (by omega) (by omega) (by omega) (by decide) ?_
                  intro p96 c96 w49 hO hM49
                  have hX := hX.mod hM49 (Nat.le_refl _)
                  have hB6 := hB6.mod hM49 (by decide)
                  have hSr15 := hSr15.mod hM49 (by first | exact Nat.le_refl _ | exact trivial | omega)
                  refine hop_end hQ8 ⟨hSr15, ?_⟩
                  refine h_one 15 _ rfl (by kernel_rfl) (hop_of_list (fun Q15 hQ15 => ?_))
                  refine o_call Try.func46 fn46 fb46 (ref06_Put ((l.getD i default).2.1.getD k default).2 _ _ _ _ _ (hS5.ext hX) (by omega)) rfl ?_
                  rintro v50 w50 ⟨⟨qU, lU2, cU, rfl, hU⟩, hE50⟩
                  have hX := hX.ext hE50
                  have hB6 := hB6.ext hE50
                  have hSr15 := hSr15.ext hE50
                  have hO := hO.ext hE50
                  rw [← hl5] at hU
                  have hU : Own kByte 5 0 _ _ qU lU2 cU (putB ((l.getD i default).2.1.getD k default).2) := hU
                  have hlU2 : (putB ((l.getD i default).2.1.getD k default).2).length = lU2 := hU.len
                  have hlU3 := putB_len (hs := ((l.getD i default).2.1.getD k default).2) (by omega)
                  refine hop_end hQ15 ⟨hSr15, ?_⟩
                  refine h_one 16 _ rfl (by kernel_rfl) (hop_of_list (fun Q16 hQ16 => ?_))
                  have hq2 := hX.size
                  refine o_append (d := kByte) (putB ((l.getD i default).2.1.getD k default).2) u22 inf5 rfl kByte_pos rfl rfl hO (src_pure u22 hU.sl (by decide)) hU.len (byte_all _ _ _) (rfl) (by omega) (by omega) (by omega) (by omega) (by decide) ?_
                  intro p104 c104 w51 hO hM51
                  have hX := hX.mod hM51 (Nat.le_refl _)
                  have hB6 := hB6.mod hM51 (by decide)
                  have hSr15 := hSr15.mod hM51 (by first | exact Nat.le_refl _ | exact trivial | omega)
                  have hO2 := hO
                  refine hop_end hQ16 ⟨hSr15, ?_⟩
                  refine h_take 17 rfl (by kernel_rfl) (by kernel_rfl) (by kernel_rfl) hSr15 (fun wS hSS => by ( exact (x_assign (by conv => lhs; whnf)))) ?_
                  refine h_done (by kernel_rfl) ?_
                  refine b_n ?_
                  refine t_n ?_
                  refine r_plain ?_
                  refine p1 (x_move (by conv => lhs; whnf)) ?_
                  refine p1 (x_add rfl rfl (fits_i64 (by omega) (by omega))) ?_
                  refine p1 (x_assign (by conv => lhs; whnf)) ?_
                  refine r_nil ?_
                  refine t_n (At.mk ((k + 1, p104, m4 + lT + lU2, c104)) (by repeat (first | exact Agr.refl _ _ | exact Agr.hav _ _ _ | refine Agr.upd rfl ?_ | refine Agr.updL ?_ _ rfl | refine Agr.hav' rfl ?_)) ⟨rfl, rfl, trivial⟩ ?_)
                  exact ⟨⟨hX, ⟨by rw [brsB_succ (by omega)]; unfold brB; simpa only [List.append_assoc] using hO2, hB6, by omega⟩⟩, by first | (dsimp only; omega) | ((show _ < _); omega)⟩
                · try simp only [decide_eq_true_eq, decide_eq_false_iff_not, Bool.not_eq_true, Bool.not_eq_false, Bool.not_eq_eq_eq_not, Bool.not_true, Bool.not_false, Int.not_lt, Int.not_le] at hc85
                  have hkn : k = n1 := by omega
                  rw [hkn, show (l.getD i default).2.1.take n1 = (l.getD i default).2.1 from List.take_of_length_le (by omega)] at hO hOl4
                  refine c_exit ?_
                  refine t_e ?_
                  refine t_e ?_
                  refine b_hit ?_
                  refine t_n ?_
                  refine r_plain ?_
                  refine p1 (x_move (by conv => lhs; whnf)) ?_
                  refine p1 (x_fieldAddr fo33_2 sz31 rfl) ?_
                  refine p1 (x_load1 un31 rfl (hB6.cell (rfl))) ?_
                  refine o_call Try.func46 fn46 fb46 (ref06_Put (l.getD i default).2.2 _ _ _ _ _ (hS2.ext hX) (by have := hrg.2.2.1; omega)) rfl ?_
                  rintro v52 w52 ⟨⟨qU, lU2, cU, rfl, hU⟩, hE52⟩
                  have hX := hX.ext hE52
                  have hO := hO.ext hE52
                  have hB6 := hB6.ext hE52
                  rw [← hl2] at hU
                  have hU : Own kByte 5 0 _ _ qU lU2 cU (putB (l.getD i default).2.2) := hU
                  have hlU2 : (putB (l.getD i default).2.2).length = lU2 := hU.len
                  have hlU3 := putB_len (hs := (l.getD i default).2.2) (by have := hrg.2.2.1; omega)
                  have h4096 := hrg.2.2.1
                  obtain ⟨Bz, hBz⟩ : ∃ x, x = w52.heap.size := ⟨_, rfl⟩
                  have hbk := brsB_take_len hokb n1
                  rw [show (l.getD i default).2.1.take n1 = (l.getD i default).2.1 from List.take_of_length_le (by omega)] at hbk
                  have hq1 := hX.size
                  refine o_append (d := kByte) (putB (l.getD i default).2.2) u22 inf5 rfl kByte_pos rfl rfl hO (src_pure u22 hU.sl (by decide)) hU.len (byte_all _ _ _) (rfl) (by omega) (by omega) (by omega) (by omega) (by decide) ?_
                  intro p109 c109 w53 hO hM53
                  have hX := hX.mod hM53 (Nat.le_refl _)
                  have hB6 := hB6.mod hM53 (by decide)
                  refine p1 (x_assign (by conv => lhs; whnf)) ?_
                  refine r_nil ?_
                  refine b_n ?_
                  refine t_n ?_
                  refine r_plain ?_
                  refine p1 (x_move (by conv => lhs; whnf)) ?_
                  refine p1 (x_add rfl rfl (fits_i64 (by omega) (by omega))) ?_
                  refine p1 (x_assign (by conv => lhs; whnf)) ?_
                  refine r_nil ?_
                  refine t_n (At.mk ((i + 1, p109, m4 + lU2, c109)) (by repeat (first | exact Agr.refl _ _ | exact Agr.hav _ _ _ | refine Agr.upd rfl ?_ | refine Agr.updL ?_ _ rfl | refine Agr.hav' rfl ?_)) ⟨rfl, rfl, trivial⟩ ?_)
                  exact ⟨⟨hX, ⟨by rw [recsB_succ (by omega)]; unfold recB; rw [hl1]; simpa only [List.append_assoc] using hO, hon, hrn, by omega, by have h9 := hO.len; have h8 : (recB (l.getD i default)).length = (txtL (l.getD i default).1).length + (lebU n1).length + (brsB (l.getD i default).2.1).length + (putB (l.getD i default).2.2).length := (by unfold recB; rw [hl1]; first | done | simp only [List.length_append]); simp only [List.length_append, List.length_cons] at h9; omega⟩⟩, by first | (dsimp only; omega) | ((show _ < _); omega)⟩
    · try simp only [decide_eq_true_eq, decide_eq_false_iff_not, Bool.not_eq_true, Bool.not_eq_false, Bool.not_eq_eq_eq_not, Bool.not_true, Bool.not_false, Int.not_lt, Int.not_le] at hc22
      have hin : i = n := by omega
      rw [hin, List.take_of_length_le (by omega)] at hO hro hrs
      have hok : ¬ (64 < l.length ∨ ¬ recsOk l) := fun h => h.elim (fun h => by omega) (fun h => h ⟨hro, hrs⟩)
      have hob : 1 :: lebU n ++ recsB l = outB l := by unfold outB; rw [hlen]
      rw [hob] at hO
      have hOl := hO.len
      refine c_exit ?_
      refine t_e ?_
      refine t_e ?_
      refine b_hit ?_
      refine t_n ?_
      refine c_seq ?_
      refine c_seq ?_
      refine r_plain ?_
      refine p1 (x_move (by conv => lhs; whnf)) ?_
      refine p1 (x_len_slice u22 rfl) ?_
      refine p1 (x_gtr rfl rfl) ?_
      refine r_nil ?_
      refine t_n ?_
      first | refine c_dec rfl (fun hc112 => ?_) (fun hc112 => ?_) | refine c_if rfl (fun hc112 => ?_) (fun hc112 => ?_)
      · try simp only [decide_eq_true_eq, decide_eq_false_iff_not, Bool.not_eq_true, Bool.not_eq_false, Bool.not_eq_eq_eq_not, Bool.not_true, Bool.not_false, Int.not_lt, Int.not_le] at hc112
        have hp : putI l = ([], 5) := by unfold putI; rw [if_neg hok, if_pos (by omega)]
        refine c_seq ?_
        refine r_plain ?_
        refine p1 (x_assign (by conv => lhs; whnf)) ?_
        refine p1 (x_assign (by conv => lhs; whnf)) ?_
        refine r_nil ?_
        refine t_n ?_
        refine c_ret ?_
        refine t_r ?_
        refine end2 rfl (by conv => lhs; whnf) (by conv => lhs; whnf) ?_
        first | exact ⟨⟨none, 0, 0, by rw [hp], (by rw [hp]; exact Own.nil _ _ _ _ _)⟩, hX⟩ | exact ⟨⟨_, _, _, by rw [hp], by rw [hp]; exact hO⟩, hX⟩
      · try simp only [decide_eq_true_eq, decide_eq_false_iff_not, Bool.not_eq_true, Bool.not_eq_false, Bool.not_eq_eq_eq_not, Bool.not_true, Bool.not_false, Int.not_lt, Int.not_le] at hc112
        have hp : putI l = (outB l, 0) := by unfold putI; rw [if_neg hok, if_neg (by omega)]
        refine c_skip ?_
        refine t_n ?_
        refine c_seq ?_
        refine r_plain ?_
        refine p1 (x_move (by conv => lhs; whnf)) ?_
        refine p1 (x_assign (by conv => lhs; whnf)) ?_
        refine p1 (x_assign (by conv => lhs; whnf)) ?_
        refine r_nil ?_
        refine t_n ?_
        refine c_ret ?_
        refine end2 rfl (by conv => lhs; whnf) (by conv => lhs; whnf) ?_
        first | exact ⟨⟨none, 0, 0, by rw [hp], (by rw [hp]; exact Own.nil _ _ _ _ _)⟩, hX⟩ | exact ⟨⟨_, _, _, by rw [hp], by rw [hp]; exact hO⟩, hX⟩
theorem ref17_Put (l : List Rec) (B : Nat) (p : Option Addr) (n c : Nat) (w : World) (hl : Sl kRecA 33 B w p n c l) (hkk : ∀ x ∈ l, x.1.size ≤ 9223372036854775807 ∧ ∀ y ∈ x.2.1, y.1.size ≤ 9223372036854775807) :
    Ret Try.prog 28 [.slice p n c] w (fun v w' => (∃ q m c', v = .tuple #[.slice q m c', .int .i64 (putI l).2] ∧ Own kByte 5 0 w.heap.size w' q m c' (putI l).1) ∧ Ext w w') := by
  have hX := Ext.refl w
  refine enter 8 _ Try.func28 rfl rfl (Nat.le_of_ble_eq_true rfl) ?_
  refine c_seq ?_
  refine r_plain ?_
  refine p1 (x_assign (by conv => lhs; whnf)) ?_
  refine p1 (x_assign (by conv => lhs; whnf)) ?_
  refine r_nil ?_
  refine t_n ?_
  refine c_seq ?_
  refine r_plain ?_
  refine p1 (x_move (by conv => lhs; whnf)) ?_
  refine o_call Try.func80 fn80 fb80 (ref17_laid l _ _ _ _ _ (hl.ext hX) hkk) rfl ?_
  rintro v1 w1 ⟨⟨q1, m1, c1, rfl, hO⟩, hE1⟩
  have hX := hX.ext hE1
  refine p1 (x_extract rfl rfl) ?_
  refine p1 (x_extract rfl rfl) ?_
  refine p1 (x_assign (by conv => lhs; whnf)) ?_
  refine p1 (x_assign (by conv => lhs; whnf)) ?_
  refine r_nil ?_
  refine t_n ?_
  refine c_ret ?_
  refine end2 rfl (by conv => lhs; whnf) (by conv => lhs; whnf) ?_
  exact ⟨⟨_, _, _, rfl, hO⟩, hX⟩
end Go.Proofs.Eng
end
section
set_option linter.unusedVariables false
set_option linter.unusedSimpArgs false
namespace Go.Proofs.Eng
open Go.RowKit
/-! ### records that are read: one parser for both texts -/
/-- A text that is taken off. -/
def getT (b : List UInt8) (most : Int) : ByteArray × Nat × Int :=
  if (getU b).2.2 ≠ 0 then (ByteArray.empty, 0, (getU b).2.2) else if most < 0 ∨ most < ((getU b).1 : Int) then (ByteArray.empty, 0, 5) else
  if b.length - (getU b).2.1 < (getU b).1 then (ByteArray.empty, 0, 3) else (toStr ((b.drop (getU b).2.1).take (getU b).1), (getU b).2.1 + (getU b).1, 0)
def pNum (most : Nat) (b : List UInt8) : Option (Nat × List UInt8) := if (getU b).2.2 = 0 ∧ (getU b).1 ≤ most then some ((getU b).1, b.drop (getU b).2.1) else none
def pTxt (b : List UInt8) : Option (ByteArray × List UInt8) := if (getT b 32).2.2 = 0 then some ((getT b 32).1, b.drop (getT b 32).2.1) else none
def pHs (most : Nat) (b : List UInt8) : Option (List Hash × List UInt8) := if (gets b most).2.2 = 0 then some ((gets b most).1, b.drop (gets b most).2.1) else none
def pBr (b : List UInt8) : Option (Br × List UInt8) := (pTxt b).bind fun s => (pHs 16 s.2).map fun h => ((s.1, h.1), h.2)
def pBrs : Nat → List UInt8 → Option (List Br × List UInt8)
  | 0, b => some ([], b)
  | k + 1, b => (pBr b).bind fun x => (pBrs k x.2).map fun y => (x.1 :: y.1, y.2)
def pRec (b : List UInt8) : Option (Rec × List UInt8) := (pTxt b).bind fun s => (pNum 64 s.2).bind fun k => (pBrs k.1 k.2).bind fun l => (pHs 4096 l.2).map fun h => ((s.1, l.1, h.1), h.2)
def pRecs : Nat → List UInt8 → Option (List Rec × List UInt8)
  | 0, b => some ([], b)
  | k + 1, b => (pRec b).bind fun x => (pRecs k x.2).map fun y => (x.1 :: y.1, y.2)
def pI (b : List UInt8) : Option (List Rec) := if b.head? = some 1 then (pNum 64 b.tail).bind fun n => (pRecs n.1 n.2).map (·.1) else none
/-- What is read. -/
def getI (b : List UInt8) : List Rec × Int := match pI b with
  | some l => if putI l = (b, 0) then (l, 0) else ([], 4)
  | none => ([], 4)
/-! what is still to come -/
def cN (j : Nat) (L : List Rec) (R : List UInt8) : Option (List Rec) := (pRecs j R).map fun y => L ++ y.1
def cC (j : Nat) (L : List Rec) (s : ByteArray) (brs : List Br) (R : List UInt8) : Option (List Rec) := (pHs 4096 R).bind fun h => cN j (L ++ [(s, brs, h.1)]) h.2
def cB (j : Nat) (L : List Rec) (s : ByteArray) (k : Nat) (brs : List Br) (R : List UInt8) : Option (List Rec) := (pBrs k R).bind fun y => cC j L s (brs ++ y.1) y.2
theorem cN_0 (L : List Rec) (R : List UInt8) : cN 0 L R = some L := by simp [cN, pRecs]
theorem cB_0 (j : Nat) (L : List Rec) (s : ByteArray) (brs : List Br) (R : List UInt8) : cB j L s 0 brs R = cC j L s brs R := by simp [cB, pBrs]
theorem cN_succ (j : Nat) (L : List Rec) (R : List UInt8) : cN (j + 1) L R = (pTxt R).bind fun s => (pNum 64 s.2).bind fun k => cB j L s.1 k.1 [] k.2 := by
  unfold cN cB cC cN
  simp only [pRecs, pRec, List.nil_append]
  cases pTxt R with
  | none => rfl
  | some s =>
    simp only [Option.bind_some]
    cases pNum 64 s.2 with
    | none => rfl
    | some k =>
      simp only [Option.bind_some]
      cases pBrs k.1 k.2 with
      | none => rfl
      | some l =>
        simp only [Option.bind_some]
        cases pHs 4096 l.2 with
        | none => rfl
        | some h =>
          simp only [Option.bind_some, Option.map_some]
          cases pRecs j h.2 with
          | none => rfl
          | some y => simp
theorem cB_succ (j : Nat) (L : List Rec) (s : ByteArray) (k : Nat) (brs : List Br) (R : List UInt8) : cB j L s (k + 1) brs R = (pTxt R).bind fun x => (pHs 16 x.2).bind fun h => cB j L s k (brs ++ [(x.1, h.1)]) h.2 := by
  unfold cB
  simp only [pBrs, pBr]
  cases pTxt R with
  | none => rfl
  | some x =>
    simp only [Option.bind_some]
    cases pHs 16 x.2 with
    | none => rfl
    | some h =>
      simp only [Option.bind_some, Option.map_some]
      cases pBrs k h.2 with
      | none => rfl
      | some y => simp
theorem pI_eq (b : List UInt8) (h : b.head? = some 1) : pI b = (pNum 64 b.tail).bind fun n => cN n.1 [] n.2 := by
  unfold pI; rw [if_pos h]; unfold cN; simp
/-! ### what is laid is read -/
theorem pNum_leb {n most : Nat} (t : List UInt8) (h : n ≤ most) (hn : n < 18446744073709551616) : pNum most (lebU n ++ t) = some (n, t) := by
  unfold pNum
  rw [getU_lebU t hn]
  simp [h]
theorem pTxt_txtL {s : ByteArray} (t : List UInt8) (h : s.size ≤ 32) : pTxt (txtL s ++ t) = some (s, t) := by
  have hd : s.data.toList.length = s.size := by simp
  have e : getT (txtL s ++ t) 32 = (s, (txtL s).length, 0) := by
    have hu : getU (txtL s ++ t) = (s.size, (lebU s.size).length, 0) := by unfold txtL; rw [List.append_assoc]; exact getU_lebU _ (by omega)
    unfold getT
    rw [hu]
    simp only [ne_eq, not_true_eq_false, if_false]
    rw [if_neg (by omega), if_neg (by simp only [txtL, List.length_append]; omega)]
    have h1 : ((txtL s ++ t).drop (lebU s.size).length).take s.size = s.data.toList := by
      unfold txtL; rw [List.append_assoc, List.drop_left, ← hd, List.take_left]
    rw [h1]
    have h2 : (txtL s).length = (lebU s.size).length + s.size := by simp only [txtL, List.length_append]; omega
    rw [h2]
    have h3 : toStr s.data.toList = s := by unfold toStr; simp
    rw [h3]
  unfold pTxt
  rw [e]
  simp
theorem gets_putB {s : List Hash} (t : List UInt8) (hr : Rise s) {most : Nat} (hs : s.length ≤ most) (hm : s.length ≤ 1000000000) : gets (putB s ++ t) most = (s, (putB s).length, 0) := by
  have hu : getU (putB s ++ t) = (s.length, (lebU s.length).length, 0) := by unfold putB; rw [List.append_assoc]; exact getU_lebU _ (by omega)
  have hf := flat32 s
  unfold gets
  rw [hu]
  simp only [ne_eq, not_true_eq_false, if_false]
  rw [if_neg (by omega), if_neg (by simp only [putB, List.length_append, hf]; omega)]
  have hh : hashesAt (putB s ++ t) (lebU s.length).length s.length = s := by unfold putB; rw [List.append_assoc]; exact hashesAt_flat s _ t
  have hl : (putB s).length = (lebU s.length).length + 32 * s.length := by simp only [putB, List.length_append, hf]
  rw [hh, rising_iff.2 hr, hl]
  rfl
theorem pHs_putB {s : List Hash} (t : List UInt8) (hr : rising s = true) {most : Nat} (hs : s.length ≤ most) (hm : s.length ≤ 1000000000) : pHs most (putB s ++ t) = some (s, t) := by
  unfold pHs
  rw [gets_putB t (rising_iff.1 hr) hs hm]
  simp
theorem mayB_rising {hs : List Hash} (h : mayB hs = true) : rising hs = true := by
  unfold mayB at h; simp only [Bool.and_eq_true, decide_eq_true_eq] at h; simp_all
theorem pBr_brB {x : Br} (t : List UInt8) (h1 : isName x.1 = true) (h2 : mayB x.2 = true) : pBr (brB x ++ t) = some (x, t) := by
  have hl := mayB_len h2
  unfold pBr brB
  rw [List.append_assoc, pTxt_txtL _ (name_size h1)]
  simp only [Option.bind_some]
  rw [pHs_putB t (mayB_rising h2) (by omega) (by omega)]
  rfl
theorem pBrs_brsB : ∀ {l : List Br} (t : List UInt8), (∀ x ∈ l, isName x.1 = true ∧ mayB x.2 = true) → pBrs l.length (brsB l ++ t) = some (l, t)
  | [], t, _ => by simp [pBrs, brsB]
  | x :: l, t, h => by
    have e : brsB (x :: l) ++ t = brB x ++ (brsB l ++ t) := by simp [brsB]
    rw [e]
    simp only [List.length_cons, pBrs]
    rw [pBr_brB _ (h x (by simp)).1 (h x (by simp)).2]
    simp only [Option.bind_some]
    rw [pBrs_brsB t fun y hy => h y (by simp [hy])]
    rfl
theorem pRec_recB {x : Rec} (t : List UInt8) (h : rightP x) : pRec (recB x ++ t) = some (x, t) := by
  unfold pRec recB
  have h1 := h.2.1.1
  have h2 := h.2.2.1
  rw [List.append_assoc, List.append_assoc, List.append_assoc, pTxt_txtL _ (name_size h.1)]
  simp only [Option.bind_some]
  rw [pNum_leb _ h1 (by omega)]
  simp only [Option.bind_some]
  rw [pBrs_brsB _ h.2.1.2.2]
  simp only [Option.bind_some]
  rw [pHs_putB t h.2.2.2 h2 (by omega)]
  rfl
theorem pRecs_recsB : ∀ {l : List Rec} (t : List UInt8), (∀ x ∈ l, rightP x) → pRecs l.length (recsB l ++ t) = some (l, t)
  | [], t, _ => by simp [pRecs, recsB]
  | x :: l, t, h => by
    have e : recsB (x :: l) ++ t = recB x ++ (recsB l ++ t) := by simp [recsB]
    rw [e]
    simp only [List.length_cons, pRecs]
    rw [pRec_recB _ (h x (by simp))]
    simp only [Option.bind_some]
    rw [pRecs_recsB t fun y hy => h y (by simp [hy])]
    rfl
theorem pI_outB {l : List Rec} (t : List UInt8) (h : ∀ x ∈ l, rightP x) (hl : l.length ≤ 64) : pI (outB l ++ t) = some l := by
  unfold outB
  rw [pI_eq _ (by simp)]
  simp only [List.cons_append, List.tail_cons, List.append_assoc]
  rw [pNum_leb _ hl (by omega)]
  simp only [Option.bind_some, cN]
  rw [pRecs_recsB t h]
  rfl
theorem putI_ok {l : List Rec} (h : (putI l).2 = 0) : (∀ x ∈ l, rightP x) ∧ RiseR l ∧ l.length ≤ 64 ∧ (putI l).1 = outB l ∧ (outB l).length ≤ 524288 := by
  unfold putI at h ⊢
  by_cases h1 : 64 < l.length ∨ ¬ recsOk l
  · rw [if_pos h1] at h; cases h
  · rw [if_neg h1] at h ⊢
    by_cases h2 : 524288 < (outB l).length
    · rw [if_pos h2] at h; cases h
    · rw [if_neg h2] at h ⊢
      have h3 : recsOk l := Decidable.byContradiction fun h3 => h1 (.inr h3)
      exact ⟨h3.1, h3.2, by omega, rfl, by omega⟩
theorem getI_put {l : List Rec} (h : (putI l).2 = 0) : getI (putI l).1 = (l, 0) := by
  obtain ⟨h1, h2, h3, h4, h5⟩ := putI_ok h
  have e := pI_outB (l := l) [] h1 h3
  rw [List.append_nil] at e
  unfold getI
  rw [h4, e]
  have : putI l = (outB l, 0) := Prod.ext h4 h
  simp [this]
theorem getI_ok {b : List UInt8} (h : (getI b).2 = 0) : putI (getI b).1 = (b, 0) := by
  unfold getI at h ⊢
  cases he : pI b with
  | none => rw [he] at h; cases h
  | some l =>
    rw [he] at h
    dsimp only at h ⊢
    by_cases hp : putI l = (b, 0)
    · rw [if_pos hp]; exact hp
    · rw [if_neg hp] at h; cases h
theorem getI_err (b : List UInt8) : (getI b).2 = 0 ∨ getI b = ([], 4) := by
  unfold getI
  cases pI b with
  | none => exact .inr rfl
  | some l => dsimp only; by_cases hp : putI l = (b, 0); · rw [if_pos hp]; exact .inl rfl
              · rw [if_neg hp]; exact .inr rfl
/-- Two that are laid, one of which begins with the other, are one. -/
theorem putI_pre {l m : List Rec} {t : List UInt8} (h : (putI l).2 = 0) (hm : (putI m).2 = 0) (e : (putI l).1 ++ t = (putI m).1) : t = [] := by
  obtain ⟨h1, h2, h3, h4, h5⟩ := putI_ok h
  obtain ⟨k1, k2, k3, k4, k5⟩ := putI_ok hm
  have a := pI_outB (l := l) t h1 h3
  have c := pI_outB (l := m) [] k1 k3
  rw [List.append_nil] at c
  rw [h4, k4] at e
  rw [e, c] at a
  cases a
  simpa using e
theorem getI_more {l : List Rec} {t : List UInt8} (h : (putI l).2 = 0) (ht : t ≠ []) : getI ((putI l).1 ++ t) = ([], 4) := by
  rcases getI_err ((putI l).1 ++ t) with h0 | h0
  · have := getI_ok h0
    exact absurd (putI_pre h (by rw [this]) (by rw [this])) ht
  · exact h0
theorem getI_less {l : List Rec} {b : List UInt8} (h : (putI l).2 = 0) (hb : b.length < (putI l).1.length) (hp : b = (putI l).1.take b.length) : getI b = ([], 4) := by
  rcases getI_err b with h0 | h0
  · have h2 := getI_ok h0
    have := putI_pre (l := (getI b).1) (m := l) (t := (putI l).1.drop b.length) (by rw [h2]) h (by
      rw [h2]
      conv => lhs; arg 1; rw [hp]
      exact List.take_append_drop _ _)
    have := congrArg List.length this
    rw [List.length_drop] at this
    simp at this; omega
  · exact h0
theorem outB_pos (l : List Rec) : 0 < (outB l).length := by simp [outB]
end Go.Proofs.Eng
end
section
set_option linter.unusedVariables false
set_option linter.unusedSimpArgs false
namespace Go.Proofs.Eng
open Go.RowKit
open Extern.Stop (cell)
/-! ### closures -/
section
variable {P : Program} {n : Nat} {f : Nat → Value} {w : World} {dst : Option Nat} {ty0 : TypeId} {pos : String} {aft : Array Edge} {gd : Option (Nat × Bool)} {T : TypeId}
theorem x_makeFunc {g : Fn} {xs ys : List Operand} {fs cs : List Value} (ha : evL n f xs = fs) (hb : evL n f ys = cs) : Ex P w n f ⟨dst, .makeFunc g xs.toArray ys.toArray, ty0, pos, aft, gd⟩ (.func g fs.toArray cs.toArray) := by
  subst ha hb
  rw [← evL_map, ← evL_map, ← List.map_toArray, ← List.map_toArray]
  rfl
theorem x_build3 {x y u : Operand} {a b c z1 z2 z3 : Value} (hP : placed P T = some (.agg #[z1, z2, z3], [(0, 1), (1, 1), (2, 1)])) (hx : ev n f x = a) (hy : ev n f y = b) (hu : ev n f u = c) (ha : a.cells = #[a]) (hb : b.cells = #[b]) (hc : c.cells = #[c]) :
    Ex P w n f ⟨dst, .build T #[(0, x), (1, y), (2, u)], ty0, pos, aft, gd⟩ (.agg #[a, b, c]) :=
  x_build (parts := [(0, x), (1, y), (2, u)]) (ps := [(0, a), (1, b), (2, c)]) hP (by rw [← hx, ← hy, ← hu]; rfl) (by show Instr.fill _ #[z1, z2, z3] _ = _; simp [Instr.fill, ha, hb, hc] <;> rfl)
theorem x_build1of3 {x : Operand} {a z1 z2 z3 : Value} (hP : placed P T = some (.agg #[z1, z2, z3], [(0, 1), (1, 1), (2, 1)])) (hx : ev n f x = a) (ha : a.cells = #[a]) :
    Ex P w n f ⟨dst, .build T #[(0, x)], ty0, pos, aft, gd⟩ (.agg #[a, z2, z3]) :=
  x_build (parts := [(0, x)]) (ps := [(0, a)]) hP (by rw [← hx]; rfl) (by show Instr.fill _ #[z1, z2, z3] _ = _; simp [Instr.fill, ha] <;> rfl)
theorem x_build1of2 {x : Operand} {a z1 z2 : Value} (hP : placed P T = some (.agg #[z1, z2], [(0, 1), (1, 1)])) (hx : ev n f x = a) (ha : a.cells = #[a]) :
    Ex P w n f ⟨dst, .build T #[(0, x)], ty0, pos, aft, gd⟩ (.agg #[a, z2]) :=
  x_build (parts := [(0, x)]) (ps := [(0, a)]) hP (by rw [← hx]; rfl) (by show Instr.fill _ #[z1, z2] _ = _; simp [Instr.fill, ha] <;> rfl)
end
/-! ### blocks of several types turn -/
structure Mod2 (B : Nat) (E : List TypeId) (w w' : World) : Prop where
  size : w.heap.size ≤ w'.heap.size
  old : ∀ k, k < w.heap.size → (k < B ∨ ∀ t ∈ E, ty w k ≠ some t) → w'.heap[k]? = w.heap[k]?
  tys : ∀ k, k < w.heap.size → ty w' k = ty w k
  drawn : w.drawn ≤ w'.drawn
  os : w'.os = w.os
  tape : w'.tape = w.tape
  output : w'.output = w.output
section
variable {B B' B0 : Nat} {E : List TypeId} {t : TypeId} {w w' w0 a b c : World}
theorem Mod2.refl (B : Nat) (E : List TypeId) (w : World) : Mod2 B E w w := ⟨Nat.le_refl _, fun _ _ _ => rfl, fun _ _ => rfl, Nat.le_refl _, rfl, rfl, rfl⟩
theorem Mod2.ofMod (h : Mod B' t w w') (ht : t ∈ E) (hB : B ≤ B') : Mod2 B E w w' :=
  ⟨h.size, fun k hk ho => h.old k hk (ho.imp (fun h => by omega) fun h => h t ht), h.tys, h.drawn, h.os, h.tape, h.output⟩
theorem Mod2.trans (h : Mod2 B E a b) (k : Mod2 B E b c) : Mod2 B E a c :=
  ⟨Nat.le_trans h.size k.size, fun i hi ho => (k.old i (Nat.lt_of_lt_of_le hi h.size) (ho.imp id fun e => by rw [h.tys i hi]; exact e)).trans (h.old i hi ho),
    fun i hi => (k.tys i (Nat.lt_of_lt_of_le hi h.size)).trans (h.tys i hi), Nat.le_trans h.drawn k.drawn, k.os.trans h.os, k.tape.trans h.tape, k.output.trans h.output⟩
theorem Mod2.ofExt (h : Ext w w') : Mod2 B E w w' := ⟨h.size, fun k hk _ => h.old k hk, fun k hk => ty_of_heap (h.old k hk), h.drawn, h.os, h.tape, h.output⟩
theorem Mod2.ext (h : Mod2 B E a b) (k : Ext b c) : Mod2 B E a c := h.trans (.ofExt k)
theorem Mod2.mod2 (h : Mod2 B E a b) (k : Mod2 B E b c) (_ : True) : Mod2 B E a c := h.trans k
theorem Mod2.put {g : Nat} {cs : Array Value} (h : Mod2 B E a b) (p : Put b c g cs t) (hg : B ≤ g ∧ t ∈ E) : Mod2 B E a c := h.trans (.ofMod (p.mod g (Nat.le_refl _)) hg.2 hg.1)
theorem Mod2.same (h : Mod2 B E w w') {F : List TypeId} (hB : B' ≤ B) (hE : ∀ t ∈ E, t ∉ F) : Same B' F w w' :=
  fun k hk ho => h.old k hk (ho.imp (fun h => by omega) fun ⟨u, hu, e⟩ t ht => by rw [e]; intro e2; injection e2 with e2; subst e2; exact hE _ ht hu)
theorem Ext.mod2 (h : Ext w0 w) (m : Mod2 B E w w') (hB : w0.heap.size ≤ B) : Ext w0 w' :=
  ⟨Nat.le_trans h.size m.size, fun k hk => (m.old k (Nat.lt_of_lt_of_le hk h.size) (.inl (by omega))).trans (h.old k hk), m.os.trans h.os, m.tape.trans h.tape, m.output.trans h.output, Nat.le_trans h.drawn m.drawn⟩
theorem Blk.mod2 {g : Nat} {cs : Array Value} {u : TypeId} (h : Blk w g cs u) (m : Mod2 B E w w') (hne : ∀ t ∈ E, t ≠ u) : Blk w' g cs u :=
  (m.old g h.lt (.inr fun t ht => by rw [h.ty]; intro e; injection e with e; exact hne t ht e.symm)).trans h
variable {α : Type} {d : Kind α} {e : TypeId} {p : Option Addr} {n cc : Nat} {xs : List α}
theorem Own.mod2 (h : Own d e B B0 w p n cc xs) (m : Mod2 B' E w w') (hB : B ≤ B') (ht : ∀ t ∈ E, t ∉ e :: d.E) : Own d e B B0 w' p n cc xs :=
  h.of_heap (m.same hB (fun t he hm => ht t he (List.mem_cons_of_mem _ hm))) (fun k hk hlt => by
    rcases h.form with ⟨h1, _, _⟩ | ⟨g, cur, h1, _, h3, _⟩
    · rw [h1] at hk; cases hk
    · rw [h1] at hk; injection hk with hk; injection hk with hk; subst hk
      exact m.old _ hlt (.inr fun t he => by rw [h3.ty]; intro q; injection q with q; exact ht t he (by simp [q])))
end
/-! ### the reading's state: what is left, and whether it went wrong -/
structure GS (B : Nat) (w : World) (gr gb : Nat) (R : List UInt8) (bad : Bool) : Prop where
  rest : ∃ q m c, Blk w gr #[.slice q m c] 22 ∧ Sl kByte 5 B w q m c R
  flag : Blk w gb #[.bool bad] 4
namespace GS
variable {B : Nat} {w w' : World} {gr gb : Nat} {R : List UInt8} {bad : Bool}
theorem ext (h : GS B w gr gb R bad) (x : Ext w w') : GS B w' gr gb R bad := by
  obtain ⟨⟨q, m, c, h1, h2⟩, h3⟩ := h
  exact ⟨⟨q, m, c, h1.ext x, h2.ext x⟩, h3.ext x⟩
theorem same (h : GS B w gr gb R bad) {F : List TypeId} (hs : Same B F w w') (hF : 22 ∈ F ∧ 4 ∈ F ∧ 5 ∈ F) : GS B w' gr gb R bad := by
  obtain ⟨⟨q, m, c, h1, h2⟩, h3⟩ := h
  exact ⟨⟨q, m, c, (hs gr h1.lt (.inr ⟨22, hF.1, h1.ty⟩)).trans h1, h2.keep (hs.sub fun t ht => by simp [kByte, Kind.pure] at ht; rw [ht]; exact hF.2.2)⟩, (hs gb h3.lt (.inr ⟨4, hF.2.1, h3.ty⟩)).trans h3⟩
theorem mod (h : GS B w gr gb R bad) {B' : Nat} {t : TypeId} (m : Mod B' t w w') (hB : B ≤ B') (ht : t ∉ [22, 4, 5]) : GS B w' gr gb R bad := h.same (m.same hB ht) (by simp)
end GS
/-! ### records that lie in S -/
def kRec (S : Nat → Prop) : Kind Rec where
  sz := 3
  E := [81, 35]
  K := fun _ w x cs => ∃ p n c q m c2, cs = [.string x.1, .slice p n c, .slice q m c2] ∧ Sl (kBr S) 81 0 w p n c x.2.1 ∧ (0 < n → S (ab p)) ∧ SlS hcs 35 S w q m c2 x.2.2
  len := by rintro _ _ _ _ ⟨p, n, c, q, m, c2, rfl, _⟩; rfl
  one := by
    rintro _ _ _ _ ⟨p, n, c, q, m, c2, rfl, _⟩ v hv
    simp only [List.mem_cons, List.not_mem_nil, or_false] at hv
    rcases hv with rfl | rfl | rfl <;> rfl
  keep := fun hs ⟨p, n, c, q, m, c2, h1, h2, h3, h4⟩ => ⟨p, n, c, q, m, c2, h1, h2.keep (fun k hk ho => hs k hk (.inr (ho.elim (fun h => absurd h (Nat.not_lt_zero _)) (by simp [kBr])))), h3, h4.same hs (by simp)⟩
  mono := fun hB h => h
theorem kRec_pos {S : Nat → Prop} : 0 < (kRec S).sz := Nat.succ_pos 2
theorem Sl.brKeep {S : Nat → Prop} {e : TypeId} {w w' : World} {p : Option Addr} {n c : Nat} {l : List Br} (h : Sl (kBr S) e 0 w p n c l) (hp : 0 < n → S (ab p)) (hs : ∀ j, j < w.heap.size → S j → w'.heap[j]? = w.heap[j]?) : Sl (kBr S) e 0 w' p n c l := by
  obtain ⟨css, ha, hr⟩ := h.row
  have hb : css.flatten ≠ [] → w'.heap[ab p]? = w.heap[ab p]? := fun hne => hs _ (hr.row.lt hne) (hp (by
    rw [← h.len]
    cases l with
    | nil => cases css with
      | nil => exact absurd rfl hne
      | cons _ _ => exact ha.elim
    | cons _ _ => simp))
  exact ⟨h.len, h.cap, h.fit, css, All.imp2 (d := kBr S) (d' := kBr S) (fun x cs hk => by obtain ⟨q, m', c1, h1, h2⟩ := hk; exact ⟨q, m', c1, h1, h2.keep fun hn => hs _ (ty_lt (h2.ty hn)) (h2.fp hn).1⟩) ha, hr.row.of_block hb, fun hne => (hr.ok hne).imp id fun e' => (ty_of_heap (hb hne)).trans e'⟩
theorem recK_keep {S S' : Nat → Prop} {w w' : World} {x : Rec} {cs : List Value} {B B' : Nat} (h : (kRec S).K B w x cs) (hs : ∀ j, j < w.heap.size → S j → w'.heap[j]? = w.heap[j]?) (hS : ∀ j, j < w.heap.size → S j → S' j) : (kRec S').K B' w' x cs := by
  obtain ⟨p, n, c, q, m, c2, h1, h2, h3, h4⟩ := h
  have k2 := h2.brKeep h3 hs
  have k4 := h4.keep fun hn => hs _ (ty_lt (h4.ty hn)) (h4.fp hn).1
  have hsz : ∀ j, j < w'.heap.size → S j → S' j ∨ True := fun _ _ _ => .inr trivial
  refine ⟨p, n, c, q, m, c2, h1, ?_, fun hn => ?_, ⟨k4.len, k4.cap, k4.fit, k4.row, fun hn => ⟨hS _ (ty_lt (h4.ty hn)) (h4.fp hn).1, (k4.fp hn).2⟩⟩⟩
  · obtain ⟨css, ha, hr⟩ := h2.row
    obtain ⟨css', ha', hr'⟩ := k2.row
    have hb : css.flatten ≠ [] → w'.heap[ab p]? = w.heap[ab p]? := fun hne => hs _ (hr.row.lt hne) (h3 (by
      rw [← h2.len]
      cases hx : x.2.1 with
      | nil => rw [hx] at ha; cases css with
        | nil => exact absurd rfl hne
        | cons _ _ => exact ha.elim
      | cons _ _ => simp))
    exact ⟨h2.len, h2.cap, h2.fit, css, All.imp2 (d := kBr S) (d' := kBr S') (fun y ds hk => by
      obtain ⟨q, m', c1, e1, e2⟩ := hk
      have e3 := e2.keep fun hn => hs _ (ty_lt (e2.ty hn)) (e2.fp hn).1
      exact ⟨q, m', c1, e1, e3.len, e3.cap, e3.fit, e3.row, fun hn => ⟨hS _ (ty_lt (e2.ty hn)) (e2.fp hn).1, (e3.fp hn).2⟩⟩) ha, hr.row.of_block hb, fun hne => (hr.ok hne).imp id fun e' => (ty_of_heap (hb hne)).trans e'⟩
  · have hlt : ab p < w.heap.size := by
      obtain ⟨css, ha, hr⟩ := h2.row
      refine hr.row.lt ?_
      intro hne
      have := h2.len
      cases hx : x.2.1 with
      | nil => rw [hx] at this; simp at this; omega
      | cons y ys =>
        rw [hx] at ha
        cases css with
        | nil => exact ha.elim
        | cons d ds =>
          obtain ⟨_, _, _, e1, _⟩ := ha.1
          rw [e1] at hne
          simp at hne
    exact hS _ hlt (h3 hn)
theorem recK_A {S : Nat → Prop} {w : World} {x : Rec} {cs : List Value} {B B' : Nat} (h : (kRec S).K B w x cs) : kRecA.K B' w x cs := by
  obtain ⟨p, n, c, q, m, c2, h1, h2, h3, h4⟩ := h
  exact ⟨p, n, c, q, m, c2, h1, h2.imp (Nat.zero_le _) (fun y ds hk => by obtain ⟨q, m', c1, e1, e2⟩ := hk; exact ⟨q, m', c1, e1, e2.hash _⟩), h4.hash _⟩
theorem Sl.recA {S : Nat → Prop} {e : TypeId} {B : Nat} {w : World} {p : Option Addr} {n c : Nat} {l : List Rec} (h : Sl (kRec S) e B w p n c l) : Sl kRecA e B w p n c l := h.imp (Nat.le_refl _) fun x cs hk => recK_A hk
section
variable {S S' : Nat → Prop} {e : TypeId} {B0 : Nat} {w w' : World} {p : Option Addr} {n c : Nat} {l : List Rec}
theorem Own.recModB (h : Own (kRec S) e 0 B0 w p n c l) {B' : Nat} {t : TypeId} (m : Mod B' t w w') (hS : ∀ j, S j → j < B') (he : t ≠ e ∨ p = none ∨ ab p < B') : Own (kRec S) e 0 B0 w' p n c l :=
  h.imp rfl (fun x cs hk => recK_keep hk (fun j hj hs => m.old j hj (.inl (hS j hs))) (fun _ _ h => h)) fun k hk hlt => by
    rcases h.form with ⟨h1, _, _⟩ | ⟨g, cur, h1, _, h3, _⟩
    · rw [h1] at hk; cases hk
    · rw [h1] at hk; injection hk with hk; injection hk with hk; subst hk
      rcases he with he | he | he
      · exact m.old _ hlt (.inr (by rw [h3.ty]; intro q; injection q with q; exact he q.symm))
      · rw [h1] at he; cases he
      · rw [h1] at he; exact m.old _ hlt (.inl he)
theorem Own.recMono (h : Own (kRec S) e 0 B0 w p n c l) (hS : ∀ j, j < w.heap.size → S j → S' j) : Own (kRec S') e 0 B0 w p n c l :=
  h.imp rfl (fun x cs hk => recK_keep hk (fun _ _ _ => rfl) hS) fun _ _ _ => rfl
/-- A block outside S is written. -/
theorem Sl.recPut (h : Sl (kRec S) e 0 w p n c l) {g : Nat} {cs : Array Value} {t : TypeId} (m : Put w w' g cs t) (hg : ¬ S g) (he : t ≠ e) : Sl (kRec S) e 0 w' p n c l := by
  obtain ⟨css, ha, hr⟩ := h.row
  have hb : css.flatten ≠ [] → w'.heap[ab p]? = w.heap[ab p]? := fun hne => m.old _ fun q => by
    rcases hr.ok hne with h1 | h1
    · omega
    · rw [q, m.was] at h1; injection h1 with h1; exact he h1
  exact ⟨h.len, h.cap, h.fit, css, All.imp2 (d := kRec S) (d' := kRec S) (fun x cs hk => recK_keep hk (fun j _ hj => m.old j fun q => hg (by rw [← q]; exact hj)) (fun _ _ h => h)) ha, hr.row.of_block hb, fun hne => (hr.ok hne).imp id fun e' => (ty_of_heap (hb hne)).trans e'⟩
end
/-- What is from B0 on, and there. -/
def from' (B0 : Nat) (w : World) : Nat → Prop := fun j => B0 ≤ j ∧ j < w.heap.size
/-- A record of which the changes' bytes may be anything: how many there are. -/
def kRecN (S : Nat → Prop) : Kind Nat where
  sz := 3
  E := [35]
  K := fun _ w x cs => ∃ (s : ByteArray) (p : Option Addr) (n c : Nat) (q : Option Addr) (c2 : Nat), cs = [.string s, .slice p n c, .slice q x c2] ∧ ShB S w q x
  len := by rintro _ _ _ _ ⟨s, p, n, c, q, c2, rfl, _⟩; rfl
  one := by
    rintro _ _ _ _ ⟨s, p, n, c, q, c2, rfl, _⟩ v hv
    simp only [List.mem_cons, List.not_mem_nil, or_false] at hv
    rcases hv with rfl | rfl | rfl <;> rfl
  keep := by
    rintro B w w' x cs hs ⟨s, p, n, c, q, c2, rfl, h1⟩
    exact ⟨s, p, n, c, q, c2, rfl, h1.keep fun k ⟨cur, hb⟩ => hs k hb.lt (.inr ⟨35, by simp, hb.ty⟩)⟩
  mono := fun _ h => h
theorem kRecN_pos {S : Nat → Prop} : 0 < (kRecN S).sz := Nat.succ_pos 2
theorem all_recN {S : Nat → Prop} {w : World} : ∀ {l : List Rec} {css : List (List Value)}, (kRec S).All 0 w l css → (kRecN S).All 0 w (l.map fun x => x.2.2.length) css
  | [], [], _ => trivial
  | x :: _, _ :: _, h => by
    obtain ⟨p, n, c, q, m, c2, rfl, _, _, hs⟩ := h.1
    have e := hs.len
    subst e
    exact ⟨⟨x.1, p, n, c, q, c2, rfl, ShB.ofSlS hs⟩, all_recN h.2⟩
  | [], _ :: _, h => h.elim
  | _ :: _, [], h => h.elim
theorem Sl.recN {S : Nat → Prop} {e : TypeId} {w : World} {p : Option Addr} {n c : Nat} {l : List Rec} (h : Sl (kRec S) e 0 w p n c l) : Sl (kRecN S) e 0 w p n c (l.map fun x => x.2.2.length) := by
  obtain ⟨css, ha, hr⟩ := h.row
  exact ⟨by rw [List.length_map]; exact h.len, h.cap, h.fit, css, all_recN ha, hr⟩
theorem Sl.recNAt {S : Nat → Prop} {e : TypeId} {B : Nat} {w : World} {p : Option Addr} {n c : Nat} {ks : List Nat} (h : Sl (kRecN S) e B w p n c ks) (i : Nat) (hi : i < n) : ∃ q c1, w.cell? ⟨ab p, ao p + i * 3 + 2, none⟩ = some (.slice q (ks.getD i 0) c1) ∧ ShB S w q (ks.getD i 0) := by
  obtain ⟨cs, ⟨s, pp, nn, cc, q, c1, rfl, hs⟩, hr⟩ := h.get 0 i hi
  exact ⟨q, c1, hr 2 _ rfl, hs⟩
theorem Sl.recNSet {S : Nat → Prop} {e : TypeId} {w w' : World} {p : Option Addr} {n c : Nat} {ks : List Nat} (h : Sl (kRecN S) e 0 w p n c ks) (he : e ≠ 35) {g o : Nat} {cs : Array Value} {b : UInt8} (hB : Blk w g cs 35) (hP : Put w w' g (cs.setIfInBounds o (cell b)) 35) : Sl (kRecN S) e 0 w' p n c ks := by
  obtain ⟨css, ha, hr⟩ := h.row
  have hb : css.flatten ≠ [] → w'.heap[ab p]? = w.heap[ab p]? := fun hne => hP.old _ fun q => by
    rcases hr.ok hne with h1 | h1
    · omega
    · rw [q, hP.was] at h1; injection h1 with h1; exact he h1.symm
  exact ⟨h.len, h.cap, h.fit, css, All.imp2 (d := kRecN S) (d' := kRecN S) (fun x cs hk => by obtain ⟨s, pp, nn, cc, q, c1, e1, e2⟩ := hk; exact ⟨s, pp, nn, cc, q, c1, e1, e2.set hB hP⟩) ha, hr.row.of_block hb, fun hne => (hr.ok hne).imp id fun e' => (ty_of_heap (hb hne)).trans e'⟩
end Go.Proofs.Eng
end
section
set_option linter.unusedVariables false
set_option linter.unusedSimpArgs false
set_option maxRecDepth 100000
set_option maxHeartbeats 4000000
namespace Go.Proofs.Eng
open Go.RowKit
open Extern.Stop (cell)
theorem leb_GetUint (xs : List UInt8) (B : Nat) (p : Option Addr) (n c : Nat) (w : World) (hl : Sl kByte 5 B w p n c xs) :
    Ret Try.prog 74 [.slice p n c] w (fun v w' => v = .tuple #[.int .u64 ((getU xs).1 : Int), .int .i64 ((getU xs).2.1 : Int), .int .i64 (getU xs).2.2] ∧ Ext w w') := by
  have hX := Ext.refl w
  refine enter 43 _ Try.func74 rfl rfl (Nat.le_of_ble_eq_true rfl) ?_
  refine c_seq ?_
  refine r_plain ?_
  refine p1 (x_assign (by conv => lhs; whnf)) ?_
  refine p1 (x_assign (by conv => lhs; whnf)) ?_
  refine p1 (x_assign (by conv => lhs; whnf)) ?_
  refine r_nil ?_
  refine t_n ?_
  refine c_seq ?_
  refine c_seq ?_
  refine r_plain ?_
  refine p1 (x_move (by conv => lhs; whnf)) ?_
  refine p1 (x_len_slice u22 rfl) ?_
  refine p1 (x_move (by conv => lhs; whnf)) ?_
  refine r_nil ?_
  refine t_n ?_
  refine c_block ?_
  have hWL0 := Ext.refl w
  have hlen := hl.len
  have hfit := hl.fit
  have hcap := hl.cap
  refine c_loop (ι := Nat × Nat) [2, 3, 4, 5, 6, 9, 10, 11, 12, 13, 14, 15, 16, 17, 18, 19, 20, 21, 22, 23, 24, 25, 26, 27, 28, 29, 30, 31, 32, 33, 34, 35, 36, 37, 38, 39, 40, 41, 42] (fun (i, m) => [(2, .int .u64 (m : Int)), (9, .int .i64 (i : Int))]) (fun (i, m) w' => Ext w w' ∧ (i ≤ n ∧ i ≤ 9 ∧ m < 2 ^ (7 * i) ∧ getUF i m (xs.drop i) = getU xs)) (fun (i, m) => n - i) ((0, 0)) ⟨rfl, rfl, trivial⟩ ⟨Ext.refl _, ⟨by omega, by omega, by simp, rfl⟩⟩ ?_
  rintro ⟨i, m⟩ GL0 w1 ⟨hE1, hi, hi9, hm, hL⟩
  have hX := hX.ext hE1
  have hWL0 := hE1
  refine c_seq ?_
  refine r_plain ?_
  refine p1 (x_lss rfl rfl) ?_
  refine r_nil ?_
  refine t_n ?_
  refine c_seq ?_
  first | refine c_dec rfl (fun hc10 => ?_) (fun hc10 => ?_) | refine c_if rfl (fun hc10 => ?_) (fun hc10 => ?_)
  · try simp only [decide_eq_true_eq, decide_eq_false_iff_not, Bool.not_eq_true, Bool.not_eq_false, Bool.not_eq_eq_eq_not, Bool.not_true, Bool.not_false, Int.not_lt, Int.not_le] at hc10
    refine c_skip ?_
    refine t_n ?_
    refine c_seq ?_
    refine c_block ?_
    refine c_seq ?_
    refine r_plain ?_
    refine p1 (x_move (by conv => lhs; whnf)) ?_
    refine p1 (x_ixs0 u22 sz5 rfl rfl ((hl.ext hX).adr kByte_pos (by omega)) (by omega)) ?_
    refine p1 (x_load1 un5 rfl ((hl.ext hX).byteAt _ (by omega))) ?_
    refine p1 (x_assign (by conv => lhs; whnf)) ?_
    refine p1 (x_assign (by conv => lhs; whnf)) ?_
    refine r_nil ?_
    refine t_n ?_
    refine c_seq ?_
    refine c_seq ?_
    have hWr4 := Ext.refl w1
    refine c_cut (ι := Unit) [14, 15, 16, 17, 18, 19, 20, 21, 22, 23, 24, 25, 26, 27] (fun _ => [(27, .bool (decide ((i = 9 ∧ 1 < (xs.getD i 0).toNat) ∨ (0 < i ∧ (xs.getD i 0).toNat = 0))))]) (fun _ w' => Ext w1 w') ?_ ?_
    · skip
      refine r_plain ?_
      refine p1 (x_move (by conv => lhs; whnf)) ?_
      refine p1 (x_eql rfl rfl) ?_
      refine p1b (x_move (by conv => lhs; whnf)) (fun hb4_2 => ?_) (fun hb4_2 => ?_)
      · try simp only [decide_eq_true_eq, decide_eq_false_iff_not, Bool.not_eq_true, Bool.not_eq_false, Bool.not_eq_eq_eq_not, Bool.not_true, Bool.not_false, Int.not_lt, Int.not_le] at hb4_2
        refine g1 16 rfl rfl (x_move (by conv => lhs; whnf)) ?_
        refine g1 16 rfl rfl (x_gtr rfl rfl) ?_
        refine p1 (x_pick_t rfl (by conv => lhs; whnf)) ?_
        refine p1b (x_move (by conv => lhs; whnf)) (fun hb4_6 => ?_) (fun hb4_6 => ?_)
        · try simp only [decide_eq_true_eq, decide_eq_false_iff_not, Bool.not_eq_true, Bool.not_eq_false, Bool.not_eq_eq_eq_not, Bool.not_true, Bool.not_false, Int.not_lt, Int.not_le] at hb4_6
          refine g0 20 rfl (by first | exact .inl rfl | exact .inr rfl) ?_
          refine g0 20 rfl (by first | exact .inl rfl | exact .inr rfl) ?_
          refine g0 20 rfl (by first | exact .inl rfl | exact .inr rfl) ?_
          refine g0 23 rfl (by first | exact .inl rfl | exact .inr rfl) ?_
          refine g0 23 rfl (by first | exact .inl rfl | exact .inr rfl) ?_
          refine g0 20 rfl (by first | exact .inl rfl | exact .inr rfl) ?_
          refine p1 (x_pick_t rfl (by conv => lhs; whnf)) ?_
          refine r_nil ?_
          refine t_n (At.mk () (by repeat (first | exact Agr.refl _ _ | exact Agr.hav _ _ _ | refine Agr.upd rfl ?_ | refine Agr.updL ?_ _ rfl | refine Agr.hav' rfl ?_)) ⟨congrArg Value.bool (by first | rfl | exact (decide_eq_true (by omega)).symm | exact (decide_eq_false (by omega)).symm | exact decide_eq_decide.2 (by omega) | (simp_all; done) | grind), trivial⟩ hWr4)
        · try simp only [decide_eq_true_eq, decide_eq_false_iff_not, Bool.not_eq_true, Bool.not_eq_false, Bool.not_eq_eq_eq_not, Bool.not_true, Bool.not_false, Int.not_lt, Int.not_le] at hb4_6
          refine g1 20 rfl rfl (x_move (by conv => lhs; whnf)) ?_
          refine g1 20 rfl rfl (x_gtr rfl rfl) ?_
          refine g1b 20 rfl rfl (x_move (by conv => lhs; whnf)) (fun hb4_9 => ?_) (fun hb4_9 => ?_)
          · try simp only [decide_eq_true_eq, decide_eq_false_iff_not, Bool.not_eq_true, Bool.not_eq_false, Bool.not_eq_eq_eq_not, Bool.not_true, Bool.not_false, Int.not_lt, Int.not_le] at hb4_9
            refine g1 23 rfl rfl (x_move (by conv => lhs; whnf)) ?_
            refine g1 23 rfl rfl (x_eql rfl rfl) ?_
            refine g1 20 rfl rfl (x_pick_t rfl (by conv => lhs; whnf)) ?_
            refine p1 (x_pick_f rfl (by conv => lhs; whnf)) ?_
            refine r_nil ?_
            refine t_n (At.mk () (by repeat (first | exact Agr.refl _ _ | exact Agr.hav _ _ _ | refine Agr.upd rfl ?_ | refine Agr.updL ?_ _ rfl | refine Agr.hav' rfl ?_)) ⟨congrArg Value.bool (by first | rfl | exact (decide_eq_true (by omega)).symm | exact (decide_eq_false (by omega)).symm | exact decide_eq_decide.2 (by omega) | (simp_all; done) | grind), trivial⟩ hWr4)
          · try simp only [decide_eq_true_eq, decide_eq_false_iff_not, Bool.not_eq_true, Bool.not_eq_false, Bool.not_eq_eq_eq_not, Bool.not_true, Bool.not_false, Int.not_lt, Int.not_le] at hb4_9
            refine g0 23 rfl (by first | exact .inl rfl | exact .inr rfl) ?_
            refine g0 23 rfl (by first | exact .inl rfl | exact .inr rfl) ?_
            refine g1 20 rfl rfl (x_pick_f rfl (by conv => lhs; whnf)) ?_
            refine p1 (x_pick_f rfl (by conv => lhs; whnf)) ?_
            refine r_nil ?_
            refine t_n (At.mk () (by repeat (first | exact Agr.refl _ _ | exact Agr.hav _ _ _ | refine Agr.upd rfl ?_ | refine Agr.updL ?_ _ rfl | refine Agr.hav' rfl ?_)) ⟨congrArg Value.bool (by first | rfl | exact (decide_eq_true (by omega)).symm | exact (decide_eq_false (by omega)).symm | exact decide_eq_decide.2 (by omega) | (simp_all; done) | grind), trivial⟩ hWr4)
      · try simp only [decide_eq_true_eq, decide_eq_false_iff_not, Bool.not_eq_true, Bool.not_eq_false, Bool.not_eq_eq_eq_not, Bool.not_true, Bool.not_false, Int.not_lt, Int.not_le] at hb4_2
        refine g0 16 rfl (by first | exact .inl rfl | exact .inr rfl) ?_
        refine g0 16 rfl (by first | exact .inl rfl | exact .inr rfl) ?_
        refine p1 (x_pick_f rfl (by conv => lhs; whnf)) ?_
        refine p1 (x_move (by conv => lhs; whnf)) ?_
        refine g1 20 rfl rfl (x_move (by conv => lhs; whnf)) ?_
        refine g1 20 rfl rfl (x_gtr rfl rfl) ?_
        refine g1b 20 rfl rfl (x_move (by conv => lhs; whnf)) (fun hb4_9 => ?_) (fun hb4_9 => ?_)
        · try simp only [decide_eq_true_eq, decide_eq_false_iff_not, Bool.not_eq_true, Bool.not_eq_false, Bool.not_eq_eq_eq_not, Bool.not_true, Bool.not_false, Int.not_lt, Int.not_le] at hb4_9
          refine g1 23 rfl rfl (x_move (by conv => lhs; whnf)) ?_
          refine g1 23 rfl rfl (x_eql rfl rfl) ?_
          refine g1 20 rfl rfl (x_pick_t rfl (by conv => lhs; whnf)) ?_
          refine p1 (x_pick_f rfl (by conv => lhs; whnf)) ?_
          refine r_nil ?_
          refine t_n (At.mk () (by repeat (first | exact Agr.refl _ _ | exact Agr.hav _ _ _ | refine Agr.upd rfl ?_ | refine Agr.updL ?_ _ rfl | refine Agr.hav' rfl ?_)) ⟨congrArg Value.bool (by first | rfl | exact (decide_eq_true (by omega)).symm | exact (decide_eq_false (by omega)).symm | exact decide_eq_decide.2 (by omega) | (simp_all; done) | grind), trivial⟩ hWr4)
        · try simp only [decide_eq_true_eq, decide_eq_false_iff_not, Bool.not_eq_true, Bool.not_eq_false, Bool.not_eq_eq_eq_not, Bool.not_true, Bool.not_false, Int.not_lt, Int.not_le] at hb4_9
          refine g0 23 rfl (by first | exact .inl rfl | exact .inr rfl) ?_
          refine g0 23 rfl (by first | exact .inl rfl | exact .inr rfl) ?_
          refine g1 20 rfl rfl (x_pick_f rfl (by conv => lhs; whnf)) ?_
          refine p1 (x_pick_f rfl (by conv => lhs; whnf)) ?_
          refine r_nil ?_
          refine t_n (At.mk () (by repeat (first | exact Agr.refl _ _ | exact Agr.hav _ _ _ | refine Agr.upd rfl ?_ | refine Agr.updL ?_ _ rfl | refine Agr.hav' rfl ?_)) ⟨congrArg Value.bool (by first | rfl | exact (decide_eq_true (by omega)).symm | exact (decide_eq_false (by omega)).symm | exact decide_eq_decide.2 (by omega) | (simp_all; done) | grind), trivial⟩ hWr4)
    · rintro _ Gr4 w2 hE2
      have hX := hX.ext hE2
      have hWL0 := hWL0.ext hE2
      refine t_n ?_
      first | refine c_dec rfl (fun hc27 => ?_) (fun hc27 => ?_) | refine c_if rfl (fun hc27 => ?_) (fun hc27 => ?_)
      · try simp only [decide_eq_true_eq, decide_eq_false_iff_not, Bool.not_eq_true, Bool.not_eq_false, Bool.not_eq_eq_eq_not, Bool.not_true, Bool.not_false, Int.not_lt, Int.not_le] at hc27
        have hp : getU xs = (0, 0, 4) := by rw [← hL, drop_cons (by omega)]; unfold getUF; rw [if_pos hc27]
        refine c_seq ?_
        refine r_plain ?_
        refine p1 (x_assign (by conv => lhs; whnf)) ?_
        refine p1 (x_assign (by conv => lhs; whnf)) ?_
        refine p1 (x_assign (by conv => lhs; whnf)) ?_
        refine r_nil ?_
        refine t_n ?_
        refine c_ret ?_
        refine t_r ?_
        refine b_r ?_
        refine t_r ?_
        refine t_r ?_
        refine b_r ?_
        refine t_r ?_
        refine end3 rfl (by conv => lhs; whnf) (by conv => lhs; whnf) (by conv => lhs; whnf) ?_
        exact ⟨by (rw [hp]; try rfl), hX⟩
      · try simp only [decide_eq_true_eq, decide_eq_false_iff_not, Bool.not_eq_true, Bool.not_eq_false, Bool.not_eq_eq_eq_not, Bool.not_true, Bool.not_false, Int.not_lt, Int.not_le] at hc27
        have h9 : i = 9 → (xs.getD i 0).toNat % 128 ≤ 1 := by omega
        have hfit2 := getU_fit hm hi9 (Nat.mod_lt (xs.getD i 0).toNat (by omega : 0 < 128)) h9
        refine c_skip ?_
        refine t_n ?_
        refine c_seq ?_
        refine r_plain ?_
        refine p1 (x_move (by conv => lhs; whnf)) ?_
        refine p1 (x_move (by conv => lhs; whnf)) ?_
        refine p1 ((x_andNot rfl rfl).cast (congrArg _ (andNot128 (xs.getD i 0)))) ?_
        refine p1 (x_convf u95 us5 rfl (fits_u64 (by omega) (by omega))) ?_
        refine p1 (x_move (by conv => lhs; whnf)) ?_
        refine p1 (x_mul rfl rfl (fits_i64 (by omega) (by omega))) ?_
        refine p1 (x_convf u137 us3 rfl (fits_u64 (by omega) (by omega))) ?_
        refine p1 ((x_shl rfl rfl (by omega)).cast (congrArg _ (shl7 (i := i) hi9 (Nat.mod_lt _ (by omega)) h9))) ?_
        refine p1 ((x_or rfl rfl).cast (congrArg _ (or_sum hm hfit2))) ?_
        refine p1 (x_assign (by conv => lhs; whnf)) ?_
        refine r_nil ?_
        refine t_n ?_
        refine c_seq ?_
        refine r_plain ?_
        refine p1 (x_move (by conv => lhs; whnf)) ?_
        refine p1 (x_lss rfl rfl) ?_
        refine r_nil ?_
        refine t_n ?_
        first | refine c_dec rfl (fun hc38 => ?_) (fun hc38 => ?_) | refine c_if rfl (fun hc38 => ?_) (fun hc38 => ?_)
        · try simp only [decide_eq_true_eq, decide_eq_false_iff_not, Bool.not_eq_true, Bool.not_eq_false, Bool.not_eq_eq_eq_not, Bool.not_true, Bool.not_false, Int.not_lt, Int.not_le] at hc38
          have hp : getU xs = (m + (xs.getD i 0).toNat % 128 * 2 ^ (7 * i), i + 1, 0) := by rw [← hL, drop_cons (by omega)]; unfold getUF; rw [if_neg hc27, if_pos (by omega)]
          refine c_seq ?_
          refine r_plain ?_
          refine p1 (x_move (by conv => lhs; whnf)) ?_
          refine p1 (x_move (by conv => lhs; whnf)) ?_
          refine p1 (x_add rfl rfl (fits_i64 (by omega) (by omega))) ?_
          refine p1 (x_assign (by conv => lhs; whnf)) ?_
          refine p1 (x_assign (by conv => lhs; whnf)) ?_
          refine p1 (x_assign (by conv => lhs; whnf)) ?_
          refine r_nil ?_
          refine t_n ?_
          refine c_ret ?_
          refine b_r ?_
          refine t_r ?_
          refine t_r ?_
          refine b_r ?_
          refine t_r ?_
          refine end3 rfl (by conv => lhs; whnf) (by conv => lhs; whnf) (by conv => lhs; whnf) ?_
          exact ⟨by (rw [hp]; try rfl), hX⟩
        · try simp only [decide_eq_true_eq, decide_eq_false_iff_not, Bool.not_eq_true, Bool.not_eq_false, Bool.not_eq_eq_eq_not, Bool.not_true, Bool.not_false, Int.not_lt, Int.not_le] at hc38
          have hp2 : getUF (i + 1) (m + (xs.getD i 0).toNat % 128 * 2 ^ (7 * i)) (xs.drop (i + 1)) = getU xs := by rw [← hL, drop_cons (by omega : i < xs.length)]; conv => rhs; unfold getUF; rw [if_neg hc27, if_neg (by omega)]
          refine c_skip ?_
          refine b_n ?_
          refine t_n ?_
          refine r_plain ?_
          refine p1 (x_add rfl rfl (fits_i64 (by omega) (by omega))) ?_
          refine p1 (x_move (by conv => lhs; whnf)) ?_
          refine r_nil ?_
          refine t_n (At.mk ((i + 1, m + (xs.getD i 0).toNat % 128 * 2 ^ (7 * i))) (by repeat (first | exact Agr.refl _ _ | exact Agr.hav _ _ _ | refine Agr.upd rfl ?_ | refine Agr.updL ?_ _ rfl | refine Agr.hav' rfl ?_)) ⟨rfl, rfl, trivial⟩ ?_)
          exact ⟨⟨hWL0, ⟨by omega, by omega, getU_sum hm (Nat.mod_lt _ (by omega)), hp2⟩⟩, by first | (dsimp only; omega) | ((show _ < _); omega)⟩
  · try simp only [decide_eq_true_eq, decide_eq_false_iff_not, Bool.not_eq_true, Bool.not_eq_false, Bool.not_eq_eq_eq_not, Bool.not_true, Bool.not_false, Int.not_lt, Int.not_le] at hc10
    have hp : getU xs = (0, 0, 3) := by rw [← hL, List.drop_of_length_le (by omega)]; rfl
    refine c_exit ?_
    refine t_e ?_
    refine t_e ?_
    refine b_hit ?_
    refine t_n ?_
    refine c_seq ?_
    refine r_plain ?_
    refine p1 (x_assign (by conv => lhs; whnf)) ?_
    refine p1 (x_assign (by conv => lhs; whnf)) ?_
    refine p1 (x_assign (by conv => lhs; whnf)) ?_
    refine r_nil ?_
    refine t_n ?_
    refine c_ret ?_
    refine end3 rfl (by conv => lhs; whnf) (by conv => lhs; whnf) (by conv => lhs; whnf) ?_
    exact ⟨by (rw [hp]; try rfl), hX⟩
theorem ref02_groups (xs : List UInt8) (B : Nat) (p : Option Addr) (n c : Nat) (w : World) (hl : Sl kByte 5 B w p n c xs) :
    Ret Try.prog 123 [.slice p n c] w (fun v w' => v = .tuple #[.int .i64 ((grp xs).1 : Int), .int .i64 (grp xs).2] ∧ Ext w w') := by
  have hX := Ext.refl w
  refine enter 20 _ Try.func123 rfl rfl (Nat.le_of_ble_eq_true rfl) ?_
  refine c_seq ?_
  refine r_plain ?_
  refine p1 (x_assign (by conv => lhs; whnf)) ?_
  refine p1 (x_assign (by conv => lhs; whnf)) ?_
  refine r_nil ?_
  refine t_n ?_
  refine c_seq ?_
  refine c_seq ?_
  refine r_plain ?_
  refine p1 (x_assign (by conv => lhs; whnf)) ?_
  refine r_nil ?_
  refine t_n ?_
  refine c_block ?_
  have hWL0 := Ext.refl w
  have hlen := hl.len
  have hfit := hl.fit
  have hcap := hl.cap
  refine c_loop (ι := Nat) [2, 3, 4, 5, 6, 7, 8, 9, 10, 11, 12, 13, 14, 15, 16, 17, 18, 19] (fun i => [(4, .int .i64 (i : Int))]) (fun i w' => Ext w w' ∧ (i ≤ 10 ∧ i ≤ n ∧ grpF (10 - i) i (xs.drop i) = grp xs)) (fun i => 10 - i) (0) ⟨rfl, trivial⟩ ⟨Ext.refl _, ⟨by omega, by omega, rfl⟩⟩ ?_
  rintro i GL0 w1 ⟨hE1, hi, hin, hL⟩
  have hX := hX.ext hE1
  have hWL0 := hE1
  refine c_seq ?_
  refine c_seq ?_
  refine r_plain ?_
  refine p1 (x_move (by conv => lhs; whnf)) ?_
  refine p1 (x_lss rfl rfl) ?_
  refine r_nil ?_
  refine t_n ?_
  first | refine c_dec rfl (fun hc6 => ?_) (fun hc6 => ?_) | refine c_if rfl (fun hc6 => ?_) (fun hc6 => ?_)
  · try simp only [decide_eq_true_eq, decide_eq_false_iff_not, Bool.not_eq_true, Bool.not_eq_false, Bool.not_eq_eq_eq_not, Bool.not_true, Bool.not_false, Int.not_lt, Int.not_le] at hc6
    refine c_skip ?_
    refine t_n ?_
    refine c_seq ?_
    refine c_block ?_
    refine c_seq ?_
    refine c_seq ?_
    refine r_plain ?_
    refine p1 (x_move (by conv => lhs; whnf)) ?_
    refine p1 (x_move (by conv => lhs; whnf)) ?_
    refine p1 (x_len_slice u22 rfl) ?_
    refine p1 (x_eql rfl rfl) ?_
    refine r_nil ?_
    refine t_n ?_
    first | refine c_dec rfl (fun hc12 => ?_) (fun hc12 => ?_) | refine c_if rfl (fun hc12 => ?_) (fun hc12 => ?_)
    · try simp only [decide_eq_true_eq, decide_eq_false_iff_not, Bool.not_eq_true, Bool.not_eq_false, Bool.not_eq_eq_eq_not, Bool.not_true, Bool.not_false, Int.not_lt, Int.not_le] at hc12
      have hp : grp xs = (0, 3) := by rw [← hL, List.drop_of_length_le (by omega), grpF_nil (by omega)]
      refine c_seq ?_
      refine r_plain ?_
      refine p1 (x_assign (by conv => lhs; whnf)) ?_
      refine p1 (x_assign (by conv => lhs; whnf)) ?_
      refine r_nil ?_
      refine t_n ?_
      refine c_ret ?_
      refine t_r ?_
      refine b_r ?_
      refine t_r ?_
      refine t_r ?_
      refine b_r ?_
      refine t_r ?_
      refine end2 rfl (by conv => lhs; whnf) (by conv => lhs; whnf) ?_
      exact ⟨by (rw [hp]; try rfl), hX⟩
    · try simp only [decide_eq_true_eq, decide_eq_false_iff_not, Bool.not_eq_true, Bool.not_eq_false, Bool.not_eq_eq_eq_not, Bool.not_true, Bool.not_false, Int.not_lt, Int.not_le] at hc12
      refine c_skip ?_
      refine t_n ?_
      refine c_seq ?_
      refine r_plain ?_
      refine p1 (x_move (by conv => lhs; whnf)) ?_
      refine p1 (x_move (by conv => lhs; whnf)) ?_
      refine p1 (x_ixs0 u22 sz5 rfl rfl ((hl.ext hX).adr kByte_pos (by omega)) (by omega)) ?_
      refine p1 (x_load1 un5 rfl ((hl.ext hX).byteAt _ (by omega))) ?_
      refine p1 (x_lss rfl rfl) ?_
      refine r_nil ?_
      refine t_n ?_
      first | refine c_dec rfl (fun hc17 => ?_) (fun hc17 => ?_) | refine c_if rfl (fun hc17 => ?_) (fun hc17 => ?_)
      · try simp only [decide_eq_true_eq, decide_eq_false_iff_not, Bool.not_eq_true, Bool.not_eq_false, Bool.not_eq_eq_eq_not, Bool.not_true, Bool.not_false, Int.not_lt, Int.not_le] at hc17
        have hp : grp xs = (i + 1, 0) := by rw [← hL, drop_cons (by omega), grpF_lt (by omega) (by omega)]
        refine c_seq ?_
        refine r_plain ?_
        refine p1 (x_move (by conv => lhs; whnf)) ?_
        refine p1 (x_add rfl rfl (fits_i64 (by omega) (by omega))) ?_
        refine p1 (x_assign (by conv => lhs; whnf)) ?_
        refine p1 (x_assign (by conv => lhs; whnf)) ?_
        refine r_nil ?_
        refine t_n ?_
        refine c_ret ?_
        refine b_r ?_
        refine t_r ?_
        refine t_r ?_
        refine b_r ?_
        refine t_r ?_
        refine end2 rfl (by conv => lhs; whnf) (by conv => lhs; whnf) ?_
        exact ⟨by (rw [hp]; try rfl), hX⟩
      · try simp only [decide_eq_true_eq, decide_eq_false_iff_not, Bool.not_eq_true, Bool.not_eq_false, Bool.not_eq_eq_eq_not, Bool.not_true, Bool.not_false, Int.not_lt, Int.not_le] at hc17
        have hp2 : grpF (10 - (i + 1)) (i + 1) (xs.drop (i + 1)) = grp xs := by rw [← hL, drop_cons (by omega : i < xs.length), grpF_ge (by omega) (by omega)]
        refine c_skip ?_
        refine b_n ?_
        refine t_n ?_
        refine r_plain ?_
        refine p1 (x_move (by conv => lhs; whnf)) ?_
        refine p1 (x_add rfl rfl (fits_i64 (by omega) (by omega))) ?_
        refine p1 (x_assign (by conv => lhs; whnf)) ?_
        refine r_nil ?_
        refine t_n (At.mk (i + 1) (by repeat (first | exact Agr.refl _ _ | exact Agr.hav _ _ _ | refine Agr.upd rfl ?_ | refine Agr.updL ?_ _ rfl | refine Agr.hav' rfl ?_)) ⟨rfl, trivial⟩ ?_)
        exact ⟨⟨hWL0, ⟨by omega, by omega, hp2⟩⟩, by first | (dsimp only; omega) | ((show _ < _); omega)⟩
  · try simp only [decide_eq_true_eq, decide_eq_false_iff_not, Bool.not_eq_true, Bool.not_eq_false, Bool.not_eq_eq_eq_not, Bool.not_true, Bool.not_false, Int.not_lt, Int.not_le] at hc6
    have h10 : i = 10 := by omega
    have hp : grp xs = (0, 4) := by rw [← hL, h10]; rfl
    refine c_exit ?_
    refine t_e ?_
    refine t_e ?_
    refine b_hit ?_
    refine t_n ?_
    refine c_seq ?_
    refine r_plain ?_
    refine p1 (x_assign (by conv => lhs; whnf)) ?_
    refine p1 (x_assign (by conv => lhs; whnf)) ?_
    refine r_nil ?_
    refine t_n ?_
    refine c_ret ?_
    refine end2 rfl (by conv => lhs; whnf) (by conv => lhs; whnf) ?_
    exact ⟨by (rw [hp]; try rfl), hX⟩
theorem ref02_GetUint (xs : List UInt8) (B : Nat) (p : Option Addr) (n c : Nat) (w : World) (hl : Sl kByte 5 B w p n c xs) :
    Ret Try.prog 97 [.slice p n c] w (fun v w' => v = .tuple #[.int .u64 ((getU xs).1 : Int), .int .i64 ((getU xs).2.1 : Int), .int .i64 (getU xs).2.2] ∧ Ext w w') := by
  have hX := Ext.refl w
  refine enter 42 _ Try.func97 rfl rfl (Nat.le_of_ble_eq_true rfl) ?_
  refine c_seq ?_
  refine r_plain ?_
  refine p1 (x_assign (by conv => lhs; whnf)) ?_
  refine p1 (x_assign (by conv => lhs; whnf)) ?_
  refine p1 (x_assign (by conv => lhs; whnf)) ?_
  refine r_nil ?_
  refine t_n ?_
  refine c_seq ?_
  refine r_plain ?_
  refine p1 (x_move (by conv => lhs; whnf)) ?_
  refine o_call Try.func123 fn123 fb123 (ref02_groups xs _ _ _ _ _ (hl.ext hX)) rfl ?_
  rintro v1 w1 ⟨rfl, hE1⟩
  have hX := hX.ext hE1
  refine p1 (x_move (by conv => lhs; whnf)) ?_
  refine p1 (x_extract rfl rfl) ?_
  refine p1 (x_extract rfl rfl) ?_
  refine p1 (x_assign (by conv => lhs; whnf)) ?_
  refine p1 (x_assign (by conv => lhs; whnf)) ?_
  refine r_nil ?_
  refine t_n ?_
  refine c_seq ?_
  refine c_seq ?_
  refine r_plain ?_
  refine p1 (x_move (by conv => lhs; whnf)) ?_
  refine p1 (x_neq rfl rfl) ?_
  refine r_nil ?_
  refine t_n ?_
  first | refine c_dec rfl (fun hc15 => ?_) (fun hc15 => ?_) | refine c_if rfl (fun hc15 => ?_) (fun hc15 => ?_)
  · try simp only [decide_eq_true_eq, decide_eq_false_iff_not, Bool.not_eq_true, Bool.not_eq_false, Bool.not_eq_eq_eq_not, Bool.not_true, Bool.not_false, Int.not_lt, Int.not_le] at hc15
    have hp : getU xs = (0, 0, (grp xs).2) := by rw [getU_refU]; unfold refU; rw [if_pos hc15]
    refine c_seq ?_
    refine r_plain ?_
    refine p1 (x_move (by conv => lhs; whnf)) ?_
    refine p1 (x_assign (by conv => lhs; whnf)) ?_
    refine p1 (x_assign (by conv => lhs; whnf)) ?_
    refine p1 (x_assign (by conv => lhs; whnf)) ?_
    refine r_nil ?_
    refine t_n ?_
    refine c_ret ?_
    refine t_r ?_
    refine end3 rfl (by conv => lhs; whnf) (by conv => lhs; whnf) (by conv => lhs; whnf) ?_
    exact ⟨by (rw [hp]; try rfl), hX⟩
  · try simp only [decide_eq_true_eq, decide_eq_false_iff_not, Bool.not_eq_true, Bool.not_eq_false, Bool.not_eq_eq_eq_not, Bool.not_true, Bool.not_false, Int.not_lt, Int.not_le] at hc15
    have he0 : (grp xs).2 = 0 := Classical.byContradiction hc15
    have hk4 := grp_bounds he0
    refine c_skip ?_
    refine t_n ?_
    refine c_seq ?_
    refine r_plain ?_
    refine p1 (x_assign (by conv => lhs; whnf)) ?_
    refine r_nil ?_
    refine t_n ?_
    refine c_seq ?_
    refine c_seq ?_
    refine r_plain ?_
    refine p1 (x_move (by conv => lhs; whnf)) ?_
    refine p1 (x_sub rfl rfl (fits_i64 (by omega) (by omega))) ?_
    refine p1 (x_assign (by conv => lhs; whnf)) ?_
    refine r_nil ?_
    refine t_n ?_
    refine c_block ?_
    have hWL0 := Ext.refl w1
    have hlen := hl.len
    have hfit := hl.fit
    have hcap := hl.cap
    refine c_loop (ι := Nat × Int × Nat) [7, 8, 19, 20, 21, 22, 23, 24, 25, 26, 27, 28, 29, 30, 31] (fun (j, z, m) => [(7, .int .u64 (m : Int)), (8, .int .i64 z)]) (fun (j, z, m) w' => Ext w1 w' ∧ (z = (j : Int) - 1 ∧ j ≤ (grp xs).1 ∧ m = rv ((xs.drop j).take ((grp xs).1 - j)))) (fun (j, z, m) => j) (((grp xs).1, ((grp xs).1 : Int) - 1, 0)) ⟨rfl, rfl, trivial⟩ ⟨Ext.refl _, ⟨rfl, Nat.le_refl _, by rw [Nat.sub_self, List.take_zero]; rfl⟩⟩ ?_
    rintro ⟨j, z, m⟩ GL0 w2 ⟨hE2, hz, hj, hm⟩
    have hX := hX.ext hE2
    have hWL0 := hE2
    refine c_seq ?_
    refine c_seq ?_
    refine r_plain ?_
    refine p1 (x_move (by conv => lhs; whnf)) ?_
    refine p1 (x_geq rfl rfl) ?_
    refine r_nil ?_
    refine t_n ?_
    first | refine c_dec rfl (fun hc20 => ?_) (fun hc20 => ?_) | refine c_if rfl (fun hc20 => ?_) (fun hc20 => ?_)
    · try simp only [decide_eq_true_eq, decide_eq_false_iff_not, Bool.not_eq_true, Bool.not_eq_false, Bool.not_eq_eq_eq_not, Bool.not_true, Bool.not_false, Int.not_lt, Int.not_le] at hc20
      obtain ⟨j, rfl⟩ : ∃ i, j = i + 1 := ⟨j - 1, by omega⟩
      have ez : z.toNat = j := by omega
      refine c_skip ?_
      refine t_n ?_
      refine c_seq ?_
      refine c_block ?_
      refine r_plain ?_
      refine p1 (x_move (by conv => lhs; whnf)) ?_
      refine p1 (x_shl rfl rfl (by omega)) ?_
      refine p1 (x_move (by conv => lhs; whnf)) ?_
      refine p1 (x_move (by conv => lhs; whnf)) ?_
      refine p1 (x_ixs u22 sz5 rfl rfl ((hl.ext hX).adr kByte_pos (by omega)) (by omega) (by omega)) ?_
      refine p1 (x_load1 un5 rfl ((hl.ext hX).byteAtI _ (by omega) (by omega))) ?_
      refine p1 ((x_rem rfl rfl (by omega) (by omega)).cast (congrArg _ (by rw [ez]; omega : _ = (((xs.getD j 0).toNat % 128 : Nat) : Int)))) ?_
      refine p1 (x_convf u95 us5 rfl (fits_u64 (by omega) (by omega))) ?_
      refine p1 ((x_or rfl rfl).cast (congrArg _ (or_rv m ((xs.getD j 0).toNat % 128) (Nat.mod_lt _ (by omega))))) ?_
      refine p1 (x_assign (by conv => lhs; whnf)) ?_
      refine r_nil ?_
      refine b_n ?_
      refine t_n ?_
      refine r_plain ?_
      refine p1 (x_move (by conv => lhs; whnf)) ?_
      refine p1 (x_sub rfl rfl (fits_i64 (by omega) (by omega))) ?_
      refine p1 (x_assign (by conv => lhs; whnf)) ?_
      refine r_nil ?_
      refine t_n (At.mk ((j, z - 1, ((xs.getD j 0).toNat % 128 + 128 * m) % 18446744073709551616)) (by repeat (first | exact Agr.refl _ _ | exact Agr.hav _ _ _ | refine Agr.upd rfl ?_ | refine Agr.updL ?_ _ rfl | refine Agr.hav' rfl ?_)) ⟨rfl, rfl, trivial⟩ ?_)
      exact ⟨⟨hWL0, ⟨by omega, by omega, by rw [rv_step (xs := xs) (j := j) (k := (grp xs).1) (by omega) (by omega), ← hm]⟩⟩, by first | (dsimp only; omega) | ((show _ < _); omega)⟩
    · try simp only [decide_eq_true_eq, decide_eq_false_iff_not, Bool.not_eq_true, Bool.not_eq_false, Bool.not_eq_eq_eq_not, Bool.not_true, Bool.not_false, Int.not_lt, Int.not_le] at hc20
      have hj0 : j = 0 := by omega
      subst hj0
      rw [List.drop_zero, Nat.sub_zero] at hm
      subst hm
      refine c_exit ?_
      refine t_e ?_
      refine t_e ?_
      refine b_hit ?_
      refine t_n ?_
      refine c_seq ?_
      refine c_seq ?_
      refine r_held (fun w1 w2 => Ext w1 w2) mixed ?_
      intro w3 hE3
      have hX := hX.ext hE3
      have hSr9 : (fun w1 w2 => Ext w1 w2) w3 w3 := Ext.refl w3
      refine h_take 0 rfl (by kernel_rfl) (by kernel_rfl) (by kernel_rfl) hSr9 (fun wS hSS => by (have hX := hX.ext hSS; exact (x_move (by conv => lhs; whnf)))) ?_
      refine h_take 3 rfl (by kernel_rfl) (by kernel_rfl) (by kernel_rfl) hSr9 (fun wS hSS => by (have hX := hX.ext hSS; exact (x_move (by conv => lhs; whnf)))) ?_
      refine h_take 4 rfl (by kernel_rfl) (by kernel_rfl) (by kernel_rfl) hSr9 (fun wS hSS => by (have hX := hX.ext hSS; exact (x_move (by conv => lhs; whnf)))) ?_
      refine h_take 5 rfl (by kernel_rfl) (by kernel_rfl) (by kernel_rfl) hSr9 (fun wS hSS => by (have hX := hX.ext hSS; exact (x_slice_hN u22 sz5 rfl rfl (by omega)))) ?_
      refine h_take 6 rfl (by kernel_rfl) (by kernel_rfl) (by kernel_rfl) hSr9 (fun wS hSS => by (have hX := hX.ext hSS; exact (x_bytes_str u22 u5 u9 rfl ((hl.ext hX).take (grp xs).1 (by omega))))) ?_
      refine h_one 1 _ rfl (by kernel_rfl) (hop_of_list (fun Q1 hQ1 => ?_))
      refine o_call Try.func98 fn98 fb98 (ref02_Uint (rv (xs.take (grp xs).1)) (rv_lt _) _) rfl ?_
      rintro v4 w4 ⟨⟨q, l2, c2, rfl, hO⟩, hE4⟩
      have hX := hX.ext hE4
      have hSr9 := hSr9.ext hE4
      refine hop_end hQ1 ⟨hSr9, ?_⟩
      refine h_one 2 _ rfl (by kernel_rfl) (hop_of_list (fun Q2 hQ2 => ?_))
      refine p1 (x_bytes_str u22 u5 u9 rfl hO.sl) ?_
      refine hop_end hQ2 ⟨hSr9, ?_⟩
      refine h_take 7 rfl (by kernel_rfl) (by kernel_rfl) (by kernel_rfl) hSr9 (fun wS hSS => by ( exact (x_neq_str rfl rfl))) ?_
      refine h_done (by kernel_rfl) ?_
      refine t_n ?_
      first | refine c_dec rfl (fun hc39 => ?_) (fun hc39 => ?_) | refine c_if rfl (fun hc39 => ?_) (fun hc39 => ?_)
      · try simp only [decide_eq_true_eq, decide_eq_false_iff_not, Bool.not_eq_true, Bool.not_eq_false, Bool.not_eq_eq_eq_not, Bool.not_true, Bool.not_false, Int.not_lt, Int.not_le] at hc39
        have hp : getU xs = (0, 0, 4) := by rw [getU_refU]; unfold refU; rw [if_neg hc15, if_neg (fun e => hc39 (by rw [e]))]
        refine c_seq ?_
        refine r_plain ?_
        refine p1 (x_assign (by conv => lhs; whnf)) ?_
        refine p1 (x_assign (by conv => lhs; whnf)) ?_
        refine p1 (x_assign (by conv => lhs; whnf)) ?_
        refine r_nil ?_
        refine t_n ?_
        refine c_ret ?_
        refine t_r ?_
        refine end3 rfl (by conv => lhs; whnf) (by conv => lhs; whnf) (by conv => lhs; whnf) ?_
        exact ⟨by (rw [hp]; try rfl), hX⟩
      · try simp only [decide_eq_true_eq, decide_eq_false_iff_not, Bool.not_eq_true, Bool.not_eq_false, Bool.not_eq_eq_eq_not, Bool.not_true, Bool.not_false, Int.not_lt, Int.not_le] at hc39
        have hp : getU xs = (rv (xs.take (grp xs).1), (grp xs).1, 0) := by rw [getU_refU]; unfold refU; rw [if_neg hc15, if_pos (toStr_inj (Classical.byContradiction hc39))]
        refine c_skip ?_
        refine t_n ?_
        refine c_seq ?_
        refine r_plain ?_
        refine p1 (x_move (by conv => lhs; whnf)) ?_
        refine p1 (x_move (by conv => lhs; whnf)) ?_
        refine p1 (x_assign (by conv => lhs; whnf)) ?_
        refine p1 (x_assign (by conv => lhs; whnf)) ?_
        refine p1 (x_assign (by conv => lhs; whnf)) ?_
        refine r_nil ?_
        refine t_n ?_
        refine c_ret ?_
        refine end3 rfl (by conv => lhs; whnf) (by conv => lhs; whnf) (by conv => lhs; whnf) ?_
        exact ⟨by (rw [hp]; try rfl), hX⟩
end Go.Proofs.Eng
end
section
set_option linter.unusedVariables false
set_option linter.unusedSimpArgs false
set_option maxRecDepth 100000
set_option maxHeartbeats 4000000
namespace Go.Proofs.Eng
open Go.RowKit
open Extern.Stop (cell)
theorem ref06_Get (xs : List UInt8) (most : Int) (B : Nat) (p : Option Addr) (n c : Nat) (w : World) (hl : Sl kByte 5 B w p n c xs) (hmost : -9223372036854775808 ≤ most ∧ most ≤ 9223372036854775807) (hs : n ≤ 140737490000000) :
    Ret Try.prog 44 [.slice p n c, .int .i64 most] w (fun v w' => (∃ q m c', v = .tuple #[.slice q m c', .int .i64 ((gets xs most).2.1 : Int), .int .i64 (gets xs most).2.2] ∧ Own kHash 35 0 w.heap.size w' q m c' (gets xs most).1) ∧ Ext w w') := by
  have hX := Ext.refl w
  refine enter 76 _ Try.func44 rfl rfl (Nat.le_of_ble_eq_true rfl) ?_
  refine c_seq ?_
  refine r_plain ?_
  refine p1 (x_assign (by conv => lhs; whnf)) ?_
  refine p1 (x_assign (by conv => lhs; whnf)) ?_
  refine p1 (x_assign (by conv => lhs; whnf)) ?_
  refine r_nil ?_
  refine t_n ?_
  refine c_seq ?_
  have hlen := hl.len
  have hfit := hl.fit
  have hcap := hl.cap
  refine r_plain ?_
  refine p1 (x_move (by conv => lhs; whnf)) ?_
  refine o_call Try.func97 fn97 fb97 (ref02_GetUint xs _ _ _ _ _ (hl.ext hX)) rfl ?_
  rintro v1 w1 ⟨rfl, hE1⟩
  have hX := hX.ext hE1
  refine p1 (x_move (by conv => lhs; whnf)) ?_
  refine p1 (x_extract rfl rfl) ?_
  refine p1 (x_extract rfl rfl) ?_
  refine p1 (x_extract rfl rfl) ?_
  refine p1 (x_assign (by conv => lhs; whnf)) ?_
  refine p1 (x_assign (by conv => lhs; whnf)) ?_
  refine p1 (x_assign (by conv => lhs; whnf)) ?_
  refine r_nil ?_
  refine t_n ?_
  refine c_seq ?_
  refine c_block ?_
  refine c_seq ?_
  refine r_plain ?_
  refine p1 (x_move (by conv => lhs; whnf)) ?_
  refine p1 (x_neq rfl rfl) ?_
  refine p1 (x_assign (by conv => lhs; whnf)) ?_
  refine r_nil ?_
  refine t_n ?_
  first | refine c_dec rfl (fun hc20 => ?_) (fun hc20 => ?_) | refine c_if rfl (fun hc20 => ?_) (fun hc20 => ?_)
  · try simp only [decide_eq_true_eq, decide_eq_false_iff_not, Bool.not_eq_true, Bool.not_eq_false, Bool.not_eq_eq_eq_not, Bool.not_true, Bool.not_false, Int.not_lt, Int.not_le] at hc20
    have hp : gets xs most = ([], 0, (getU xs).2.2) := by unfold gets; rw [if_pos hc20]
    refine c_seq ?_
    refine r_plain ?_
    refine p1 (x_move (by conv => lhs; whnf)) ?_
    refine p1 (x_assign (by conv => lhs; whnf)) ?_
    refine p1 (x_assign (by conv => lhs; whnf)) ?_
    refine p1 (x_assign (by conv => lhs; whnf)) ?_
    refine r_nil ?_
    refine t_n ?_
    refine c_ret ?_
    refine b_r ?_
    refine t_r ?_
    refine end3 rfl (by conv => lhs; whnf) (by conv => lhs; whnf) (by conv => lhs; whnf) ?_
    first | exact ⟨⟨none, 0, 0, by (rw [hp]; try rfl), (by rw [hp]; exact Own.nil _ _ _ _ _)⟩, hX⟩ | exact ⟨⟨_, _, _, by (rw [hp]; try rfl), by rw [hp]; exact hO⟩, hX⟩
  · try simp only [decide_eq_true_eq, decide_eq_false_iff_not, Bool.not_eq_true, Bool.not_eq_false, Bool.not_eq_eq_eq_not, Bool.not_true, Bool.not_false, Int.not_lt, Int.not_le] at hc20
    have he0 : (getU xs).2.2 = 0 := Classical.byContradiction hc20
    obtain ⟨hk1, hk2, hk3, hk4⟩ := getU_bounds he0
    refine c_seq ?_
    have hWr4 := Ext.refl w1
    refine c_cut (ι := Unit) [24, 25, 26, 27, 28, 29, 30, 31, 32] (fun _ => [(24, .bool (decide (most < 0 ∨ most < ((getU xs).1 : Int))))]) (fun _ w' => Ext w1 w') ?_ ?_
    · skip
      refine r_plain ?_
      refine p1 (x_move (by conv => lhs; whnf)) ?_
      refine p1 (x_lss rfl rfl) ?_
      refine p1b (x_move (by conv => lhs; whnf)) (fun hb4_2 => ?_) (fun hb4_2 => ?_)
      · try simp only [decide_eq_true_eq, decide_eq_false_iff_not, Bool.not_eq_true, Bool.not_eq_false, Bool.not_eq_eq_eq_not, Bool.not_true, Bool.not_false, Int.not_lt, Int.not_le] at hb4_2
        refine g0 27 rfl (by first | exact .inl rfl | exact .inr rfl) ?_
        refine g0 27 rfl (by first | exact .inl rfl | exact .inr rfl) ?_
        refine g0 27 rfl (by first | exact .inl rfl | exact .inr rfl) ?_
        refine g0 27 rfl (by first | exact .inl rfl | exact .inr rfl) ?_
        refine p1 (x_pick_t rfl (by conv => lhs; whnf)) ?_
        refine p1 (x_assign (by conv => lhs; whnf)) ?_
        refine r_nil ?_
        refine t_n (At.mk () (by repeat (first | exact Agr.refl _ _ | exact Agr.hav _ _ _ | refine Agr.upd rfl ?_ | refine Agr.updL ?_ _ rfl | refine Agr.hav' rfl ?_)) ⟨congrArg Value.bool (by first | rfl | exact (decide_eq_true (by omega)).symm | exact (decide_eq_false (by omega)).symm | exact decide_eq_decide.2 (by omega) | (simp_all; done) | grind), trivial⟩ hWr4)
      · try simp only [decide_eq_true_eq, decide_eq_false_iff_not, Bool.not_eq_true, Bool.not_eq_false, Bool.not_eq_eq_eq_not, Bool.not_true, Bool.not_false, Int.not_lt, Int.not_le] at hb4_2
        refine g1 27 rfl rfl (x_move (by conv => lhs; whnf)) ?_
        refine g1 27 rfl rfl (x_move (by conv => lhs; whnf)) ?_
        refine g1 27 rfl rfl (x_convf u95 us3 rfl (fits_u64 (by omega) (by omega))) ?_
        refine g1 27 rfl rfl (x_gtr rfl rfl) ?_
        refine p1 (x_pick_f rfl (by conv => lhs; whnf)) ?_
        refine p1 (x_assign (by conv => lhs; whnf)) ?_
        refine r_nil ?_
        refine t_n (At.mk () (by repeat (first | exact Agr.refl _ _ | exact Agr.hav _ _ _ | refine Agr.upd rfl ?_ | refine Agr.updL ?_ _ rfl | refine Agr.hav' rfl ?_)) ⟨congrArg Value.bool (by first | rfl | exact (decide_eq_true (by omega)).symm | exact (decide_eq_false (by omega)).symm | exact decide_eq_decide.2 (by omega) | (simp_all; done) | grind), trivial⟩ hWr4)
    · rintro _ Gr4 w2 hE2
      have hX := hX.ext hE2
      refine t_n ?_
      first | refine c_dec rfl (fun hc24 => ?_) (fun hc24 => ?_) | refine c_if rfl (fun hc24 => ?_) (fun hc24 => ?_)
      · try simp only [decide_eq_true_eq, decide_eq_false_iff_not, Bool.not_eq_true, Bool.not_eq_false, Bool.not_eq_eq_eq_not, Bool.not_true, Bool.not_false, Int.not_lt, Int.not_le] at hc24
        have hp : gets xs most = ([], 0, 5) := by unfold gets; rw [if_neg hc20, if_pos hc24]
        refine c_seq ?_
        refine r_plain ?_
        refine p1 (x_assign (by conv => lhs; whnf)) ?_
        refine p1 (x_assign (by conv => lhs; whnf)) ?_
        refine p1 (x_assign (by conv => lhs; whnf)) ?_
        refine r_nil ?_
        refine t_n ?_
        refine c_ret ?_
        refine b_r ?_
        refine t_r ?_
        refine end3 rfl (by conv => lhs; whnf) (by conv => lhs; whnf) (by conv => lhs; whnf) ?_
        first | exact ⟨⟨none, 0, 0, by (rw [hp]; try rfl), (by rw [hp]; exact Own.nil _ _ _ _ _)⟩, hX⟩ | exact ⟨⟨_, _, _, by (rw [hp]; try rfl), by rw [hp]; exact hO⟩, hX⟩
      · try simp only [decide_eq_true_eq, decide_eq_false_iff_not, Bool.not_eq_true, Bool.not_eq_false, Bool.not_eq_eq_eq_not, Bool.not_true, Bool.not_false, Int.not_lt, Int.not_le] at hc24
        refine c_seq ?_
        refine r_plain ?_
        refine p1 (x_move (by conv => lhs; whnf)) ?_
        refine p1 (x_move (by conv => lhs; whnf)) ?_
        refine p1 (x_len_slice u22 rfl) ?_
        refine p1 (x_move (by conv => lhs; whnf)) ?_
        refine p1 (x_sub rfl rfl (fits_i64 (by omega) (by omega))) ?_
        refine p1 (x_convf u95 us3 rfl (fits_u64 (by omega) (by omega))) ?_
        refine p1 (x_quo rfl rfl (by omega) (by omega) (fits_u64 (by omega) (by omega))) ?_
        refine p1 (x_gtr rfl rfl) ?_
        refine p1 (x_assign (by conv => lhs; whnf)) ?_
        refine r_nil ?_
        refine t_n ?_
        first | refine c_dec rfl (fun hc33 => ?_) (fun hc33 => ?_) | refine c_if rfl (fun hc33 => ?_) (fun hc33 => ?_)
        · try simp only [decide_eq_true_eq, decide_eq_false_iff_not, Bool.not_eq_true, Bool.not_eq_false, Bool.not_eq_eq_eq_not, Bool.not_true, Bool.not_false, Int.not_lt, Int.not_le] at hc33
          have hp : gets xs most = ([], 0, 3) := by unfold gets; rw [if_neg hc20, if_neg hc24, if_pos (by omega)]
          refine c_seq ?_
          refine r_plain ?_
          refine p1 (x_assign (by conv => lhs; whnf)) ?_
          refine p1 (x_assign (by conv => lhs; whnf)) ?_
          refine p1 (x_assign (by conv => lhs; whnf)) ?_
          refine r_nil ?_
          refine t_n ?_
          refine c_ret ?_
          refine b_r ?_
          refine t_r ?_
          refine end3 rfl (by conv => lhs; whnf) (by conv => lhs; whnf) (by conv => lhs; whnf) ?_
          first | exact ⟨⟨none, 0, 0, by (rw [hp]; try rfl), (by rw [hp]; exact Own.nil _ _ _ _ _)⟩, hX⟩ | exact ⟨⟨_, _, _, by (rw [hp]; try rfl), by rw [hp]; exact hO⟩, hX⟩
        · try simp only [decide_eq_true_eq, decide_eq_false_iff_not, Bool.not_eq_true, Bool.not_eq_false, Bool.not_eq_eq_eq_not, Bool.not_true, Bool.not_false, Int.not_lt, Int.not_le] at hc33
          have hNk : (getU xs).2.1 + 32 * (getU xs).1 ≤ xs.length := by omega
          refine c_skip ?_
          refine b_n ?_
          refine t_n ?_
          refine c_seq ?_
          refine r_plain ?_
          refine p1 (x_assign (by conv => lhs; whnf)) ?_
          refine r_nil ?_
          refine t_n ?_
          refine c_seq ?_
          refine c_seq ?_
          refine r_plain ?_
          refine p1 (x_assign (by conv => lhs; whnf)) ?_
          refine r_nil ?_
          refine t_n ?_
          refine c_block ?_
          have hO := Own.nil kHash 35 0 w.heap.size
          refine c_loop (ι := Nat × Option Addr × Nat × Nat) [10, 11, 12, 13, 42, 43, 44, 45, 46, 47, 48, 49, 50, 51, 52, 53, 54, 55, 56, 57, 58, 59, 60, 61, 62, 63, 64, 65, 66] (fun (i, q, m, c1) => [(10, .slice q m c1), (11, .int .i64 (i : Int))]) (fun (i, q, m, c1) w' => Ext w w' ∧ (Own kHash 35 0 w.heap.size w' q m c1 (hashesAt xs (getU xs).2.1 i) ∧ i ≤ (getU xs).1 ∧ m = i)) (fun (i, q, m, c1) => (getU xs).1 - i) ((0, none, 0, 0)) ⟨rfl, rfl, trivial⟩ ⟨hX, ⟨hO _, by omega, rfl⟩⟩ ?_
          rintro ⟨i, q, m, c1⟩ GL1 w3 ⟨hE3, hO, hi, hm⟩
          have hX := hE3
          refine c_seq ?_
          refine c_seq ?_
          refine r_plain ?_
          refine p1 (x_move (by conv => lhs; whnf)) ?_
          refine p1 (x_move (by conv => lhs; whnf)) ?_
          refine p1 (x_convf u3 us95 rfl (fits_i64 (by omega) (by omega))) ?_
          refine p1 (x_lss rfl rfl) ?_
          refine r_nil ?_
          refine t_n ?_
          first | refine c_dec rfl (fun hc45 => ?_) (fun hc45 => ?_) | refine c_if rfl (fun hc45 => ?_) (fun hc45 => ?_)
          · try simp only [decide_eq_true_eq, decide_eq_false_iff_not, Bool.not_eq_true, Bool.not_eq_false, Bool.not_eq_eq_eq_not, Bool.not_true, Bool.not_false, Int.not_lt, Int.not_le] at hc45
            refine c_skip ?_
            refine t_n ?_
            refine c_seq ?_
            refine c_block ?_
            refine c_seq ?_
            refine r_plain ?_
            have hXs := hX.size
            have hOlt0 := hO.below
            refine o_alloc zr35 ?_
            intro w4 g12 hN12
            have hE4 := hN12.ext
            have hX := hX.ext hE4
            have hO := hO.ext hE4
            have hB12 := hN12.blk
            refine r_nil ?_
            refine t_n ?_
            refine c_seq ?_
            refine c_seq ?_
            have hg12 : w.heap.size ≤ g12 := by have := hN12.g_eq; omega
            have hOlt : q = none ∨ ab q < g12 := by rw [hN12.g_eq]; exact hOlt0
            have hB12 : Blk _ g12 (hv hZero) 35 := hB12
            refine r_plain ?_
            refine p1 (x_assign (by conv => lhs; whnf)) ?_
            refine r_nil ?_
            refine t_n ?_
            refine c_block ?_
            refine c_loop (ι := Nat × Hash) [13, 48, 49, 50, 51, 52, 53, 54, 55, 56, 57, 58, 59, 60, 61, 62] (fun (c2, h) => [(13, .int .i64 (c2 : Int))]) (fun (c2, h) w' => Ext w w' ∧ (Own kHash 35 0 w.heap.size w' q m c1 (hashesAt xs (getU xs).2.1 i) ∧ Blk w' g12 (hv h) 35 ∧ c2 ≤ 32 ∧ h.1.take c2 = (hashAt xs ((getU xs).2.1 + 32 * i)).1.take c2)) (fun (c2, h) => 32 - c2) ((0, hZero)) ⟨rfl, trivial⟩ ⟨hX, ⟨hO, hB12, by omega, rfl⟩⟩ ?_
            rintro ⟨c2, h⟩ GL3 w5 ⟨hE5, hO, hB12, hc2, hh⟩
            have hX := hE5
            refine c_seq ?_
            refine c_seq ?_
            refine r_plain ?_
            refine p1 (x_move (by conv => lhs; whnf)) ?_
            refine p1 (x_lss rfl rfl) ?_
            refine r_nil ?_
            refine t_n ?_
            first | refine c_dec rfl (fun hc49 => ?_) (fun hc49 => ?_) | refine c_if rfl (fun hc49 => ?_) (fun hc49 => ?_)
            · try simp only [decide_eq_true_eq, decide_eq_false_iff_not, Bool.not_eq_true, Bool.not_eq_false, Bool.not_eq_eq_eq_not, Bool.not_true, Bool.not_false, Int.not_lt, Int.not_le] at hc49
              refine c_skip ?_
              refine t_n ?_
              refine c_seq ?_
              refine c_block ?_
              have ez : (((getU xs).2.1 : Int) + 32 * (i : Int) + (c2 : Int)).toNat = (getU xs).2.1 + 32 * i + c2 := by omega
              refine r_plain ?_
              refine p1 (x_move (by conv => lhs; whnf)) ?_
              refine p1 (x_move (by conv => lhs; whnf)) ?_
              refine p1 (x_move (by conv => lhs; whnf)) ?_
              refine p1 (x_move (by conv => lhs; whnf)) ?_
              refine p1 (x_mul rfl rfl (fits_i64 (by omega) (by omega))) ?_
              refine p1 (x_add rfl rfl (fits_i64 (by omega) (by omega))) ?_
              refine p1 (x_move (by conv => lhs; whnf)) ?_
              refine p1 (x_add rfl rfl (fits_i64 (by omega) (by omega))) ?_
              refine p1 (x_ixs u22 sz5 rfl rfl ((hl.ext hX).adr kByte_pos (by omega)) (by omega) (by omega)) ?_
              refine p1 ((x_load1 un5 rfl ((hl.ext hX).byteAtI _ (by omega) (by omega))).cast (by rw [ez])) ?_
              refine p1 (x_ixa0 u35 sz5 rfl rfl (by omega)) ?_
              refine o_store1 rfl (by conv => lhs; whnf) rfl rfl sz5 hB12 (by rw [hv_size]; omega) ?_
              intro w6 hP6
              have hX := hX.put hP6 (hg12)
              have hO := hO.modB (hP6.mod g12 (Nat.le_refl _)) (Nat.zero_le _) (by decide) hOlt
              have hB12 := hP6.blk
              rw [hv_put] at hB12
              refine r_nil ?_
              refine b_n ?_
              refine t_n ?_
              refine r_plain ?_
              refine p1 (x_move (by conv => lhs; whnf)) ?_
              refine p1 (x_add rfl rfl (fits_i64 (by omega) (by omega))) ?_
              refine p1 (x_assign (by conv => lhs; whnf)) ?_
              refine r_nil ?_
              refine t_n (At.mk ((c2 + 1, h.put c2 (xs.getD ((getU xs).2.1 + 32 * i + c2) 0))) (by repeat (first | exact Agr.refl _ _ | exact Agr.hav _ _ _ | refine Agr.upd rfl ?_ | refine Agr.updL ?_ _ rfl | refine Agr.hav' rfl ?_)) ⟨rfl, trivial⟩ ?_)
              exact ⟨⟨hX, ⟨hO, hB12, by omega, hashAt_step (by omega) hh⟩⟩, by first | (dsimp only; omega) | ((show _ < _); omega)⟩
            · try simp only [decide_eq_true_eq, decide_eq_false_iff_not, Bool.not_eq_true, Bool.not_eq_false, Bool.not_eq_eq_eq_not, Bool.not_true, Bool.not_false, Int.not_lt, Int.not_le] at hc49
              have hc32 : c2 = 32 := by omega
              rw [hc32] at hh
              have hhh := hash_of_take hh
              subst hhh
              refine c_exit ?_
              refine t_e ?_
              refine t_e ?_
              refine b_hit ?_
              refine t_n ?_
              refine r_plain ?_
              refine p1 (x_move (by conv => lhs; whnf)) ?_
              refine p1 (x_loadB ua35 rfl hB12 (hv_sz sz35 _)) ?_
              refine o_buildSlice u31 inf35 rfl (by decide) (fun base hb => fill_kn [.agg (hv (hashAt xs ((getU xs).2.1 + 32 * i)))] (by intro v hv'; simp only [List.mem_singleton] at hv'; subst hv'; simp [Value.cells, hv, hcs_len]) base hb) ?_
              intro w7 g65 hN65
              have hE7 := hN65.ext
              have hX := hX.ext hE7
              have hO := hO.ext hE7
              have hB12 := hB12.ext hE7
              have hJ : Own kHash 35 0 0 w7 (some ⟨g65, 0, none⟩) 1 1 [(hashAt xs ((getU xs).2.1 + 32 * i))] := own_lit [(hashAt xs ((getU xs).2.1 + 32 * i))] hN65 (Nat.zero_le _) (by simp)
              have hB1 := hX.size
              refine o_append (d := kHash) ([(hashAt xs ((getU xs).2.1 + 32 * i))]) u31 inf35 rfl kHash_pos rfl rfl hO (src_pure u31 hJ.sl (by decide)) rfl (hash_all _ _ _) (rfl) (by omega) (by omega) (by omega) (by omega) (by decide) ?_
              intro p66 c66 w8 hO hM8
              have hX := hX.mod hM8 (Nat.le_refl _)
              refine p1 (x_assign (by conv => lhs; whnf)) ?_
              refine r_nil ?_
              refine b_n ?_
              refine t_n ?_
              refine r_plain ?_
              refine p1 (x_move (by conv => lhs; whnf)) ?_
              refine p1 (x_add rfl rfl (fits_i64 (by omega) (by omega))) ?_
              refine p1 (x_assign (by conv => lhs; whnf)) ?_
              refine r_nil ?_
              refine t_n (At.mk ((i + 1, p66, m + 1, c66)) (by repeat (first | exact Agr.refl _ _ | exact Agr.hav _ _ _ | refine Agr.upd rfl ?_ | refine Agr.updL ?_ _ rfl | refine Agr.hav' rfl ?_)) ⟨rfl, rfl, trivial⟩ ?_)
              exact ⟨⟨hX, ⟨by rw [hashesAt_succ]; exact hO, by omega, by omega⟩⟩, by first | (dsimp only; omega) | ((show _ < _); omega)⟩
          · try simp only [decide_eq_true_eq, decide_eq_false_iff_not, Bool.not_eq_true, Bool.not_eq_false, Bool.not_eq_eq_eq_not, Bool.not_true, Bool.not_false, Int.not_lt, Int.not_le] at hc45
            have hiN : i = (getU xs).1 := by omega
            subst hiN
            refine c_exit ?_
            refine t_e ?_
            refine t_e ?_
            refine b_hit ?_
            refine t_n ?_
            refine c_seq ?_
            refine c_seq ?_
            refine r_plain ?_
            refine p1 (x_move (by conv => lhs; whnf)) ?_
            refine o_call Try.func39 fn39 fb39 (ref06_Rising _ _ _ _ _ _ hO.sl) rfl ?_
            rintro v9 w9 ⟨rfl, hE9⟩
            have hX := hX.ext hE9
            have hO := hO.ext hE9
            first | refine p1 (x_notd rfl) ?_ | refine p1 (x_not rfl) ?_
            refine r_nil ?_
            refine t_n ?_
            first | refine c_dec rfl (fun hc69 => ?_) (fun hc69 => ?_) | refine c_if rfl (fun hc69 => ?_) (fun hc69 => ?_)
            · try simp only [decide_eq_true_eq, decide_eq_false_iff_not, Bool.not_eq_true, Bool.not_eq_false, Bool.not_eq_eq_eq_not, Bool.not_true, Bool.not_false, Int.not_lt, Int.not_le] at hc69
              have hp : gets xs most = ([], 0, 4) := by unfold gets; rw [if_neg hc20, if_neg hc24, if_neg (by omega), if_pos hc69]
              refine c_seq ?_
              refine r_plain ?_
              refine p1 (x_assign (by conv => lhs; whnf)) ?_
              refine p1 (x_assign (by conv => lhs; whnf)) ?_
              refine p1 (x_assign (by conv => lhs; whnf)) ?_
              refine r_nil ?_
              refine t_n ?_
              refine c_ret ?_
              refine t_r ?_
              refine end3 rfl (by conv => lhs; whnf) (by conv => lhs; whnf) (by conv => lhs; whnf) ?_
              first | exact ⟨⟨none, 0, 0, by (rw [hp]; try rfl), (by rw [hp]; exact Own.nil _ _ _ _ _)⟩, hX⟩ | exact ⟨⟨_, _, _, by (rw [hp]; try rfl), by rw [hp]; exact hO⟩, hX⟩
            · try simp only [decide_eq_true_eq, decide_eq_false_iff_not, Bool.not_eq_true, Bool.not_eq_false, Bool.not_eq_eq_eq_not, Bool.not_true, Bool.not_false, Int.not_lt, Int.not_le] at hc69
              have hp : gets xs most = (hashesAt xs (getU xs).2.1 (getU xs).1, (getU xs).2.1 + 32 * (getU xs).1, 0) := by unfold gets; rw [if_neg hc20, if_neg hc24, if_neg (by omega), if_neg (by simp [hc69])]
              refine c_skip ?_
              refine t_n ?_
              refine c_seq ?_
              refine r_plain ?_
              refine p1 (x_move (by conv => lhs; whnf)) ?_
              refine p1 (x_move (by conv => lhs; whnf)) ?_
              refine p1 (x_move (by conv => lhs; whnf)) ?_
              refine p1 (x_convf u3 us95 rfl (fits_i64 (by omega) (by omega))) ?_
              refine p1 (x_mul rfl rfl (fits_i64 (by omega) (by omega))) ?_
              refine p1 (x_add rfl rfl (fits_i64 (by omega) (by omega))) ?_
              refine p1 (x_assign (by conv => lhs; whnf)) ?_
              refine p1 (x_assign (by conv => lhs; whnf)) ?_
              refine p1 (x_assign (by conv => lhs; whnf)) ?_
              refine r_nil ?_
              refine t_n ?_
              refine c_ret ?_
              refine end3 rfl (by conv => lhs; whnf) (by conv => lhs; whnf) (by conv => lhs; whnf) ?_
              first | exact ⟨⟨none, 0, 0, by (rw [hp]; try rfl), (by rw [hp]; exact Own.nil _ _ _ _ _)⟩, hX⟩ | exact ⟨⟨_, _, _, by (rw [hp]; try rfl), by rw [hp]; exact hO⟩, hX⟩
end Go.Proofs.Eng
end
section
set_option linter.unusedVariables false
set_option linter.unusedSimpArgs false
set_option maxRecDepth 100000
set_option maxHeartbeats 4000000
namespace Go.Proofs.Eng
open Go.RowKit
open Extern.Stop (cell)
theorem leb_GetText (xs : List UInt8) (most : Int) (B : Nat) (p : Option Addr) (n c : Nat) (w : World) (hl : Sl kByte 5 B w p n c xs) (hmost : -9223372036854775808 ≤ most ∧ most ≤ 9223372036854775807) (hs : n ≤ 140737490000000) :
    Ret Try.prog 76 [.slice p n c, .int .i64 most] w (fun v w' => v = .tuple #[.string (getT xs most).1, .int .i64 ((getT xs most).2.1 : Int), .int .i64 (getT xs most).2.2] ∧ Ext w w') := by
  have hX := Ext.refl w
  refine enter 48 _ Try.func76 rfl rfl (Nat.le_of_ble_eq_true rfl) ?_
  refine c_seq ?_
  refine r_plain ?_
  refine p1 (x_assign (by conv => lhs; whnf)) ?_
  refine p1 (x_assign (by conv => lhs; whnf)) ?_
  refine p1 (x_assign (by conv => lhs; whnf)) ?_
  refine r_nil ?_
  refine t_n ?_
  refine c_seq ?_
  have hlen := hl.len
  have hfit := hl.fit
  have hcap := hl.cap
  refine r_plain ?_
  refine p1 (x_move (by conv => lhs; whnf)) ?_
  refine o_call Try.func74 fn74 fb74 (leb_GetUint xs _ _ _ _ _ (hl.ext hX)) rfl ?_
  rintro v1 w1 ⟨rfl, hE1⟩
  have hX := hX.ext hE1
  refine p1 (x_move (by conv => lhs; whnf)) ?_
  refine p1 (x_extract rfl rfl) ?_
  refine p1 (x_extract rfl rfl) ?_
  refine p1 (x_extract rfl rfl) ?_
  refine p1 (x_assign (by conv => lhs; whnf)) ?_
  refine p1 (x_assign (by conv => lhs; whnf)) ?_
  refine p1 (x_assign (by conv => lhs; whnf)) ?_
  refine r_nil ?_
  refine t_n ?_
  refine c_seq ?_
  refine c_block ?_
  refine c_seq ?_
  refine r_plain ?_
  refine p1 (x_move (by conv => lhs; whnf)) ?_
  refine p1 (x_neq rfl rfl) ?_
  refine p1 (x_assign (by conv => lhs; whnf)) ?_
  refine r_nil ?_
  refine t_n ?_
  first | refine c_dec rfl (fun hc15 => ?_) (fun hc15 => ?_) | refine c_if rfl (fun hc15 => ?_) (fun hc15 => ?_)
  · try simp only [decide_eq_true_eq, decide_eq_false_iff_not, Bool.not_eq_true, Bool.not_eq_false, Bool.not_eq_eq_eq_not, Bool.not_true, Bool.not_false, Int.not_lt, Int.not_le] at hc15
    have hp : getT xs most = (ByteArray.empty, 0, (getU xs).2.2) := by unfold getT; rw [if_pos hc15]
    refine c_seq ?_
    refine r_plain ?_
    refine p1 (x_move (by conv => lhs; whnf)) ?_
    refine p1 (x_assign (by conv => lhs; whnf)) ?_
    refine p1 (x_assign (by conv => lhs; whnf)) ?_
    refine p1 (x_assign (by conv => lhs; whnf)) ?_
    refine r_nil ?_
    refine t_n ?_
    refine c_ret ?_
    refine b_r ?_
    refine t_r ?_
    refine end3 rfl (by conv => lhs; whnf) (by conv => lhs; whnf) (by conv => lhs; whnf) ?_
    exact ⟨by (rw [hp]; try rfl), hX⟩
  · try simp only [decide_eq_true_eq, decide_eq_false_iff_not, Bool.not_eq_true, Bool.not_eq_false, Bool.not_eq_eq_eq_not, Bool.not_true, Bool.not_false, Int.not_lt, Int.not_le] at hc15
    have he0 : (getU xs).2.2 = 0 := Classical.byContradiction hc15
    obtain ⟨hk1, hk2, hk3, hk4⟩ := getU_bounds he0
    refine c_seq ?_
    have hWr4 := Ext.refl w1
    refine c_cut (ι := Unit) [19, 20, 21, 22, 23, 24, 25, 26, 27] (fun _ => [(19, .bool (decide (most < 0 ∨ most < ((getU xs).1 : Int))))]) (fun _ w' => Ext w1 w') ?_ ?_
    · skip
      refine r_plain ?_
      refine p1 (x_move (by conv => lhs; whnf)) ?_
      refine p1 (x_lss rfl rfl) ?_
      refine p1b (x_move (by conv => lhs; whnf)) (fun hb4_2 => ?_) (fun hb4_2 => ?_)
      · try simp only [decide_eq_true_eq, decide_eq_false_iff_not, Bool.not_eq_true, Bool.not_eq_false, Bool.not_eq_eq_eq_not, Bool.not_true, Bool.not_false, Int.not_lt, Int.not_le] at hb4_2
        refine g0 22 rfl (by first | exact .inl rfl | exact .inr rfl) ?_
        refine g0 22 rfl (by first | exact .inl rfl | exact .inr rfl) ?_
        refine g0 22 rfl (by first | exact .inl rfl | exact .inr rfl) ?_
        refine g0 22 rfl (by first | exact .inl rfl | exact .inr rfl) ?_
        refine p1 (x_pick_t rfl (by conv => lhs; whnf)) ?_
        refine p1 (x_assign (by conv => lhs; whnf)) ?_
        refine r_nil ?_
        refine t_n (At.mk () (by repeat (first | exact Agr.refl _ _ | exact Agr.hav _ _ _ | refine Agr.upd rfl ?_ | refine Agr.updL ?_ _ rfl | refine Agr.hav' rfl ?_)) ⟨congrArg Value.bool (by first | rfl | exact (decide_eq_true (by omega)).symm | exact (decide_eq_false (by omega)).symm | exact decide_eq_decide.2 (by omega) | (simp_all; done) | grind), trivial⟩ hWr4)
      · try simp only [decide_eq_true_eq, decide_eq_false_iff_not, Bool.not_eq_true, Bool.not_eq_false, Bool.not_eq_eq_eq_not, Bool.not_true, Bool.not_false, Int.not_lt, Int.not_le] at hb4_2
        refine g1 22 rfl rfl (x_move (by conv => lhs; whnf)) ?_
        refine g1 22 rfl rfl (x_move (by conv => lhs; whnf)) ?_
        refine g1 22 rfl rfl (x_convf u95 us3 rfl (fits_u64 (by omega) (by omega))) ?_
        refine g1 22 rfl rfl (x_gtr rfl rfl) ?_
        refine p1 (x_pick_f rfl (by conv => lhs; whnf)) ?_
        refine p1 (x_assign (by conv => lhs; whnf)) ?_
        refine r_nil ?_
        refine t_n (At.mk () (by repeat (first | exact Agr.refl _ _ | exact Agr.hav _ _ _ | refine Agr.upd rfl ?_ | refine Agr.updL ?_ _ rfl | refine Agr.hav' rfl ?_)) ⟨congrArg Value.bool (by first | rfl | exact (decide_eq_true (by omega)).symm | exact (decide_eq_false (by omega)).symm | exact decide_eq_decide.2 (by omega) | (simp_all; done) | grind), trivial⟩ hWr4)
    · rintro _ Gr4 w2 hE2
      have hX := hX.ext hE2
      refine t_n ?_
      first | refine c_dec rfl (fun hc19 => ?_) (fun hc19 => ?_) | refine c_if rfl (fun hc19 => ?_) (fun hc19 => ?_)
      · try simp only [decide_eq_true_eq, decide_eq_false_iff_not, Bool.not_eq_true, Bool.not_eq_false, Bool.not_eq_eq_eq_not, Bool.not_true, Bool.not_false, Int.not_lt, Int.not_le] at hc19
        have hp : getT xs most = (ByteArray.empty, 0, 5) := by unfold getT; rw [if_neg hc15, if_pos hc19]
        refine c_seq ?_
        refine r_plain ?_
        refine p1 (x_assign (by conv => lhs; whnf)) ?_
        refine p1 (x_assign (by conv => lhs; whnf)) ?_
        refine p1 (x_assign (by conv => lhs; whnf)) ?_
        refine r_nil ?_
        refine t_n ?_
        refine c_ret ?_
        refine b_r ?_
        refine t_r ?_
        refine end3 rfl (by conv => lhs; whnf) (by conv => lhs; whnf) (by conv => lhs; whnf) ?_
        exact ⟨by (rw [hp]; try rfl), hX⟩
      · try simp only [decide_eq_true_eq, decide_eq_false_iff_not, Bool.not_eq_true, Bool.not_eq_false, Bool.not_eq_eq_eq_not, Bool.not_true, Bool.not_false, Int.not_lt, Int.not_le] at hc19
        refine c_seq ?_
        refine r_plain ?_
        refine p1 (x_move (by conv => lhs; whnf)) ?_
        refine p1 (x_move (by conv => lhs; whnf)) ?_
        refine p1 (x_len_slice u22 rfl) ?_
        refine p1 (x_move (by conv => lhs; whnf)) ?_
        refine p1 (x_sub rfl rfl (fits_i64 (by omega) (by omega))) ?_
        refine p1 (x_convf u95 us3 rfl (fits_u64 (by omega) (by omega))) ?_
        refine p1 (x_gtr rfl rfl) ?_
        refine p1 (x_assign (by conv => lhs; whnf)) ?_
        refine r_nil ?_
        refine t_n ?_
        first | refine c_dec rfl (fun hc28 => ?_) (fun hc28 => ?_) | refine c_if rfl (fun hc28 => ?_) (fun hc28 => ?_)
        · try simp only [decide_eq_true_eq, decide_eq_false_iff_not, Bool.not_eq_true, Bool.not_eq_false, Bool.not_eq_eq_eq_not, Bool.not_true, Bool.not_false, Int.not_lt, Int.not_le] at hc28
          have hp : getT xs most = (ByteArray.empty, 0, 3) := by unfold getT; rw [if_neg hc15, if_neg hc19, if_pos (by omega)]
          refine c_seq ?_
          refine r_plain ?_
          refine p1 (x_assign (by conv => lhs; whnf)) ?_
          refine p1 (x_assign (by conv => lhs; whnf)) ?_
          refine p1 (x_assign (by conv => lhs; whnf)) ?_
          refine r_nil ?_
          refine t_n ?_
          refine c_ret ?_
          refine b_r ?_
          refine t_r ?_
          refine end3 rfl (by conv => lhs; whnf) (by conv => lhs; whnf) (by conv => lhs; whnf) ?_
          exact ⟨by (rw [hp]; try rfl), hX⟩
        · try simp only [decide_eq_true_eq, decide_eq_false_iff_not, Bool.not_eq_true, Bool.not_eq_false, Bool.not_eq_eq_eq_not, Bool.not_true, Bool.not_false, Int.not_lt, Int.not_le] at hc28
          have hNk : (getU xs).2.1 + (getU xs).1 ≤ xs.length := by omega
          have hp : getT xs most = (toStr ((xs.drop (getU xs).2.1).take (getU xs).1), (getU xs).2.1 + (getU xs).1, 0) := by unfold getT; rw [if_neg hc15, if_neg hc19, if_neg (by omega)]
          have hsub := ((hl.ext hX).dropI (getU xs).2.1 (by omega)).take (getU xs).1 (by omega)
          have es : (((getU xs).2.1 : Int) + ((getU xs).1 : Int)).toNat - (getU xs).2.1 = (getU xs).1 := by omega
          have es2 : (((getU xs).2.1 : Nat) : Int).toNat = (getU xs).2.1 := by omega
          refine c_skip ?_
          refine b_n ?_
          refine t_n ?_
          refine c_seq ?_
          refine r_plain ?_
          refine p1 (x_move (by conv => lhs; whnf)) ?_
          refine p1 (x_move (by conv => lhs; whnf)) ?_
          refine p1 (x_move (by conv => lhs; whnf)) ?_
          refine p1 (x_move (by conv => lhs; whnf)) ?_
          refine p1 (x_convf u3 us95 rfl (fits_i64 (by omega) (by omega))) ?_
          refine p1 (x_add rfl rfl (fits_i64 (by omega) (by omega))) ?_
          refine p1 (x_slice_lh u22 sz5 rfl rfl rfl (by omega) (by omega) (by omega)) ?_
          refine p1 (x_bytes_str u22 u5 u9 rfl (by rw [es2, es]; exact hsub)) ?_
          refine p1 (x_move (by conv => lhs; whnf)) ?_
          refine p1 (x_move (by conv => lhs; whnf)) ?_
          refine p1 (x_convf u3 us95 rfl (fits_i64 (by omega) (by omega))) ?_
          refine p1 (x_add rfl rfl (fits_i64 (by omega) (by omega))) ?_
          refine p1 (x_assign (by conv => lhs; whnf)) ?_
          refine p1 (x_assign (by conv => lhs; whnf)) ?_
          refine p1 (x_assign (by conv => lhs; whnf)) ?_
          refine r_nil ?_
          refine t_n ?_
          refine c_ret ?_
          refine end3 rfl (by conv => lhs; whnf) (by conv => lhs; whnf) (by conv => lhs; whnf) ?_
          exact ⟨by (rw [hp]; try rfl), hX⟩
theorem ref02_GetText (xs : List UInt8) (most : Int) (B : Nat) (p : Option Addr) (n c : Nat) (w : World) (hl : Sl kByte 5 B w p n c xs) (hmost : -9223372036854775808 ≤ most ∧ most ≤ 9223372036854775807) (hs : n ≤ 140737490000000) :
    Ret Try.prog 117 [.slice p n c, .int .i64 most] w (fun v w' => v = .tuple #[.string (getT xs most).1, .int .i64 ((getT xs most).2.1 : Int), .int .i64 (getT xs most).2.2] ∧ Ext w w') := by
  have hX := Ext.refl w
  refine enter 49 _ Try.func117 rfl rfl (Nat.le_of_ble_eq_true rfl) ?_
  refine c_seq ?_
  refine r_plain ?_
  refine p1 (x_assign (by conv => lhs; whnf)) ?_
  refine p1 (x_assign (by conv => lhs; whnf)) ?_
  refine p1 (x_assign (by conv => lhs; whnf)) ?_
  refine r_nil ?_
  refine t_n ?_
  refine c_seq ?_
  have hlen := hl.len
  have hfit := hl.fit
  have hcap := hl.cap
  refine r_plain ?_
  refine p1 (x_move (by conv => lhs; whnf)) ?_
  refine o_call Try.func97 fn97 fb97 (ref02_GetUint xs _ _ _ _ _ (hl.ext hX)) rfl ?_
  rintro v1 w1 ⟨rfl, hE1⟩
  have hX := hX.ext hE1
  refine p1 (x_move (by conv => lhs; whnf)) ?_
  refine p1 (x_extract rfl rfl) ?_
  refine p1 (x_extract rfl rfl) ?_
  refine p1 (x_extract rfl rfl) ?_
  refine p1 (x_assign (by conv => lhs; whnf)) ?_
  refine p1 (x_assign (by conv => lhs; whnf)) ?_
  refine p1 (x_assign (by conv => lhs; whnf)) ?_
  refine r_nil ?_
  refine t_n ?_
  refine c_seq ?_
  refine c_block ?_
  refine c_seq ?_
  refine r_plain ?_
  refine p1 (x_move (by conv => lhs; whnf)) ?_
  refine p1 (x_neq rfl rfl) ?_
  refine p1 (x_assign (by conv => lhs; whnf)) ?_
  refine r_nil ?_
  refine t_n ?_
  first | refine c_dec rfl (fun hc16 => ?_) (fun hc16 => ?_) | refine c_if rfl (fun hc16 => ?_) (fun hc16 => ?_)
  · try simp only [decide_eq_true_eq, decide_eq_false_iff_not, Bool.not_eq_true, Bool.not_eq_false, Bool.not_eq_eq_eq_not, Bool.not_true, Bool.not_false, Int.not_lt, Int.not_le] at hc16
    have hp : getT xs most = (ByteArray.empty, 0, (getU xs).2.2) := by unfold getT; rw [if_pos hc16]
    refine c_seq ?_
    refine r_plain ?_
    refine p1 (x_move (by conv => lhs; whnf)) ?_
    refine p1 (x_assign (by conv => lhs; whnf)) ?_
    refine p1 (x_assign (by conv => lhs; whnf)) ?_
    refine p1 (x_assign (by conv => lhs; whnf)) ?_
    refine r_nil ?_
    refine t_n ?_
    refine c_ret ?_
    refine b_r ?_
    refine t_r ?_
    refine end3 rfl (by conv => lhs; whnf) (by conv => lhs; whnf) (by conv => lhs; whnf) ?_
    exact ⟨by (rw [hp]; try rfl), hX⟩
  · try simp only [decide_eq_true_eq, decide_eq_false_iff_not, Bool.not_eq_true, Bool.not_eq_false, Bool.not_eq_eq_eq_not, Bool.not_true, Bool.not_false, Int.not_lt, Int.not_le] at hc16
    have he0 : (getU xs).2.2 = 0 := Classical.byContradiction hc16
    obtain ⟨hk1, hk2, hk3, hk4⟩ := getU_bounds he0
    refine c_seq ?_
    have hWr4 := Ext.refl w1
    refine c_cut (ι := Unit) [20, 21, 22, 23, 24, 25, 26, 27, 28] (fun _ => [(20, .bool (decide (most < 0 ∨ most < ((getU xs).1 : Int))))]) (fun _ w' => Ext w1 w') ?_ ?_
    · skip
      refine r_plain ?_
      refine p1 (x_move (by conv => lhs; whnf)) ?_
      refine p1 (x_lss rfl rfl) ?_
      refine p1b (x_move (by conv => lhs; whnf)) (fun hb4_2 => ?_) (fun hb4_2 => ?_)
      · try simp only [decide_eq_true_eq, decide_eq_false_iff_not, Bool.not_eq_true, Bool.not_eq_false, Bool.not_eq_eq_eq_not, Bool.not_true, Bool.not_false, Int.not_lt, Int.not_le] at hb4_2
        refine g0 23 rfl (by first | exact .inl rfl | exact .inr rfl) ?_
        refine g0 23 rfl (by first | exact .inl rfl | exact .inr rfl) ?_
        refine g0 23 rfl (by first | exact .inl rfl | exact .inr rfl) ?_
        refine g0 23 rfl (by first | exact .inl rfl | exact .inr rfl) ?_
        refine p1 (x_pick_t rfl (by conv => lhs; whnf)) ?_
        refine p1 (x_assign (by conv => lhs; whnf)) ?_
        refine r_nil ?_
        refine t_n (At.mk () (by repeat (first | exact Agr.refl _ _ | exact Agr.hav _ _ _ | refine Agr.upd rfl ?_ | refine Agr.updL ?_ _ rfl | refine Agr.hav' rfl ?_)) ⟨congrArg Value.bool (by first | rfl | exact (decide_eq_true (by omega)).symm | exact (decide_eq_false (by omega)).symm | exact decide_eq_decide.2 (by omega) | (simp_all; done) | grind), trivial⟩ hWr4)
      · try simp only [decide_eq_true_eq, decide_eq_false_iff_not, Bool.not_eq_true, Bool.not_eq_false, Bool.not_eq_eq_eq_not, Bool.not_true, Bool.not_false, Int.not_lt, Int.not_le] at hb4_2
        refine g1 23 rfl rfl (x_move (by conv => lhs; whnf)) ?_
        refine g1 23 rfl rfl (x_move (by conv => lhs; whnf)) ?_
        refine g1 23 rfl rfl (x_convf u95 us3 rfl (fits_u64 (by omega) (by omega))) ?_
        refine g1 23 rfl rfl (x_gtr rfl rfl) ?_
        refine p1 (x_pick_f rfl (by conv => lhs; whnf)) ?_
        refine p1 (x_assign (by conv => lhs; whnf)) ?_
        refine r_nil ?_
        refine t_n (At.mk () (by repeat (first | exact Agr.refl _ _ | exact Agr.hav _ _ _ | refine Agr.upd rfl ?_ | refine Agr.updL ?_ _ rfl | refine Agr.hav' rfl ?_)) ⟨congrArg Value.bool (by first | rfl | exact (decide_eq_true (by omega)).symm | exact (decide_eq_false (by omega)).symm | exact decide_eq_decide.2 (by omega) | (simp_all; done) | grind), trivial⟩ hWr4)
    · rintro _ Gr4 w2 hE2
      have hX := hX.ext hE2
      refine t_n ?_
      first | refine c_dec rfl (fun hc20 => ?_) (fun hc20 => ?_) | refine c_if rfl (fun hc20 => ?_) (fun hc20 => ?_)
      · try simp only [decide_eq_true_eq, decide_eq_false_iff_not, Bool.not_eq_true, Bool.not_eq_false, Bool.not_eq_eq_eq_not, Bool.not_true, Bool.not_false, Int.not_lt, Int.not_le] at hc20
        have hp : getT xs most = (ByteArray.empty, 0, 5) := by unfold getT; rw [if_neg hc16, if_pos hc20]
        refine c_seq ?_
        refine r_plain ?_
        refine p1 (x_assign (by conv => lhs; whnf)) ?_
        refine p1 (x_assign (by conv => lhs; whnf)) ?_
        refine p1 (x_assign (by conv => lhs; whnf)) ?_
        refine r_nil ?_
        refine t_n ?_
        refine c_ret ?_
        refine b_r ?_
        refine t_r ?_
        refine end3 rfl (by conv => lhs; whnf) (by conv => lhs; whnf) (by conv => lhs; whnf) ?_
        exact ⟨by (rw [hp]; try rfl), hX⟩
      · try simp only [decide_eq_true_eq, decide_eq_false_iff_not, Bool.not_eq_true, Bool.not_eq_false, Bool.not_eq_eq_eq_not, Bool.not_true, Bool.not_false, Int.not_lt, Int.not_le] at hc20
        refine c_seq ?_
        refine r_plain ?_
        refine p1 (x_move (by conv => lhs; whnf)) ?_
        refine p1 (x_move (by conv => lhs; whnf)) ?_
        refine p1 (x_len_slice u22 rfl) ?_
        refine p1 (x_move (by conv => lhs; whnf)) ?_
        refine p1 (x_sub rfl rfl (fits_i64 (by omega) (by omega))) ?_
        refine p1 (x_convf u95 us3 rfl (fits_u64 (by omega) (by omega))) ?_
        refine p1 (x_gtr rfl rfl) ?_
        refine p1 (x_assign (by conv => lhs; whnf)) ?_
        refine r_nil ?_
        refine t_n ?_
        first | refine c_dec rfl (fun hc29 => ?_) (fun hc29 => ?_) | refine c_if rfl (fun hc29 => ?_) (fun hc29 => ?_)
        · try simp only [decide_eq_true_eq, decide_eq_false_iff_not, Bool.not_eq_true, Bool.not_eq_false, Bool.not_eq_eq_eq_not, Bool.not_true, Bool.not_false, Int.not_lt, Int.not_le] at hc29
          have hp : getT xs most = (ByteArray.empty, 0, 3) := by unfold getT; rw [if_neg hc16, if_neg hc20, if_pos (by omega)]
          refine c_seq ?_
          refine r_plain ?_
          refine p1 (x_assign (by conv => lhs; whnf)) ?_
          refine p1 (x_assign (by conv => lhs; whnf)) ?_
          refine p1 (x_assign (by conv => lhs; whnf)) ?_
          refine r_nil ?_
          refine t_n ?_
          refine c_ret ?_
          refine b_r ?_
          refine t_r ?_
          refine end3 rfl (by conv => lhs; whnf) (by conv => lhs; whnf) (by conv => lhs; whnf) ?_
          exact ⟨by (rw [hp]; try rfl), hX⟩
        · try simp only [decide_eq_true_eq, decide_eq_false_iff_not, Bool.not_eq_true, Bool.not_eq_false, Bool.not_eq_eq_eq_not, Bool.not_true, Bool.not_false, Int.not_lt, Int.not_le] at hc29
          have hNk : (getU xs).2.1 + (getU xs).1 ≤ xs.length := by omega
          have hp : getT xs most = (toStr ((xs.drop (getU xs).2.1).take (getU xs).1), (getU xs).2.1 + (getU xs).1, 0) := by unfold getT; rw [if_neg hc16, if_neg hc20, if_neg (by omega)]
          have hsub := ((hl.ext hX).dropI (getU xs).2.1 (by omega)).take (getU xs).1 (by omega)
          have es : (((getU xs).2.1 : Int) + ((getU xs).1 : Int)).toNat - (getU xs).2.1 = (getU xs).1 := by omega
          have es2 : (((getU xs).2.1 : Nat) : Int).toNat = (getU xs).2.1 := by omega
          refine c_skip ?_
          refine b_n ?_
          refine t_n ?_
          refine c_seq ?_
          refine r_plain ?_
          refine p1 (x_move (by conv => lhs; whnf)) ?_
          refine p1 (x_move (by conv => lhs; whnf)) ?_
          refine p1 (x_move (by conv => lhs; whnf)) ?_
          refine p1 (x_move (by conv => lhs; whnf)) ?_
          refine p1 (x_convf u3 us95 rfl (fits_i64 (by omega) (by omega))) ?_
          refine p1 (x_add rfl rfl (fits_i64 (by omega) (by omega))) ?_
          refine p1 (x_slice_lh u22 sz5 rfl rfl rfl (by omega) (by omega) (by omega)) ?_
          refine p1 (x_bytes_str u22 u5 u9 rfl (by rw [es2, es]; exact hsub)) ?_
          refine p1 (x_move (by conv => lhs; whnf)) ?_
          refine p1 (x_move (by conv => lhs; whnf)) ?_
          refine p1 (x_convf u3 us95 rfl (fits_i64 (by omega) (by omega))) ?_
          refine p1 (x_add rfl rfl (fits_i64 (by omega) (by omega))) ?_
          refine p1 (x_assign (by conv => lhs; whnf)) ?_
          refine p1 (x_assign (by conv => lhs; whnf)) ?_
          refine p1 (x_assign (by conv => lhs; whnf)) ?_
          refine r_nil ?_
          refine t_n ?_
          refine c_ret ?_
          refine end3 rfl (by conv => lhs; whnf) (by conv => lhs; whnf) (by conv => lhs; whnf) ?_
          exact ⟨by (rw [hp]; try rfl), hX⟩
end Go.Proofs.Eng
end
section
set_option linter.unusedVariables false
set_option linter.unusedSimpArgs false
set_option maxRecDepth 100000
set_option maxHeartbeats 4000000
namespace Go.Proofs.Eng
open Go.RowKit
open Extern.Stop (cell)
theorem fb72 : Try.f72.body.isNone = false := by kernel_rfl
theorem fb73 : Try.f73.body.isNone = false := by kernel_rfl
theorem fb75 : Try.f75.body.isNone = false := by kernel_rfl
theorem fb76 : Try.f76.body.isNone = false := by kernel_rfl
theorem fb77 : Try.f77.body.isNone = false := by kernel_rfl
theorem fn72 : (Try.f72.name == "runtime.NumGoroutine") = false := by kernel_rfl
theorem fn73 : (Try.f73.name == "runtime.NumGoroutine") = false := by kernel_rfl
theorem fn75 : (Try.f75.name == "runtime.NumGoroutine") = false := by kernel_rfl
theorem fn76 : (Try.f76.name == "runtime.NumGoroutine") = false := by kernel_rfl
theorem fn77 : (Try.f77.name == "runtime.NumGoroutine") = false := by kernel_rfl
theorem inf33 : (Try.prog.info? 33).map (fun i => (i.zero, i.size, i.bytes)) = some (some (.agg #[.string ByteArray.empty, .slice none 0 0, .slice none 0 0]), 3, 64) := by kernel_rfl
theorem pl33 : placed Try.prog 33 = some (.agg #[.string ByteArray.empty, .slice none 0 0, .slice none 0 0], [(0, 1), (1, 1), (2, 1)]) := by kernel_rfl
theorem sz4 : (Try.prog.info? 4).map (·.size) = some 1 := by kernel_rfl
theorem sz94 : (Try.prog.info? 94).map (·.size) = some 1 := by kernel_rfl
theorem un4 : (Try.prog.underlying 4).map TypeDesc.isRow = some false := by kernel_rfl
theorem un94 : (Try.prog.underlying 94).map TypeDesc.isRow = some false := by kernel_rfl
theorem zr22 : (Try.prog.info? 22).map (·.zero) = some (some (.slice none 0 0)) := by kernel_rfl
theorem zr94 : (Try.prog.info? 94).map (·.zero) = some (some (.nilFunc)) := by kernel_rfl
end Go.Proofs.Eng
end
section
set_option linter.unusedVariables false
set_option linter.unusedSimpArgs false
set_option maxRecDepth 100000
set_option maxHeartbeats 4000000
namespace Go.Proofs.Eng
open Go.RowKit
open Extern.Stop (cell)
theorem hashes_Get (xs : List UInt8) (most : Int) (B : Nat) (p : Option Addr) (n c : Nat) (w : World) (hl : Sl kByte 5 B w p n c xs) (hmost : -9223372036854775808 ≤ most ∧ most ≤ 9223372036854775807) (hs : n ≤ 140737490000000) :
    Ret Try.prog 43 [.slice p n c, .int .i64 most] w (fun v w' => (∃ q m c', v = .tuple #[.slice q m c', .int .i64 ((gets xs most).2.1 : Int), .int .i64 (gets xs most).2.2] ∧ Own kHash 35 0 w.heap.size w' q m c' (gets xs most).1) ∧ Ext w w') := by
  have hX := Ext.refl w
  refine enter 66 _ Try.func43 rfl rfl (Nat.le_of_ble_eq_true rfl) ?_
  refine c_seq ?_
  refine r_plain ?_
  refine p1 (x_assign (by conv => lhs; whnf)) ?_
  refine p1 (x_assign (by conv => lhs; whnf)) ?_
  refine p1 (x_assign (by conv => lhs; whnf)) ?_
  refine r_nil ?_
  refine t_n ?_
  refine c_seq ?_
  have hlen := hl.len
  have hfit := hl.fit
  have hcap := hl.cap
  refine r_plain ?_
  refine p1 (x_move (by conv => lhs; whnf)) ?_
  refine o_call Try.func74 fn74 fb74 (leb_GetUint xs _ _ _ _ _ (hl.ext hX)) rfl ?_
  rintro v1 w1 ⟨rfl, hE1⟩
  have hX := hX.ext hE1
  refine p1 (x_move (by conv => lhs; whnf)) ?_
  refine p1 (x_extract rfl rfl) ?_
  refine p1 (x_extract rfl rfl) ?_
  refine p1 (x_extract rfl rfl) ?_
  refine p1 (x_assign (by conv => lhs; whnf)) ?_
  refine p1 (x_assign (by conv => lhs; whnf)) ?_
  refine p1 (x_assign (by conv => lhs; whnf)) ?_
  refine r_nil ?_
  refine t_n ?_
  refine c_seq ?_
  refine c_block ?_
  refine c_seq ?_
  refine r_plain ?_
  refine p1 (x_move (by conv => lhs; whnf)) ?_
  refine p1 (x_neq rfl rfl) ?_
  refine p1 (x_assign (by conv => lhs; whnf)) ?_
  refine r_nil ?_
  refine t_n ?_
  first | refine c_dec rfl (fun hc16 => ?_) (fun hc16 => ?_) | refine c_if rfl (fun hc16 => ?_) (fun hc16 => ?_)
  · try simp only [decide_eq_true_eq, decide_eq_false_iff_not, Bool.not_eq_true, Bool.not_eq_false, Bool.not_eq_eq_eq_not, Bool.not_true, Bool.not_false, Int.not_lt, Int.not_le] at hc16
    have hp : gets xs most = ([], 0, (getU xs).2.2) := by unfold gets; rw [if_pos hc16]
    refine c_seq ?_
    refine r_plain ?_
    refine p1 (x_move (by conv => lhs; whnf)) ?_
    refine p1 (x_assign (by conv => lhs; whnf)) ?_
    refine p1 (x_assign (by conv => lhs; whnf)) ?_
    refine p1 (x_assign (by conv => lhs; whnf)) ?_
    refine r_nil ?_
    refine t_n ?_
    refine c_ret ?_
    refine b_r ?_
    refine t_r ?_
    refine end3 rfl (by conv => lhs; whnf) (by conv => lhs; whnf) (by conv => lhs; whnf) ?_
    first | exact ⟨⟨none, 0, 0, by (rw [hp]; try rfl), (by rw [hp]; exact Own.nil _ _ _ _ _)⟩, hX⟩ | exact ⟨⟨_, _, _, by (rw [hp]; try rfl), by rw [hp]; exact hO⟩, hX⟩
  · try simp only [decide_eq_true_eq, decide_eq_false_iff_not, Bool.not_eq_true, Bool.not_eq_false, Bool.not_eq_eq_eq_not, Bool.not_true, Bool.not_false, Int.not_lt, Int.not_le] at hc16
    have he0 : (getU xs).2.2 = 0 := Classical.byContradiction hc16
    obtain ⟨hk1, hk2, hk3, hk4⟩ := getU_bounds he0
    refine c_seq ?_
    have hWr4 := Ext.refl w1
    refine c_cut (ι := Unit) [20, 21, 22, 23, 24, 25, 26, 27, 28] (fun _ => [(20, .bool (decide (most < 0 ∨ most < ((getU xs).1 : Int))))]) (fun _ w' => Ext w1 w') ?_ ?_
    · skip
      refine r_plain ?_
      refine p1 (x_move (by conv => lhs; whnf)) ?_
      refine p1 (x_lss rfl rfl) ?_
      refine p1b (x_move (by conv => lhs; whnf)) (fun hb4_2 => ?_) (fun hb4_2 => ?_)
      · try simp only [decide_eq_true_eq, decide_eq_false_iff_not, Bool.not_eq_true, Bool.not_eq_false, Bool.not_eq_eq_eq_not, Bool.not_true, Bool.not_false, Int.not_lt, Int.not_le] at hb4_2
        refine g0 23 rfl (by first | exact .inl rfl | exact .inr rfl) ?_
        refine g0 23 rfl (by first | exact .inl rfl | exact .inr rfl) ?_
        refine g0 23 rfl (by first | exact .inl rfl | exact .inr rfl) ?_
        refine g0 23 rfl (by first | exact .inl rfl | exact .inr rfl) ?_
        refine p1 (x_pick_t rfl (by conv => lhs; whnf)) ?_
        refine p1 (x_assign (by conv => lhs; whnf)) ?_
        refine r_nil ?_
        refine t_n (At.mk () (by repeat (first | exact Agr.refl _ _ | exact Agr.hav _ _ _ | refine Agr.upd rfl ?_ | refine Agr.updL ?_ _ rfl | refine Agr.hav' rfl ?_)) ⟨congrArg Value.bool (by first | rfl | exact (decide_eq_true (by omega)).symm | exact (decide_eq_false (by omega)).symm | exact decide_eq_decide.2 (by omega) | (simp_all; done) | grind), trivial⟩ hWr4)
      · try simp only [decide_eq_true_eq, decide_eq_false_iff_not, Bool.not_eq_true, Bool.not_eq_false, Bool.not_eq_eq_eq_not, Bool.not_true, Bool.not_false, Int.not_lt, Int.not_le] at hb4_2
        refine g1 23 rfl rfl (x_move (by conv => lhs; whnf)) ?_
        refine g1 23 rfl rfl (x_move (by conv => lhs; whnf)) ?_
        refine g1 23 rfl rfl (x_convf u95 us3 rfl (fits_u64 (by omega) (by omega))) ?_
        refine g1 23 rfl rfl (x_gtr rfl rfl) ?_
        refine p1 (x_pick_f rfl (by conv => lhs; whnf)) ?_
        refine p1 (x_assign (by conv => lhs; whnf)) ?_
        refine r_nil ?_
        refine t_n (At.mk () (by repeat (first | exact Agr.refl _ _ | exact Agr.hav _ _ _ | refine Agr.upd rfl ?_ | refine Agr.updL ?_ _ rfl | refine Agr.hav' rfl ?_)) ⟨congrArg Value.bool (by first | rfl | exact (decide_eq_true (by omega)).symm | exact (decide_eq_false (by omega)).symm | exact decide_eq_decide.2 (by omega) | (simp_all; done) | grind), trivial⟩ hWr4)
    · rintro _ Gr4 w2 hE2
      have hX := hX.ext hE2
      refine t_n ?_
      first | refine c_dec rfl (fun hc20 => ?_) (fun hc20 => ?_) | refine c_if rfl (fun hc20 => ?_) (fun hc20 => ?_)
      · try simp only [decide_eq_true_eq, decide_eq_false_iff_not, Bool.not_eq_true, Bool.not_eq_false, Bool.not_eq_eq_eq_not, Bool.not_true, Bool.not_false, Int.not_lt, Int.not_le] at hc20
        have hp : gets xs most = ([], 0, 5) := by unfold gets; rw [if_neg hc16, if_pos hc20]
        refine c_seq ?_
        refine r_plain ?_
        refine p1 (x_assign (by conv => lhs; whnf)) ?_
        refine p1 (x_assign (by conv => lhs; whnf)) ?_
        refine p1 (x_assign (by conv => lhs; whnf)) ?_
        refine r_nil ?_
        refine t_n ?_
        refine c_ret ?_
        refine b_r ?_
        refine t_r ?_
        refine end3 rfl (by conv => lhs; whnf) (by conv => lhs; whnf) (by conv => lhs; whnf) ?_
        first | exact ⟨⟨none, 0, 0, by (rw [hp]; try rfl), (by rw [hp]; exact Own.nil _ _ _ _ _)⟩, hX⟩ | exact ⟨⟨_, _, _, by (rw [hp]; try rfl), by rw [hp]; exact hO⟩, hX⟩
      · try simp only [decide_eq_true_eq, decide_eq_false_iff_not, Bool.not_eq_true, Bool.not_eq_false, Bool.not_eq_eq_eq_not, Bool.not_true, Bool.not_false, Int.not_lt, Int.not_le] at hc20
        refine c_seq ?_
        refine r_plain ?_
        refine p1 (x_move (by conv => lhs; whnf)) ?_
        refine p1 (x_move (by conv => lhs; whnf)) ?_
        refine p1 (x_len_slice u22 rfl) ?_
        refine p1 (x_move (by conv => lhs; whnf)) ?_
        refine p1 (x_sub rfl rfl (fits_i64 (by omega) (by omega))) ?_
        refine p1 (x_convf u95 us3 rfl (fits_u64 (by omega) (by omega))) ?_
        refine p1 (x_quo rfl rfl (by omega) (by omega) (fits_u64 (by omega) (by omega))) ?_
        refine p1 (x_gtr rfl rfl) ?_
        refine p1 (x_assign (by conv => lhs; whnf)) ?_
        refine r_nil ?_
        refine t_n ?_
        first | refine c_dec rfl (fun hc29 => ?_) (fun hc29 => ?_) | refine c_if rfl (fun hc29 => ?_) (fun hc29 => ?_)
        · try simp only [decide_eq_true_eq, decide_eq_false_iff_not, Bool.not_eq_true, Bool.not_eq_false, Bool.not_eq_eq_eq_not, Bool.not_true, Bool.not_false, Int.not_lt, Int.not_le] at hc29
          have hp : gets xs most = ([], 0, 3) := by unfold gets; rw [if_neg hc16, if_neg hc20, if_pos (by omega)]
          refine c_seq ?_
          refine r_plain ?_
          refine p1 (x_assign (by conv => lhs; whnf)) ?_
          refine p1 (x_assign (by conv => lhs; whnf)) ?_
          refine p1 (x_assign (by conv => lhs; whnf)) ?_
          refine r_nil ?_
          refine t_n ?_
          refine c_ret ?_
          refine b_r ?_
          refine t_r ?_
          refine end3 rfl (by conv => lhs; whnf) (by conv => lhs; whnf) (by conv => lhs; whnf) ?_
          first | exact ⟨⟨none, 0, 0, by (rw [hp]; try rfl), (by rw [hp]; exact Own.nil _ _ _ _ _)⟩, hX⟩ | exact ⟨⟨_, _, _, by (rw [hp]; try rfl), by rw [hp]; exact hO⟩, hX⟩
        · try simp only [decide_eq_true_eq, decide_eq_false_iff_not, Bool.not_eq_true, Bool.not_eq_false, Bool.not_eq_eq_eq_not, Bool.not_true, Bool.not_false, Int.not_lt, Int.not_le] at hc29
          have hNk : (getU xs).2.1 + 32 * (getU xs).1 ≤ xs.length := by omega
          refine c_skip ?_
          refine b_n ?_
          refine t_n ?_
          refine c_seq ?_
          refine r_plain ?_
          refine p1 (x_move (by conv => lhs; whnf)) ?_
          have hXs := hX.size
          refine o_make u31 inf35 rfl rfl (by omega) (by omega) (by omega) (by omega) ?_
          intro w3 g39 hN39
          have hE3 := hN39.ext
          have hX := hX.ext hE3
          have hO : Own kHash 35 0 w.heap.size w3 (some ⟨g39, 0, none⟩) (getU xs).1 (getU xs).1 (List.replicate (getU xs).1 hZero) := own_make hZero (getU xs).1 (by decide) hN39 hXs (by omega)
          refine p1 (x_assign (by conv => lhs; whnf)) ?_
          refine r_nil ?_
          refine t_n ?_
          refine c_seq ?_
          refine c_seq ?_
          refine r_plain ?_
          refine p1 (x_move (by conv => lhs; whnf)) ?_
          refine p1 (x_len_slice u31 rfl) ?_
          refine p1 (x_move (by conv => lhs; whnf)) ?_
          refine r_nil ?_
          refine t_n ?_
          refine c_block ?_
          refine c_loop (ι := Nat × List Hash) [9, 42, 43, 44, 45, 46, 47, 48, 49, 50, 51, 52, 53, 54, 55, 56] (fun (k, zs) => [(42, .int .i64 (k : Int))]) (fun (k, zs) w' => Ext w w' ∧ (Own kHash 35 0 w.heap.size w' (some ⟨g39, 0, none⟩) (getU xs).1 (getU xs).1 zs ∧ k ≤ (getU xs).1 ∧ zs.take k = hashesAt xs (getU xs).2.1 k)) (fun (k, zs) => (getU xs).1 - k) ((0, List.replicate (getU xs).1 hZero)) ⟨rfl, trivial⟩ ⟨hX, ⟨hO, by omega, rfl⟩⟩ ?_
          rintro ⟨k, zs⟩ GL1 w4 ⟨hE4, hO, hk, hz⟩
          have hX := hE4
          refine c_seq ?_
          refine r_plain ?_
          refine p1 (x_lss rfl rfl) ?_
          refine r_nil ?_
          refine t_n ?_
          refine c_seq ?_
          first | refine c_dec rfl (fun hc43 => ?_) (fun hc43 => ?_) | refine c_if rfl (fun hc43 => ?_) (fun hc43 => ?_)
          · try simp only [decide_eq_true_eq, decide_eq_false_iff_not, Bool.not_eq_true, Bool.not_eq_false, Bool.not_eq_eq_eq_not, Bool.not_true, Bool.not_false, Int.not_lt, Int.not_le] at hc43
            refine c_skip ?_
            refine t_n ?_
            refine c_seq ?_
            refine c_block ?_
            refine c_seq ?_
            refine r_plain ?_
            refine p1 (x_move (by conv => lhs; whnf)) ?_
            refine p1 (x_assign (by conv => lhs; whnf)) ?_
            refine r_nil ?_
            refine t_n ?_
            have hzl := hO.len
            have hB1 := hX.size
            have ez : (((getU xs).2.1 : Int) + 32 * (k : Int)).toNat = (getU xs).2.1 + 32 * k := by omega
            refine r_tail 10 mixed (by kernel_rfl) ?_
            intro w5 hE5
            have hX := hX.ext hE5
            have hO := hO.ext hE5
            refine s1 (x_move (by conv => lhs; whnf)) ?_
            refine s1 (x_move (by conv => lhs; whnf)) ?_
            refine s1 (x_ixs u31 sz35 rfl rfl (hO.sl.adr kHash_pos (by omega)) (by omega) (by omega)) ?_
            refine s1 (x_slice_arr u35 sz5 rfl) ?_
            refine s1 (x_move (by conv => lhs; whnf)) ?_
            refine s1 (x_move (by conv => lhs; whnf)) ?_
            refine s1 (x_move (by conv => lhs; whnf)) ?_
            refine s1 (x_mul rfl rfl (fits_i64 (by omega) (by omega))) ?_
            refine s1 (x_add rfl rfl (fits_i64 (by omega) (by omega))) ?_
            refine s1 (x_slice_l u22 sz5 rfl rfl (by omega) (by omega)) ?_
            refine s_nil ?_
            refine o_copyHash (i := k) (hashAt xs ((getU xs).2.1 + 32 * k)) u22 sz5 rfl rfl hO (by omega) ((hl.ext hX).dropI (((getU xs).2.1 : Int) + 32 * (k : Int)).toNat (by omega)) (by omega) (by rw [ez]; exact hashAt_take (by omega)) (Nat.zero_le _) ?_
            intro w6 hO hM6
            have hX := hX.mod hM6 (Nat.le_refl _)
            refine r_nil ?_
            refine b_n ?_
            refine t_n ?_
            refine r_plain ?_
            refine p1 (x_add rfl rfl (fits_i64 (by omega) (by omega))) ?_
            refine p1 (x_move (by conv => lhs; whnf)) ?_
            refine r_nil ?_
            refine t_n (At.mk ((k + 1, zs.set k (hashAt xs ((getU xs).2.1 + 32 * k)))) (by repeat (first | exact Agr.refl _ _ | exact Agr.hav _ _ _ | refine Agr.upd rfl ?_ | refine Agr.updL ?_ _ rfl | refine Agr.hav' rfl ?_)) ⟨rfl, trivial⟩ ?_)
            exact ⟨⟨hX, ⟨hO, by omega, by rw [hashesAt_succ, ← hz, List.take_succ_eq_append_getElem (by rw [List.length_set]; omega), List.getElem_set_self, List.take_set_of_le (Nat.le_refl _)]⟩⟩, by first | (dsimp only; omega) | ((show _ < _); omega)⟩
          · try simp only [decide_eq_true_eq, decide_eq_false_iff_not, Bool.not_eq_true, Bool.not_eq_false, Bool.not_eq_eq_eq_not, Bool.not_true, Bool.not_false, Int.not_lt, Int.not_le] at hc43
            have hkN : k = (getU xs).1 := by omega
            have hzl := hO.len
            rw [hkN, List.take_of_length_le (by omega)] at hz
            subst hz
            refine c_exit ?_
            refine t_e ?_
            refine t_e ?_
            refine b_hit ?_
            refine t_n ?_
            refine c_seq ?_
            refine c_seq ?_
            refine r_plain ?_
            refine p1 (x_move (by conv => lhs; whnf)) ?_
            refine o_call Try.func38 fn38 fb38 (hashes_Rising _ _ _ _ _ _ hO.sl) rfl ?_
            rintro v7 w7 ⟨rfl, hE7⟩
            have hX := hX.ext hE7
            have hO := hO.ext hE7
            first | refine p1 (x_notd rfl) ?_ | refine p1 (x_not rfl) ?_
            refine r_nil ?_
            refine t_n ?_
            first | refine c_dec rfl (fun hc59 => ?_) (fun hc59 => ?_) | refine c_if rfl (fun hc59 => ?_) (fun hc59 => ?_)
            · try simp only [decide_eq_true_eq, decide_eq_false_iff_not, Bool.not_eq_true, Bool.not_eq_false, Bool.not_eq_eq_eq_not, Bool.not_true, Bool.not_false, Int.not_lt, Int.not_le] at hc59
              have hp : gets xs most = ([], 0, 4) := by unfold gets; rw [if_neg hc16, if_neg hc20, if_neg (by omega), if_pos hc59]
              refine c_seq ?_
              refine r_plain ?_
              refine p1 (x_assign (by conv => lhs; whnf)) ?_
              refine p1 (x_assign (by conv => lhs; whnf)) ?_
              refine p1 (x_assign (by conv => lhs; whnf)) ?_
              refine r_nil ?_
              refine t_n ?_
              refine c_ret ?_
              refine t_r ?_
              refine end3 rfl (by conv => lhs; whnf) (by conv => lhs; whnf) (by conv => lhs; whnf) ?_
              first | exact ⟨⟨none, 0, 0, by (rw [hp]; try rfl), (by rw [hp]; exact Own.nil _ _ _ _ _)⟩, hX⟩ | exact ⟨⟨_, _, _, by (rw [hp]; try rfl), by rw [hp]; exact hO⟩, hX⟩
            · try simp only [decide_eq_true_eq, decide_eq_false_iff_not, Bool.not_eq_true, Bool.not_eq_false, Bool.not_eq_eq_eq_not, Bool.not_true, Bool.not_false, Int.not_lt, Int.not_le] at hc59
              have hp : gets xs most = (hashesAt xs (getU xs).2.1 (getU xs).1, (getU xs).2.1 + 32 * (getU xs).1, 0) := by unfold gets; rw [if_neg hc16, if_neg hc20, if_neg (by omega), if_neg (by simp [hc59])]
              refine c_skip ?_
              refine t_n ?_
              refine c_seq ?_
              refine r_plain ?_
              refine p1 (x_move (by conv => lhs; whnf)) ?_
              refine p1 (x_move (by conv => lhs; whnf)) ?_
              refine p1 (x_move (by conv => lhs; whnf)) ?_
              refine p1 (x_len_slice u31 rfl) ?_
              refine p1 (x_mul rfl rfl (fits_i64 (by omega) (by omega))) ?_
              refine p1 (x_add rfl rfl (fits_i64 (by omega) (by omega))) ?_
              refine p1 (x_assign (by conv => lhs; whnf)) ?_
              refine p1 (x_assign (by conv => lhs; whnf)) ?_
              refine p1 (x_assign (by conv => lhs; whnf)) ?_
              refine r_nil ?_
              refine t_n ?_
              refine c_ret ?_
              refine end3 rfl (by conv => lhs; whnf) (by conv => lhs; whnf) (by conv => lhs; whnf) ?_
              first | exact ⟨⟨none, 0, 0, by (rw [hp]; try rfl), (by rw [hp]; exact Own.nil _ _ _ _ _)⟩, hX⟩ | exact ⟨⟨_, _, _, by (rw [hp]; try rfl), by rw [hp]; exact hO⟩, hX⟩
end Go.Proofs.Eng
end
section
set_option linter.unusedVariables false
set_option linter.unusedSimpArgs false
namespace Go.Proofs.Eng
open Go.RowKit
section
variable {P : Program} {n : Nat} {f : Nat → Value} {w : World} {dst : Option Nat} {ty0 : TypeId} {pos : String} {aft : Array Edge} {gd : Option (Nat × Bool)} {T T' e : TypeId} {x y : Operand} {v : Value}
end
theorem toStr_size (a : List UInt8) : (toStr a).size = a.length := by simp [toStr, ByteArray.size]
end Go.Proofs.Eng
end
section
set_option linter.unusedVariables false
set_option linter.unusedSimpArgs false
set_option maxRecDepth 100000
set_option maxHeartbeats 4000000
namespace Go.Proofs.Eng
open Go.RowKit
open Extern.Stop (cell)
/-- What a taking off does to what is left. -/
def Took {α : Type} (p : Option (α × List UInt8)) (bad bad' : Prop) (x : α) (R R' : List UInt8) : Prop :=
  R'.length ≤ R.length ∧ (bad → bad') ∧ (¬ bad → (¬ bad' ∧ p = some (x, R')) ∨ (bad' ∧ p = none))
theorem took_bad {α : Type} {p : Option (α × List UInt8)} {bad bad' : Prop} {x : α} {R : List UInt8} (h : bad') (hp : ¬ bad → p = none) : Took p bad bad' x R R :=
  ⟨Nat.le_refl _, fun _ => h, fun hn => .inr ⟨h, hp hn⟩⟩
theorem took_ok {α : Type} {p : Option (α × List UInt8)} {bad bad' : Prop} {x : α} {R : List UInt8} {k : Nat} (h : ¬ bad') (hb : ¬ bad) (hp : p = some (x, R.drop k)) : Took p bad bad' x R (R.drop k) :=
  ⟨by rw [List.length_drop]; omega, fun h => absurd h hb, fun _ => .inl ⟨h, hp⟩⟩
theorem took_of {α : Type} {p : Option (α × List UInt8)} {bad : Bool} {E : Int} {x : α} {R : List UInt8} {k : Nat} (hp : p = if E = 0 then some (x, R.drop k) else none) :
    Took p (bad = true) (decide (bad = true ∨ E ≠ 0) = true) x R (if bad = true ∨ E ≠ 0 then R else R.drop k) := by
  by_cases h : bad = true ∨ E ≠ 0
  · rw [if_pos h]; exact took_bad (decide_eq_true h) fun hn => by rw [hp, if_neg (h.resolve_left hn)]
  · rw [if_neg h]
    exact took_ok (by simpa using h) (fun hb => h (.inl hb)) (by rw [hp, if_pos (Decidable.byContradiction fun hE => h (.inr hE))])
theorem took_num {bad : Bool} {mo : Nat} {R : List UInt8} (h : (bad = true ∨ (getU R).2.2 ≠ 0) ∨ mo < (getU R).1) : Took (pNum mo R) (bad = true) (true = true) 0 R (if bad = true ∨ (getU R).2.2 ≠ 0 then R else R.drop (getU R).2.1) := by
  refine ⟨by split <;> simp, fun _ => rfl, fun hb => .inr ⟨rfl, ?_⟩⟩
  unfold pNum
  rw [if_neg]
  rintro ⟨h1, h2⟩
  rcases h with (h | h) | h
  · exact hb h
  · exact h h1
  · omega
theorem took_num_ok {bad : Bool} {mo : Nat} {R : List UInt8} (h : ¬ ((bad = true ∨ (getU R).2.2 ≠ 0) ∨ mo < (getU R).1)) : Took (pNum mo R) (bad = true) (decide (bad = true ∨ (getU R).2.2 ≠ 0) = true) (getU R).1 R (if bad = true ∨ (getU R).2.2 ≠ 0 then R else R.drop (getU R).2.1) := by
  refine took_of ?_
  have h1 : (getU R).2.2 = 0 := Decidable.byContradiction fun hE => h (.inl (.inr hE))
  have h2 : (getU R).1 ≤ mo := Nat.le_of_not_lt fun hn => h (.inr hn)
  unfold pNum
  rw [if_pos ⟨h1, h2⟩, if_pos h1]
theorem pTxt_if (R : List UInt8) : pTxt R = if (getT R 32).2.2 = 0 then some ((getT R 32).1, R.drop (getT R 32).2.1) else none := rfl
theorem pHs_if (mo : Nat) (R : List UInt8) : pHs mo R = if (gets R mo).2.2 = 0 then some ((gets R mo).1, R.drop (gets R mo).2.1) else none := rfl
theorem getU_used (R : List UInt8) : (getU R).2.1 ≤ R.length := by
  by_cases h : (getU R).2.2 = 0
  · exact (getU_bounds h).1
  · rw [(getU_zero h).2.1]; exact Nat.zero_le _
theorem getT_used (R : List UInt8) (mo : Int) : (getT R mo).2.1 ≤ R.length ∧ (getT R mo).1.size ≤ R.length := by
  unfold getT
  by_cases h : (getU R).2.2 ≠ 0
  · rw [if_pos h]; exact ⟨Nat.zero_le _, Nat.zero_le _⟩
  · rw [if_neg h]
    by_cases h2 : mo < 0 ∨ mo < ((getU R).1 : Int)
    · rw [if_pos h2]; exact ⟨Nat.zero_le _, Nat.zero_le _⟩
    · rw [if_neg h2]
      have h4 := getU_used R
      by_cases h3 : R.length - (getU R).2.1 < (getU R).1
      · rw [if_pos h3]; exact ⟨Nat.zero_le _, Nat.zero_le _⟩
      · rw [if_neg h3]; refine ⟨by dsimp only; omega, ?_⟩
        dsimp only
        rw [toStr_size, List.length_take, List.length_drop]; omega
theorem gets_used (R : List UInt8) (mo : Int) : (gets R mo).2.1 ≤ R.length := by
  by_cases h : (gets R mo).2.2 = 0
  · exact (put_gets h).1
  · unfold gets at h ⊢
    by_cases h1 : (getU R).2.2 ≠ 0
    · rw [if_pos h1]; exact Nat.zero_le _
    · rw [if_neg h1] at h ⊢
      by_cases h2 : mo < 0 ∨ mo < ((getU R).1 : Int)
      · rw [if_pos h2]; exact Nat.zero_le _
      · rw [if_neg h2] at h ⊢
        by_cases h3 : (R.length - (getU R).2.1) / 32 < (getU R).1
        · rw [if_pos h3]; exact Nat.zero_le _
        · rw [if_neg h3] at h ⊢
          by_cases h4 : rising (hashesAt R (getU R).2.1 (getU R).1) = false
          · rw [if_pos h4]; exact Nat.zero_le _
          · rw [if_neg h4] at h; exact absurd rfl h
theorem index_took (B : Nat) (gr gb : Nat) (R : List UInt8) (bad : Bool) (w : World) (hG : GS B w gr gb R bad) (hgr : B ≤ gr) (hgb : B ≤ gb) (n : Nat) (e : Int) (hn : n ≤ R.length) :
    Ret Try.prog 72 [.int .i64 (n : Int), .int .i64 e, .pointer (some ⟨gb, 0, none⟩), .pointer (some ⟨gr, 0, none⟩)] w (fun v w' => (v = .tuple #[] ∧ GS B w' gr gb (if bad = true ∨ e ≠ 0 then R else R.drop n) (decide (bad = true ∨ e ≠ 0))) ∧ Mod2 B [4, 22] w w') := by
  obtain ⟨⟨q, m, c, hR, hl⟩, hF⟩ := hG
  have hlen := hl.len
  have hfit := hl.fit
  have hcap := hl.cap
  have hX := Mod2.refl B [4, 22] w
  refine enter 16 _ Try.func72 rfl rfl (Nat.le_of_ble_eq_true rfl) ?_
  refine c_seq ?_
  refine r_plain ?_
  refine p1 (x_load1 un4 rfl (hF.cell (rfl))) ?_
  refine l_cut 4 [7, 8, 9, 10] [(10, .bool (decide (bad = true ∨ e ≠ 0)))] ?_ ?_
  · skip
    refine p1b (x_move (by conv => lhs; whnf)) (fun hb0_1 => ?_) (fun hb0_1 => ?_)
    · try simp only [decide_eq_true_eq, decide_eq_false_iff_not, Bool.not_eq_true, Bool.not_eq_false, Bool.not_eq_eq_eq_not, Bool.not_true, Bool.not_false, Int.not_lt, Int.not_le] at hb0_1
      refine g0 7 rfl (by first | exact .inl rfl | exact .inr rfl) ?_
      refine g0 7 rfl (by first | exact .inl rfl | exact .inr rfl) ?_
      refine p1 (x_pick_t rfl (by conv => lhs; whnf)) ?_
      exact l_cutend rfl (by repeat (first | exact Agr.refl _ _ | exact Agr.hav _ _ _ | refine Agr.upd rfl ?_ | refine Agr.updL ?_ _ rfl | refine Agr.hav' rfl ?_)) ⟨congrArg Value.bool (by first | rfl | exact (decide_eq_true (by omega)).symm | exact (decide_eq_false (by omega)).symm | exact decide_eq_decide.2 (by omega) | (simp_all; done) | grind), trivial⟩
    · try simp only [decide_eq_true_eq, decide_eq_false_iff_not, Bool.not_eq_true, Bool.not_eq_false, Bool.not_eq_eq_eq_not, Bool.not_true, Bool.not_false, Int.not_lt, Int.not_le] at hb0_1
      refine g1 7 rfl rfl (x_move (by conv => lhs; whnf)) ?_
      refine g1 7 rfl rfl (x_neq rfl rfl) ?_
      refine p1 (x_pick_f rfl (by conv => lhs; whnf)) ?_
      exact l_cutend rfl (by repeat (first | exact Agr.refl _ _ | exact Agr.hav _ _ _ | refine Agr.upd rfl ?_ | refine Agr.updL ?_ _ rfl | refine Agr.hav' rfl ?_)) ⟨congrArg Value.bool (by first | rfl | exact (decide_eq_true (by omega)).symm | exact (decide_eq_false (by omega)).symm | exact decide_eq_decide.2 (by omega) | (simp_all; done) | grind), trivial⟩
  · intro Gr0_1
    refine o_store1 rfl (by conv => lhs; whnf) rfl rfl sz4 hF (by simp) ?_
    intro w1 hP1
    have hX := hX.put hP1 (⟨hgb, by simp⟩)
    have hR := hR.mod (hP1.mod B hgb) (by decide)
    have hF := hP1.blk
    simp only [List.setIfInBounds_toArray, List.set_cons_zero, List.set_cons_succ] at hF
    have hl := hl.mod (hP1.mod B hgb) (Nat.le_refl _) (by decide)
    refine r_nil ?_
    refine t_n ?_
    refine c_seq ?_
    refine r_plain ?_
    refine p1 (x_load1 un4 rfl (hF.cell (rfl))) ?_
    first | refine p1 (x_notd rfl) ?_ | refine p1 (x_not rfl) ?_
    refine r_nil ?_
    refine t_n ?_
    first | refine c_dec rfl (fun hc12 => ?_) (fun hc12 => ?_) | refine c_if rfl (fun hc12 => ?_) (fun hc12 => ?_)
    · try simp only [decide_eq_true_eq, decide_eq_false_iff_not, Bool.not_eq_true, Bool.not_eq_false, Bool.not_eq_eq_eq_not, Bool.not_true, Bool.not_false, Int.not_lt, Int.not_le] at hc12
      have hcE : ¬ (bad = true ∨ e ≠ 0) := by simpa using hc12
      have hl2 := hl.dropI n (by omega)
      refine r_plain ?_
      refine p1 (x_load1 un22 rfl (hR.cell (rfl))) ?_
      refine p1 (x_move (by conv => lhs; whnf)) ?_
      refine p1 (x_slice_lN u22 sz5 rfl rfl (by omega)) ?_
      refine o_store1 rfl (by conv => lhs; whnf) rfl rfl sz22 hR (by simp) ?_
      intro w2 hP2
      have hX := hX.put hP2 (⟨hgr, by simp⟩)
      have hR := hP2.blk
      simp only [List.setIfInBounds_toArray, List.set_cons_zero, List.set_cons_succ] at hR
      have hF := hF.mod (hP2.mod B hgr) (by decide)
      have hl := hl.mod (hP2.mod B hgr) (Nat.le_refl _) (by decide)
      refine r_nil ?_
      refine end0n rfl ?_
      first | (rw [if_pos hcE]; exact ⟨⟨rfl, ⟨⟨_, _, _, hR, hl⟩, hF⟩⟩, hX⟩) | (rw [if_neg hcE]; exact ⟨⟨rfl, ⟨⟨_, _, _, hR, hl.dropI n (by omega)⟩, hF⟩⟩, hX⟩)
    · try simp only [decide_eq_true_eq, decide_eq_false_iff_not, Bool.not_eq_true, Bool.not_eq_false, Bool.not_eq_eq_eq_not, Bool.not_true, Bool.not_false, Int.not_lt, Int.not_le] at hc12
      have hcE : bad = true ∨ e ≠ 0 := by cases bad <;> simp_all
      refine c_skip ?_
      refine end0n rfl ?_
      first | (rw [if_pos hcE]; exact ⟨⟨rfl, ⟨⟨_, _, _, hR, hl⟩, hF⟩⟩, hX⟩) | (rw [if_neg hcE]; exact ⟨⟨rfl, ⟨⟨_, _, _, hR, hl.dropI n (by omega)⟩, hF⟩⟩, hX⟩)
theorem index_number (B : Nat) (gr gb gt : Nat) (R : List UInt8) (bad : Bool) (w : World) (hG : GS B w gr gb R bad) (hgr : B ≤ gr) (hgb : B ≤ gb) (hRl : R.length ≤ 140737490000000) (hBt : Blk w gt #[.func (.func 72) #[] #[.pointer (some ⟨gb, 0, none⟩), .pointer (some ⟨gr, 0, none⟩)]] 94) (mo : Nat) (hmo : mo < 18446744073709551616) :
    Ret Try.prog 73 [.int .u64 (mo : Int), .pointer (some ⟨gr, 0, none⟩), .pointer (some ⟨gt, 0, none⟩), .pointer (some ⟨gb, 0, none⟩)] w (fun v w' => (∃ (N : Nat) (R' : List UInt8) (bad' : Bool), v = .int .u64 (N : Int) ∧ GS B w' gr gb R' bad' ∧ N < 18446744073709551616 ∧ Took (pNum mo R) (bad = true) (bad' = true) N R R') ∧ Mod2 B [4, 22] w w') := by
  obtain ⟨⟨q, m, c, hR, hl⟩, hF⟩ := hG
  have hlen := hl.len
  have hfit := hl.fit
  have hcap := hl.cap
  have hU18 : (getU R).1 < 18446744073709551616 := by
    by_cases h : (getU R).2.2 = 0
    · exact (getU_bounds h).2.2.2
    · rw [(getU_zero h).1]; omega
  have hX := Mod2.refl B [4, 22] w
  refine enter 26 _ Try.func73 rfl rfl (Nat.le_of_ble_eq_true rfl) ?_
  refine c_seq ?_
  refine r_plain ?_
  refine p1 (x_assign (by conv => lhs; whnf)) ?_
  refine r_nil ?_
  refine t_n ?_
  refine c_seq ?_
  refine r_plain ?_
  refine p1 (x_load1 un22 rfl (hR.cell (rfl))) ?_
  refine o_call Try.func74 fn74 fb74 (leb_GetUint R _ _ _ _ _ hl) rfl ?_
  rintro v1 w1 ⟨rfl, hE1⟩
  have hX := hX.ext hE1
  have hR := hR.ext hE1
  have hF := hF.ext hE1
  have hl := hl.ext hE1
  have hBt := hBt.ext hE1
  refine p1 (x_move (by conv => lhs; whnf)) ?_
  refine p1 (x_extract rfl rfl) ?_
  refine p1 (x_extract rfl rfl) ?_
  refine p1 (x_extract rfl rfl) ?_
  refine p1 (x_assign (by conv => lhs; whnf)) ?_
  refine p1 (x_assign (by conv => lhs; whnf)) ?_
  refine p1 (x_assign (by conv => lhs; whnf)) ?_
  refine r_nil ?_
  refine t_n ?_
  refine c_seq ?_
  refine c_seq ?_
  refine r_plain ?_
  refine p1 (x_load1 un94 rfl (hBt.cell (rfl))) ?_
  refine p1 (x_move (by conv => lhs; whnf)) ?_
  refine p1 (x_move (by conv => lhs; whnf)) ?_
  refine o_callv (fs := []) (cs := [.pointer (some ⟨gb, 0, none⟩), .pointer (some ⟨gr, 0, none⟩)]) rfl Try.func72 fn72 fb72 rfl rfl (index_took B gr gb R bad _ ⟨⟨q, m, c, hR, hl⟩, hF⟩ hgr hgb (getU R).2.1 (getU R).2.2 (getU_used R)) ?_
  rintro v2 w2 ⟨⟨rfl, hG2⟩, hM2⟩
  have hX := hX.mod2 hM2 (trivial)
  have hBt := hBt.mod2 hM2 (by decide)
  obtain ⟨⟨q9, m9, c9, hR, hl⟩, hF⟩ := hG2
  refine r_nil ?_
  refine t_n ?_
  refine c_seq ?_
  refine r_plain ?_
  refine p1 (x_load1 un4 rfl (hF.cell (rfl))) ?_
  refine l_cut 5 [20, 21, 22, 23, 24] [(24, .bool (decide ((bad = true ∨ (getU R).2.2 ≠ 0) ∨ mo < (getU R).1)))] ?_ ?_
  · skip
    refine p1b (x_move (by conv => lhs; whnf)) (fun hb3_1 => ?_) (fun hb3_1 => ?_)
    · try simp only [decide_eq_true_eq, decide_eq_false_iff_not, Bool.not_eq_true, Bool.not_eq_false, Bool.not_eq_eq_eq_not, Bool.not_true, Bool.not_false, Int.not_lt, Int.not_le] at hb3_1
      refine Eng.g0 20 rfl (by first | exact .inl rfl | exact .inr rfl) ?_
      refine Eng.g0 20 rfl (by first | exact .inl rfl | exact .inr rfl) ?_
      refine Eng.g0 20 rfl (by first | exact .inl rfl | exact .inr rfl) ?_
      refine p1 (x_pick_t rfl (by conv => lhs; whnf)) ?_
      exact l_cutend rfl (by repeat (first | exact Agr.refl _ _ | exact Agr.hav _ _ _ | refine Agr.upd rfl ?_ | refine Agr.updL ?_ _ rfl | refine Agr.hav' rfl ?_)) ⟨congrArg Value.bool (by first | rfl | exact (decide_eq_true (by omega)).symm | exact (decide_eq_false (by omega)).symm | exact decide_eq_decide.2 (by omega) | (simp_all; done) | grind), trivial⟩
    · try simp only [decide_eq_true_eq, decide_eq_false_iff_not, Bool.not_eq_true, Bool.not_eq_false, Bool.not_eq_eq_eq_not, Bool.not_true, Bool.not_false, Int.not_lt, Int.not_le] at hb3_1
      refine Eng.g1 20 rfl rfl (x_move (by conv => lhs; whnf)) ?_
      refine Eng.g1 20 rfl rfl (x_move (by conv => lhs; whnf)) ?_
      refine Eng.g1 20 rfl rfl (x_gtr rfl rfl) ?_
      refine p1 (x_pick_f rfl (by conv => lhs; whnf)) ?_
      exact l_cutend rfl (by repeat (first | exact Agr.refl _ _ | exact Agr.hav _ _ _ | refine Agr.upd rfl ?_ | refine Agr.updL ?_ _ rfl | refine Agr.hav' rfl ?_)) ⟨congrArg Value.bool (by first | rfl | exact (decide_eq_true (by omega)).symm | exact (decide_eq_false (by omega)).symm | exact decide_eq_decide.2 (by omega) | (simp_all; done) | grind), trivial⟩
  · intro Gr3_1
    refine r_nil ?_
    refine t_n ?_
    first | refine c_dec rfl (fun hc24 => ?_) (fun hc24 => ?_) | refine c_if rfl (fun hc24 => ?_) (fun hc24 => ?_)
    · try simp only [decide_eq_true_eq, decide_eq_false_iff_not, Bool.not_eq_true, Bool.not_eq_false, Bool.not_eq_eq_eq_not, Bool.not_true, Bool.not_false, Int.not_lt, Int.not_le] at hc24
      refine c_seq ?_
      refine r_plain ?_
      refine o_store1 rfl (by conv => lhs; whnf) rfl rfl sz4 hF (by simp) ?_
      intro w3 hP3
      have hX := hX.put hP3 (⟨hgb, by simp⟩)
      have hBt := hBt.mod (hP3.mod B hgb) (by decide)
      have hR := hR.mod (hP3.mod B hgb) (by decide)
      have hF := hP3.blk
      simp only [List.setIfInBounds_toArray, List.set_cons_zero, List.set_cons_succ] at hF
      have hl := hl.mod (hP3.mod B hgb) (Nat.le_refl _) (by decide)
      refine r_nil ?_
      refine t_n ?_
      refine c_seq ?_
      refine r_plain ?_
      refine p1 (x_assign (by conv => lhs; whnf)) ?_
      refine r_nil ?_
      refine t_n ?_
      refine c_ret ?_
      refine t_r ?_
      refine end1 rfl (by conv => lhs; whnf) ?_
      first | exact ⟨⟨0, _, true, rfl, ⟨⟨_, _, _, hR, hl⟩, hF⟩, by omega, took_num hc24⟩, hX⟩ | exact ⟨⟨(getU R).1, _, _, rfl, ⟨⟨_, _, _, hR, hl⟩, hF⟩, by omega, took_num_ok hc24⟩, hX⟩
    · try simp only [decide_eq_true_eq, decide_eq_false_iff_not, Bool.not_eq_true, Bool.not_eq_false, Bool.not_eq_eq_eq_not, Bool.not_true, Bool.not_false, Int.not_lt, Int.not_le] at hc24
      refine c_skip ?_
      refine t_n ?_
      refine c_seq ?_
      refine r_plain ?_
      refine p1 (x_move (by conv => lhs; whnf)) ?_
      refine p1 (x_assign (by conv => lhs; whnf)) ?_
      refine r_nil ?_
      refine t_n ?_
      refine c_ret ?_
      refine end1 rfl (by conv => lhs; whnf) ?_
      first | exact ⟨⟨0, _, true, rfl, ⟨⟨_, _, _, hR, hl⟩, hF⟩, by omega, took_num hc24⟩, hX⟩ | exact ⟨⟨(getU R).1, _, _, rfl, ⟨⟨_, _, _, hR, hl⟩, hF⟩, by omega, took_num_ok hc24⟩, hX⟩
theorem index_name (B : Nat) (gr gb gt : Nat) (R : List UInt8) (bad : Bool) (w : World) (hG : GS B w gr gb R bad) (hgr : B ≤ gr) (hgb : B ≤ gb) (hRl : R.length ≤ 140737490000000) (hBt : Blk w gt #[.func (.func 72) #[] #[.pointer (some ⟨gb, 0, none⟩), .pointer (some ⟨gr, 0, none⟩)]] 94) :
    Ret Try.prog 75 [.pointer (some ⟨gr, 0, none⟩), .pointer (some ⟨gt, 0, none⟩)] w (fun v w' => (∃ (s : ByteArray) (R' : List UInt8) (bad' : Bool), v = .string s ∧ GS B w' gr gb R' bad' ∧ s.size ≤ R.length ∧ Took (pTxt R) (bad = true) (bad' = true) s R R') ∧ Mod2 B [4, 22] w w') := by
  obtain ⟨⟨q, m, c, hR, hl⟩, hF⟩ := hG
  have hlen := hl.len
  have hfit := hl.fit
  have hcap := hl.cap
  have hX := Mod2.refl B [4, 22] w
  refine enter 17 _ Try.func75 rfl rfl (Nat.le_of_ble_eq_true rfl) ?_
  refine c_seq ?_
  refine r_plain ?_
  refine p1 (x_assign (by conv => lhs; whnf)) ?_
  refine r_nil ?_
  refine t_n ?_
  refine c_seq ?_
  refine r_plain ?_
  refine p1 (x_load1 un22 rfl (hR.cell (rfl))) ?_
  refine o_call Try.func76 fn76 fb76 (leb_GetText R 32 _ _ _ _ _ hl (by omega) (by omega)) rfl ?_
  rintro v1 w1 ⟨rfl, hE1⟩
  have hX := hX.ext hE1
  have hR := hR.ext hE1
  have hF := hF.ext hE1
  have hl := hl.ext hE1
  have hBt := hBt.ext hE1
  refine p1 (x_move (by conv => lhs; whnf)) ?_
  refine p1 (x_extract rfl rfl) ?_
  refine p1 (x_extract rfl rfl) ?_
  refine p1 (x_extract rfl rfl) ?_
  refine p1 (x_assign (by conv => lhs; whnf)) ?_
  refine p1 (x_assign (by conv => lhs; whnf)) ?_
  refine p1 (x_assign (by conv => lhs; whnf)) ?_
  refine r_nil ?_
  refine t_n ?_
  refine c_seq ?_
  refine r_plain ?_
  refine p1 (x_load1 un94 rfl (hBt.cell (rfl))) ?_
  refine p1 (x_move (by conv => lhs; whnf)) ?_
  refine p1 (x_move (by conv => lhs; whnf)) ?_
  refine o_callv (fs := []) (cs := [.pointer (some ⟨gb, 0, none⟩), .pointer (some ⟨gr, 0, none⟩)]) rfl Try.func72 fn72 fb72 rfl rfl (index_took B gr gb R bad _ ⟨⟨q, m, c, hR, hl⟩, hF⟩ hgr hgb (getT R 32).2.1 (getT R 32).2.2 (getT_used R 32).1) ?_
  rintro v2 w2 ⟨⟨rfl, hG2⟩, hM2⟩
  have hX := hX.mod2 hM2 (trivial)
  have hBt := hBt.mod2 hM2 (by decide)
  obtain ⟨⟨q9, m9, c9, hR, hl⟩, hF⟩ := hG2
  refine r_nil ?_
  refine t_n ?_
  refine c_seq ?_
  refine r_plain ?_
  refine p1 (x_move (by conv => lhs; whnf)) ?_
  refine p1 (x_assign (by conv => lhs; whnf)) ?_
  refine r_nil ?_
  refine t_n ?_
  refine c_ret ?_
  refine end1 rfl (by conv => lhs; whnf) ?_
  exact ⟨⟨_, _, _, rfl, ⟨⟨_, _, _, hR, hl⟩, hF⟩, (getT_used R 32).2, took_of (pTxt_if R)⟩, hX⟩
theorem index_list (B : Nat) (gr gb gt : Nat) (R : List UInt8) (bad : Bool) (w : World) (hG : GS B w gr gb R bad) (hgr : B ≤ gr) (hgb : B ≤ gb) (hRl : R.length ≤ 140737490000000) (hBt : Blk w gt #[.func (.func 72) #[] #[.pointer (some ⟨gb, 0, none⟩), .pointer (some ⟨gr, 0, none⟩)]] 94) (mo : Nat) (hmo : mo ≤ 9223372036854775807) :
    Ret Try.prog 77 [.int .i64 (mo : Int), .pointer (some ⟨gr, 0, none⟩), .pointer (some ⟨gt, 0, none⟩)] w (fun v w' => (∃ (q : Option Addr) (m c : Nat) (hs : List Hash) (R' : List UInt8) (bad' : Bool), v = .slice q m c ∧ Own kHash 35 0 w.heap.size w' q m c hs ∧ GS B w' gr gb R' bad' ∧ Took (pHs mo R) (bad = true) (bad' = true) hs R R') ∧ Mod2 B [4, 22] w w') := by
  obtain ⟨⟨q, m, c, hR, hl⟩, hF⟩ := hG
  have hlen := hl.len
  have hfit := hl.fit
  have hcap := hl.cap
  have hX := Mod2.refl B [4, 22] w
  refine enter 20 _ Try.func77 rfl rfl (Nat.le_of_ble_eq_true rfl) ?_
  refine c_seq ?_
  refine r_plain ?_
  refine p1 (x_assign (by conv => lhs; whnf)) ?_
  refine r_nil ?_
  refine t_n ?_
  refine c_seq ?_
  refine r_plain ?_
  refine p1 (x_load1 un22 rfl (hR.cell (rfl))) ?_
  refine p1 (x_move (by conv => lhs; whnf)) ?_
  have hXs := hX.size
  refine o_call Try.func43 fn43 fb43 (hashes_Get R mo _ _ _ _ _ hl (by omega) (by omega)) rfl ?_
  rintro v1 w1 ⟨⟨q5, m5, c5, rfl, hO⟩, hE1⟩
  have hX := hX.ext hE1
  have hR := hR.ext hE1
  have hF := hF.ext hE1
  have hl := hl.ext hE1
  have hBt := hBt.ext hE1
  have hO := hO.lower hXs
  refine p1 (x_move (by conv => lhs; whnf)) ?_
  refine p1 (x_extract rfl rfl) ?_
  refine p1 (x_extract rfl rfl) ?_
  refine p1 (x_extract rfl rfl) ?_
  refine p1 (x_assign (by conv => lhs; whnf)) ?_
  refine p1 (x_assign (by conv => lhs; whnf)) ?_
  refine p1 (x_assign (by conv => lhs; whnf)) ?_
  refine r_nil ?_
  refine t_n ?_
  refine c_seq ?_
  refine r_plain ?_
  refine p1 (x_load1 un94 rfl (hBt.cell (rfl))) ?_
  refine p1 (x_move (by conv => lhs; whnf)) ?_
  refine p1 (x_move (by conv => lhs; whnf)) ?_
  refine o_callv (fs := []) (cs := [.pointer (some ⟨gb, 0, none⟩), .pointer (some ⟨gr, 0, none⟩)]) rfl Try.func72 fn72 fb72 rfl rfl (index_took B gr gb R bad _ ⟨⟨q, m, c, hR, hl⟩, hF⟩ hgr hgb (gets R mo).2.1 (gets R mo).2.2 (gets_used R mo)) ?_
  rintro v2 w2 ⟨⟨rfl, hG2⟩, hM2⟩
  have hX := hX.mod2 hM2 (trivial)
  have hBt := hBt.mod2 hM2 (by decide)
  have hO := hO.mod2 hM2 (Nat.zero_le _) (by decide)
  obtain ⟨⟨q9, m9, c9, hR, hl⟩, hF⟩ := hG2
  refine r_nil ?_
  refine t_n ?_
  refine c_seq ?_
  refine r_plain ?_
  refine p1 (x_move (by conv => lhs; whnf)) ?_
  refine p1 (x_assign (by conv => lhs; whnf)) ?_
  refine r_nil ?_
  refine t_n ?_
  refine c_ret ?_
  refine end1 rfl (by conv => lhs; whnf) ?_
  exact ⟨⟨_, _, _, _, _, _, rfl, hO, ⟨⟨_, _, _, hR, hl⟩, hF⟩, took_of (pHs_if mo R)⟩, hX⟩
end Go.Proofs.Eng
end
