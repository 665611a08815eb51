import Derived.Test.YtphmpibmogbafaaKPP3
/- Merged: KG T14 KH QO T15 KI T16 KJ T17 KK -/
section
set_option linter.unusedVariables false
set_option linter.unusedSimpArgs false
set_option maxRecDepth 100000
set_option maxHeartbeats 4000000
namespace Go.Proofs.Eng
open Go.RowKit
open Extern.Stop (cell)
theorem ref_stays (k : ByteArray) (s d st : List UInt8) (e B : Nat) (p : Option Addr) (n c : Nat) (w : World) (hS : Sl kByte e B w p n c st) (hsd : s.length + d.length ≤ 16777216) :
    Ret Try.prog 55 [.agg #[.string k, .string (toStr s), .string (toStr d)], .slice p n c] w (fun v w' => (∃ u : Nat, v = .tuple #[.string (toStr (wakeF (s ++ d, s.length) st).1), .int .i64 (u : Int)] ∧ st.drop u = (wakeR (s ++ d, s.length) st).2.2) ∧ Ext w w') := by
  have hX := Ext.refl w
  refine enter 89 _ Try.func55 rfl rfl (Nat.le_of_ble_eq_true rfl) rfl ?_
  refine c_seq ?_
  refine r_plain ?_
  have hzs := toStr_size s
  have hzd := toStr_size d
  have hsl := hS.len
  have hsc := hS.cap
  have hsf := hS.fit
  have hbl : (s ++ d).length = s.length + d.length := List.length_append
  refine o_boxA (by conv => lhs; whnf) ?_
  intro w1 g2 hN2
  have hE1 := hN2.ext
  have hX := hX.ext hE1
  have hB2 := hN2.blk
  refine p1 (x_assign (by conv => lhs; whnf)) ?_
  refine p1 (x_assign (by conv => lhs; whnf)) ?_
  refine r_nil ?_
  refine t_n ?_
  refine c_seq ?_
  refine r_plain ?_
  refine p1 (x_fieldAddr fo81_1 sz9 rfl) ?_
  refine p1 (x_load1 un9 rfl (hB2.cell (rfl))) ?_
  obtain ⟨B0, hB0⟩ : ∃ B, B = w1.heap.size := ⟨_, rfl⟩
  have hwB := Nat.le_trans hX.size (Nat.le_of_eq hB0.symm)
  refine o_convSB u9 u31 u5 rfl (by omega) ?_
  intro q0 ck0 w2 hE2 hK
  rw [← hB0] at hK
  have hX := hX.ext hE2
  have hB2 := hB2.ext hE2
  refine p1 (x_assign (by conv => lhs; whnf)) ?_
  refine r_nil ?_
  refine t_n ?_
  refine c_seq ?_
  refine r_plain ?_
  refine p1 (x_move (by conv => lhs; whnf)) ?_
  refine p1 (x_len_slice u31 rfl) ?_
  refine p1 (x_assign (by conv => lhs; whnf)) ?_
  refine r_nil ?_
  refine t_n ?_
  refine c_seq ?_
  refine r_plain ?_
  refine p1 (x_assign (by conv => lhs; whnf)) ?_
  refine r_nil ?_
  refine t_n ?_
  refine c_seq ?_
  refine c_seq ?_
  refine r_plain ?_
  refine p1 (x_assign (by conv => lhs; whnf)) ?_
  refine r_nil ?_
  refine t_n ?_
  refine c_block ?_
  refine c_loop (ι := Nat × Nat × Nat × Nat × List UInt8 × Option Addr × Nat × Nat) [6, 7, 8, 9, 10, 11, 12, 13, 14, 20, 21, 22, 23, 24, 25, 26, 27, 28, 29, 30, 31, 32, 33, 34, 35, 36, 37, 38, 39, 40, 41, 42, 43, 44, 45, 46, 47, 48, 49, 50, 51, 52, 53, 54, 55, 56, 57, 58, 59, 60, 61, 62, 63, 64, 65, 66, 67, 68, 69, 70, 71, 72, 73, 74, 75, 76, 77, 78, 79, 80, 81, 82, 83] (fun (fu, i, ln, m, kept, q, ck, u) => [(6, .slice q ln ck), (7, .int .i64 (m : Int)), (8, .int .i64 (u : Int)), (9, .int .i64 (i : Int))]) (fun (fu, i, ln, m, kept, q, ck, u) w' => Ext w w' ∧ (FBm B0 w' q ln ck kept ∧ Blk w' g2 #[.string k, .string (toStr s), .string (toStr d)] 81 ∧ (ln = s.length + i ∧ i ≤ d.length ∧ m ≤ ln ∧ u ≤ i) ∧ d.length - i < fu ∧ pieces (s ++ d) fu ln m kept (st.drop u) = wakeR (s ++ d, s.length) st)) (fun (fu, i, ln, m, kept, q, ck, u) => d.length - i) (((s ++ d).length + 1, 0, s.length, s.length, s, q0, ck0, 0)) ⟨rfl, rfl, rfl, rfl, trivial⟩ ⟨hX, ⟨hK, hB2, ⟨rfl, Nat.zero_le _, Nat.le_refl _, Nat.le_refl _⟩, by omega, by show pieces _ _ _ _ s st = pieces (s ++ d) ((s ++ d).length + 1) s.length s.length ((s ++ d).take s.length) st; rw [List.take_left]⟩⟩ ?_
  rintro ⟨fu, i, ln, m, kept, q, ck, u⟩ GL0 w3 ⟨hE3, hK, hB2, ⟨hln, hi, hm, hu⟩, hfu, hpe⟩
  have hX := hE3
  refine c_seq ?_
  refine c_seq ?_
  refine r_plain ?_
  refine p1 (x_move (by conv => lhs; whnf)) ?_
  refine p1 (x_fieldAddr fo81_2 sz9 rfl) ?_
  refine p1 (x_load1 un9 rfl (hB2.cell (rfl))) ?_
  refine p1 (x_len_str u9 rfl) ?_
  refine p1 (x_lss rfl rfl) ?_
  refine r_nil ?_
  refine t_n ?_
  first | refine c_dec rfl (fun hc24 => ?_) (fun hc24 => ?_) | refine c_if rfl (fun hc24 => ?_) (fun hc24 => ?_)
  · try simp only [decide_eq_true_eq, decide_eq_false_iff_not, Bool.not_eq_true, Bool.not_eq_false, Bool.not_eq_eq_eq_not, Bool.not_true, Bool.not_false, Int.not_lt, Int.not_le] at hc24
    have hlt : ln < (s ++ d).length := by omega
    obtain ⟨e1, e2⟩ := pieceE_gt hlt
    obtain ⟨fu2, hfu2, hpe2⟩ := pieces_step (fu := fu) (n := m) (kept := kept) (st := st.drop u) hlt (by omega)
    have hEv : pieceE (s ++ d) ln = min (ln - ln % 16 + 16) (s ++ d).length := rfl
    obtain ⟨E, hE⟩ : ∃ E, E = pieceE (s ++ d) ln := ⟨_, rfl⟩
    obtain ⟨tt, htt⟩ : ∃ t, t = pieceT (s ++ d) ln (st.drop u) := ⟨_, rfl⟩
    have hTle := pieceT_le (s ++ d) ln (st.drop u)
    have hPT : ∀ z, pieceT (s ++ d) ln (st.drop u) = z → tt = z := fun z h => htt.trans h
    rw [← hE, ← htt] at hpe2
    rw [← hE] at hEv e1 e2 hTle hfu2
    rw [← htt] at hTle
    have htail : (st.drop u).tail = st.drop (u + 1) := by rw [List.tail_drop]
    rw [htail] at hpe2
    refine c_skip ?_
    refine t_n ?_
    refine c_block ?_
    refine c_seq ?_
    refine r_plain ?_
    refine p1 (x_fieldAddr fo81_1 sz9 rfl) ?_
    refine p1 (x_load1 un9 rfl (hB2.cell (rfl))) ?_
    refine p1 (x_len_str u9 rfl) ?_
    refine p1 (x_move (by conv => lhs; whnf)) ?_
    refine p1 ((x_add rfl rfl (fits_i64 (by omega) (by omega))).cast (congrArg (Value.int .i64) (by omega : _ = (ln : Int)))) ?_
    refine p1 (x_assign (by conv => lhs; whnf)) ?_
    refine r_nil ?_
    refine t_n ?_
    refine c_seq ?_
    refine r_plain ?_
    refine p1 (x_move (by conv => lhs; whnf)) ?_
    refine p1 (x_rem rfl rfl (by omega) (by omega)) ?_
    refine p1 (x_sub rfl rfl (fits_i64 (by omega) (by omega))) ?_
    refine p1 (x_fieldAddr fo81_2 sz9 rfl) ?_
    refine p1 (x_load1 un9 rfl (hB2.cell (rfl))) ?_
    refine p1 (x_len_str u9 rfl) ?_
    refine p1 (x_move (by conv => lhs; whnf)) ?_
    refine p1 (x_sub rfl rfl (fits_i64 (by omega) (by omega))) ?_
    refine p1 ((x_min rfl rfl).cast (congrArg (Value.int .i64) (by split <;> omega : _ = ((E - ln : Nat) : Int)))) ?_
    refine p1 (x_assign (by conv => lhs; whnf)) ?_
    refine r_nil ?_
    refine t_n ?_
    refine c_seq ?_
    refine r_plain ?_
    refine p1 (x_assign (by conv => lhs; whnf)) ?_
    refine r_nil ?_
    refine t_n ?_
    refine c_seq ?_
    refine c_seq ?_
    refine r_plain ?_
    refine p1 (x_move (by conv => lhs; whnf)) ?_
    refine p1 (x_move (by conv => lhs; whnf)) ?_
    refine p1 (x_len_slice u31 rfl) ?_
    refine p1 (x_lss rfl rfl) ?_
    refine r_nil ?_
    refine t_n ?_
    first | refine c_dec rfl (fun hc42 => ?_) (fun hc42 => ?_) | refine c_if rfl (fun hc42 => ?_) (fun hc42 => ?_)
    · try simp only [decide_eq_true_eq, decide_eq_false_iff_not, Bool.not_eq_true, Bool.not_eq_false, Bool.not_eq_eq_eq_not, Bool.not_true, Bool.not_false, Int.not_lt, Int.not_le] at hc42
      have hdr := drop_head (st := st) (u := u) (by omega)
      have hs8 := (st.getD u 0).toNat_lt
      refine c_seq ?_
      refine r_plain ?_
      refine p1 (x_move (by conv => lhs; whnf)) ?_
      refine p1 (x_move (by conv => lhs; whnf)) ?_
      refine p1 (x_ixs0 u31 sz5 rfl rfl ((hS.ext hX).adr kByte_pos (by omega)) (by omega)) ?_
      refine p1 (x_load1 un5 rfl ((hS.ext hX).byteAt _ (by omega))) ?_
      refine p1 (x_convf u3 us5 rfl (fits_i64 (by omega) (by omega))) ?_
      refine p1 (x_move (by conv => lhs; whnf)) ?_
      refine p1 (x_add rfl rfl (fits_i64 (by omega) (by omega))) ?_
      refine p1 ((x_rem rfl rfl (by omega) (by omega)).cast (congrArg (Value.int .i64) (by rw [show ((E - ln : Nat) : Int) + 1 = ((E - ln + 1 : Nat) : Int) from by omega, ← Int.natCast_emod] : _ = (((st.getD u 0).toNat % (E - ln + 1) : Nat) : Int)))) ?_
      refine p1 (x_assign (by conv => lhs; whnf)) ?_
      refine r_nil ?_
      refine t_n ?_
      refine c_seq ?_
      refine r_plain ?_
      refine p1 (x_move (by conv => lhs; whnf)) ?_
      refine p1 (x_move (by conv => lhs; whnf)) ?_
      refine p1 (x_ixs0 u31 sz5 rfl rfl ((hS.ext hX).adr kByte_pos (by omega)) (by omega)) ?_
      refine p1 (x_load1 un5 rfl ((hS.ext hX).byteAt _ (by omega))) ?_
      refine p1 (x_eql rfl rfl) ?_
      refine r_nil ?_
      refine t_n ?_
      first | refine c_dec rfl (fun hc55 => ?_) (fun hc55 => ?_) | refine c_if rfl (fun hc55 => ?_) (fun hc55 => ?_)
      · try simp only [decide_eq_true_eq, decide_eq_false_iff_not, Bool.not_eq_true, Bool.not_eq_false, Bool.not_eq_eq_eq_not, Bool.not_true, Bool.not_false, Int.not_lt, Int.not_le] at hc55
        have hpt : tt = E - ln := hPT _ (by rw [hdr, hE]; exact if_pos (UInt8.toNat_inj.1 (show (st.getD u 0).toNat = 255 by omega)))
        refine r_plain ?_
        refine p1 (x_move (by conv => lhs; whnf)) ?_
        refine p1 (x_assign (by conv => lhs; whnf)) ?_
        refine r_nil ?_
        refine t_n ?_
        refine c_seq ?_
        refine r_plain ?_
        refine p1 (x_move (by conv => lhs; whnf)) ?_
        refine p1 (x_add rfl rfl (fits_i64 (by omega) (by omega))) ?_
        refine p1 (x_assign (by conv => lhs; whnf)) ?_
        refine r_nil ?_
        refine t_n ?_
        refine c_seq ?_
        refine c_seq ?_
        refine r_plain ?_
        refine p1 (x_assign (by conv => lhs; whnf)) ?_
        refine r_nil ?_
        refine t_n ?_
        refine c_block ?_
        refine c_loop (ι := Nat × Nat × Nat × Option Addr × Nat) [6, 7, 13, 14, 59, 60, 61, 62, 63, 64, 65, 66, 67, 68, 69, 70, 71, 72, 73, 74, 75, 76, 77, 78, 79, 80] (fun (j, ln2, mj, q2, ck2) => [(6, .slice q2 ln2 ck2), (7, .int .i64 (mj : Int)), (13, .int .i64 (j : Int))]) (fun (j, ln2, mj, q2, ck2) w' => Ext w w' ∧ (FBm B0 w' q2 ln2 ck2 (kept ++ ((s ++ d).drop ln).take (min j tt) ++ List.replicate (j - tt) 0) ∧ Blk w' g2 #[.string k, .string (toStr s), .string (toStr d)] 81 ∧ (ln2 = ln + j ∧ j ≤ E - ln) ∧ mj = (if 0 < min j tt then ln + min j tt else m))) (fun (j, ln2, mj, q2, ck2) => E - ln - j) ((0, ln, m, q, ck)) ⟨rfl, rfl, rfl, trivial⟩ ⟨hX, ⟨by simpa using hK, hB2, ⟨rfl, Nat.zero_le _⟩, by rw [if_neg (by omega)]⟩⟩ ?_
        rintro ⟨j, ln2, mj, q2, ck2⟩ GL2 w4 ⟨hE4, hK, hB2, ⟨hln2, hj⟩, hmj⟩
        have hX := hE4
        refine c_seq ?_
        refine c_seq ?_
        refine r_plain ?_
        refine p1 (x_move (by conv => lhs; whnf)) ?_
        refine p1 (x_move (by conv => lhs; whnf)) ?_
        refine p1 (x_lss rfl rfl) ?_
        refine r_nil ?_
        refine t_n ?_
        first | refine c_dec rfl (fun hc61 => ?_) (fun hc61 => ?_) | refine c_if rfl (fun hc61 => ?_) (fun hc61 => ?_)
        · try simp only [decide_eq_true_eq, decide_eq_false_iff_not, Bool.not_eq_true, Bool.not_eq_false, Bool.not_eq_eq_eq_not, Bool.not_true, Bool.not_false, Int.not_lt, Int.not_le] at hc61
          refine c_skip ?_
          refine t_n ?_
          refine c_seq ?_
          refine c_block ?_
          refine c_seq ?_
          refine r_plain ?_
          refine p1 (x_assign (by conv => lhs; whnf)) ?_
          refine r_nil ?_
          refine t_n ?_
          refine c_seq ?_
          refine c_seq ?_
          refine r_plain ?_
          refine p1 (x_move (by conv => lhs; whnf)) ?_
          refine p1 (x_move (by conv => lhs; whnf)) ?_
          refine p1 (x_lss rfl rfl) ?_
          refine r_nil ?_
          refine t_n ?_
          first | refine c_dec rfl (fun hc66 => ?_) (fun hc66 => ?_) | refine c_if rfl (fun hc66 => ?_) (fun hc66 => ?_)
          · try simp only [decide_eq_true_eq, decide_eq_false_iff_not, Bool.not_eq_true, Bool.not_eq_false, Bool.not_eq_eq_eq_not, Bool.not_true, Bool.not_false, Int.not_lt, Int.not_le] at hc66
            obtain ⟨xb, hxb⟩ : ∃ x, x = btAt (toStr d) ((i : Int) + (j : Int)).toNat := ⟨_, rfl⟩
            have hxd : xb = ((s ++ d).drop ln).getD j 0 := by rw [hxb, btAt_toStr, drop_getD hln, show ((i : Int) + (j : Int)).toNat = i + j from by omega]
            have hjt : j < tt := by omega
            have hkj := keptJ_lt (kept := kept) (D := (s ++ d).drop ln) hjt (by rw [List.length_drop]; omega)
            rw [← hxd] at hkj
            refine c_seq ?_
            refine r_plain ?_
            refine p1 (x_fieldAddr fo81_2 sz9 rfl) ?_
            refine p1 (x_load1 un9 rfl (hB2.cell (rfl))) ?_
            refine p1 (x_move (by conv => lhs; whnf)) ?_
            refine p1 (x_move (by conv => lhs; whnf)) ?_
            refine p1 (x_add rfl rfl (fits_i64 (by omega) (by omega))) ?_
            refine p1 (x_ixstr u9 rfl rfl (by omega) (by omega)) ?_
            refine p1 (x_assign (by conv => lhs; whnf)) ?_
            refine r_nil ?_
            refine t_n ?_
            refine r_plain ?_
            refine p1 (x_move (by conv => lhs; whnf)) ?_
            refine p1 (x_move (by conv => lhs; whnf)) ?_
            refine p1 (x_add rfl rfl (fits_i64 (by omega) (by omega))) ?_
            refine p1 ((x_add rfl rfl (fits_i64 (by omega) (by omega))).cast (congrArg (Value.int .i64) (by omega : _ = ((ln + j + 1 : Nat) : Int)))) ?_
            refine p1 (x_assign (by conv => lhs; whnf)) ?_
            refine r_nil ?_
            refine t_n ?_
            refine r_plain ?_
            refine p1 (x_move (by conv => lhs; whnf)) ?_
            refine p1 (x_move (by conv => lhs; whnf)) ?_
            refine o_buildSlice u31 inf5 rfl (by decide) (fun base hb => fill_one (by rfl) base hb) ?_
            intro w5 g79 hN79
            have hE5 := hN79.ext
            have hX := hX.ext hE5
            have hK := hK.ext hE5
            have hB2 := hB2.ext hE5
            have hJ : Own kByte 5 0 0 w5 (some ⟨g79, 0, none⟩) 1 1 [xb] := own_lit [xb] (by rw [hxb]; exact hN79) (Nat.zero_le _) (by simp)
            have hlow := hK.low
            refine o_appendM (b := xb) u31 inf5 rfl rfl hK (src_pure u31 hJ.sl (by decide)) (by omega) hlow ?_
            intro pz cz w6 hK hMa
            have hX := hX.mod hMa hwB
            have hB2 := hB2.mod hMa (by decide)
            rw [hkj] at hK
            skip
            refine p1 (x_assign (by conv => lhs; whnf)) ?_
            refine r_nil ?_
            refine b_n ?_
            refine t_n ?_
            refine r_plain ?_
            refine p1 (x_move (by conv => lhs; whnf)) ?_
            refine p1 (x_add rfl rfl (fits_i64 (by omega) (by omega))) ?_
            refine p1 (x_assign (by conv => lhs; whnf)) ?_
            refine r_nil ?_
            first
              | exact t_n (At.mk ((j + 1, ln2 + 1, ln + j + 1, pz, cz)) (by repeat (first | exact Agr.refl _ _ | exact Agr.hav _ _ _ | refine Agr.upd rfl ?_ | refine Agr.updR rfl ?_ | refine Agr.updL ?_ _ rfl | refine Agr.hav' rfl ?_)) ⟨rfl, rfl, rfl, trivial⟩ ⟨⟨hX, ⟨hK, hB2, ⟨by omega, by omega⟩, by rw [if_pos (by omega)]; omega⟩⟩, by first | (dsimp only; omega) | ((show _ < _); omega)⟩)
              | exact t_n (At.mk ((j + 1, ln2 + 1, mj, pz, cz)) (by repeat (first | exact Agr.refl _ _ | exact Agr.hav _ _ _ | refine Agr.upd rfl ?_ | refine Agr.updR rfl ?_ | refine Agr.updL ?_ _ rfl | refine Agr.hav' rfl ?_)) ⟨rfl, rfl, rfl, trivial⟩ ⟨⟨hX, ⟨hK, hB2, ⟨by omega, by omega⟩, by rw [hmj, show min (j + 1) tt = min j tt from by omega]⟩⟩, by first | (dsimp only; omega) | ((show _ < _); omega)⟩)
          · try simp only [decide_eq_true_eq, decide_eq_false_iff_not, Bool.not_eq_true, Bool.not_eq_false, Bool.not_eq_eq_eq_not, Bool.not_true, Bool.not_false, Int.not_lt, Int.not_le] at hc66
            obtain ⟨xb, hxb⟩ : ∃ x, x = (0 : UInt8) := ⟨_, rfl⟩
            have hjt : tt ≤ j := by omega
            have hkj : (kept ++ ((s ++ d).drop ln).take (min j tt) ++ List.replicate (j - tt) 0) ++ [xb] = kept ++ ((s ++ d).drop ln).take (min (j + 1) tt) ++ List.replicate (j + 1 - tt) 0 := by rw [hxb]; exact keptJ_ge hjt
            refine c_skip ?_
            refine t_n ?_
            refine r_plain ?_
            refine p1 (x_move (by conv => lhs; whnf)) ?_
            refine p1 (x_move (by conv => lhs; whnf)) ?_
            refine o_buildSlice u31 inf5 rfl (by decide) (fun base hb => fill_one (by rfl) base hb) ?_
            intro w7 g79 hN79
            have hE7 := hN79.ext
            have hX := hX.ext hE7
            have hK := hK.ext hE7
            have hB2 := hB2.ext hE7
            have hJ : Own kByte 5 0 0 w7 (some ⟨g79, 0, none⟩) 1 1 [xb] := own_lit [xb] (by rw [hxb]; exact hN79) (Nat.zero_le _) (by simp)
            have hlow := hK.low
            refine o_appendM (b := xb) u31 inf5 rfl rfl hK (src_pure u31 hJ.sl (by decide)) (by omega) hlow ?_
            intro pz cz w8 hK hMa
            have hX := hX.mod hMa hwB
            have hB2 := hB2.mod hMa (by decide)
            rw [hkj] at hK
            skip
            refine p1 (x_assign (by conv => lhs; whnf)) ?_
            refine r_nil ?_
            refine b_n ?_
            refine t_n ?_
            refine r_plain ?_
            refine p1 (x_move (by conv => lhs; whnf)) ?_
            refine p1 (x_add rfl rfl (fits_i64 (by omega) (by omega))) ?_
            refine p1 (x_assign (by conv => lhs; whnf)) ?_
            refine r_nil ?_
            first
              | exact t_n (At.mk ((j + 1, ln2 + 1, ln + j + 1, pz, cz)) (by repeat (first | exact Agr.refl _ _ | exact Agr.hav _ _ _ | refine Agr.upd rfl ?_ | refine Agr.updR rfl ?_ | refine Agr.updL ?_ _ rfl | refine Agr.hav' rfl ?_)) ⟨rfl, rfl, rfl, trivial⟩ ⟨⟨hX, ⟨hK, hB2, ⟨by omega, by omega⟩, by rw [if_pos (by omega)]; omega⟩⟩, by first | (dsimp only; omega) | ((show _ < _); omega)⟩)
              | exact t_n (At.mk ((j + 1, ln2 + 1, mj, pz, cz)) (by repeat (first | exact Agr.refl _ _ | exact Agr.hav _ _ _ | refine Agr.upd rfl ?_ | refine Agr.updR rfl ?_ | refine Agr.updL ?_ _ rfl | refine Agr.hav' rfl ?_)) ⟨rfl, rfl, rfl, trivial⟩ ⟨⟨hX, ⟨hK, hB2, ⟨by omega, by omega⟩, by rw [hmj, show min (j + 1) tt = min j tt from by omega]⟩⟩, by first | (dsimp only; omega) | ((show _ < _); omega)⟩)
        · try simp only [decide_eq_true_eq, decide_eq_false_iff_not, Bool.not_eq_true, Bool.not_eq_false, Bool.not_eq_eq_eq_not, Bool.not_true, Bool.not_false, Int.not_lt, Int.not_le] at hc61
          have hje : j = E - ln := by omega
          have hkk : (kept ++ ((s ++ d).drop ln).take (min j tt) ++ List.replicate (j - tt) 0) = kept ++ ((s ++ d).drop ln).take tt ++ List.replicate (E - (ln + tt)) 0 := by rw [hje, show min (E - ln) tt = tt from by omega, show E - ln - tt = E - (ln + tt) from by omega]
          rw [hkk] at hK
          have hmj2 : mj = (if 0 < tt then ln + tt else m) := by rw [hmj, hje, show min (E - ln) tt = tt from by omega]
          have hlE : ln2 = E := by omega
          have hmE : mj ≤ ln2 := by rw [hmj2]; split <;> omega
          refine c_exit ?_
          refine t_e ?_
          refine t_e ?_
          refine b_hit ?_
          refine t_n ?_
          refine r_plain ?_
          refine p1 (x_move (by conv => lhs; whnf)) ?_
          refine p1 (x_move (by conv => lhs; whnf)) ?_
          refine p1 ((x_add rfl rfl (fits_i64 (by omega) (by omega))).cast (congrArg (Value.int .i64) (by omega : _ = ((i + (E - ln) : Nat) : Int)))) ?_
          refine p1 (x_assign (by conv => lhs; whnf)) ?_
          refine r_nil ?_
          refine b_n ?_
          refine t_n (At.mk ((fu2, i + (E - ln), ln2, mj, kept ++ ((s ++ d).drop ln).take tt ++ List.replicate (E - (ln + tt)) 0, q2, ck2, u + 1)) (by repeat (first | exact Agr.refl _ _ | exact Agr.hav _ _ _ | refine Agr.upd rfl ?_ | refine Agr.updR rfl ?_ | refine Agr.updL ?_ _ rfl | refine Agr.hav' rfl ?_)) ⟨rfl, rfl, rfl, rfl, trivial⟩ ?_)
          exact ⟨⟨hX, ⟨hK, hB2, ⟨by omega, by omega, hmE, by omega⟩, by omega, by rw [hlE, hmj2, ← hpe2]; exact hpe⟩⟩, by show d.length - (i + (E - ln)) < d.length - i; omega⟩
      · try simp only [decide_eq_true_eq, decide_eq_false_iff_not, Bool.not_eq_true, Bool.not_eq_false, Bool.not_eq_eq_eq_not, Bool.not_true, Bool.not_false, Int.not_lt, Int.not_le] at hc55
        have hpt : tt = (st.getD u 0).toNat % (E - ln + 1) := hPT _ (by rw [hdr, hE]; exact if_neg (fun e => hc55 (by rw [e]; rfl)))
        refine c_skip ?_
        refine t_n ?_
        refine c_seq ?_
        refine r_plain ?_
        refine p1 (x_move (by conv => lhs; whnf)) ?_
        refine p1 (x_add rfl rfl (fits_i64 (by omega) (by omega))) ?_
        refine p1 (x_assign (by conv => lhs; whnf)) ?_
        refine r_nil ?_
        refine t_n ?_
        refine c_seq ?_
        refine c_seq ?_
        refine r_plain ?_
        refine p1 (x_assign (by conv => lhs; whnf)) ?_
        refine r_nil ?_
        refine t_n ?_
        refine c_block ?_
        refine c_loop (ι := Nat × Nat × Nat × Option Addr × Nat) [6, 7, 13, 14, 59, 60, 61, 62, 63, 64, 65, 66, 67, 68, 69, 70, 71, 72, 73, 74, 75, 76, 77, 78, 79, 80] (fun (j, ln2, mj, q2, ck2) => [(6, .slice q2 ln2 ck2), (7, .int .i64 (mj : Int)), (13, .int .i64 (j : Int))]) (fun (j, ln2, mj, q2, ck2) w' => Ext w w' ∧ (FBm B0 w' q2 ln2 ck2 (kept ++ ((s ++ d).drop ln).take (min j tt) ++ List.replicate (j - tt) 0) ∧ Blk w' g2 #[.string k, .string (toStr s), .string (toStr d)] 81 ∧ (ln2 = ln + j ∧ j ≤ E - ln) ∧ mj = (if 0 < min j tt then ln + min j tt else m))) (fun (j, ln2, mj, q2, ck2) => E - ln - j) ((0, ln, m, q, ck)) ⟨rfl, rfl, rfl, trivial⟩ ⟨hX, ⟨by simpa using hK, hB2, ⟨rfl, Nat.zero_le _⟩, by rw [if_neg (by omega)]⟩⟩ ?_
        rintro ⟨j, ln2, mj, q2, ck2⟩ GL2 w9 ⟨hE9, hK, hB2, ⟨hln2, hj⟩, hmj⟩
        have hX := hE9
        refine c_seq ?_
        refine c_seq ?_
        refine r_plain ?_
        refine p1 (x_move (by conv => lhs; whnf)) ?_
        refine p1 (x_move (by conv => lhs; whnf)) ?_
        refine p1 (x_lss rfl rfl) ?_
        refine r_nil ?_
        refine t_n ?_
        first | refine c_dec rfl (fun hc61 => ?_) (fun hc61 => ?_) | refine c_if rfl (fun hc61 => ?_) (fun hc61 => ?_)
        · try simp only [decide_eq_true_eq, decide_eq_false_iff_not, Bool.not_eq_true, Bool.not_eq_false, Bool.not_eq_eq_eq_not, Bool.not_true, Bool.not_false, Int.not_lt, Int.not_le] at hc61
          refine c_skip ?_
          refine t_n ?_
          refine c_seq ?_
          refine c_block ?_
          refine c_seq ?_
          refine r_plain ?_
          refine p1 (x_assign (by conv => lhs; whnf)) ?_
          refine r_nil ?_
          refine t_n ?_
          refine c_seq ?_
          refine c_seq ?_
          refine r_plain ?_
          refine p1 (x_move (by conv => lhs; whnf)) ?_
          refine p1 (x_move (by conv => lhs; whnf)) ?_
          refine p1 (x_lss rfl rfl) ?_
          refine r_nil ?_
          refine t_n ?_
          first | refine c_dec rfl (fun hc66 => ?_) (fun hc66 => ?_) | refine c_if rfl (fun hc66 => ?_) (fun hc66 => ?_)
          · try simp only [decide_eq_true_eq, decide_eq_false_iff_not, Bool.not_eq_true, Bool.not_eq_false, Bool.not_eq_eq_eq_not, Bool.not_true, Bool.not_false, Int.not_lt, Int.not_le] at hc66
            obtain ⟨xb, hxb⟩ : ∃ x, x = btAt (toStr d) ((i : Int) + (j : Int)).toNat := ⟨_, rfl⟩
            have hxd : xb = ((s ++ d).drop ln).getD j 0 := by rw [hxb, btAt_toStr, drop_getD hln, show ((i : Int) + (j : Int)).toNat = i + j from by omega]
            have hjt : j < tt := by omega
            have hkj := keptJ_lt (kept := kept) (D := (s ++ d).drop ln) hjt (by rw [List.length_drop]; omega)
            rw [← hxd] at hkj
            refine c_seq ?_
            refine r_plain ?_
            refine p1 (x_fieldAddr fo81_2 sz9 rfl) ?_
            refine p1 (x_load1 un9 rfl (hB2.cell (rfl))) ?_
            refine p1 (x_move (by conv => lhs; whnf)) ?_
            refine p1 (x_move (by conv => lhs; whnf)) ?_
            refine p1 (x_add rfl rfl (fits_i64 (by omega) (by omega))) ?_
            refine p1 (x_ixstr u9 rfl rfl (by omega) (by omega)) ?_
            refine p1 (x_assign (by conv => lhs; whnf)) ?_
            refine r_nil ?_
            refine t_n ?_
            refine r_plain ?_
            refine p1 (x_move (by conv => lhs; whnf)) ?_
            refine p1 (x_move (by conv => lhs; whnf)) ?_
            refine p1 (x_add rfl rfl (fits_i64 (by omega) (by omega))) ?_
            refine p1 ((x_add rfl rfl (fits_i64 (by omega) (by omega))).cast (congrArg (Value.int .i64) (by omega : _ = ((ln + j + 1 : Nat) : Int)))) ?_
            refine p1 (x_assign (by conv => lhs; whnf)) ?_
            refine r_nil ?_
            refine t_n ?_
            refine r_plain ?_
            refine p1 (x_move (by conv => lhs; whnf)) ?_
            refine p1 (x_move (by conv => lhs; whnf)) ?_
            refine o_buildSlice u31 inf5 rfl (by decide) (fun base hb => fill_one (by rfl) base hb) ?_
            intro w10 g79 hN79
            have hE10 := hN79.ext
            have hX := hX.ext hE10
            have hK := hK.ext hE10
            have hB2 := hB2.ext hE10
            have hJ : Own kByte 5 0 0 w10 (some ⟨g79, 0, none⟩) 1 1 [xb] := own_lit [xb] (by rw [hxb]; exact hN79) (Nat.zero_le _) (by simp)
            have hlow := hK.low
            refine o_appendM (b := xb) u31 inf5 rfl rfl hK (src_pure u31 hJ.sl (by decide)) (by omega) hlow ?_
            intro pz cz w11 hK hMa
            have hX := hX.mod hMa hwB
            have hB2 := hB2.mod hMa (by decide)
            rw [hkj] at hK
            skip
            refine p1 (x_assign (by conv => lhs; whnf)) ?_
            refine r_nil ?_
            refine b_n ?_
            refine t_n ?_
            refine r_plain ?_
            refine p1 (x_move (by conv => lhs; whnf)) ?_
            refine p1 (x_add rfl rfl (fits_i64 (by omega) (by omega))) ?_
            refine p1 (x_assign (by conv => lhs; whnf)) ?_
            refine r_nil ?_
            first
              | exact t_n (At.mk ((j + 1, ln2 + 1, ln + j + 1, pz, cz)) (by repeat (first | exact Agr.refl _ _ | exact Agr.hav _ _ _ | refine Agr.upd rfl ?_ | refine Agr.updR rfl ?_ | refine Agr.updL ?_ _ rfl | refine Agr.hav' rfl ?_)) ⟨rfl, rfl, rfl, trivial⟩ ⟨⟨hX, ⟨hK, hB2, ⟨by omega, by omega⟩, by rw [if_pos (by omega)]; omega⟩⟩, by first | (dsimp only; omega) | ((show _ < _); omega)⟩)
              | exact t_n (At.mk ((j + 1, ln2 + 1, mj, pz, cz)) (by repeat (first | exact Agr.refl _ _ | exact Agr.hav _ _ _ | refine Agr.upd rfl ?_ | refine Agr.updR rfl ?_ | refine Agr.updL ?_ _ rfl | refine Agr.hav' rfl ?_)) ⟨rfl, rfl, rfl, trivial⟩ ⟨⟨hX, ⟨hK, hB2, ⟨by omega, by omega⟩, by rw [hmj, show min (j + 1) tt = min j tt from by omega]⟩⟩, by first | (dsimp only; omega) | ((show _ < _); omega)⟩)
          · try simp only [decide_eq_true_eq, decide_eq_false_iff_not, Bool.not_eq_true, Bool.not_eq_false, Bool.not_eq_eq_eq_not, Bool.not_true, Bool.not_false, Int.not_lt, Int.not_le] at hc66
            obtain ⟨xb, hxb⟩ : ∃ x, x = (0 : UInt8) := ⟨_, rfl⟩
            have hjt : tt ≤ j := by omega
            have hkj : (kept ++ ((s ++ d).drop ln).take (min j tt) ++ List.replicate (j - tt) 0) ++ [xb] = kept ++ ((s ++ d).drop ln).take (min (j + 1) tt) ++ List.replicate (j + 1 - tt) 0 := by rw [hxb]; exact keptJ_ge hjt
            refine c_skip ?_
            refine t_n ?_
            refine r_plain ?_
            refine p1 (x_move (by conv => lhs; whnf)) ?_
            refine p1 (x_move (by conv => lhs; whnf)) ?_
            refine o_buildSlice u31 inf5 rfl (by decide) (fun base hb => fill_one (by rfl) base hb) ?_
            intro w12 g79 hN79
            have hE12 := hN79.ext
            have hX := hX.ext hE12
            have hK := hK.ext hE12
            have hB2 := hB2.ext hE12
            have hJ : Own kByte 5 0 0 w12 (some ⟨g79, 0, none⟩) 1 1 [xb] := own_lit [xb] (by rw [hxb]; exact hN79) (Nat.zero_le _) (by simp)
            have hlow := hK.low
            refine o_appendM (b := xb) u31 inf5 rfl rfl hK (src_pure u31 hJ.sl (by decide)) (by omega) hlow ?_
            intro pz cz w13 hK hMa
            have hX := hX.mod hMa hwB
            have hB2 := hB2.mod hMa (by decide)
            rw [hkj] at hK
            skip
            refine p1 (x_assign (by conv => lhs; whnf)) ?_
            refine r_nil ?_
            refine b_n ?_
            refine t_n ?_
            refine r_plain ?_
            refine p1 (x_move (by conv => lhs; whnf)) ?_
            refine p1 (x_add rfl rfl (fits_i64 (by omega) (by omega))) ?_
            refine p1 (x_assign (by conv => lhs; whnf)) ?_
            refine r_nil ?_
            first
              | exact t_n (At.mk ((j + 1, ln2 + 1, ln + j + 1, pz, cz)) (by repeat (first | exact Agr.refl _ _ | exact Agr.hav _ _ _ | refine Agr.upd rfl ?_ | refine Agr.updR rfl ?_ | refine Agr.updL ?_ _ rfl | refine Agr.hav' rfl ?_)) ⟨rfl, rfl, rfl, trivial⟩ ⟨⟨hX, ⟨hK, hB2, ⟨by omega, by omega⟩, by rw [if_pos (by omega)]; omega⟩⟩, by first | (dsimp only; omega) | ((show _ < _); omega)⟩)
              | exact t_n (At.mk ((j + 1, ln2 + 1, mj, pz, cz)) (by repeat (first | exact Agr.refl _ _ | exact Agr.hav _ _ _ | refine Agr.upd rfl ?_ | refine Agr.updR rfl ?_ | refine Agr.updL ?_ _ rfl | refine Agr.hav' rfl ?_)) ⟨rfl, rfl, rfl, trivial⟩ ⟨⟨hX, ⟨hK, hB2, ⟨by omega, by omega⟩, by rw [hmj, show min (j + 1) tt = min j tt from by omega]⟩⟩, by first | (dsimp only; omega) | ((show _ < _); omega)⟩)
        · try simp only [decide_eq_true_eq, decide_eq_false_iff_not, Bool.not_eq_true, Bool.not_eq_false, Bool.not_eq_eq_eq_not, Bool.not_true, Bool.not_false, Int.not_lt, Int.not_le] at hc61
          have hje : j = E - ln := by omega
          have hkk : (kept ++ ((s ++ d).drop ln).take (min j tt) ++ List.replicate (j - tt) 0) = kept ++ ((s ++ d).drop ln).take tt ++ List.replicate (E - (ln + tt)) 0 := by rw [hje, show min (E - ln) tt = tt from by omega, show E - ln - tt = E - (ln + tt) from by omega]
          rw [hkk] at hK
          have hmj2 : mj = (if 0 < tt then ln + tt else m) := by rw [hmj, hje, show min (E - ln) tt = tt from by omega]
          have hlE : ln2 = E := by omega
          have hmE : mj ≤ ln2 := by rw [hmj2]; split <;> omega
          refine c_exit ?_
          refine t_e ?_
          refine t_e ?_
          refine b_hit ?_
          refine t_n ?_
          refine r_plain ?_
          refine p1 (x_move (by conv => lhs; whnf)) ?_
          refine p1 (x_move (by conv => lhs; whnf)) ?_
          refine p1 ((x_add rfl rfl (fits_i64 (by omega) (by omega))).cast (congrArg (Value.int .i64) (by omega : _ = ((i + (E - ln) : Nat) : Int)))) ?_
          refine p1 (x_assign (by conv => lhs; whnf)) ?_
          refine r_nil ?_
          refine b_n ?_
          refine t_n (At.mk ((fu2, i + (E - ln), ln2, mj, kept ++ ((s ++ d).drop ln).take tt ++ List.replicate (E - (ln + tt)) 0, q2, ck2, u + 1)) (by repeat (first | exact Agr.refl _ _ | exact Agr.hav _ _ _ | refine Agr.upd rfl ?_ | refine Agr.updR rfl ?_ | refine Agr.updL ?_ _ rfl | refine Agr.hav' rfl ?_)) ⟨rfl, rfl, rfl, rfl, trivial⟩ ?_)
          exact ⟨⟨hX, ⟨hK, hB2, ⟨by omega, by omega, hmE, by omega⟩, by omega, by rw [hlE, hmj2, ← hpe2]; exact hpe⟩⟩, by show d.length - (i + (E - ln)) < d.length - i; omega⟩
    · try simp only [decide_eq_true_eq, decide_eq_false_iff_not, Bool.not_eq_true, Bool.not_eq_false, Bool.not_eq_eq_eq_not, Bool.not_true, Bool.not_false, Int.not_lt, Int.not_le] at hc42
      have hd0 : st.drop u = [] := List.drop_eq_nil_of_le (by omega)
      have hpt : tt = 0 := hPT _ (by rw [hd0]; rfl)
      refine c_skip ?_
      refine t_n ?_
      refine c_seq ?_
      refine r_plain ?_
      refine p1 (x_move (by conv => lhs; whnf)) ?_
      refine p1 (x_add rfl rfl (fits_i64 (by omega) (by omega))) ?_
      refine p1 (x_assign (by conv => lhs; whnf)) ?_
      refine r_nil ?_
      refine t_n ?_
      refine c_seq ?_
      refine c_seq ?_
      refine r_plain ?_
      refine p1 (x_assign (by conv => lhs; whnf)) ?_
      refine r_nil ?_
      refine t_n ?_
      refine c_block ?_
      refine c_loop (ι := Nat × Nat × Nat × Option Addr × Nat) [6, 7, 13, 14, 59, 60, 61, 62, 63, 64, 65, 66, 67, 68, 69, 70, 71, 72, 73, 74, 75, 76, 77, 78, 79, 80] (fun (j, ln2, mj, q2, ck2) => [(6, .slice q2 ln2 ck2), (7, .int .i64 (mj : Int)), (13, .int .i64 (j : Int))]) (fun (j, ln2, mj, q2, ck2) w' => Ext w w' ∧ (FBm B0 w' q2 ln2 ck2 (kept ++ ((s ++ d).drop ln).take (min j tt) ++ List.replicate (j - tt) 0) ∧ Blk w' g2 #[.string k, .string (toStr s), .string (toStr d)] 81 ∧ (ln2 = ln + j ∧ j ≤ E - ln) ∧ mj = (if 0 < min j tt then ln + min j tt else m))) (fun (j, ln2, mj, q2, ck2) => E - ln - j) ((0, ln, m, q, ck)) ⟨rfl, rfl, rfl, trivial⟩ ⟨hX, ⟨by simpa using hK, hB2, ⟨rfl, Nat.zero_le _⟩, by rw [if_neg (by omega)]⟩⟩ ?_
      rintro ⟨j, ln2, mj, q2, ck2⟩ GL2 w14 ⟨hE14, hK, hB2, ⟨hln2, hj⟩, hmj⟩
      have hX := hE14
      refine c_seq ?_
      refine c_seq ?_
      refine r_plain ?_
      refine p1 (x_move (by conv => lhs; whnf)) ?_
      refine p1 (x_move (by conv => lhs; whnf)) ?_
      refine p1 (x_lss rfl rfl) ?_
      refine r_nil ?_
      refine t_n ?_
      first | refine c_dec rfl (fun hc61 => ?_) (fun hc61 => ?_) | refine c_if rfl (fun hc61 => ?_) (fun hc61 => ?_)
      · try simp only [decide_eq_true_eq, decide_eq_false_iff_not, Bool.not_eq_true, Bool.not_eq_false, Bool.not_eq_eq_eq_not, Bool.not_true, Bool.not_false, Int.not_lt, Int.not_le] at hc61
        refine c_skip ?_
        refine t_n ?_
        refine c_seq ?_
        refine c_block ?_
        refine c_seq ?_
        refine r_plain ?_
        refine p1 (x_assign (by conv => lhs; whnf)) ?_
        refine r_nil ?_
        refine t_n ?_
        refine c_seq ?_
        refine c_seq ?_
        refine r_plain ?_
        refine p1 (x_move (by conv => lhs; whnf)) ?_
        refine p1 (x_move (by conv => lhs; whnf)) ?_
        refine p1 (x_lss rfl rfl) ?_
        refine r_nil ?_
        refine t_n ?_
        first | refine c_dec rfl (fun hc66 => ?_) (fun hc66 => ?_) | refine c_if rfl (fun hc66 => ?_) (fun hc66 => ?_)
        · try simp only [decide_eq_true_eq, decide_eq_false_iff_not, Bool.not_eq_true, Bool.not_eq_false, Bool.not_eq_eq_eq_not, Bool.not_true, Bool.not_false, Int.not_lt, Int.not_le] at hc66
          obtain ⟨xb, hxb⟩ : ∃ x, x = btAt (toStr d) ((i : Int) + (j : Int)).toNat := ⟨_, rfl⟩
          have hxd : xb = ((s ++ d).drop ln).getD j 0 := by rw [hxb, btAt_toStr, drop_getD hln, show ((i : Int) + (j : Int)).toNat = i + j from by omega]
          have hjt : j < tt := by omega
          have hkj := keptJ_lt (kept := kept) (D := (s ++ d).drop ln) hjt (by rw [List.length_drop]; omega)
          rw [← hxd] at hkj
          refine c_seq ?_
          refine r_plain ?_
          refine p1 (x_fieldAddr fo81_2 sz9 rfl) ?_
          refine p1 (x_load1 un9 rfl (hB2.cell (rfl))) ?_
          refine p1 (x_move (by conv => lhs; whnf)) ?_
          refine p1 (x_move (by conv => lhs; whnf)) ?_
          refine p1 (x_add rfl rfl (fits_i64 (by omega) (by omega))) ?_
          refine p1 (x_ixstr u9 rfl rfl (by omega) (by omega)) ?_
          refine p1 (x_assign (by conv => lhs; whnf)) ?_
          refine r_nil ?_
          refine t_n ?_
          refine r_plain ?_
          refine p1 (x_move (by conv => lhs; whnf)) ?_
          refine p1 (x_move (by conv => lhs; whnf)) ?_
          refine p1 (x_add rfl rfl (fits_i64 (by omega) (by omega))) ?_
          refine p1 ((x_add rfl rfl (fits_i64 (by omega) (by omega))).cast (congrArg (Value.int .i64) (by omega : _ = ((ln + j + 1 : Nat) : Int)))) ?_
          refine p1 (x_assign (by conv => lhs; whnf)) ?_
          refine r_nil ?_
          refine t_n ?_
          refine r_plain ?_
          refine p1 (x_move (by conv => lhs; whnf)) ?_
          refine p1 (x_move (by conv => lhs; whnf)) ?_
          refine o_buildSlice u31 inf5 rfl (by decide) (fun base hb => fill_one (by rfl) base hb) ?_
          intro w15 g79 hN79
          have hE15 := hN79.ext
          have hX := hX.ext hE15
          have hK := hK.ext hE15
          have hB2 := hB2.ext hE15
          have hJ : Own kByte 5 0 0 w15 (some ⟨g79, 0, none⟩) 1 1 [xb] := own_lit [xb] (by rw [hxb]; exact hN79) (Nat.zero_le _) (by simp)
          have hlow := hK.low
          refine o_appendM (b := xb) u31 inf5 rfl rfl hK (src_pure u31 hJ.sl (by decide)) (by omega) hlow ?_
          intro pz cz w16 hK hMa
          have hX := hX.mod hMa hwB
          have hB2 := hB2.mod hMa (by decide)
          rw [hkj] at hK
          skip
          refine p1 (x_assign (by conv => lhs; whnf)) ?_
          refine r_nil ?_
          refine b_n ?_
          refine t_n ?_
          refine r_plain ?_
          refine p1 (x_move (by conv => lhs; whnf)) ?_
          refine p1 (x_add rfl rfl (fits_i64 (by omega) (by omega))) ?_
          refine p1 (x_assign (by conv => lhs; whnf)) ?_
          refine r_nil ?_
          first
            | exact t_n (At.mk ((j + 1, ln2 + 1, ln + j + 1, pz, cz)) (by repeat (first | exact Agr.refl _ _ | exact Agr.hav _ _ _ | refine Agr.upd rfl ?_ | refine Agr.updR rfl ?_ | refine Agr.updL ?_ _ rfl | refine Agr.hav' rfl ?_)) ⟨rfl, rfl, rfl, trivial⟩ ⟨⟨hX, ⟨hK, hB2, ⟨by omega, by omega⟩, by rw [if_pos (by omega)]; omega⟩⟩, by first | (dsimp only; omega) | ((show _ < _); omega)⟩)
            | exact t_n (At.mk ((j + 1, ln2 + 1, mj, pz, cz)) (by repeat (first | exact Agr.refl _ _ | exact Agr.hav _ _ _ | refine Agr.upd rfl ?_ | refine Agr.updR rfl ?_ | refine Agr.updL ?_ _ rfl | refine Agr.hav' rfl ?_)) ⟨rfl, rfl, rfl, trivial⟩ ⟨⟨hX, ⟨hK, hB2, ⟨by omega, by omega⟩, by rw [hmj, show min (j + 1) tt = min j tt from by omega]⟩⟩, by first | (dsimp only; omega) | ((show _ < _); omega)⟩)
        · try simp only [decide_eq_true_eq, decide_eq_false_iff_not, Bool.not_eq_true, Bool.not_eq_false, Bool.not_eq_eq_eq_not, Bool.not_true, Bool.not_false, Int.not_lt, Int.not_le] at hc66
          obtain ⟨xb, hxb⟩ : ∃ x, x = (0 : UInt8) := ⟨_, rfl⟩
          have hjt : tt ≤ j := by omega
          have hkj : (kept ++ ((s ++ d).drop ln).take (min j tt) ++ List.replicate (j - tt) 0) ++ [xb] = kept ++ ((s ++ d).drop ln).take (min (j + 1) tt) ++ List.replicate (j + 1 - tt) 0 := by rw [hxb]; exact keptJ_ge hjt
          refine c_skip ?_
          refine t_n ?_
          refine r_plain ?_
          refine p1 (x_move (by conv => lhs; whnf)) ?_
          refine p1 (x_move (by conv => lhs; whnf)) ?_
          refine o_buildSlice u31 inf5 rfl (by decide) (fun base hb => fill_one (by rfl) base hb) ?_
          intro w17 g79 hN79
          have hE17 := hN79.ext
          have hX := hX.ext hE17
          have hK := hK.ext hE17
          have hB2 := hB2.ext hE17
          have hJ : Own kByte 5 0 0 w17 (some ⟨g79, 0, none⟩) 1 1 [xb] := own_lit [xb] (by rw [hxb]; exact hN79) (Nat.zero_le _) (by simp)
          have hlow := hK.low
          refine o_appendM (b := xb) u31 inf5 rfl rfl hK (src_pure u31 hJ.sl (by decide)) (by omega) hlow ?_
          intro pz cz w18 hK hMa
          have hX := hX.mod hMa hwB
          have hB2 := hB2.mod hMa (by decide)
          rw [hkj] at hK
          skip
          refine p1 (x_assign (by conv => lhs; whnf)) ?_
          refine r_nil ?_
          refine b_n ?_
          refine t_n ?_
          refine r_plain ?_
          refine p1 (x_move (by conv => lhs; whnf)) ?_
          refine p1 (x_add rfl rfl (fits_i64 (by omega) (by omega))) ?_
          refine p1 (x_assign (by conv => lhs; whnf)) ?_
          refine r_nil ?_
          first
            | exact t_n (At.mk ((j + 1, ln2 + 1, ln + j + 1, pz, cz)) (by repeat (first | exact Agr.refl _ _ | exact Agr.hav _ _ _ | refine Agr.upd rfl ?_ | refine Agr.updR rfl ?_ | refine Agr.updL ?_ _ rfl | refine Agr.hav' rfl ?_)) ⟨rfl, rfl, rfl, trivial⟩ ⟨⟨hX, ⟨hK, hB2, ⟨by omega, by omega⟩, by rw [if_pos (by omega)]; omega⟩⟩, by first | (dsimp only; omega) | ((show _ < _); omega)⟩)
            | exact t_n (At.mk ((j + 1, ln2 + 1, mj, pz, cz)) (by repeat (first | exact Agr.refl _ _ | exact Agr.hav _ _ _ | refine Agr.upd rfl ?_ | refine Agr.updR rfl ?_ | refine Agr.updL ?_ _ rfl | refine Agr.hav' rfl ?_)) ⟨rfl, rfl, rfl, trivial⟩ ⟨⟨hX, ⟨hK, hB2, ⟨by omega, by omega⟩, by rw [hmj, show min (j + 1) tt = min j tt from by omega]⟩⟩, by first | (dsimp only; omega) | ((show _ < _); omega)⟩)
      · try simp only [decide_eq_true_eq, decide_eq_false_iff_not, Bool.not_eq_true, Bool.not_eq_false, Bool.not_eq_eq_eq_not, Bool.not_true, Bool.not_false, Int.not_lt, Int.not_le] at hc61
        have hje : j = E - ln := by omega
        have hkk : (kept ++ ((s ++ d).drop ln).take (min j tt) ++ List.replicate (j - tt) 0) = kept ++ ((s ++ d).drop ln).take tt ++ List.replicate (E - (ln + tt)) 0 := by rw [hje, show min (E - ln) tt = tt from by omega, show E - ln - tt = E - (ln + tt) from by omega]
        rw [hkk] at hK
        have hmj2 : mj = (if 0 < tt then ln + tt else m) := by rw [hmj, hje, show min (E - ln) tt = tt from by omega]
        have hlE : ln2 = E := by omega
        have hmE : mj ≤ ln2 := by rw [hmj2]; split <;> omega
        refine c_exit ?_
        refine t_e ?_
        refine t_e ?_
        refine b_hit ?_
        refine t_n ?_
        refine r_plain ?_
        refine p1 (x_move (by conv => lhs; whnf)) ?_
        refine p1 (x_move (by conv => lhs; whnf)) ?_
        refine p1 ((x_add rfl rfl (fits_i64 (by omega) (by omega))).cast (congrArg (Value.int .i64) (by omega : _ = ((i + (E - ln) : Nat) : Int)))) ?_
        refine p1 (x_assign (by conv => lhs; whnf)) ?_
        refine r_nil ?_
        refine b_n ?_
        refine t_n (At.mk ((fu2, i + (E - ln), ln2, mj, kept ++ ((s ++ d).drop ln).take tt ++ List.replicate (E - (ln + tt)) 0, q2, ck2, u + 1)) (by repeat (first | exact Agr.refl _ _ | exact Agr.hav _ _ _ | refine Agr.upd rfl ?_ | refine Agr.updR rfl ?_ | refine Agr.updL ?_ _ rfl | refine Agr.hav' rfl ?_)) ⟨rfl, rfl, rfl, rfl, trivial⟩ ?_)
        exact ⟨⟨hX, ⟨hK, hB2, ⟨by omega, by omega, hmE, by omega⟩, by omega, by rw [hlE, hmj2, ← hpe2]; exact hpe⟩⟩, by show d.length - (i + (E - ln)) < d.length - i; omega⟩
  · try simp only [decide_eq_true_eq, decide_eq_false_iff_not, Bool.not_eq_true, Bool.not_eq_false, Bool.not_eq_eq_eq_not, Bool.not_true, Bool.not_false, Int.not_lt, Int.not_le] at hc24
    have hnl : ¬ ln < (s ++ d).length := by omega
    rw [pieces_end hnl] at hpe
    have hkl := hK.len
    have hkc := hK.cap
    have hw1 : wakeF (s ++ d, s.length) st = (kept.take m, m) := by unfold wakeF; rw [← hpe]
    have hw2 : (wakeR (s ++ d, s.length) st).2.2 = st.drop u := by rw [← hpe]
    refine c_exit ?_
    refine t_e ?_
    refine t_e ?_
    refine b_hit ?_
    refine t_n ?_
    refine c_seq ?_
    refine r_plain ?_
    refine p1 (x_move (by conv => lhs; whnf)) ?_
    refine p1 (x_move (by conv => lhs; whnf)) ?_
    refine p1 (x_slice_hN u31 sz5 rfl rfl (by omega)) ?_
    refine p1 (x_bytes_str u31 u5 u9 rfl (hK.sl.take m (by omega))) ?_
    refine p1 (x_move (by conv => lhs; whnf)) ?_
    refine p1 (x_assign (by conv => lhs; whnf)) ?_
    refine p1 (x_assign (by conv => lhs; whnf)) ?_
    refine r_nil ?_
    refine t_n ?_
    refine c_ret ?_
    refine end2 rfl (by conv => lhs; whnf) (by conv => lhs; whnf) ?_
    exact ⟨⟨u, by rw [hw1], hw2.symm⟩, hX⟩
end Go.Proofs.Eng
end
section
set_option linter.unusedVariables false
set_option linter.unusedSimpArgs false
set_option maxRecDepth 100000
set_option maxHeartbeats 4000000
namespace Go.Proofs.Eng
open Go.RowKit
open Extern.Stop (cell)
theorem fb55 : Try.f55.body.isNone = false := by kernel_rfl
theorem fn55 : (Try.f55.name == "runtime.NumGoroutine") = false := by kernel_rfl
end Go.Proofs.Eng
end
section
set_option linter.unusedVariables false
set_option linter.unusedSimpArgs false
set_option maxRecDepth 100000
set_option maxHeartbeats 4000000
namespace Go.Proofs.Eng
open Go.RowKit
open Extern.Stop (cell)
theorem ref_stays2 (x : Fl) (hx : x.2.2 ≤ x.2.1.length) (hu : x.2.1.length ≤ 16777216) (st : List UInt8) (e B : Nat) (p : Option Addr) (n c : Nat) (w : World) (hS : Sl kByte e B w p n c st) :
    Ret Try.prog 55 [.agg #[.string x.1, .string (toStr (x.2.1.take x.2.2)), .string (toStr (x.2.1.drop x.2.2))], .slice p n c] w (fun v w' => (∃ u : Nat, v = .tuple #[.string (toStr (wakeF x.2 st).1), .int .i64 (u : Int)] ∧ st.drop u = (wakeR x.2 st).2.2) ∧ Ext w w') := by
  have h := ref_stays x.1 (x.2.1.take x.2.2) (x.2.1.drop x.2.2) st e B p n c w hS (by rw [List.length_take, List.length_drop]; omega)
  have hTK : (x.2.1.take x.2.2 ++ x.2.1.drop x.2.2, (x.2.1.take x.2.2).length) = x.2 := by rw [List.take_append_drop, List.length_take, Nat.min_eq_left hx]
  rw [hTK] at h
  exact h
theorem ref_Start (D : DS) (p : Option Addr) (n c : Nat) (lf : Int) (w : World) (hl : Sl kFl 81 0 w p n c D.l) (hlf : LfOk D lf) (hok : DOk D) (hst : D.steps < 4611686018427387904) (st : List UInt8) (e B : Nat) (ps : Option Addr) (ns cs : Nat) (hS : Sl kByte e B w ps ns cs st) :
    Ret Try.prog 33 [.agg #[.int .i64 (D.most : Int), .slice p n c, .int .i64 (D.steps : Int), .bool (decide (0 ≤ D.left)), .int .i64 lf, .bool D.done, .bool D.down], .slice ps ns cs] w (fun v w' => (∃ cs, v = .agg cs ∧ RefV w' cs (startD D st)) ∧ Ext w w') := by
  have hX := Ext.refl w
  refine enter 49 _ Try.func33 rfl rfl (Nat.le_of_ble_eq_true rfl) rfl ?_
  refine c_seq ?_
  refine r_plain ?_
  have hXs2 := hX.size
  refine o_boxA (by conv => lhs; whnf) ?_
  intro w1 g2 hN2
  have hE1 := hN2.ext
  have hX := hX.ext hE1
  have hB2 := hN2.blk
  have hXs4 := hX.size
  have hlt2 := hB2.lt
  have hlen := hl.len
  have hcap := hl.cap
  have hfew := hok.few
  have hroom := hok.room
  have hmost := hok.most
  have hW1 := Nat.le_refl w.heap.size
  refine o_alloc zr27 ?_
  intro w2 g4 hN4
  have hE2 := hN4.ext
  have hX := hX.ext hE2
  have hB2 := hB2.ext hE2
  have hB4 := hN4.blk
  refine r_nil ?_
  refine t_n ?_
  refine c_seq ?_
  refine r_plain ?_
  refine p1 (x_assign (by conv => lhs; whnf)) ?_
  refine r_nil ?_
  refine t_n ?_
  refine c_seq ?_
  refine c_seq ?_
  refine r_plain ?_
  refine p1 (x_assign (by conv => lhs; whnf)) ?_
  refine r_nil ?_
  refine t_n ?_
  refine c_block ?_
  have hg4 := hN4.g_eq
  have hO : ∀ wz, Own kFl 81 0 w.heap.size wz none 0 0 [] := fun wz => Own.nil _ _ _ _ _
  refine c_loop (ι := Nat × Option Addr × Nat × Option Addr × Nat × Nat) [1, 5, 6, 7, 8, 9, 10, 11, 12, 13, 14, 15, 16, 17, 18, 19, 20, 21, 22, 23, 24, 25, 26, 27, 28, 29, 30, 31, 32, 33, 34, 35, 36, 37, 38, 39, 40, 41, 42] (fun (i, q, ck, ps, ns, cs) => [(1, .slice ps ns cs), (5, .slice q i ck), (6, .int .i64 (i : Int))]) (fun (i, q, ck, ps, ns, cs) w' => Ext w w' ∧ (Own kFl 81 0 w.heap.size w' q i ck (wakeL (D.l.take i) st).1 ∧ Blk w' g2 #[.int .i64 (D.most : Int), .slice p n c, .int .i64 (D.steps : Int), .bool (decide (0 ≤ D.left)), .int .i64 lf, .bool D.done, .bool D.down] 27 ∧ Blk w' g4 #[.int .i64 0, .slice none 0 0, .int .i64 0, .bool false, .int .i64 0, .bool false, .bool false] 27 ∧ i ≤ n ∧ Sl kByte e B w ps ns cs (wakeL (D.l.take i) st).2)) (fun (i, q, ck, ps, ns, cs) => n - i) ((0, none, 0, ps, ns, cs)) ⟨rfl, rfl, rfl, trivial⟩ ⟨hX, ⟨hO _, hB2, hB4, Nat.zero_le _, hS⟩⟩ ?_
  rintro ⟨i, q, ck, ps, ns, cs⟩ GL0 w3 ⟨hE3, hO, hB2, hB4, hi, hS⟩
  have hX := hE3
  have hsl := hS.len
  have hsc := hS.cap
  have hsf := hS.fit
  obtain ⟨stc, hstc⟩ : ∃ z, z = (wakeL (D.l.take i) st).2 := ⟨_, rfl⟩
  rw [← hstc] at hS hsl
  refine c_seq ?_
  refine c_seq ?_
  refine r_plain ?_
  refine p1 (x_move (by conv => lhs; whnf)) ?_
  refine p1 (x_fieldAddr fo27_1 sz25 rfl) ?_
  refine p1 (x_load1 un25 rfl (hB2.cell (rfl))) ?_
  refine p1 (x_len_slice u25 rfl) ?_
  refine p1 (x_lss rfl rfl) ?_
  refine r_nil ?_
  refine t_n ?_
  first | refine c_dec rfl (fun hc13 => ?_) (fun hc13 => ?_) | refine c_if rfl (fun hc13 => ?_) (fun hc13 => ?_)
  · try simp only [decide_eq_true_eq, decide_eq_false_iff_not, Bool.not_eq_true, Bool.not_eq_false, Bool.not_eq_eq_eq_not, Bool.not_true, Bool.not_false, Int.not_lt, Int.not_le] at hc13
    refine c_skip ?_
    refine t_n ?_
    refine c_seq ?_
    refine c_block ?_
    refine c_seq ?_
    refine r_plain ?_
    refine p1 (x_fieldAddr fo27_1 sz25 rfl) ?_
    refine p1 (x_load1 un25 rfl (hB2.cell (rfl))) ?_
    refine p1 (x_move (by conv => lhs; whnf)) ?_
    obtain ⟨xf, hx⟩ : ∃ x, D.l.getD i default = x := ⟨_, rfl⟩
    have hil : i < D.l.length := by omega
    have hxm : xf ∈ D.l := by rw [← hx, List.getD_eq_getElem?_getD, List.getElem?_eq_getElem hil]; exact List.getElem_mem _
    have hsafe := hok.safe xf hxm
    have hxu : xf.2.1.length ≤ usedL D.l := by have := getF_le hok xf.1; have e := asc_of_memA hok.rise hxm; unfold getF ascF at this; rw [e] at this; exact this.1
    obtain ⟨hw1, hw2⟩ := wake_snoc hil st
    rw [hx, ← hstc] at hw1 hw2
    have hfr : ∀ wz, Ext w wz → wz.rangeAt (ab p) (ao p + i * 3) [.string xf.1, .string (toStr (xf.2.1.take xf.2.2)), .string (toStr (xf.2.1.drop xf.2.2))] := fun wz hz => by have := (hl.ext hz).flRange i (by omega); rw [hx] at this; exact this
    refine p1 (x_ixs u25 sz81 rfl rfl ((hl.ext hX).adr kFl_pos (by omega)) (by omega) (by omega)) ?_
    refine p1 (x_loadN ua81 rfl (by exact sz81) (hfr _ hX)) ?_
    refine p1 (x_move (by conv => lhs; whnf)) ?_
    refine o_call Try.func55 fn55 fb55 (ref_stays2 xf hsafe (by omega) stc e B ps ns cs _ (hS.ext hX)) rfl ?_
    rintro v4 w4 ⟨⟨u, rfl, hud⟩, hE4⟩
    have hX := hX.ext hE4
    have hO := hO.ext hE4
    have hB2 := hB2.ext hE4
    have hB4 := hB4.ext hE4
    refine p1 (x_move (by conv => lhs; whnf)) ?_
    refine p1 (x_extract rfl rfl) ?_
    refine p1 (x_extract rfl rfl) ?_
    refine p1 (x_assign (by conv => lhs; whnf)) ?_
    refine p1 (x_assign (by conv => lhs; whnf)) ?_
    refine r_nil ?_
    refine t_n ?_
    refine c_seq ?_
    refine r_plain ?_
    refine p1 (x_move (by conv => lhs; whnf)) ?_
    refine p1 (x_move (by conv => lhs; whnf)) ?_
    refine p1 (x_move (by conv => lhs; whnf)) ?_
    refine p1 (x_len_slice u31 rfl) ?_
    refine p1 ((x_min rfl rfl).cast (congrArg (Value.int .i64) (by split <;> omega : _ = ((min u ns : Nat) : Int)))) ?_
    have hdu : stc.drop (min u ns) = stc.drop u := by by_cases h : u ≤ ns; (· rw [Nat.min_eq_left h]); (· rw [Nat.min_eq_right (by omega), List.drop_eq_nil_of_le (by omega), List.drop_eq_nil_of_le (by omega)])
    have hS2 := hS.dropI (min u ns) (by omega)
    rw [hdu, hud, ← hw2] at hS2
    refine p1 (x_slice_lN u31 sz5 rfl rfl (by omega)) ?_
    refine p1 (x_assign (by conv => lhs; whnf)) ?_
    refine r_nil ?_
    refine t_n ?_
    refine r_plain ?_
    refine p1 (x_move (by conv => lhs; whnf)) ?_
    refine p1 (x_fieldAddr fo27_1 sz25 rfl) ?_
    refine p1 (x_load1 un25 rfl (hB2.cell (rfl))) ?_
    refine p1 (x_move (by conv => lhs; whnf)) ?_
    refine p1 (x_ixs u25 sz81 rfl rfl ((hl.ext hX).adr kFl_pos (by omega)) (by omega) (by omega)) ?_
    refine p1 (x_fieldAddr fo81_0 sz9 rfl) ?_
    refine p1 (x_load1 un9 rfl (hfr _ hX 0 _ rfl)) ?_
    refine p1 (x_move (by conv => lhs; whnf)) ?_
    refine p1 (x_buildF3 pl81 rfl rfl rfl) ?_
    refine o_buildSlice u25 inf81 rfl (by decide) (fun base hb => fill_kn [.agg #[.string xf.1, .string (toStr (wakeF xf.2 stc).1), .string (toStr [])]] (by intro v hv'; simp only [List.mem_singleton] at hv'; subst hv'; rfl) base hb) ?_
    intro w5 g41 hN41
    have hE5 := hN41.ext
    have hX := hX.ext hE5
    have hO := hO.ext hE5
    have hB2 := hB2.ext hE5
    have hB4 := hB4.ext hE5
    have hJ : Own kFl 81 0 0 w5 (some ⟨g41, 0, none⟩) 1 1 [(xf.1, wakeF xf.2 stc)] := own_lit [(xf.1, wakeF xf.2 stc)] (by have h41 : New _ _ g41 #[Value.string xf.1, Value.string (toStr (wakeF xf.2 stc).1), Value.string (toStr [])] 81 := hN41; simpa [enc_wake hsafe stc] using h41) (Nat.zero_le _) (by simp)
    have hq10 := hX.size
    refine o_append (d := kFl) ([(xf.1, wakeF xf.2 stc)]) u25 inf81 rfl kFl_pos rfl rfl hO (src_pure u25 hJ.sl (by decide)) rfl (pure_all _ _ _) (rfl) (by omega) (by omega) (by omega) (by omega) (by decide) ?_
    intro p42 c42 w6 hO hM6
    have hX := hX.mod hM6 (Nat.le_refl _)
    have hB2 := hB2.mod hM6 (by decide)
    have hB4 := hB4.mod hM6 (by decide)
    refine p1 (x_assign (by conv => lhs; whnf)) ?_
    refine r_nil ?_
    refine b_n ?_
    refine t_n ?_
    refine r_plain ?_
    refine p1 (x_move (by conv => lhs; whnf)) ?_
    refine p1 (x_add rfl rfl (fits_i64 (by omega) (by omega))) ?_
    refine p1 (x_assign (by conv => lhs; whnf)) ?_
    refine r_nil ?_
    refine t_n (At.mk ((i + 1, p42, c42, adw ps cs (min u ns) 1, ns - min u ns, cs - min u ns)) (by repeat (first | exact Agr.refl _ _ | exact Agr.hav _ _ _ | refine Agr.upd rfl ?_ | refine Agr.updR rfl ?_ | refine Agr.updL ?_ _ rfl | refine Agr.hav' rfl ?_)) ⟨rfl, rfl, rfl, trivial⟩ ?_)
    exact ⟨⟨hX, ⟨by rw [hw1]; exact hO, hB2, hB4, by omega, hS2⟩⟩, by show n - (i + 1) < n - i; omega⟩
  · try simp only [decide_eq_true_eq, decide_eq_false_iff_not, Bool.not_eq_true, Bool.not_eq_false, Bool.not_eq_eq_eq_not, Bool.not_true, Bool.not_false, Int.not_lt, Int.not_le] at hc13
    have hin : i = n := by omega
    have htt : D.l.take i = D.l := List.take_of_length_le (by omega)
    rw [htt] at hO
    refine c_exit ?_
    refine t_e ?_
    refine t_e ?_
    refine b_hit ?_
    refine t_n ?_
    refine c_seq ?_
    refine r_plain ?_
    refine p1 (x_fieldAddr fo27_0 sz3 rfl) ?_
    refine p1 (x_load1 un3 rfl (hB2.cell (rfl))) ?_
    refine p1 (x_move (by conv => lhs; whnf)) ?_
    refine p1 (x_fieldAddr fo27_2 sz3 rfl) ?_
    refine p1 (x_load1 un3 rfl (hB2.cell (rfl))) ?_
    refine p1 (x_buildR3 pl27 rfl rfl rfl) ?_
    refine o_storeAll rfl (by conv => lhs; whnf) (by simp [Value.oneCell']) (by exact sz27) hB4 (by rfl) ?_
    intro w7 hP7
    have hX := hX.put hP7 (by rw [hN4.g_eq]; exact hXs4)
    have hO := hO.mod (hP7.mod 0 (Nat.zero_le _)) (Nat.zero_le _) (by decide)
    have hB2 := hP7.keep hB2 (by omega)
    have hB4 := hP7.blk
    refine r_nil ?_
    refine t_n ?_
    refine c_ret ?_
    refine end1c rfl ua27 rfl hB4 (by exact sz27) ?_
    exact ⟨⟨_, rfl, q, i, ck, 0, rfl, hO.sl, ⟨fun h => by have h : (0 : Int) ≤ -1 := h; omega, by omega, by omega⟩⟩, hX⟩
end Go.Proofs.Eng
end
section
set_option linter.unusedVariables false
set_option linter.unusedSimpArgs false
namespace Go.Proofs.Eng
open Go.RowKit
open Extern.Stop (cell)
/-! ### rows of the call's own that are written behind a turn -/
theorem Lo.modS {S : Nat → Prop} {E : List TypeId} {B n c : Nat} {w w' : World} {p : Option Addr} {xs : List UInt8} (h : Lo B w p n c xs) (m : ModS S E w w') (hS : ∀ j, S j → B ≤ j) : Lo B w' p n c xs :=
  ⟨h.len, h.cap, h.fit, h.row.of_block fun hne => m.old _ (h.row.lt hne) (.inl fun hs => by
    have h1 := hS _ hs
    have h2 := h.low (by intro e; rw [e] at hne; exact hne rfl)
    omega), h.low⟩
theorem Dsk.modT {S : Nat → Prop} {w w' : World} {g B : Nat} {t : TypeId} {D : DS} (h : Dsk S w g D) (m : Mod B t w w') (ht : t ∉ [tDisk, tMap, 5]) : Dsk S w' g D := by
  simp only [List.mem_cons, List.not_mem_nil, or_false, not_or] at ht
  obtain ⟨r, μ, h1, h2, h3, h4, h5⟩ := h.ex
  exact ⟨r, μ, h1.mod m (fun e => ht.1 e.symm), h2.mod m (Nat.zero_le _) (by simp [vFile]; exact ht.2.1), h3, h4, h5.modT m ht.2.2⟩
theorem Dsk.oneF {F : Nat → Prop} {w w' : World} {g r : Nat} {t : TypeId} {D : DS} (h : Dsk F w g D) (m : One t r w w') (hr : ¬ F r) (ht : t ∈ ED) : Dsk F w' g D :=
  h.modS (S' := fun j => j = r) (E := ED) ((ModS.refl (fun j => j = r) ED w).one m ⟨.inl rfl, ht⟩) fun j hj e => hr (by rw [← e]; exact hj)
/-- A row of bytes, its head outside F, in a block made since w0. -/
def OwnR (F : Nat → Prop) (B0 : Nat) (w : World) (q : Option Addr) (n : Nat) : Prop := n = 0 ∨ ∃ gq cur, q = some ⟨gq, 0, none⟩ ∧ ¬ F gq ∧ B0 ≤ gq ∧ Blk w gq cur 5 ∧ n ≤ cur.size ∧ ∀ j, j < n → ∃ b : UInt8, cur[j]? = some (cell b)
theorem OwnR.of {F : Nat → Prop} {B B0 n c : Nat} {w : World} {q : Option Addr} {xs : List UInt8} (h : Own kByte 5 B B0 w q n c xs) (hF : ∀ gq, q = some ⟨gq, 0, none⟩ → ¬ F gq) : OwnR F B0 w q n := by
  rcases Nat.eq_zero_or_pos n with h0 | h0
  · exact .inl h0
  · obtain ⟨gq, cur, css, e1, h2, h3, h4, h5, h6, ha, hlf, ht⟩ := h.block h0
    have hc := all_pure ha
    subst hc
    have hz : kByte.sz = 1 := rfl
    rw [hz, Nat.mul_one] at h6 ht
    have hl := h.len
    refine .inr ⟨gq, cur, e1, hF gq e1, h2, h3, by omega, fun j hj => ⟨xs.getD j 0, ?_⟩⟩
    have e2 : (xs.map cell)[j]? = cur[j]? := by
      rw [← flat_single xs]
      have := congrArg (fun l => l[j]?) ht
      simp only [List.getElem?_take, if_pos hj, Array.getElem?_toList] at this
      exact this.symm
    rw [← e2, List.getElem?_map, List.getElem?_eq_getElem (by omega), List.getD_eq_getElem?_getD, List.getElem?_eq_getElem (by omega)]; rfl
theorem OwnR.modS {F S : Nat → Prop} {E : List TypeId} {B0 n : Nat} {w w' : World} {q : Option Addr} (h : OwnR F B0 w q n) (m : ModS S E w w') (hS : ∀ gq, q = some ⟨gq, 0, none⟩ → ¬ S gq) : OwnR F B0 w' q n := h.imp id fun ⟨gq, cur, h1, h2, h3, h4, h5⟩ => ⟨gq, cur, h1, h2, h3, h4.modS m (.inl (hS gq h1)), h5⟩
theorem wrap_inc (b : UInt8) : IntKind.u8.wrap ((b.toNat : Int) + 1) = ((b + 1).toNat : Int) := by
  have h1 : (b + 1).toNat = (b.toNat + 1) % 256 := by simp [UInt8.toNat_add]
  rw [h1]
  unfold IntKind.wrap
  simp [IntKind.bits, IntKind.signed]
section
variable {P : Program} {ops : Array Oper} {Q : Exit → Act → World → Prop} {rest : List Oper} {N : Nat} {f : Nat → Value} {w : World}
variable {ty0 : TypeId} {pos : String} {aft : Array Edge} {x y : Operand} {T : TypeId}
end
theorem OwnR.ext {F : Nat → Prop} {B0 n : Nat} {w w' : World} {q : Option Addr} (h : OwnR F B0 w q n) (x : Ext w w') : OwnR F B0 w' q n := h.imp id fun ⟨gq, cur, h1, h2, h3, h4, h5⟩ => ⟨gq, cur, h1, h2, h3, h4.ext x, h5⟩
theorem OwnR.one {F : Nat → Prop} {B0 n r : Nat} {t : TypeId} {w w' : World} {q : Option Addr} (h : OwnR F B0 w q n) (m : One t r w w') (ht : 5 ≠ t) : OwnR F B0 w' q n := h.imp id fun ⟨gq, cur, h1, h2, h3, h4, h5⟩ => ⟨gq, cur, h1, h2, h3, h4.one m ht, h5⟩
theorem own_at {B B0 n c : Nat} {w : World} {q : Option Addr} {xs : List UInt8} (h : Own kByte 5 B B0 w q n c xs) : ∀ gq, q = some ⟨gq, 0, none⟩ → B0 ≤ gq ∧ gq < w.heap.size := fun gq e => by
  rcases h.form with ⟨h1, _⟩ | ⟨g, cur, h1, h2, h3, _⟩
  · rw [h1] at e; cases e
  · rw [h1] at e; injection e with e; injection e with e; subst e; exact ⟨h2, h3.lt⟩
theorem out_own {S : Nat → Prop} {B B0 n c : Nat} {w : World} {q : Option Addr} {xs : List UInt8} (h : Own kByte 5 B B0 w q n c xs) (hS : ∀ j, S j → j < B0) : Out S w q n c xs :=
  Out.ofSl h.sl fun hne hs => by
    have hpos : 0 < n := by rw [← h.len]; exact List.length_pos_iff.2 hne
    obtain ⟨gq, cur, css, e1, h2, _⟩ := h.block hpos
    subst e1
    have h1 : gq < B0 := hS gq hs
    omega
theorem set_bytes {cur : Array Value} {n o : Nat} {b : UInt8} (hn : n ≤ cur.size) (h : ∀ j, j < n → ∃ b : UInt8, cur[j]? = some (cell b)) : ∀ j, j < n → ∃ b' : UInt8, (cur.setIfInBounds o (cell b))[j]? = some (cell b') := fun j hj => by
  rw [Array.getElem?_setIfInBounds]
  split
  · rename_i e
    subst e
    rw [if_pos (by omega)]
    exact ⟨b, rfl⟩
  · exact h j hj
end Go.Proofs.Eng
end
section
set_option linter.unusedVariables false
set_option linter.unusedSimpArgs false
set_option maxRecDepth 100000
set_option maxHeartbeats 4000000
namespace Go.Proofs.Eng
open Go.RowKit
open Extern.Stop (cell)
theorem fb33 : Try.f33.body.isNone = false := by kernel_rfl
theorem fb34 : Try.f34.body.isNone = false := by kernel_rfl
theorem fb35 : Try.f35.body.isNone = false := by kernel_rfl
theorem fb36 : Try.f36.body.isNone = false := by kernel_rfl
theorem fb37 : Try.f37.body.isNone = false := by kernel_rfl
theorem fb38 : Try.f38.body.isNone = false := by kernel_rfl
theorem fb39 : Try.f39.body.isNone = false := by kernel_rfl
theorem fb40 : Try.f40.body.isNone = false := by kernel_rfl
theorem fn33 : (Try.f33.name == "runtime.NumGoroutine") = false := by kernel_rfl
theorem fn34 : (Try.f34.name == "runtime.NumGoroutine") = false := by kernel_rfl
theorem fn35 : (Try.f35.name == "runtime.NumGoroutine") = false := by kernel_rfl
theorem fn36 : (Try.f36.name == "runtime.NumGoroutine") = false := by kernel_rfl
theorem fn37 : (Try.f37.name == "runtime.NumGoroutine") = false := by kernel_rfl
theorem fn38 : (Try.f38.name == "runtime.NumGoroutine") = false := by kernel_rfl
theorem fn39 : (Try.f39.name == "runtime.NumGoroutine") = false := by kernel_rfl
theorem fn40 : (Try.f40.name == "runtime.NumGoroutine") = false := by kernel_rfl
end Go.Proofs.Eng
end
section
set_option linter.unusedVariables false
set_option linter.unusedSimpArgs false
set_option maxRecDepth 100000
set_option maxHeartbeats 4000000
namespace Go.Proofs.Eng
open Go.RowKit
open Extern.Stop (cell)
theorem law_do (g : Nat) (S : Nat → Prop) (D : DS) (w : World) (hDw : Dsk S w g D) (hok : DOk D) (hst : D.steps < 4611686018427387904) (hle : D.left ≤ 9223372036854775807) (p : Option Addr) (n c : Nat) (lf : Int) (hl0 : Sl kFl 81 0 w p n c D.l) (hlf : LfOk D lf) (hSw : ∀ j, S j → j < w.heap.size) (a : DAct) (B : Nat) (q : Option Addr) (m c2 : Nat) (hlo : Lo B w q m c2 a.data) (hSB : ∀ j, S j → B ≤ j) (hm : m ≤ 140737488351232) (hz1 : a.nm.size ≤ 9223372036854775807) (hz2 : a.now.size ≤ 9223372036854775807) (hz3 : -9223372036854775808 ≤ a.n) (hz4 : a.n ≤ 9223372036854775807) :
    Ret Try.prog 13 [.pointer (some ⟨g, 0, none⟩), .agg #[.int .i64 (D.most : Int), .slice p n c, .int .i64 (D.steps : Int), .bool (decide (0 ≤ D.left)), .int .i64 lf, .bool D.done, .bool D.down], .agg #[.int .u8 a.k.toNat, .string a.nm, .string a.now, .slice q m c2, .int .i64 a.n, .bool a.done]] w (fun v w' => (∃ cs', v = .tuple #[.agg cs', .bool true] ∧ RefV w' cs' (actD D a).1) ∧ Dsk (grow S w w') w' g (actD D a).1 ∧ ModS S ED w w') := by
  have hX := Ext.refl w
  refine enter 150 _ Try.func13 rfl rfl (Nat.le_of_ble_eq_true rfl) rfl ?_
  refine c_seq ?_
  refine r_plain ?_
  have hXs4 := hX.size
  have hW1 := Nat.le_refl w.heap.size
  have ha8 := a.k.toNat_lt
  refine o_boxA (by conv => lhs; whnf) ?_
  intro w1 g4 hN4
  have hE1 := hN4.ext
  have hX := hX.ext hE1
  have hB4 := hN4.blk
  have hXs5 := hX.size
  have hlt4 := hB4.lt
  refine o_boxA (by conv => lhs; whnf) ?_
  intro w2 g5 hN5
  have hE2 := hN5.ext
  have hX := hX.ext hE2
  have hB4 := hB4.ext hE2
  have hB5 := hN5.blk
  have hXs6 := hX.size
  have hlt4b := hB4.lt
  have hlt5 := hB5.lt
  refine o_alloc zr27 ?_
  intro w3 g6 hN6
  have hE3 := hN6.ext
  have hX := hX.ext hE3
  have hB4 := hB4.ext hE3
  have hB5 := hB5.ext hE3
  have hB6 := hN6.blk
  have hg4 := hN4.g_eq
  have hg5 := hN5.g_eq
  have hg6 := hN6.g_eq
  refine p1 (x_assign (by conv => lhs; whnf)) ?_
  refine r_nil ?_
  refine t_n ?_
  refine c_seq ?_
  refine r_plain ?_
  refine p1 (x_assign (by conv => lhs; whnf)) ?_
  refine p1 (x_assign (by conv => lhs; whnf)) ?_
  refine r_nil ?_
  refine t_n ?_
  refine c_seq ?_
  refine r_plain ?_
  have hXs12 := hX.size
  refine o_buildSlice u31 inf5 rfl (by decide) (fun base hb => by have h0 : base = #[] := Array.eq_empty_of_size_eq_zero (by simpa using hb); subst h0; rfl) ?_
  intro w4 g12 hN12
  have hE4 := hN12.ext
  have hX := hX.ext hE4
  have hB4 := hB4.ext hE4
  have hB5 := hB5.ext hE4
  have hB6 := hB6.ext hE4
  have hO : Own kByte 5 0 w.heap.size w4 (some ⟨g12, 0, none⟩) 0 0 [] := Own.made kByte 5 0 _ hN12 [] [] 0 0 rfl trivial hXs12 (by omega) (by omega) (by rfl) (by simp)
  refine p1 (x_fieldAddr fo33_3 sz31 rfl) ?_
  refine p1 (x_load1 un31 rfl (hB5.cell (rfl))) ?_
  have hB0 := hX.size
  have hlo2 := (hlo.keep (hX.same _ [])).sl 5
  refine o_append (d := kByte) (a.data) u31 inf5 rfl kByte_pos rfl rfl hO (src_pure u31 hlo2 (by decide)) hlo2.len (byte_all _ _ _) (rfl) (by omega) (by omega) (by omega) (by omega) (by decide) ?_
  intro p15 c15 w5 hO hM5
  have hX := hX.mod hM5 ((Nat.le_refl _))
  have hB4 := hB4.mod hM5 (by decide)
  have hB5 := hB5.mod hM5 (by decide)
  have hB6 := hB6.mod hM5 (by decide)
  rw [List.nil_append] at hO
  refine p1 (x_assign (by conv => lhs; whnf)) ?_
  refine r_nil ?_
  refine t_n ?_
  refine c_seq ?_
  refine c_seq ?_
  refine r_plain ?_
  refine p1 (x_fieldAddr fo33_0 sz5 rfl) ?_
  refine p1 (x_load1 un5 rfl (hB5.cell (rfl))) ?_
  refine p1 (x_rem rfl rfl (by omega) (by omega)) ?_
  refine r_nil ?_
  refine t_n ?_
  refine c_block ?_
  refine c_seq ?_
  refine r_plain ?_
  refine p1 (x_eql rfl rfl) ?_
  refine p1 (x_assign (by conv => lhs; whnf)) ?_
  refine r_nil ?_
  refine t_n ?_
  first | refine c_dec rfl (fun hc26 => ?_) (fun hc26 => ?_) | refine c_if rfl (fun hc26 => ?_) (fun hc26 => ?_)
  · try simp only [decide_eq_true_eq, decide_eq_false_iff_not, Bool.not_eq_true, Bool.not_eq_false, Bool.not_eq_eq_eq_not, Bool.not_true, Bool.not_false, Int.not_lt, Int.not_le] at hc26
    refine c_seq ?_
    refine r_plain ?_
    refine p1 (x_move (by conv => lhs; whnf)) ?_
    refine p1 (x_fieldAddr fo33_1 sz9 rfl) ?_
    refine p1 (x_load1 un9 rfl (hB5.cell (rfl))) ?_
    obtain ⟨B1, hB1⟩ : ∃ B, B = w5.heap.size := ⟨_, rfl⟩
    have hwB1 := Nat.le_trans hX.size (Nat.le_of_eq hB1.symm)
    have hqa := own_at hO
    rw [← hB1] at hqa
    refine o_call Try.func17 fn17 fb17 (disk_Create g S D _ (hDw.ext hX) hok hst hle a.nm hz1) rfl ?_
    rintro v6 w6 ⟨rfl, hD2, hM2⟩
    have hD : Dsk (fun j => S j ∨ B1 ≤ j) w6 g (actD D a).1 := by rw [act0 (by omega)]; exact hD2.mono (fun j _ h => h.imp id fun h => by rw [hB1]; exact h.1)
    have hl := (hl0.ext hX).modS hM2 (fun _ _ => Nat.zero_le _) (by decide)
    have hW := (OwnR.of (F := (fun j => S j ∨ B1 ≤ j)) hO (fun gq e h => by have h1 := hqa gq e; rcases h with h | h; (· have := hSw gq h; omega); omega)).modS hM2 (fun gq e hs => by have h1 := hSw gq hs; have h2 := (hqa gq e).1; omega)
    have hX := (ModS.ofExt (S := S) (E := ED) hX).trans hM2 (fun _ _ h => h)
    have hB4 := hB4.modS hM2 (.inr (by decide))
    have hB5 := hB5.modS hM2 (.inr (by decide))
    have hB6 := hB6.modS hM2 (.inr (by decide))
    skip
    refine p1 (x_assign (by conv => lhs; whnf)) ?_
    refine r_nil ?_
    refine t_n ?_
    refine r_plain ?_
    refine p1 (x_loadB ua27 rfl hB4 (by exact sz27)) ?_
    refine p1 (x_fieldAddr fo33_1 sz9 rfl) ?_
    refine p1 (x_load1 un9 rfl (hB5.cell (rfl))) ?_
    refine o_call Try.func34 fn34 fb34 (ref_Create D p n c lf _ hl hlf hok hst a.nm hz1) rfl ?_
    rintro v7 w7 ⟨⟨cs1, rfl, p9, n9, c9, lf9, rfl, hl9, hlf9⟩, hE7⟩
    have hX := hX.ext hE7
    have hD := hD.ext hE7
    have hl := hl.ext hE7
    have hW := hW.ext hE7
    have hB4 := hB4.ext hE7
    have hB5 := hB5.ext hE7
    have hB6 := hB6.ext hE7
    refine p1 (x_move (by conv => lhs; whnf)) ?_
    refine p1 (x_extract rfl rfl) ?_
    refine p1 (x_extract rfl rfl) ?_
    refine o_storeAll rfl (by conv => lhs; whnf) (by simp [Value.oneCell']) (by exact sz27) hB4 (by rfl) ?_
    intro w8 hP8
    have hX := hX.new hP8 (by omega)
    have hD := hD.one hP8.one (by decide)
    have hl := hl.mod (hP8.mod 0 (Nat.zero_le _)) (Nat.zero_le _) (by decide)
    have hW := hW.one hP8.one (by decide)
    have hB4 := hP8.blk
    have hB5 := hP8.keep hB5 (by omega)
    have hB6 := hP8.keep hB6 (by omega)
    have hl9 := hl9.mod (hP8.mod 0 (Nat.zero_le _)) (Nat.zero_le _) (by decide)
    rw [← act0 (by omega)] at hB4 hl9 hlf9
    refine p1 (x_assign (by conv => lhs; whnf)) ?_
    refine r_nil ?_
    refine b_n ?_
    refine t_n ?_
    refine c_seq ?_
    refine c_seq ?_
    refine r_plain ?_
    refine p1 (x_assign (by conv => lhs; whnf)) ?_
    refine r_nil ?_
    refine t_n ?_
    refine c_block ?_
    have hmf := hlo.fit
    have hmc := hlo.cap
    refine c_loop (ι := Nat) [11, 134, 135, 136, 137, 138, 139, 140, 141, 142, 143, 144, 145] (fun i => [(11, .int .i64 (i : Int))]) (fun i w' => ModS S ED w w' ∧ (OwnR (fun j => S j ∨ B1 ≤ j) w.heap.size w' p15 (0 + m) ∧ Dsk (fun j => S j ∨ B1 ≤ j) w' g (actD D a).1 ∧ Blk w' g4 #[.int .i64 ((actD D a).1.most : Int), .slice p9 n9 c9, .int .i64 ((actD D a).1.steps : Int), .bool (decide (0 ≤ (actD D a).1.left)), .int .i64 lf9, .bool (actD D a).1.done, .bool (actD D a).1.down] 27 ∧ Blk w' g6 #[.int .i64 0, .slice none 0 0, .int .i64 0, .bool false, .int .i64 0, .bool false, .bool false] 27 ∧ Sl kFl 81 0 w' p9 n9 c9 (actD D a).1.l ∧ i ≤ 0 + m)) (fun i => (0 + m) - i) (0) ⟨rfl, trivial⟩ ⟨hX, ⟨hW, hD, hB4, hB6, hl9, Nat.zero_le _⟩⟩ ?_
    rintro i GL1 w9 ⟨hE9, hW, hD, hB4, hB6, hl9, hi⟩
    have hX := hE9
    refine c_seq ?_
    refine c_seq ?_
    refine r_plain ?_
    refine p1 (x_move (by conv => lhs; whnf)) ?_
    refine p1 (x_move (by conv => lhs; whnf)) ?_
    refine p1 (x_len_slice u31 rfl) ?_
    refine p1 (x_lss rfl rfl) ?_
    refine r_nil ?_
    refine t_n ?_
    first | refine c_dec rfl (fun hc137 => ?_) (fun hc137 => ?_) | refine c_if rfl (fun hc137 => ?_) (fun hc137 => ?_)
    · try simp only [decide_eq_true_eq, decide_eq_false_iff_not, Bool.not_eq_true, Bool.not_eq_false, Bool.not_eq_eq_eq_not, Bool.not_true, Bool.not_false, Int.not_lt, Int.not_le] at hc137
      obtain ⟨gq, cur, hq15, hnF, hlow, hBq, hcs, hcell⟩ := hW.resolve_left (by omega)
      subst hq15
      obtain ⟨b, hb⟩ := hcell (0 + i) (by omega)
      refine c_skip ?_
      refine t_n ?_
      refine c_seq ?_
      refine c_block ?_
      refine r_plain ?_
      refine p1 (x_move (by conv => lhs; whnf)) ?_
      refine p1 (x_move (by conv => lhs; whnf)) ?_
      refine p1 (x_ixs0 u31 sz5 rfl rfl rfl (by omega)) ?_
      refine p1 ((x_load1 un5 rfl (hBq.cell hb)).cast (rfl : _ = Value.int .u8 (b.toNat : Int))) ?_
      refine p1 ((x_addw rfl rfl).cast (congrArg (Value.int .u8) (wrap_inc b))) ?_
      refine p1 (x_ixs0 u31 sz5 rfl rfl rfl (by omega)) ?_
      refine o_store1 rfl (by conv => lhs; whnf) rfl rfl sz5 hBq (by show 0 + i < _; omega) ?_
      intro w10 hP10
      have hX := hX.put hP10 ⟨.inr hlow, by decide⟩
      have hD := hD.oneF hP10.one hnF (by decide)
      have hB4 := hB4.one hP10.one (by decide)
      have hB6 := hB6.one hP10.one (by decide)
      have hl9 := hl9.oneT hP10.one (by decide)
      have hW : OwnR (fun j => S j ∨ B1 ≤ j) w.heap.size w10 (some ⟨gq, 0, none⟩) (0 + m) := .inr ⟨gq, _, rfl, hnF, hlow, hP10.blk, by rw [Array.size_setIfInBounds]; exact hcs, set_bytes (b := b + 1) hcs hcell⟩
      skip
      refine r_nil ?_
      refine b_n ?_
      refine t_n ?_
      refine r_plain ?_
      refine p1 (x_move (by conv => lhs; whnf)) ?_
      refine p1 (x_add rfl rfl (fits_i64 (by omega) (by omega))) ?_
      refine p1 (x_assign (by conv => lhs; whnf)) ?_
      refine r_nil ?_
      refine t_n (At.mk (i + 1) (by repeat (first | exact Agr.refl _ _ | exact Agr.hav _ _ _ | refine Agr.upd rfl ?_ | refine Agr.updR rfl ?_ | refine Agr.updL ?_ _ rfl | refine Agr.hav' rfl ?_)) ⟨rfl, trivial⟩ ?_)
      exact ⟨⟨hX, ⟨hW, hD, hB4, hB6, hl9, by omega⟩⟩, by show (0 + m) - (i + 1) < (0 + m) - i; omega⟩
    · try simp only [decide_eq_true_eq, decide_eq_false_iff_not, Bool.not_eq_true, Bool.not_eq_false, Bool.not_eq_eq_eq_not, Bool.not_true, Bool.not_false, Int.not_lt, Int.not_le] at hc137
      refine c_exit ?_
      refine t_e ?_
      refine t_e ?_
      refine b_hit ?_
      refine t_n ?_
      refine c_seq ?_
      refine r_plain ?_
      refine p1 (x_loadB ua27 rfl hB4 (by exact sz27)) ?_
      refine p1 (x_move (by conv => lhs; whnf)) ?_
      refine p1 (x_move (by conv => lhs; whnf)) ?_
      refine p1 ((x_eql rfl rfl).cast (congrArg _ (decide_eq_true (by first | rfl | exact hres)))) ?_
      refine o_storeAll rfl (by conv => lhs; whnf) (by simp [Value.oneCell']) (by exact sz27) hB6 (by rfl) ?_
      intro w11 hP11
      have hX := hX.new hP11 (by omega)
      have hW := hW.one hP11.one (by decide)
      have hD := hD.one hP11.one (by decide)
      have hB4 := hP11.keep hB4 (by omega)
      have hB6 := hP11.blk
      have hl9 := hl9.mod (hP11.mod 0 (Nat.zero_le _)) (Nat.zero_le _) (by decide)
      refine p1 (x_assign (by conv => lhs; whnf)) ?_
      refine r_nil ?_
      refine t_n ?_
      refine c_ret ?_
      refine end2c rfl ua27 rfl (by conv => lhs; whnf) hB6 (by exact sz27) ?_
      exact ⟨⟨_, rfl, p9, n9, c9, lf9, rfl, hl9, hlf9⟩, hD.mono (fun j hj h => h.imp id fun h => ⟨by omega, hj⟩), hX⟩
  · try simp only [decide_eq_true_eq, decide_eq_false_iff_not, Bool.not_eq_true, Bool.not_eq_false, Bool.not_eq_eq_eq_not, Bool.not_true, Bool.not_false, Int.not_lt, Int.not_le] at hc26
    refine c_seq ?_
    refine c_seq ?_
    refine r_plain ?_
    refine p1 (x_eql rfl rfl) ?_
    refine p1 (x_assign (by conv => lhs; whnf)) ?_
    refine r_nil ?_
    refine t_n ?_
    first | refine c_dec rfl (fun hc39 => ?_) (fun hc39 => ?_) | refine c_if rfl (fun hc39 => ?_) (fun hc39 => ?_)
    · try simp only [decide_eq_true_eq, decide_eq_false_iff_not, Bool.not_eq_true, Bool.not_eq_false, Bool.not_eq_eq_eq_not, Bool.not_true, Bool.not_false, Int.not_lt, Int.not_le] at hc39
      refine c_skip ?_
      refine t_n ?_
      refine c_t (congrArg Value.bool (decide_eq_true (by omega))) ?_
      refine c_seq ?_
      refine r_plain ?_
      refine p1 (x_move (by conv => lhs; whnf)) ?_
      refine p1 (x_fieldAddr fo33_1 sz9 rfl) ?_
      refine p1 (x_load1 un9 rfl (hB5.cell (rfl))) ?_
      refine p1 (x_move (by conv => lhs; whnf)) ?_
      obtain ⟨B1, hB1⟩ : ∃ B, B = w5.heap.size := ⟨_, rfl⟩
      have hwB1 := Nat.le_trans hX.size (Nat.le_of_eq hB1.symm)
      have hqa := own_at hO
      rw [← hB1] at hqa
      refine o_call Try.func19 fn19 fb19 (disk_Append g S D _ (hDw.ext hX) hok hst hle a.nm hz1 5 0 _ _ _ a.data hO.sl) rfl ?_
      rintro v12 w12 ⟨rfl, hD2, hM2⟩
      have hD : Dsk (fun j => S j ∨ B1 ≤ j) w12 g (actD D a).1 := by rw [act1 (by omega)]; exact hD2.mono (fun j _ h => h.imp id fun h => by rw [hB1]; exact h.1)
      have hl := (hl0.ext hX).modS hM2 (fun _ _ => Nat.zero_le _) (by decide)
      have hW := (OwnR.of (F := (fun j => S j ∨ B1 ≤ j)) hO (fun gq e h => by have h1 := hqa gq e; rcases h with h | h; (· have := hSw gq h; omega); omega)).modS hM2 (fun gq e hs => by have h1 := hSw gq hs; have h2 := (hqa gq e).1; omega)
      have hX := (ModS.ofExt (S := S) (E := ED) hX).trans hM2 (fun _ _ h => h)
      have hB4 := hB4.modS hM2 (.inr (by decide))
      have hB5 := hB5.modS hM2 (.inr (by decide))
      have hB6 := hB6.modS hM2 (.inr (by decide))
      skip
      refine p1 (x_assign (by conv => lhs; whnf)) ?_
      refine r_nil ?_
      refine t_n ?_
      refine r_plain ?_
      refine p1 (x_loadB ua27 rfl hB4 (by exact sz27)) ?_
      refine p1 (x_fieldAddr fo33_1 sz9 rfl) ?_
      refine p1 (x_load1 un9 rfl (hB5.cell (rfl))) ?_
      refine p1 (x_fieldAddr fo33_3 sz31 rfl) ?_
      refine p1 (x_load1 un31 rfl (hB5.cell (rfl))) ?_
      refine p1 (x_bytes_str u31 u5 u9 rfl ((hlo.modS hX hSB).sl 5)) ?_
      refine o_call Try.func35 fn35 fb35 (ref_Append D p n c lf _ hl hlf hok hst a.nm hz1 a.data) rfl ?_
      rintro v13 w13 ⟨⟨cs1, rfl, p9, n9, c9, lf9, rfl, hl9, hlf9⟩, hE13⟩
      have hX := hX.ext hE13
      have hD := hD.ext hE13
      have hl := hl.ext hE13
      have hW := hW.ext hE13
      have hB4 := hB4.ext hE13
      have hB5 := hB5.ext hE13
      have hB6 := hB6.ext hE13
      refine p1 (x_move (by conv => lhs; whnf)) ?_
      refine p1 (x_extract rfl rfl) ?_
      refine p1 (x_extract rfl rfl) ?_
      refine o_storeAll rfl (by conv => lhs; whnf) (by simp [Value.oneCell']) (by exact sz27) hB4 (by rfl) ?_
      intro w14 hP14
      have hX := hX.new hP14 (by omega)
      have hD := hD.one hP14.one (by decide)
      have hl := hl.mod (hP14.mod 0 (Nat.zero_le _)) (Nat.zero_le _) (by decide)
      have hW := hW.one hP14.one (by decide)
      have hB4 := hP14.blk
      have hB5 := hP14.keep hB5 (by omega)
      have hB6 := hP14.keep hB6 (by omega)
      have hl9 := hl9.mod (hP14.mod 0 (Nat.zero_le _)) (Nat.zero_le _) (by decide)
      rw [← act1 (by omega)] at hB4 hl9 hlf9
      refine p1 (x_assign (by conv => lhs; whnf)) ?_
      refine r_nil ?_
      refine b_n ?_
      refine t_n ?_
      refine c_seq ?_
      refine c_seq ?_
      refine r_plain ?_
      refine p1 (x_assign (by conv => lhs; whnf)) ?_
      refine r_nil ?_
      refine t_n ?_
      refine c_block ?_
      have hmf := hlo.fit
      have hmc := hlo.cap
      refine c_loop (ι := Nat) [11, 134, 135, 136, 137, 138, 139, 140, 141, 142, 143, 144, 145] (fun i => [(11, .int .i64 (i : Int))]) (fun i w' => ModS S ED w w' ∧ (OwnR (fun j => S j ∨ B1 ≤ j) w.heap.size w' p15 (0 + m) ∧ Dsk (fun j => S j ∨ B1 ≤ j) w' g (actD D a).1 ∧ Blk w' g4 #[.int .i64 ((actD D a).1.most : Int), .slice p9 n9 c9, .int .i64 ((actD D a).1.steps : Int), .bool (decide (0 ≤ (actD D a).1.left)), .int .i64 lf9, .bool (actD D a).1.done, .bool (actD D a).1.down] 27 ∧ Blk w' g6 #[.int .i64 0, .slice none 0 0, .int .i64 0, .bool false, .int .i64 0, .bool false, .bool false] 27 ∧ Sl kFl 81 0 w' p9 n9 c9 (actD D a).1.l ∧ i ≤ 0 + m)) (fun i => (0 + m) - i) (0) ⟨rfl, trivial⟩ ⟨hX, ⟨hW, hD, hB4, hB6, hl9, Nat.zero_le _⟩⟩ ?_
      rintro i GL1 w15 ⟨hE15, hW, hD, hB4, hB6, hl9, hi⟩
      have hX := hE15
      refine c_seq ?_
      refine c_seq ?_
      refine r_plain ?_
      refine p1 (x_move (by conv => lhs; whnf)) ?_
      refine p1 (x_move (by conv => lhs; whnf)) ?_
      refine p1 (x_len_slice u31 rfl) ?_
      refine p1 (x_lss rfl rfl) ?_
      refine r_nil ?_
      refine t_n ?_
      first | refine c_dec rfl (fun hc137 => ?_) (fun hc137 => ?_) | refine c_if rfl (fun hc137 => ?_) (fun hc137 => ?_)
      · try simp only [decide_eq_true_eq, decide_eq_false_iff_not, Bool.not_eq_true, Bool.not_eq_false, Bool.not_eq_eq_eq_not, Bool.not_true, Bool.not_false, Int.not_lt, Int.not_le] at hc137
        obtain ⟨gq, cur, hq15, hnF, hlow, hBq, hcs, hcell⟩ := hW.resolve_left (by omega)
        subst hq15
        obtain ⟨b, hb⟩ := hcell (0 + i) (by omega)
        refine c_skip ?_
        refine t_n ?_
        refine c_seq ?_
        refine c_block ?_
        refine r_plain ?_
        refine p1 (x_move (by conv => lhs; whnf)) ?_
        refine p1 (x_move (by conv => lhs; whnf)) ?_
        refine p1 (x_ixs0 u31 sz5 rfl rfl rfl (by omega)) ?_
        refine p1 ((x_load1 un5 rfl (hBq.cell hb)).cast (rfl : _ = Value.int .u8 (b.toNat : Int))) ?_
        refine p1 ((x_addw rfl rfl).cast (congrArg (Value.int .u8) (wrap_inc b))) ?_
        refine p1 (x_ixs0 u31 sz5 rfl rfl rfl (by omega)) ?_
        refine o_store1 rfl (by conv => lhs; whnf) rfl rfl sz5 hBq (by show 0 + i < _; omega) ?_
        intro w16 hP16
        have hX := hX.put hP16 ⟨.inr hlow, by decide⟩
        have hD := hD.oneF hP16.one hnF (by decide)
        have hB4 := hB4.one hP16.one (by decide)
        have hB6 := hB6.one hP16.one (by decide)
        have hl9 := hl9.oneT hP16.one (by decide)
        have hW : OwnR (fun j => S j ∨ B1 ≤ j) w.heap.size w16 (some ⟨gq, 0, none⟩) (0 + m) := .inr ⟨gq, _, rfl, hnF, hlow, hP16.blk, by rw [Array.size_setIfInBounds]; exact hcs, set_bytes (b := b + 1) hcs hcell⟩
        skip
        refine r_nil ?_
        refine b_n ?_
        refine t_n ?_
        refine r_plain ?_
        refine p1 (x_move (by conv => lhs; whnf)) ?_
        refine p1 (x_add rfl rfl (fits_i64 (by omega) (by omega))) ?_
        refine p1 (x_assign (by conv => lhs; whnf)) ?_
        refine r_nil ?_
        refine t_n (At.mk (i + 1) (by repeat (first | exact Agr.refl _ _ | exact Agr.hav _ _ _ | refine Agr.upd rfl ?_ | refine Agr.updR rfl ?_ | refine Agr.updL ?_ _ rfl | refine Agr.hav' rfl ?_)) ⟨rfl, trivial⟩ ?_)
        exact ⟨⟨hX, ⟨hW, hD, hB4, hB6, hl9, by omega⟩⟩, by show (0 + m) - (i + 1) < (0 + m) - i; omega⟩
      · try simp only [decide_eq_true_eq, decide_eq_false_iff_not, Bool.not_eq_true, Bool.not_eq_false, Bool.not_eq_eq_eq_not, Bool.not_true, Bool.not_false, Int.not_lt, Int.not_le] at hc137
        refine c_exit ?_
        refine t_e ?_
        refine t_e ?_
        refine b_hit ?_
        refine t_n ?_
        refine c_seq ?_
        refine r_plain ?_
        refine p1 (x_loadB ua27 rfl hB4 (by exact sz27)) ?_
        refine p1 (x_move (by conv => lhs; whnf)) ?_
        refine p1 (x_move (by conv => lhs; whnf)) ?_
        refine p1 ((x_eql rfl rfl).cast (congrArg _ (decide_eq_true (by first | rfl | exact hres)))) ?_
        refine o_storeAll rfl (by conv => lhs; whnf) (by simp [Value.oneCell']) (by exact sz27) hB6 (by rfl) ?_
        intro w17 hP17
        have hX := hX.new hP17 (by omega)
        have hW := hW.one hP17.one (by decide)
        have hD := hD.one hP17.one (by decide)
        have hB4 := hP17.keep hB4 (by omega)
        have hB6 := hP17.blk
        have hl9 := hl9.mod (hP17.mod 0 (Nat.zero_le _)) (Nat.zero_le _) (by decide)
        refine p1 (x_assign (by conv => lhs; whnf)) ?_
        refine r_nil ?_
        refine t_n ?_
        refine c_ret ?_
        refine end2c rfl ua27 rfl (by conv => lhs; whnf) hB6 (by exact sz27) ?_
        exact ⟨⟨_, rfl, p9, n9, c9, lf9, rfl, hl9, hlf9⟩, hD.mono (fun j hj h => h.imp id fun h => ⟨by omega, hj⟩), hX⟩
    · try simp only [decide_eq_true_eq, decide_eq_false_iff_not, Bool.not_eq_true, Bool.not_eq_false, Bool.not_eq_eq_eq_not, Bool.not_true, Bool.not_false, Int.not_lt, Int.not_le] at hc39
      refine r_plain ?_
      refine p1 (x_eql rfl rfl) ?_
      refine p1 (x_assign (by conv => lhs; whnf)) ?_
      refine r_nil ?_
      refine t_n ?_
      first | refine c_dec rfl (fun hc39 => ?_) (fun hc39 => ?_) | refine c_if rfl (fun hc39 => ?_) (fun hc39 => ?_)
      · try simp only [decide_eq_true_eq, decide_eq_false_iff_not, Bool.not_eq_true, Bool.not_eq_false, Bool.not_eq_eq_eq_not, Bool.not_true, Bool.not_false, Int.not_lt, Int.not_le] at hc39
        refine c_seq ?_
        refine r_plain ?_
        refine p1 (x_move (by conv => lhs; whnf)) ?_
        refine p1 (x_fieldAddr fo33_1 sz9 rfl) ?_
        refine p1 (x_load1 un9 rfl (hB5.cell (rfl))) ?_
        refine p1 (x_move (by conv => lhs; whnf)) ?_
        obtain ⟨B1, hB1⟩ : ∃ B, B = w5.heap.size := ⟨_, rfl⟩
        have hwB1 := Nat.le_trans hX.size (Nat.le_of_eq hB1.symm)
        have hqa := own_at hO
        rw [← hB1] at hqa
        refine o_call Try.func19 fn19 fb19 (disk_Append g S D _ (hDw.ext hX) hok hst hle a.nm hz1 5 0 _ _ _ a.data hO.sl) rfl ?_
        rintro v18 w18 ⟨rfl, hD2, hM2⟩
        have hD : Dsk (fun j => S j ∨ B1 ≤ j) w18 g (actD D a).1 := by rw [act1 (by omega)]; exact hD2.mono (fun j _ h => h.imp id fun h => by rw [hB1]; exact h.1)
        have hl := (hl0.ext hX).modS hM2 (fun _ _ => Nat.zero_le _) (by decide)
        have hW := (OwnR.of (F := (fun j => S j ∨ B1 ≤ j)) hO (fun gq e h => by have h1 := hqa gq e; rcases h with h | h; (· have := hSw gq h; omega); omega)).modS hM2 (fun gq e hs => by have h1 := hSw gq hs; have h2 := (hqa gq e).1; omega)
        have hX := (ModS.ofExt (S := S) (E := ED) hX).trans hM2 (fun _ _ h => h)
        have hB4 := hB4.modS hM2 (.inr (by decide))
        have hB5 := hB5.modS hM2 (.inr (by decide))
        have hB6 := hB6.modS hM2 (.inr (by decide))
        skip
        refine p1 (x_assign (by conv => lhs; whnf)) ?_
        refine r_nil ?_
        refine t_n ?_
        refine r_plain ?_
        refine p1 (x_loadB ua27 rfl hB4 (by exact sz27)) ?_
        refine p1 (x_fieldAddr fo33_1 sz9 rfl) ?_
        refine p1 (x_load1 un9 rfl (hB5.cell (rfl))) ?_
        refine p1 (x_fieldAddr fo33_3 sz31 rfl) ?_
        refine p1 (x_load1 un31 rfl (hB5.cell (rfl))) ?_
        refine p1 (x_bytes_str u31 u5 u9 rfl ((hlo.modS hX hSB).sl 5)) ?_
        refine o_call Try.func35 fn35 fb35 (ref_Append D p n c lf _ hl hlf hok hst a.nm hz1 a.data) rfl ?_
        rintro v19 w19 ⟨⟨cs1, rfl, p9, n9, c9, lf9, rfl, hl9, hlf9⟩, hE19⟩
        have hX := hX.ext hE19
        have hD := hD.ext hE19
        have hl := hl.ext hE19
        have hW := hW.ext hE19
        have hB4 := hB4.ext hE19
        have hB5 := hB5.ext hE19
        have hB6 := hB6.ext hE19
        refine p1 (x_move (by conv => lhs; whnf)) ?_
        refine p1 (x_extract rfl rfl) ?_
        refine p1 (x_extract rfl rfl) ?_
        refine o_storeAll rfl (by conv => lhs; whnf) (by simp [Value.oneCell']) (by exact sz27) hB4 (by rfl) ?_
        intro w20 hP20
        have hX := hX.new hP20 (by omega)
        have hD := hD.one hP20.one (by decide)
        have hl := hl.mod (hP20.mod 0 (Nat.zero_le _)) (Nat.zero_le _) (by decide)
        have hW := hW.one hP20.one (by decide)
        have hB4 := hP20.blk
        have hB5 := hP20.keep hB5 (by omega)
        have hB6 := hP20.keep hB6 (by omega)
        have hl9 := hl9.mod (hP20.mod 0 (Nat.zero_le _)) (Nat.zero_le _) (by decide)
        rw [← act1 (by omega)] at hB4 hl9 hlf9
        refine p1 (x_assign (by conv => lhs; whnf)) ?_
        refine r_nil ?_
        refine b_n ?_
        refine t_n ?_
        refine c_seq ?_
        refine c_seq ?_
        refine r_plain ?_
        refine p1 (x_assign (by conv => lhs; whnf)) ?_
        refine r_nil ?_
        refine t_n ?_
        refine c_block ?_
        have hmf := hlo.fit
        have hmc := hlo.cap
        refine c_loop (ι := Nat) [11, 134, 135, 136, 137, 138, 139, 140, 141, 142, 143, 144, 145] (fun i => [(11, .int .i64 (i : Int))]) (fun i w' => ModS S ED w w' ∧ (OwnR (fun j => S j ∨ B1 ≤ j) w.heap.size w' p15 (0 + m) ∧ Dsk (fun j => S j ∨ B1 ≤ j) w' g (actD D a).1 ∧ Blk w' g4 #[.int .i64 ((actD D a).1.most : Int), .slice p9 n9 c9, .int .i64 ((actD D a).1.steps : Int), .bool (decide (0 ≤ (actD D a).1.left)), .int .i64 lf9, .bool (actD D a).1.done, .bool (actD D a).1.down] 27 ∧ Blk w' g6 #[.int .i64 0, .slice none 0 0, .int .i64 0, .bool false, .int .i64 0, .bool false, .bool false] 27 ∧ Sl kFl 81 0 w' p9 n9 c9 (actD D a).1.l ∧ i ≤ 0 + m)) (fun i => (0 + m) - i) (0) ⟨rfl, trivial⟩ ⟨hX, ⟨hW, hD, hB4, hB6, hl9, Nat.zero_le _⟩⟩ ?_
        rintro i GL1 w21 ⟨hE21, hW, hD, hB4, hB6, hl9, hi⟩
        have hX := hE21
        refine c_seq ?_
        refine c_seq ?_
        refine r_plain ?_
        refine p1 (x_move (by conv => lhs; whnf)) ?_
        refine p1 (x_move (by conv => lhs; whnf)) ?_
        refine p1 (x_len_slice u31 rfl) ?_
        refine p1 (x_lss rfl rfl) ?_
        refine r_nil ?_
        refine t_n ?_
        first | refine c_dec rfl (fun hc137 => ?_) (fun hc137 => ?_) | refine c_if rfl (fun hc137 => ?_) (fun hc137 => ?_)
        · try simp only [decide_eq_true_eq, decide_eq_false_iff_not, Bool.not_eq_true, Bool.not_eq_false, Bool.not_eq_eq_eq_not, Bool.not_true, Bool.not_false, Int.not_lt, Int.not_le] at hc137
          obtain ⟨gq, cur, hq15, hnF, hlow, hBq, hcs, hcell⟩ := hW.resolve_left (by omega)
          subst hq15
          obtain ⟨b, hb⟩ := hcell (0 + i) (by omega)
          refine c_skip ?_
          refine t_n ?_
          refine c_seq ?_
          refine c_block ?_
          refine r_plain ?_
          refine p1 (x_move (by conv => lhs; whnf)) ?_
          refine p1 (x_move (by conv => lhs; whnf)) ?_
          refine p1 (x_ixs0 u31 sz5 rfl rfl rfl (by omega)) ?_
          refine p1 ((x_load1 un5 rfl (hBq.cell hb)).cast (rfl : _ = Value.int .u8 (b.toNat : Int))) ?_
          refine p1 ((x_addw rfl rfl).cast (congrArg (Value.int .u8) (wrap_inc b))) ?_
          refine p1 (x_ixs0 u31 sz5 rfl rfl rfl (by omega)) ?_
          refine o_store1 rfl (by conv => lhs; whnf) rfl rfl sz5 hBq (by show 0 + i < _; omega) ?_
          intro w22 hP22
          have hX := hX.put hP22 ⟨.inr hlow, by decide⟩
          have hD := hD.oneF hP22.one hnF (by decide)
          have hB4 := hB4.one hP22.one (by decide)
          have hB6 := hB6.one hP22.one (by decide)
          have hl9 := hl9.oneT hP22.one (by decide)
          have hW : OwnR (fun j => S j ∨ B1 ≤ j) w.heap.size w22 (some ⟨gq, 0, none⟩) (0 + m) := .inr ⟨gq, _, rfl, hnF, hlow, hP22.blk, by rw [Array.size_setIfInBounds]; exact hcs, set_bytes (b := b + 1) hcs hcell⟩
          skip
          refine r_nil ?_
          refine b_n ?_
          refine t_n ?_
          refine r_plain ?_
          refine p1 (x_move (by conv => lhs; whnf)) ?_
          refine p1 (x_add rfl rfl (fits_i64 (by omega) (by omega))) ?_
          refine p1 (x_assign (by conv => lhs; whnf)) ?_
          refine r_nil ?_
          refine t_n (At.mk (i + 1) (by repeat (first | exact Agr.refl _ _ | exact Agr.hav _ _ _ | refine Agr.upd rfl ?_ | refine Agr.updR rfl ?_ | refine Agr.updL ?_ _ rfl | refine Agr.hav' rfl ?_)) ⟨rfl, trivial⟩ ?_)
          exact ⟨⟨hX, ⟨hW, hD, hB4, hB6, hl9, by omega⟩⟩, by show (0 + m) - (i + 1) < (0 + m) - i; omega⟩
        · try simp only [decide_eq_true_eq, decide_eq_false_iff_not, Bool.not_eq_true, Bool.not_eq_false, Bool.not_eq_eq_eq_not, Bool.not_true, Bool.not_false, Int.not_lt, Int.not_le] at hc137
          refine c_exit ?_
          refine t_e ?_
          refine t_e ?_
          refine b_hit ?_
          refine t_n ?_
          refine c_seq ?_
          refine r_plain ?_
          refine p1 (x_loadB ua27 rfl hB4 (by exact sz27)) ?_
          refine p1 (x_move (by conv => lhs; whnf)) ?_
          refine p1 (x_move (by conv => lhs; whnf)) ?_
          refine p1 ((x_eql rfl rfl).cast (congrArg _ (decide_eq_true (by first | rfl | exact hres)))) ?_
          refine o_storeAll rfl (by conv => lhs; whnf) (by simp [Value.oneCell']) (by exact sz27) hB6 (by rfl) ?_
          intro w23 hP23
          have hX := hX.new hP23 (by omega)
          have hW := hW.one hP23.one (by decide)
          have hD := hD.one hP23.one (by decide)
          have hB4 := hP23.keep hB4 (by omega)
          have hB6 := hP23.blk
          have hl9 := hl9.mod (hP23.mod 0 (Nat.zero_le _)) (Nat.zero_le _) (by decide)
          refine p1 (x_assign (by conv => lhs; whnf)) ?_
          refine r_nil ?_
          refine t_n ?_
          refine c_ret ?_
          refine end2c rfl ua27 rfl (by conv => lhs; whnf) hB6 (by exact sz27) ?_
          exact ⟨⟨_, rfl, p9, n9, c9, lf9, rfl, hl9, hlf9⟩, hD.mono (fun j hj h => h.imp id fun h => ⟨by omega, hj⟩), hX⟩
      · try simp only [decide_eq_true_eq, decide_eq_false_iff_not, Bool.not_eq_true, Bool.not_eq_false, Bool.not_eq_eq_eq_not, Bool.not_true, Bool.not_false, Int.not_lt, Int.not_le] at hc39
        refine c_seq ?_
        refine r_plain ?_
        refine p1 (x_eql rfl rfl) ?_
        refine p1 (x_assign (by conv => lhs; whnf)) ?_
        refine r_nil ?_
        refine t_n ?_
        first | refine c_dec rfl (fun hc57 => ?_) (fun hc57 => ?_) | refine c_if rfl (fun hc57 => ?_) (fun hc57 => ?_)
        · try simp only [decide_eq_true_eq, decide_eq_false_iff_not, Bool.not_eq_true, Bool.not_eq_false, Bool.not_eq_eq_eq_not, Bool.not_true, Bool.not_false, Int.not_lt, Int.not_le] at hc57
          refine c_seq ?_
          refine r_plain ?_
          refine p1 (x_move (by conv => lhs; whnf)) ?_
          refine p1 (x_fieldAddr fo33_1 sz9 rfl) ?_
          refine p1 (x_load1 un9 rfl (hB5.cell (rfl))) ?_
          obtain ⟨B1, hB1⟩ : ∃ B, B = w5.heap.size := ⟨_, rfl⟩
          have hwB1 := Nat.le_trans hX.size (Nat.le_of_eq hB1.symm)
          have hqa := own_at hO
          rw [← hB1] at hqa
          refine o_call Try.func23 fn23 fb23 (disk_Sync g S D _ (hDw.ext hX) hok hst hle a.nm hz1) rfl ?_
          rintro v24 w24 ⟨rfl, hD2, hM2⟩
          have hD : Dsk (fun j => S j ∨ B1 ≤ j) w24 g (actD D a).1 := by rw [act3 (by omega)]; exact hD2.mono (fun j _ h => h.imp id fun h => by rw [hB1]; exact h.1)
          have hl := (hl0.ext hX).modS hM2 (fun _ _ => Nat.zero_le _) (by decide)
          have hW := (OwnR.of (F := (fun j => S j ∨ B1 ≤ j)) hO (fun gq e h => by have h1 := hqa gq e; rcases h with h | h; (· have := hSw gq h; omega); omega)).modS hM2 (fun gq e hs => by have h1 := hSw gq hs; have h2 := (hqa gq e).1; omega)
          have hX := (ModS.ofExt (S := S) (E := ED) hX).trans hM2 (fun _ _ h => h)
          have hB4 := hB4.modS hM2 (.inr (by decide))
          have hB5 := hB5.modS hM2 (.inr (by decide))
          have hB6 := hB6.modS hM2 (.inr (by decide))
          skip
          refine p1 (x_assign (by conv => lhs; whnf)) ?_
          refine r_nil ?_
          refine t_n ?_
          refine r_plain ?_
          refine p1 (x_loadB ua27 rfl hB4 (by exact sz27)) ?_
          refine p1 (x_fieldAddr fo33_1 sz9 rfl) ?_
          refine p1 (x_load1 un9 rfl (hB5.cell (rfl))) ?_
          refine o_call Try.func36 fn36 fb36 (ref_Sync D p n c lf _ hl hlf hok hst a.nm hz1) rfl ?_
          rintro v25 w25 ⟨⟨cs1, rfl, p9, n9, c9, lf9, rfl, hl9, hlf9⟩, hE25⟩
          have hX := hX.ext hE25
          have hD := hD.ext hE25
          have hl := hl.ext hE25
          have hW := hW.ext hE25
          have hB4 := hB4.ext hE25
          have hB5 := hB5.ext hE25
          have hB6 := hB6.ext hE25
          refine p1 (x_move (by conv => lhs; whnf)) ?_
          refine p1 (x_extract rfl rfl) ?_
          refine p1 (x_extract rfl rfl) ?_
          refine o_storeAll rfl (by conv => lhs; whnf) (by simp [Value.oneCell']) (by exact sz27) hB4 (by rfl) ?_
          intro w26 hP26
          have hX := hX.new hP26 (by omega)
          have hD := hD.one hP26.one (by decide)
          have hl := hl.mod (hP26.mod 0 (Nat.zero_le _)) (Nat.zero_le _) (by decide)
          have hW := hW.one hP26.one (by decide)
          have hB4 := hP26.blk
          have hB5 := hP26.keep hB5 (by omega)
          have hB6 := hP26.keep hB6 (by omega)
          have hl9 := hl9.mod (hP26.mod 0 (Nat.zero_le _)) (Nat.zero_le _) (by decide)
          rw [← act3 (by omega)] at hB4 hl9 hlf9
          refine p1 (x_assign (by conv => lhs; whnf)) ?_
          refine r_nil ?_
          refine b_n ?_
          refine t_n ?_
          refine c_seq ?_
          refine c_seq ?_
          refine r_plain ?_
          refine p1 (x_assign (by conv => lhs; whnf)) ?_
          refine r_nil ?_
          refine t_n ?_
          refine c_block ?_
          have hmf := hlo.fit
          have hmc := hlo.cap
          refine c_loop (ι := Nat) [11, 134, 135, 136, 137, 138, 139, 140, 141, 142, 143, 144, 145] (fun i => [(11, .int .i64 (i : Int))]) (fun i w' => ModS S ED w w' ∧ (OwnR (fun j => S j ∨ B1 ≤ j) w.heap.size w' p15 (0 + m) ∧ Dsk (fun j => S j ∨ B1 ≤ j) w' g (actD D a).1 ∧ Blk w' g4 #[.int .i64 ((actD D a).1.most : Int), .slice p9 n9 c9, .int .i64 ((actD D a).1.steps : Int), .bool (decide (0 ≤ (actD D a).1.left)), .int .i64 lf9, .bool (actD D a).1.done, .bool (actD D a).1.down] 27 ∧ Blk w' g6 #[.int .i64 0, .slice none 0 0, .int .i64 0, .bool false, .int .i64 0, .bool false, .bool false] 27 ∧ Sl kFl 81 0 w' p9 n9 c9 (actD D a).1.l ∧ i ≤ 0 + m)) (fun i => (0 + m) - i) (0) ⟨rfl, trivial⟩ ⟨hX, ⟨hW, hD, hB4, hB6, hl9, Nat.zero_le _⟩⟩ ?_
          rintro i GL1 w27 ⟨hE27, hW, hD, hB4, hB6, hl9, hi⟩
          have hX := hE27
          refine c_seq ?_
          refine c_seq ?_
          refine r_plain ?_
          refine p1 (x_move (by conv => lhs; whnf)) ?_
          refine p1 (x_move (by conv => lhs; whnf)) ?_
          refine p1 (x_len_slice u31 rfl) ?_
          refine p1 (x_lss rfl rfl) ?_
          refine r_nil ?_
          refine t_n ?_
          first | refine c_dec rfl (fun hc137 => ?_) (fun hc137 => ?_) | refine c_if rfl (fun hc137 => ?_) (fun hc137 => ?_)
          · try simp only [decide_eq_true_eq, decide_eq_false_iff_not, Bool.not_eq_true, Bool.not_eq_false, Bool.not_eq_eq_eq_not, Bool.not_true, Bool.not_false, Int.not_lt, Int.not_le] at hc137
            obtain ⟨gq, cur, hq15, hnF, hlow, hBq, hcs, hcell⟩ := hW.resolve_left (by omega)
            subst hq15
            obtain ⟨b, hb⟩ := hcell (0 + i) (by omega)
            refine c_skip ?_
            refine t_n ?_
            refine c_seq ?_
            refine c_block ?_
            refine r_plain ?_
            refine p1 (x_move (by conv => lhs; whnf)) ?_
            refine p1 (x_move (by conv => lhs; whnf)) ?_
            refine p1 (x_ixs0 u31 sz5 rfl rfl rfl (by omega)) ?_
            refine p1 ((x_load1 un5 rfl (hBq.cell hb)).cast (rfl : _ = Value.int .u8 (b.toNat : Int))) ?_
            refine p1 ((x_addw rfl rfl).cast (congrArg (Value.int .u8) (wrap_inc b))) ?_
            refine p1 (x_ixs0 u31 sz5 rfl rfl rfl (by omega)) ?_
            refine o_store1 rfl (by conv => lhs; whnf) rfl rfl sz5 hBq (by show 0 + i < _; omega) ?_
            intro w28 hP28
            have hX := hX.put hP28 ⟨.inr hlow, by decide⟩
            have hD := hD.oneF hP28.one hnF (by decide)
            have hB4 := hB4.one hP28.one (by decide)
            have hB6 := hB6.one hP28.one (by decide)
            have hl9 := hl9.oneT hP28.one (by decide)
            have hW : OwnR (fun j => S j ∨ B1 ≤ j) w.heap.size w28 (some ⟨gq, 0, none⟩) (0 + m) := .inr ⟨gq, _, rfl, hnF, hlow, hP28.blk, by rw [Array.size_setIfInBounds]; exact hcs, set_bytes (b := b + 1) hcs hcell⟩
            skip
            refine r_nil ?_
            refine b_n ?_
            refine t_n ?_
            refine r_plain ?_
            refine p1 (x_move (by conv => lhs; whnf)) ?_
            refine p1 (x_add rfl rfl (fits_i64 (by omega) (by omega))) ?_
            refine p1 (x_assign (by conv => lhs; whnf)) ?_
            refine r_nil ?_
            refine t_n (At.mk (i + 1) (by repeat (first | exact Agr.refl _ _ | exact Agr.hav _ _ _ | refine Agr.upd rfl ?_ | refine Agr.updR rfl ?_ | refine Agr.updL ?_ _ rfl | refine Agr.hav' rfl ?_)) ⟨rfl, trivial⟩ ?_)
            exact ⟨⟨hX, ⟨hW, hD, hB4, hB6, hl9, by omega⟩⟩, by show (0 + m) - (i + 1) < (0 + m) - i; omega⟩
          · try simp only [decide_eq_true_eq, decide_eq_false_iff_not, Bool.not_eq_true, Bool.not_eq_false, Bool.not_eq_eq_eq_not, Bool.not_true, Bool.not_false, Int.not_lt, Int.not_le] at hc137
            refine c_exit ?_
            refine t_e ?_
            refine t_e ?_
            refine b_hit ?_
            refine t_n ?_
            refine c_seq ?_
            refine r_plain ?_
            refine p1 (x_loadB ua27 rfl hB4 (by exact sz27)) ?_
            refine p1 (x_move (by conv => lhs; whnf)) ?_
            refine p1 (x_move (by conv => lhs; whnf)) ?_
            refine p1 ((x_eql rfl rfl).cast (congrArg _ (decide_eq_true (by first | rfl | exact hres)))) ?_
            refine o_storeAll rfl (by conv => lhs; whnf) (by simp [Value.oneCell']) (by exact sz27) hB6 (by rfl) ?_
            intro w29 hP29
            have hX := hX.new hP29 (by omega)
            have hW := hW.one hP29.one (by decide)
            have hD := hD.one hP29.one (by decide)
            have hB4 := hP29.keep hB4 (by omega)
            have hB6 := hP29.blk
            have hl9 := hl9.mod (hP29.mod 0 (Nat.zero_le _)) (Nat.zero_le _) (by decide)
            refine p1 (x_assign (by conv => lhs; whnf)) ?_
            refine r_nil ?_
            refine t_n ?_
            refine c_ret ?_
            refine end2c rfl ua27 rfl (by conv => lhs; whnf) hB6 (by exact sz27) ?_
            exact ⟨⟨_, rfl, p9, n9, c9, lf9, rfl, hl9, hlf9⟩, hD.mono (fun j hj h => h.imp id fun h => ⟨by omega, hj⟩), hX⟩
        · try simp only [decide_eq_true_eq, decide_eq_false_iff_not, Bool.not_eq_true, Bool.not_eq_false, Bool.not_eq_eq_eq_not, Bool.not_true, Bool.not_false, Int.not_lt, Int.not_le] at hc57
          refine c_seq ?_
          refine r_plain ?_
          refine p1 (x_eql rfl rfl) ?_
          refine p1 (x_assign (by conv => lhs; whnf)) ?_
          refine r_nil ?_
          refine t_n ?_
          first | refine c_dec rfl (fun hc70 => ?_) (fun hc70 => ?_) | refine c_if rfl (fun hc70 => ?_) (fun hc70 => ?_)
          · try simp only [decide_eq_true_eq, decide_eq_false_iff_not, Bool.not_eq_true, Bool.not_eq_false, Bool.not_eq_eq_eq_not, Bool.not_true, Bool.not_false, Int.not_lt, Int.not_le] at hc70
            refine c_seq ?_
            refine r_plain ?_
            refine p1 (x_move (by conv => lhs; whnf)) ?_
            refine p1 (x_fieldAddr fo33_1 sz9 rfl) ?_
            refine p1 (x_load1 un9 rfl (hB5.cell (rfl))) ?_
            refine p1 (x_fieldAddr fo33_2 sz9 rfl) ?_
            refine p1 (x_load1 un9 rfl (hB5.cell (rfl))) ?_
            obtain ⟨B1, hB1⟩ : ∃ B, B = w5.heap.size := ⟨_, rfl⟩
            have hwB1 := Nat.le_trans hX.size (Nat.le_of_eq hB1.symm)
            have hqa := own_at hO
            rw [← hB1] at hqa
            refine o_call Try.func24 fn24 fb24 (disk_Rename g S D _ (hDw.ext hX) hok hst hle a.nm a.now hz1 hz2) rfl ?_
            rintro v30 w30 ⟨rfl, hD2, hM2⟩
            have hD : Dsk (fun j => S j ∨ B1 ≤ j) w30 g (actD D a).1 := by rw [act4 (by omega)]; exact hD2.mono (fun j _ h => h.imp id fun h => by rw [hB1]; exact h.1)
            have hl := (hl0.ext hX).modS hM2 (fun _ _ => Nat.zero_le _) (by decide)
            have hW := (OwnR.of (F := (fun j => S j ∨ B1 ≤ j)) hO (fun gq e h => by have h1 := hqa gq e; rcases h with h | h; (· have := hSw gq h; omega); omega)).modS hM2 (fun gq e hs => by have h1 := hSw gq hs; have h2 := (hqa gq e).1; omega)
            have hX := (ModS.ofExt (S := S) (E := ED) hX).trans hM2 (fun _ _ h => h)
            have hB4 := hB4.modS hM2 (.inr (by decide))
            have hB5 := hB5.modS hM2 (.inr (by decide))
            have hB6 := hB6.modS hM2 (.inr (by decide))
            skip
            refine p1 (x_assign (by conv => lhs; whnf)) ?_
            refine r_nil ?_
            refine t_n ?_
            refine r_plain ?_
            refine p1 (x_loadB ua27 rfl hB4 (by exact sz27)) ?_
            refine p1 (x_fieldAddr fo33_1 sz9 rfl) ?_
            refine p1 (x_load1 un9 rfl (hB5.cell (rfl))) ?_
            refine p1 (x_fieldAddr fo33_2 sz9 rfl) ?_
            refine p1 (x_load1 un9 rfl (hB5.cell (rfl))) ?_
            refine o_call Try.func37 fn37 fb37 (ref_Rename D p n c lf _ hl hlf hok hst a.nm a.now hz1 hz2) rfl ?_
            rintro v31 w31 ⟨⟨cs1, rfl, p9, n9, c9, lf9, rfl, hl9, hlf9⟩, hE31⟩
            have hX := hX.ext hE31
            have hD := hD.ext hE31
            have hl := hl.ext hE31
            have hW := hW.ext hE31
            have hB4 := hB4.ext hE31
            have hB5 := hB5.ext hE31
            have hB6 := hB6.ext hE31
            refine p1 (x_move (by conv => lhs; whnf)) ?_
            refine p1 (x_extract rfl rfl) ?_
            refine p1 (x_extract rfl rfl) ?_
            refine o_storeAll rfl (by conv => lhs; whnf) (by simp [Value.oneCell']) (by exact sz27) hB4 (by rfl) ?_
            intro w32 hP32
            have hX := hX.new hP32 (by omega)
            have hD := hD.one hP32.one (by decide)
            have hl := hl.mod (hP32.mod 0 (Nat.zero_le _)) (Nat.zero_le _) (by decide)
            have hW := hW.one hP32.one (by decide)
            have hB4 := hP32.blk
            have hB5 := hP32.keep hB5 (by omega)
            have hB6 := hP32.keep hB6 (by omega)
            have hl9 := hl9.mod (hP32.mod 0 (Nat.zero_le _)) (Nat.zero_le _) (by decide)
            rw [← act4 (by omega)] at hB4 hl9 hlf9
            refine p1 (x_assign (by conv => lhs; whnf)) ?_
            refine r_nil ?_
            refine b_n ?_
            refine t_n ?_
            refine c_seq ?_
            refine c_seq ?_
            refine r_plain ?_
            refine p1 (x_assign (by conv => lhs; whnf)) ?_
            refine r_nil ?_
            refine t_n ?_
            refine c_block ?_
            have hmf := hlo.fit
            have hmc := hlo.cap
            refine c_loop (ι := Nat) [11, 134, 135, 136, 137, 138, 139, 140, 141, 142, 143, 144, 145] (fun i => [(11, .int .i64 (i : Int))]) (fun i w' => ModS S ED w w' ∧ (OwnR (fun j => S j ∨ B1 ≤ j) w.heap.size w' p15 (0 + m) ∧ Dsk (fun j => S j ∨ B1 ≤ j) w' g (actD D a).1 ∧ Blk w' g4 #[.int .i64 ((actD D a).1.most : Int), .slice p9 n9 c9, .int .i64 ((actD D a).1.steps : Int), .bool (decide (0 ≤ (actD D a).1.left)), .int .i64 lf9, .bool (actD D a).1.done, .bool (actD D a).1.down] 27 ∧ Blk w' g6 #[.int .i64 0, .slice none 0 0, .int .i64 0, .bool false, .int .i64 0, .bool false, .bool false] 27 ∧ Sl kFl 81 0 w' p9 n9 c9 (actD D a).1.l ∧ i ≤ 0 + m)) (fun i => (0 + m) - i) (0) ⟨rfl, trivial⟩ ⟨hX, ⟨hW, hD, hB4, hB6, hl9, Nat.zero_le _⟩⟩ ?_
            rintro i GL1 w33 ⟨hE33, hW, hD, hB4, hB6, hl9, hi⟩
            have hX := hE33
            refine c_seq ?_
            refine c_seq ?_
            refine r_plain ?_
            refine p1 (x_move (by conv => lhs; whnf)) ?_
            refine p1 (x_move (by conv => lhs; whnf)) ?_
            refine p1 (x_len_slice u31 rfl) ?_
            refine p1 (x_lss rfl rfl) ?_
            refine r_nil ?_
            refine t_n ?_
            first | refine c_dec rfl (fun hc137 => ?_) (fun hc137 => ?_) | refine c_if rfl (fun hc137 => ?_) (fun hc137 => ?_)
            · try simp only [decide_eq_true_eq, decide_eq_false_iff_not, Bool.not_eq_true, Bool.not_eq_false, Bool.not_eq_eq_eq_not, Bool.not_true, Bool.not_false, Int.not_lt, Int.not_le] at hc137
              obtain ⟨gq, cur, hq15, hnF, hlow, hBq, hcs, hcell⟩ := hW.resolve_left (by omega)
              subst hq15
              obtain ⟨b, hb⟩ := hcell (0 + i) (by omega)
              refine c_skip ?_
              refine t_n ?_
              refine c_seq ?_
              refine c_block ?_
              refine r_plain ?_
              refine p1 (x_move (by conv => lhs; whnf)) ?_
              refine p1 (x_move (by conv => lhs; whnf)) ?_
              refine p1 (x_ixs0 u31 sz5 rfl rfl rfl (by omega)) ?_
              refine p1 ((x_load1 un5 rfl (hBq.cell hb)).cast (rfl : _ = Value.int .u8 (b.toNat : Int))) ?_
              refine p1 ((x_addw rfl rfl).cast (congrArg (Value.int .u8) (wrap_inc b))) ?_
              refine p1 (x_ixs0 u31 sz5 rfl rfl rfl (by omega)) ?_
              refine o_store1 rfl (by conv => lhs; whnf) rfl rfl sz5 hBq (by show 0 + i < _; omega) ?_
              intro w34 hP34
              have hX := hX.put hP34 ⟨.inr hlow, by decide⟩
              have hD := hD.oneF hP34.one hnF (by decide)
              have hB4 := hB4.one hP34.one (by decide)
              have hB6 := hB6.one hP34.one (by decide)
              have hl9 := hl9.oneT hP34.one (by decide)
              have hW : OwnR (fun j => S j ∨ B1 ≤ j) w.heap.size w34 (some ⟨gq, 0, none⟩) (0 + m) := .inr ⟨gq, _, rfl, hnF, hlow, hP34.blk, by rw [Array.size_setIfInBounds]; exact hcs, set_bytes (b := b + 1) hcs hcell⟩
              skip
              refine r_nil ?_
              refine b_n ?_
              refine t_n ?_
              refine r_plain ?_
              refine p1 (x_move (by conv => lhs; whnf)) ?_
              refine p1 (x_add rfl rfl (fits_i64 (by omega) (by omega))) ?_
              refine p1 (x_assign (by conv => lhs; whnf)) ?_
              refine r_nil ?_
              refine t_n (At.mk (i + 1) (by repeat (first | exact Agr.refl _ _ | exact Agr.hav _ _ _ | refine Agr.upd rfl ?_ | refine Agr.updR rfl ?_ | refine Agr.updL ?_ _ rfl | refine Agr.hav' rfl ?_)) ⟨rfl, trivial⟩ ?_)
              exact ⟨⟨hX, ⟨hW, hD, hB4, hB6, hl9, by omega⟩⟩, by show (0 + m) - (i + 1) < (0 + m) - i; omega⟩
            · try simp only [decide_eq_true_eq, decide_eq_false_iff_not, Bool.not_eq_true, Bool.not_eq_false, Bool.not_eq_eq_eq_not, Bool.not_true, Bool.not_false, Int.not_lt, Int.not_le] at hc137
              refine c_exit ?_
              refine t_e ?_
              refine t_e ?_
              refine b_hit ?_
              refine t_n ?_
              refine c_seq ?_
              refine r_plain ?_
              refine p1 (x_loadB ua27 rfl hB4 (by exact sz27)) ?_
              refine p1 (x_move (by conv => lhs; whnf)) ?_
              refine p1 (x_move (by conv => lhs; whnf)) ?_
              refine p1 ((x_eql rfl rfl).cast (congrArg _ (decide_eq_true (by first | rfl | exact hres)))) ?_
              refine o_storeAll rfl (by conv => lhs; whnf) (by simp [Value.oneCell']) (by exact sz27) hB6 (by rfl) ?_
              intro w35 hP35
              have hX := hX.new hP35 (by omega)
              have hW := hW.one hP35.one (by decide)
              have hD := hD.one hP35.one (by decide)
              have hB4 := hP35.keep hB4 (by omega)
              have hB6 := hP35.blk
              have hl9 := hl9.mod (hP35.mod 0 (Nat.zero_le _)) (Nat.zero_le _) (by decide)
              refine p1 (x_assign (by conv => lhs; whnf)) ?_
              refine r_nil ?_
              refine t_n ?_
              refine c_ret ?_
              refine end2c rfl ua27 rfl (by conv => lhs; whnf) hB6 (by exact sz27) ?_
              exact ⟨⟨_, rfl, p9, n9, c9, lf9, rfl, hl9, hlf9⟩, hD.mono (fun j hj h => h.imp id fun h => ⟨by omega, hj⟩), hX⟩
          · try simp only [decide_eq_true_eq, decide_eq_false_iff_not, Bool.not_eq_true, Bool.not_eq_false, Bool.not_eq_eq_eq_not, Bool.not_true, Bool.not_false, Int.not_lt, Int.not_le] at hc70
            refine c_seq ?_
            refine r_plain ?_
            refine p1 (x_eql rfl rfl) ?_
            refine p1 (x_assign (by conv => lhs; whnf)) ?_
            refine r_nil ?_
            refine t_n ?_
            first | refine c_dec rfl (fun hc87 => ?_) (fun hc87 => ?_) | refine c_if rfl (fun hc87 => ?_) (fun hc87 => ?_)
            · try simp only [decide_eq_true_eq, decide_eq_false_iff_not, Bool.not_eq_true, Bool.not_eq_false, Bool.not_eq_eq_eq_not, Bool.not_true, Bool.not_false, Int.not_lt, Int.not_le] at hc87
              refine c_seq ?_
              refine r_plain ?_
              refine p1 (x_move (by conv => lhs; whnf)) ?_
              refine p1 (x_fieldAddr fo33_1 sz9 rfl) ?_
              refine p1 (x_load1 un9 rfl (hB5.cell (rfl))) ?_
              obtain ⟨B1, hB1⟩ : ∃ B, B = w5.heap.size := ⟨_, rfl⟩
              have hwB1 := Nat.le_trans hX.size (Nat.le_of_eq hB1.symm)
              have hqa := own_at hO
              rw [← hB1] at hqa
              refine o_call Try.func20 fn20 fb20 (disk_Remove g S D _ (hDw.ext hX) hok hst hle a.nm hz1) rfl ?_
              rintro v36 w36 ⟨rfl, hD2, hM2⟩
              have hD : Dsk (fun j => S j ∨ B1 ≤ j) w36 g (actD D a).1 := by rw [act5 (by omega)]; exact hD2.mono (fun j _ h => h.imp id fun h => by rw [hB1]; exact h.1)
              have hl := (hl0.ext hX).modS hM2 (fun _ _ => Nat.zero_le _) (by decide)
              have hW := (OwnR.of (F := (fun j => S j ∨ B1 ≤ j)) hO (fun gq e h => by have h1 := hqa gq e; rcases h with h | h; (· have := hSw gq h; omega); omega)).modS hM2 (fun gq e hs => by have h1 := hSw gq hs; have h2 := (hqa gq e).1; omega)
              have hX := (ModS.ofExt (S := S) (E := ED) hX).trans hM2 (fun _ _ h => h)
              have hB4 := hB4.modS hM2 (.inr (by decide))
              have hB5 := hB5.modS hM2 (.inr (by decide))
              have hB6 := hB6.modS hM2 (.inr (by decide))
              skip
              refine p1 (x_assign (by conv => lhs; whnf)) ?_
              refine r_nil ?_
              refine t_n ?_
              refine r_plain ?_
              refine p1 (x_loadB ua27 rfl hB4 (by exact sz27)) ?_
              refine p1 (x_fieldAddr fo33_1 sz9 rfl) ?_
              refine p1 (x_load1 un9 rfl (hB5.cell (rfl))) ?_
              refine o_call Try.func38 fn38 fb38 (ref_Remove D p n c lf _ hl hlf hok hst a.nm hz1) rfl ?_
              rintro v37 w37 ⟨⟨cs1, rfl, p9, n9, c9, lf9, rfl, hl9, hlf9⟩, hE37⟩
              have hX := hX.ext hE37
              have hD := hD.ext hE37
              have hl := hl.ext hE37
              have hW := hW.ext hE37
              have hB4 := hB4.ext hE37
              have hB5 := hB5.ext hE37
              have hB6 := hB6.ext hE37
              refine p1 (x_move (by conv => lhs; whnf)) ?_
              refine p1 (x_extract rfl rfl) ?_
              refine p1 (x_extract rfl rfl) ?_
              refine o_storeAll rfl (by conv => lhs; whnf) (by simp [Value.oneCell']) (by exact sz27) hB4 (by rfl) ?_
              intro w38 hP38
              have hX := hX.new hP38 (by omega)
              have hD := hD.one hP38.one (by decide)
              have hl := hl.mod (hP38.mod 0 (Nat.zero_le _)) (Nat.zero_le _) (by decide)
              have hW := hW.one hP38.one (by decide)
              have hB4 := hP38.blk
              have hB5 := hP38.keep hB5 (by omega)
              have hB6 := hP38.keep hB6 (by omega)
              have hl9 := hl9.mod (hP38.mod 0 (Nat.zero_le _)) (Nat.zero_le _) (by decide)
              rw [← act5 (by omega)] at hB4 hl9 hlf9
              refine p1 (x_assign (by conv => lhs; whnf)) ?_
              refine r_nil ?_
              refine b_n ?_
              refine t_n ?_
              refine c_seq ?_
              refine c_seq ?_
              refine r_plain ?_
              refine p1 (x_assign (by conv => lhs; whnf)) ?_
              refine r_nil ?_
              refine t_n ?_
              refine c_block ?_
              have hmf := hlo.fit
              have hmc := hlo.cap
              refine c_loop (ι := Nat) [11, 134, 135, 136, 137, 138, 139, 140, 141, 142, 143, 144, 145] (fun i => [(11, .int .i64 (i : Int))]) (fun i w' => ModS S ED w w' ∧ (OwnR (fun j => S j ∨ B1 ≤ j) w.heap.size w' p15 (0 + m) ∧ Dsk (fun j => S j ∨ B1 ≤ j) w' g (actD D a).1 ∧ Blk w' g4 #[.int .i64 ((actD D a).1.most : Int), .slice p9 n9 c9, .int .i64 ((actD D a).1.steps : Int), .bool (decide (0 ≤ (actD D a).1.left)), .int .i64 lf9, .bool (actD D a).1.done, .bool (actD D a).1.down] 27 ∧ Blk w' g6 #[.int .i64 0, .slice none 0 0, .int .i64 0, .bool false, .int .i64 0, .bool false, .bool false] 27 ∧ Sl kFl 81 0 w' p9 n9 c9 (actD D a).1.l ∧ i ≤ 0 + m)) (fun i => (0 + m) - i) (0) ⟨rfl, trivial⟩ ⟨hX, ⟨hW, hD, hB4, hB6, hl9, Nat.zero_le _⟩⟩ ?_
              rintro i GL1 w39 ⟨hE39, hW, hD, hB4, hB6, hl9, hi⟩
              have hX := hE39
              refine c_seq ?_
              refine c_seq ?_
              refine r_plain ?_
              refine p1 (x_move (by conv => lhs; whnf)) ?_
              refine p1 (x_move (by conv => lhs; whnf)) ?_
              refine p1 (x_len_slice u31 rfl) ?_
              refine p1 (x_lss rfl rfl) ?_
              refine r_nil ?_
              refine t_n ?_
              first | refine c_dec rfl (fun hc137 => ?_) (fun hc137 => ?_) | refine c_if rfl (fun hc137 => ?_) (fun hc137 => ?_)
              · try simp only [decide_eq_true_eq, decide_eq_false_iff_not, Bool.not_eq_true, Bool.not_eq_false, Bool.not_eq_eq_eq_not, Bool.not_true, Bool.not_false, Int.not_lt, Int.not_le] at hc137
                obtain ⟨gq, cur, hq15, hnF, hlow, hBq, hcs, hcell⟩ := hW.resolve_left (by omega)
                subst hq15
                obtain ⟨b, hb⟩ := hcell (0 + i) (by omega)
                refine c_skip ?_
                refine t_n ?_
                refine c_seq ?_
                refine c_block ?_
                refine r_plain ?_
                refine p1 (x_move (by conv => lhs; whnf)) ?_
                refine p1 (x_move (by conv => lhs; whnf)) ?_
                refine p1 (x_ixs0 u31 sz5 rfl rfl rfl (by omega)) ?_
                refine p1 ((x_load1 un5 rfl (hBq.cell hb)).cast (rfl : _ = Value.int .u8 (b.toNat : Int))) ?_
                refine p1 ((x_addw rfl rfl).cast (congrArg (Value.int .u8) (wrap_inc b))) ?_
                refine p1 (x_ixs0 u31 sz5 rfl rfl rfl (by omega)) ?_
                refine o_store1 rfl (by conv => lhs; whnf) rfl rfl sz5 hBq (by show 0 + i < _; omega) ?_
                intro w40 hP40
                have hX := hX.put hP40 ⟨.inr hlow, by decide⟩
                have hD := hD.oneF hP40.one hnF (by decide)
                have hB4 := hB4.one hP40.one (by decide)
                have hB6 := hB6.one hP40.one (by decide)
                have hl9 := hl9.oneT hP40.one (by decide)
                have hW : OwnR (fun j => S j ∨ B1 ≤ j) w.heap.size w40 (some ⟨gq, 0, none⟩) (0 + m) := .inr ⟨gq, _, rfl, hnF, hlow, hP40.blk, by rw [Array.size_setIfInBounds]; exact hcs, set_bytes (b := b + 1) hcs hcell⟩
                skip
                refine r_nil ?_
                refine b_n ?_
                refine t_n ?_
                refine r_plain ?_
                refine p1 (x_move (by conv => lhs; whnf)) ?_
                refine p1 (x_add rfl rfl (fits_i64 (by omega) (by omega))) ?_
                refine p1 (x_assign (by conv => lhs; whnf)) ?_
                refine r_nil ?_
                refine t_n (At.mk (i + 1) (by repeat (first | exact Agr.refl _ _ | exact Agr.hav _ _ _ | refine Agr.upd rfl ?_ | refine Agr.updR rfl ?_ | refine Agr.updL ?_ _ rfl | refine Agr.hav' rfl ?_)) ⟨rfl, trivial⟩ ?_)
                exact ⟨⟨hX, ⟨hW, hD, hB4, hB6, hl9, by omega⟩⟩, by show (0 + m) - (i + 1) < (0 + m) - i; omega⟩
              · try simp only [decide_eq_true_eq, decide_eq_false_iff_not, Bool.not_eq_true, Bool.not_eq_false, Bool.not_eq_eq_eq_not, Bool.not_true, Bool.not_false, Int.not_lt, Int.not_le] at hc137
                refine c_exit ?_
                refine t_e ?_
                refine t_e ?_
                refine b_hit ?_
                refine t_n ?_
                refine c_seq ?_
                refine r_plain ?_
                refine p1 (x_loadB ua27 rfl hB4 (by exact sz27)) ?_
                refine p1 (x_move (by conv => lhs; whnf)) ?_
                refine p1 (x_move (by conv => lhs; whnf)) ?_
                refine p1 ((x_eql rfl rfl).cast (congrArg _ (decide_eq_true (by first | rfl | exact hres)))) ?_
                refine o_storeAll rfl (by conv => lhs; whnf) (by simp [Value.oneCell']) (by exact sz27) hB6 (by rfl) ?_
                intro w41 hP41
                have hX := hX.new hP41 (by omega)
                have hW := hW.one hP41.one (by decide)
                have hD := hD.one hP41.one (by decide)
                have hB4 := hP41.keep hB4 (by omega)
                have hB6 := hP41.blk
                have hl9 := hl9.mod (hP41.mod 0 (Nat.zero_le _)) (Nat.zero_le _) (by decide)
                refine p1 (x_assign (by conv => lhs; whnf)) ?_
                refine r_nil ?_
                refine t_n ?_
                refine c_ret ?_
                refine end2c rfl ua27 rfl (by conv => lhs; whnf) hB6 (by exact sz27) ?_
                exact ⟨⟨_, rfl, p9, n9, c9, lf9, rfl, hl9, hlf9⟩, hD.mono (fun j hj h => h.imp id fun h => ⟨by omega, hj⟩), hX⟩
            · try simp only [decide_eq_true_eq, decide_eq_false_iff_not, Bool.not_eq_true, Bool.not_eq_false, Bool.not_eq_eq_eq_not, Bool.not_true, Bool.not_false, Int.not_lt, Int.not_le] at hc87
              refine c_seq ?_
              refine r_plain ?_
              refine p1 (x_eql rfl rfl) ?_
              refine p1 (x_assign (by conv => lhs; whnf)) ?_
              refine r_nil ?_
              refine t_n ?_
              first | refine c_dec rfl (fun hc100 => ?_) (fun hc100 => ?_) | refine c_if rfl (fun hc100 => ?_) (fun hc100 => ?_)
              · try simp only [decide_eq_true_eq, decide_eq_false_iff_not, Bool.not_eq_true, Bool.not_eq_false, Bool.not_eq_eq_eq_not, Bool.not_true, Bool.not_false, Int.not_lt, Int.not_le] at hc100
                refine c_seq ?_
                refine r_plain ?_
                refine p1 (x_move (by conv => lhs; whnf)) ?_
                refine p1 (x_fieldAddr fo33_4 sz3 rfl) ?_
                refine p1 (x_load1 un3 rfl (hB5.cell (rfl))) ?_
                refine p1 (x_fieldAddr fo33_5 sz4 rfl) ?_
                refine p1 (x_load1 un4 rfl (hB5.cell (rfl))) ?_
                obtain ⟨B1, hB1⟩ : ∃ B, B = w5.heap.size := ⟨_, rfl⟩
                have hwB1 := Nat.le_trans hX.size (Nat.le_of_eq hB1.symm)
                have hqa := own_at hO
                rw [← hB1] at hqa
                refine o_call Try.func18 fn18 fb18 (disk_Fail g S D _ (hDw.ext hX) hok hst hle a.n hz3 hz4 a.done) rfl ?_
                rintro v42 w42 ⟨rfl, hD2, hM2⟩
                have hD : Dsk (fun j => S j ∨ B1 ≤ j) w42 g (actD D a).1 := by rw [act6 (by omega)]; exact hD2.mono (fun j _ h => h.imp id fun h => by rw [hB1]; exact h.1)
                have hl := (hl0.ext hX).modS hM2 (fun _ _ => Nat.zero_le _) (by decide)
                have hW := (OwnR.of (F := (fun j => S j ∨ B1 ≤ j)) hO (fun gq e h => by have h1 := hqa gq e; rcases h with h | h; (· have := hSw gq h; omega); omega)).modS hM2 (fun gq e hs => by have h1 := hSw gq hs; have h2 := (hqa gq e).1; omega)
                have hX := (ModS.ofExt (S := S) (E := ED) hX).trans hM2 (fun _ _ h => h)
                have hB4 := hB4.modS hM2 (.inr (by decide))
                have hB5 := hB5.modS hM2 (.inr (by decide))
                have hB6 := hB6.modS hM2 (.inr (by decide))
                skip
                refine p1 (x_assign (by conv => lhs; whnf)) ?_
                refine r_nil ?_
                refine t_n ?_
                refine r_plain ?_
                refine p1 (x_loadB ua27 rfl hB4 (by exact sz27)) ?_
                refine p1 (x_fieldAddr fo33_4 sz3 rfl) ?_
                refine p1 (x_load1 un3 rfl (hB5.cell (rfl))) ?_
                refine p1 (x_fieldAddr fo33_5 sz4 rfl) ?_
                refine p1 (x_load1 un4 rfl (hB5.cell (rfl))) ?_
                refine o_call Try.func39 fn39 fb39 (ref_Fail D p n c lf _ hl hlf hok hst a.n hz3 hz4 a.done) rfl ?_
                rintro v43 w43 ⟨⟨cs1, rfl, p9, n9, c9, lf9, rfl, hl9, hlf9⟩, hE43⟩
                have hX := hX.ext hE43
                have hD := hD.ext hE43
                have hl := hl.ext hE43
                have hW := hW.ext hE43
                have hB4 := hB4.ext hE43
                have hB5 := hB5.ext hE43
                have hB6 := hB6.ext hE43
                refine p1 (x_move (by conv => lhs; whnf)) ?_
                refine p1 (x_extract rfl rfl) ?_
                refine p1 (x_extract rfl rfl) ?_
                refine o_storeAll rfl (by conv => lhs; whnf) (by simp [Value.oneCell']) (by exact sz27) hB4 (by rfl) ?_
                intro w44 hP44
                have hX := hX.new hP44 (by omega)
                have hD := hD.one hP44.one (by decide)
                have hl := hl.mod (hP44.mod 0 (Nat.zero_le _)) (Nat.zero_le _) (by decide)
                have hW := hW.one hP44.one (by decide)
                have hB4 := hP44.blk
                have hB5 := hP44.keep hB5 (by omega)
                have hB6 := hP44.keep hB6 (by omega)
                have hl9 := hl9.mod (hP44.mod 0 (Nat.zero_le _)) (Nat.zero_le _) (by decide)
                rw [← act6 (by omega)] at hB4 hl9 hlf9
                refine p1 (x_assign (by conv => lhs; whnf)) ?_
                refine r_nil ?_
                refine b_n ?_
                refine t_n ?_
                refine c_seq ?_
                refine c_seq ?_
                refine r_plain ?_
                refine p1 (x_assign (by conv => lhs; whnf)) ?_
                refine r_nil ?_
                refine t_n ?_
                refine c_block ?_
                have hmf := hlo.fit
                have hmc := hlo.cap
                refine c_loop (ι := Nat) [11, 134, 135, 136, 137, 138, 139, 140, 141, 142, 143, 144, 145] (fun i => [(11, .int .i64 (i : Int))]) (fun i w' => ModS S ED w w' ∧ (OwnR (fun j => S j ∨ B1 ≤ j) w.heap.size w' p15 (0 + m) ∧ Dsk (fun j => S j ∨ B1 ≤ j) w' g (actD D a).1 ∧ Blk w' g4 #[.int .i64 ((actD D a).1.most : Int), .slice p9 n9 c9, .int .i64 ((actD D a).1.steps : Int), .bool (decide (0 ≤ (actD D a).1.left)), .int .i64 lf9, .bool (actD D a).1.done, .bool (actD D a).1.down] 27 ∧ Blk w' g6 #[.int .i64 0, .slice none 0 0, .int .i64 0, .bool false, .int .i64 0, .bool false, .bool false] 27 ∧ Sl kFl 81 0 w' p9 n9 c9 (actD D a).1.l ∧ i ≤ 0 + m)) (fun i => (0 + m) - i) (0) ⟨rfl, trivial⟩ ⟨hX, ⟨hW, hD, hB4, hB6, hl9, Nat.zero_le _⟩⟩ ?_
                rintro i GL1 w45 ⟨hE45, hW, hD, hB4, hB6, hl9, hi⟩
                have hX := hE45
                refine c_seq ?_
                refine c_seq ?_
                refine r_plain ?_
                refine p1 (x_move (by conv => lhs; whnf)) ?_
                refine p1 (x_move (by conv => lhs; whnf)) ?_
                refine p1 (x_len_slice u31 rfl) ?_
                refine p1 (x_lss rfl rfl) ?_
                refine r_nil ?_
                refine t_n ?_
                first | refine c_dec rfl (fun hc137 => ?_) (fun hc137 => ?_) | refine c_if rfl (fun hc137 => ?_) (fun hc137 => ?_)
                · try simp only [decide_eq_true_eq, decide_eq_false_iff_not, Bool.not_eq_true, Bool.not_eq_false, Bool.not_eq_eq_eq_not, Bool.not_true, Bool.not_false, Int.not_lt, Int.not_le] at hc137
                  obtain ⟨gq, cur, hq15, hnF, hlow, hBq, hcs, hcell⟩ := hW.resolve_left (by omega)
                  subst hq15
                  obtain ⟨b, hb⟩ := hcell (0 + i) (by omega)
                  refine c_skip ?_
                  refine t_n ?_
                  refine c_seq ?_
                  refine c_block ?_
                  refine r_plain ?_
                  refine p1 (x_move (by conv => lhs; whnf)) ?_
                  refine p1 (x_move (by conv => lhs; whnf)) ?_
                  refine p1 (x_ixs0 u31 sz5 rfl rfl rfl (by omega)) ?_
                  refine p1 ((x_load1 un5 rfl (hBq.cell hb)).cast (rfl : _ = Value.int .u8 (b.toNat : Int))) ?_
                  refine p1 ((x_addw rfl rfl).cast (congrArg (Value.int .u8) (wrap_inc b))) ?_
                  refine p1 (x_ixs0 u31 sz5 rfl rfl rfl (by omega)) ?_
                  refine o_store1 rfl (by conv => lhs; whnf) rfl rfl sz5 hBq (by show 0 + i < _; omega) ?_
                  intro w46 hP46
                  have hX := hX.put hP46 ⟨.inr hlow, by decide⟩
                  have hD := hD.oneF hP46.one hnF (by decide)
                  have hB4 := hB4.one hP46.one (by decide)
                  have hB6 := hB6.one hP46.one (by decide)
                  have hl9 := hl9.oneT hP46.one (by decide)
                  have hW : OwnR (fun j => S j ∨ B1 ≤ j) w.heap.size w46 (some ⟨gq, 0, none⟩) (0 + m) := .inr ⟨gq, _, rfl, hnF, hlow, hP46.blk, by rw [Array.size_setIfInBounds]; exact hcs, set_bytes (b := b + 1) hcs hcell⟩
                  skip
                  refine r_nil ?_
                  refine b_n ?_
                  refine t_n ?_
                  refine r_plain ?_
                  refine p1 (x_move (by conv => lhs; whnf)) ?_
                  refine p1 (x_add rfl rfl (fits_i64 (by omega) (by omega))) ?_
                  refine p1 (x_assign (by conv => lhs; whnf)) ?_
                  refine r_nil ?_
                  refine t_n (At.mk (i + 1) (by repeat (first | exact Agr.refl _ _ | exact Agr.hav _ _ _ | refine Agr.upd rfl ?_ | refine Agr.updR rfl ?_ | refine Agr.updL ?_ _ rfl | refine Agr.hav' rfl ?_)) ⟨rfl, trivial⟩ ?_)
                  exact ⟨⟨hX, ⟨hW, hD, hB4, hB6, hl9, by omega⟩⟩, by show (0 + m) - (i + 1) < (0 + m) - i; omega⟩
                · try simp only [decide_eq_true_eq, decide_eq_false_iff_not, Bool.not_eq_true, Bool.not_eq_false, Bool.not_eq_eq_eq_not, Bool.not_true, Bool.not_false, Int.not_lt, Int.not_le] at hc137
                  refine c_exit ?_
                  refine t_e ?_
                  refine t_e ?_
                  refine b_hit ?_
                  refine t_n ?_
                  refine c_seq ?_
                  refine r_plain ?_
                  refine p1 (x_loadB ua27 rfl hB4 (by exact sz27)) ?_
                  refine p1 (x_move (by conv => lhs; whnf)) ?_
                  refine p1 (x_move (by conv => lhs; whnf)) ?_
                  refine p1 ((x_eql rfl rfl).cast (congrArg _ (decide_eq_true (by first | rfl | exact hres)))) ?_
                  refine o_storeAll rfl (by conv => lhs; whnf) (by simp [Value.oneCell']) (by exact sz27) hB6 (by rfl) ?_
                  intro w47 hP47
                  have hX := hX.new hP47 (by omega)
                  have hW := hW.one hP47.one (by decide)
                  have hD := hD.one hP47.one (by decide)
                  have hB4 := hP47.keep hB4 (by omega)
                  have hB6 := hP47.blk
                  have hl9 := hl9.mod (hP47.mod 0 (Nat.zero_le _)) (Nat.zero_le _) (by decide)
                  refine p1 (x_assign (by conv => lhs; whnf)) ?_
                  refine r_nil ?_
                  refine t_n ?_
                  refine c_ret ?_
                  refine end2c rfl ua27 rfl (by conv => lhs; whnf) hB6 (by exact sz27) ?_
                  exact ⟨⟨_, rfl, p9, n9, c9, lf9, rfl, hl9, hlf9⟩, hD.mono (fun j hj h => h.imp id fun h => ⟨by omega, hj⟩), hX⟩
              · try simp only [decide_eq_true_eq, decide_eq_false_iff_not, Bool.not_eq_true, Bool.not_eq_false, Bool.not_eq_eq_eq_not, Bool.not_true, Bool.not_false, Int.not_lt, Int.not_le] at hc100
                refine c_seq ?_
                refine r_plain ?_
                refine p1 (x_eql rfl rfl) ?_
                refine p1 (x_assign (by conv => lhs; whnf)) ?_
                refine r_nil ?_
                refine t_n ?_
                first | refine c_dec rfl (fun hc117 => ?_) (fun hc117 => ?_) | refine c_if rfl (fun hc117 => ?_) (fun hc117 => ?_)
                · try simp only [decide_eq_true_eq, decide_eq_false_iff_not, Bool.not_eq_true, Bool.not_eq_false, Bool.not_eq_eq_eq_not, Bool.not_true, Bool.not_false, Int.not_lt, Int.not_le] at hc117
                  refine c_seq ?_
                  refine r_plain ?_
                  refine p1 (x_move (by conv => lhs; whnf)) ?_
                  refine p1 (x_fieldAddr fo33_1 sz9 rfl) ?_
                  refine p1 (x_load1 un9 rfl (hB5.cell (rfl))) ?_
                  refine p1 (x_fieldAddr fo33_4 sz3 rfl) ?_
                  refine p1 (x_load1 un3 rfl (hB5.cell (rfl))) ?_
                  obtain ⟨B1, hB1⟩ : ∃ B, B = w5.heap.size := ⟨_, rfl⟩
                  have hwB1 := Nat.le_trans hX.size (Nat.le_of_eq hB1.symm)
                  have hqa := own_at hO
                  rw [← hB1] at hqa
                  refine o_call Try.func25 fn25 fb25 (disk_Cut g S D _ (hDw.ext hX) hok hst hle a.nm hz1 a.n hz3 hz4) rfl ?_
                  rintro v48 w48 ⟨rfl, hD2, hM2⟩
                  have hD : Dsk (fun j => S j ∨ B1 ≤ j) w48 g (actD D a).1 := by rw [act8 (by omega)]; exact hD2.mono (fun j _ h => h.imp id fun h => by rw [hB1]; exact h.1)
                  have hl := (hl0.ext hX).modS hM2 (fun _ _ => Nat.zero_le _) (by decide)
                  have hW := (OwnR.of (F := (fun j => S j ∨ B1 ≤ j)) hO (fun gq e h => by have h1 := hqa gq e; rcases h with h | h; (· have := hSw gq h; omega); omega)).modS hM2 (fun gq e hs => by have h1 := hSw gq hs; have h2 := (hqa gq e).1; omega)
                  have hX := (ModS.ofExt (S := S) (E := ED) hX).trans hM2 (fun _ _ h => h)
                  have hB4 := hB4.modS hM2 (.inr (by decide))
                  have hB5 := hB5.modS hM2 (.inr (by decide))
                  have hB6 := hB6.modS hM2 (.inr (by decide))
                  skip
                  refine p1 (x_assign (by conv => lhs; whnf)) ?_
                  refine r_nil ?_
                  refine t_n ?_
                  refine r_plain ?_
                  refine p1 (x_loadB ua27 rfl hB4 (by exact sz27)) ?_
                  refine p1 (x_fieldAddr fo33_1 sz9 rfl) ?_
                  refine p1 (x_load1 un9 rfl (hB5.cell (rfl))) ?_
                  refine p1 (x_fieldAddr fo33_4 sz3 rfl) ?_
                  refine p1 (x_load1 un3 rfl (hB5.cell (rfl))) ?_
                  refine o_call Try.func40 fn40 fb40 (ref_Cut D p n c lf _ hl hlf hok hst a.nm hz1 a.n hz3 hz4) rfl ?_
                  rintro v49 w49 ⟨⟨cs1, rfl, p9, n9, c9, lf9, rfl, hl9, hlf9⟩, hE49⟩
                  have hX := hX.ext hE49
                  have hD := hD.ext hE49
                  have hl := hl.ext hE49
                  have hW := hW.ext hE49
                  have hB4 := hB4.ext hE49
                  have hB5 := hB5.ext hE49
                  have hB6 := hB6.ext hE49
                  refine p1 (x_move (by conv => lhs; whnf)) ?_
                  refine p1 (x_extract rfl rfl) ?_
                  refine p1 (x_extract rfl rfl) ?_
                  refine o_storeAll rfl (by conv => lhs; whnf) (by simp [Value.oneCell']) (by exact sz27) hB4 (by rfl) ?_
                  intro w50 hP50
                  have hX := hX.new hP50 (by omega)
                  have hD := hD.one hP50.one (by decide)
                  have hl := hl.mod (hP50.mod 0 (Nat.zero_le _)) (Nat.zero_le _) (by decide)
                  have hW := hW.one hP50.one (by decide)
                  have hB4 := hP50.blk
                  have hB5 := hP50.keep hB5 (by omega)
                  have hB6 := hP50.keep hB6 (by omega)
                  have hl9 := hl9.mod (hP50.mod 0 (Nat.zero_le _)) (Nat.zero_le _) (by decide)
                  rw [← act8 (by omega)] at hB4 hl9 hlf9
                  refine p1 (x_assign (by conv => lhs; whnf)) ?_
                  refine r_nil ?_
                  refine b_n ?_
                  refine t_n ?_
                  refine c_seq ?_
                  refine c_seq ?_
                  refine r_plain ?_
                  refine p1 (x_assign (by conv => lhs; whnf)) ?_
                  refine r_nil ?_
                  refine t_n ?_
                  refine c_block ?_
                  have hmf := hlo.fit
                  have hmc := hlo.cap
                  refine c_loop (ι := Nat) [11, 134, 135, 136, 137, 138, 139, 140, 141, 142, 143, 144, 145] (fun i => [(11, .int .i64 (i : Int))]) (fun i w' => ModS S ED w w' ∧ (OwnR (fun j => S j ∨ B1 ≤ j) w.heap.size w' p15 (0 + m) ∧ Dsk (fun j => S j ∨ B1 ≤ j) w' g (actD D a).1 ∧ Blk w' g4 #[.int .i64 ((actD D a).1.most : Int), .slice p9 n9 c9, .int .i64 ((actD D a).1.steps : Int), .bool (decide (0 ≤ (actD D a).1.left)), .int .i64 lf9, .bool (actD D a).1.done, .bool (actD D a).1.down] 27 ∧ Blk w' g6 #[.int .i64 0, .slice none 0 0, .int .i64 0, .bool false, .int .i64 0, .bool false, .bool false] 27 ∧ Sl kFl 81 0 w' p9 n9 c9 (actD D a).1.l ∧ i ≤ 0 + m)) (fun i => (0 + m) - i) (0) ⟨rfl, trivial⟩ ⟨hX, ⟨hW, hD, hB4, hB6, hl9, Nat.zero_le _⟩⟩ ?_
                  rintro i GL1 w51 ⟨hE51, hW, hD, hB4, hB6, hl9, hi⟩
                  have hX := hE51
                  refine c_seq ?_
                  refine c_seq ?_
                  refine r_plain ?_
                  refine p1 (x_move (by conv => lhs; whnf)) ?_
                  refine p1 (x_move (by conv => lhs; whnf)) ?_
                  refine p1 (x_len_slice u31 rfl) ?_
                  refine p1 (x_lss rfl rfl) ?_
                  refine r_nil ?_
                  refine t_n ?_
                  first | refine c_dec rfl (fun hc137 => ?_) (fun hc137 => ?_) | refine c_if rfl (fun hc137 => ?_) (fun hc137 => ?_)
                  · try simp only [decide_eq_true_eq, decide_eq_false_iff_not, Bool.not_eq_true, Bool.not_eq_false, Bool.not_eq_eq_eq_not, Bool.not_true, Bool.not_false, Int.not_lt, Int.not_le] at hc137
                    obtain ⟨gq, cur, hq15, hnF, hlow, hBq, hcs, hcell⟩ := hW.resolve_left (by omega)
                    subst hq15
                    obtain ⟨b, hb⟩ := hcell (0 + i) (by omega)
                    refine c_skip ?_
                    refine t_n ?_
                    refine c_seq ?_
                    refine c_block ?_
                    refine r_plain ?_
                    refine p1 (x_move (by conv => lhs; whnf)) ?_
                    refine p1 (x_move (by conv => lhs; whnf)) ?_
                    refine p1 (x_ixs0 u31 sz5 rfl rfl rfl (by omega)) ?_
                    refine p1 ((x_load1 un5 rfl (hBq.cell hb)).cast (rfl : _ = Value.int .u8 (b.toNat : Int))) ?_
                    refine p1 ((x_addw rfl rfl).cast (congrArg (Value.int .u8) (wrap_inc b))) ?_
                    refine p1 (x_ixs0 u31 sz5 rfl rfl rfl (by omega)) ?_
                    refine o_store1 rfl (by conv => lhs; whnf) rfl rfl sz5 hBq (by show 0 + i < _; omega) ?_
                    intro w52 hP52
                    have hX := hX.put hP52 ⟨.inr hlow, by decide⟩
                    have hD := hD.oneF hP52.one hnF (by decide)
                    have hB4 := hB4.one hP52.one (by decide)
                    have hB6 := hB6.one hP52.one (by decide)
                    have hl9 := hl9.oneT hP52.one (by decide)
                    have hW : OwnR (fun j => S j ∨ B1 ≤ j) w.heap.size w52 (some ⟨gq, 0, none⟩) (0 + m) := .inr ⟨gq, _, rfl, hnF, hlow, hP52.blk, by rw [Array.size_setIfInBounds]; exact hcs, set_bytes (b := b + 1) hcs hcell⟩
                    skip
                    refine r_nil ?_
                    refine b_n ?_
                    refine t_n ?_
                    refine r_plain ?_
                    refine p1 (x_move (by conv => lhs; whnf)) ?_
                    refine p1 (x_add rfl rfl (fits_i64 (by omega) (by omega))) ?_
                    refine p1 (x_assign (by conv => lhs; whnf)) ?_
                    refine r_nil ?_
                    refine t_n (At.mk (i + 1) (by repeat (first | exact Agr.refl _ _ | exact Agr.hav _ _ _ | refine Agr.upd rfl ?_ | refine Agr.updR rfl ?_ | refine Agr.updL ?_ _ rfl | refine Agr.hav' rfl ?_)) ⟨rfl, trivial⟩ ?_)
                    exact ⟨⟨hX, ⟨hW, hD, hB4, hB6, hl9, by omega⟩⟩, by show (0 + m) - (i + 1) < (0 + m) - i; omega⟩
                  · try simp only [decide_eq_true_eq, decide_eq_false_iff_not, Bool.not_eq_true, Bool.not_eq_false, Bool.not_eq_eq_eq_not, Bool.not_true, Bool.not_false, Int.not_lt, Int.not_le] at hc137
                    refine c_exit ?_
                    refine t_e ?_
                    refine t_e ?_
                    refine b_hit ?_
                    refine t_n ?_
                    refine c_seq ?_
                    refine r_plain ?_
                    refine p1 (x_loadB ua27 rfl hB4 (by exact sz27)) ?_
                    refine p1 (x_move (by conv => lhs; whnf)) ?_
                    refine p1 (x_move (by conv => lhs; whnf)) ?_
                    refine p1 ((x_eql rfl rfl).cast (congrArg _ (decide_eq_true (by first | rfl | exact hres)))) ?_
                    refine o_storeAll rfl (by conv => lhs; whnf) (by simp [Value.oneCell']) (by exact sz27) hB6 (by rfl) ?_
                    intro w53 hP53
                    have hX := hX.new hP53 (by omega)
                    have hW := hW.one hP53.one (by decide)
                    have hD := hD.one hP53.one (by decide)
                    have hB4 := hP53.keep hB4 (by omega)
                    have hB6 := hP53.blk
                    have hl9 := hl9.mod (hP53.mod 0 (Nat.zero_le _)) (Nat.zero_le _) (by decide)
                    refine p1 (x_assign (by conv => lhs; whnf)) ?_
                    refine r_nil ?_
                    refine t_n ?_
                    refine c_ret ?_
                    refine end2c rfl ua27 rfl (by conv => lhs; whnf) hB6 (by exact sz27) ?_
                    exact ⟨⟨_, rfl, p9, n9, c9, lf9, rfl, hl9, hlf9⟩, hD.mono (fun j hj h => h.imp id fun h => ⟨by omega, hj⟩), hX⟩
                · try simp only [decide_eq_true_eq, decide_eq_false_iff_not, Bool.not_eq_true, Bool.not_eq_false, Bool.not_eq_eq_eq_not, Bool.not_true, Bool.not_false, Int.not_lt, Int.not_le] at hc117
                  refine c_seq ?_
                  refine r_plain ?_
                  refine p1 (x_move (by conv => lhs; whnf)) ?_
                  refine p1 (x_move (by conv => lhs; whnf)) ?_
                  obtain ⟨B1, hB1⟩ : ∃ B, B = w5.heap.size := ⟨_, rfl⟩
                  have hwB1 := Nat.le_trans hX.size (Nat.le_of_eq hB1.symm)
                  have hqa := own_at hO
                  rw [← hB1] at hqa
                  refine o_call Try.func26 fn26 fb26 (disk_Start g S D _ (hDw.ext hX) hok a.data _ _ _ (out_own hO hSw)) rfl ?_
                  rintro v54 w54 ⟨hD2, hM2⟩
                  have hD : Dsk (fun j => S j ∨ B1 ≤ j) w54 g (actD D a).1 := by rw [act7 (by omega)]; exact hD2.mono (fun j _ h => h.imp id fun h => by rw [hB1]; exact h.1)
                  have hl := (hl0.ext hX).modS hM2 (fun _ _ => Nat.zero_le _) (by decide)
                  have hW := (OwnR.of (F := (fun j => S j ∨ B1 ≤ j)) hO (fun gq e h => by have h1 := hqa gq e; rcases h with h | h; (· have := hSw gq h; omega); omega)).modS hM2 (fun gq e hs => by have h1 := hSw gq hs; have h2 := (hqa gq e).1; omega)
                  have hX := (ModS.ofExt (S := S) (E := ED) hX).trans hM2 (fun _ _ h => h)
                  have hB4 := hB4.modS hM2 (.inr (by decide))
                  have hB5 := hB5.modS hM2 (.inr (by decide))
                  have hB6 := hB6.modS hM2 (.inr (by decide))
                  skip
                  refine r_nil ?_
                  refine t_n ?_
                  refine r_plain ?_
                  refine p1 (x_loadB ua27 rfl hB4 (by exact sz27)) ?_
                  refine p1 (x_fieldAddr fo33_3 sz31 rfl) ?_
                  refine p1 (x_load1 un31 rfl (hB5.cell (rfl))) ?_
                  refine o_call Try.func33 fn33 fb33 (ref_Start D p n c lf _ hl hlf hok hst a.data 5 B q m c2 ((hlo.modS hX hSB).sl 5)) rfl ?_
                  rintro v55 w55 ⟨⟨cs1, rfl, p9, n9, c9, lf9, rfl, hl9, hlf9⟩, hE55⟩
                  have hX := hX.ext hE55
                  have hD := hD.ext hE55
                  have hl := hl.ext hE55
                  have hW := hW.ext hE55
                  have hB4 := hB4.ext hE55
                  have hB5 := hB5.ext hE55
                  have hB6 := hB6.ext hE55
                  refine o_storeAll rfl (by conv => lhs; whnf) (by simp [Value.oneCell']) (by exact sz27) hB4 (by rfl) ?_
                  intro w56 hP56
                  have hX := hX.new hP56 (by omega)
                  have hD := hD.one hP56.one (by decide)
                  have hl := hl.mod (hP56.mod 0 (Nat.zero_le _)) (Nat.zero_le _) (by decide)
                  have hW := hW.one hP56.one (by decide)
                  have hB4 := hP56.blk
                  have hB5 := hP56.keep hB5 (by omega)
                  have hB6 := hP56.keep hB6 (by omega)
                  have hl9 := hl9.mod (hP56.mod 0 (Nat.zero_le _)) (Nat.zero_le _) (by decide)
                  rw [← show (actD D a).1 = startD D a.data from by rw [act7 (by omega)]] at hB4 hl9 hlf9
                  have hres : (0 : Int) = (actD D a).2 := by rw [act7 (by omega)]
                  refine r_nil ?_
                  refine b_n ?_
                  refine t_n ?_
                  refine c_seq ?_
                  refine c_seq ?_
                  refine r_plain ?_
                  refine p1 (x_assign (by conv => lhs; whnf)) ?_
                  refine r_nil ?_
                  refine t_n ?_
                  refine c_block ?_
                  have hmf := hlo.fit
                  have hmc := hlo.cap
                  refine c_loop (ι := Nat) [11, 134, 135, 136, 137, 138, 139, 140, 141, 142, 143, 144, 145] (fun i => [(11, .int .i64 (i : Int))]) (fun i w' => ModS S ED w w' ∧ (OwnR (fun j => S j ∨ B1 ≤ j) w.heap.size w' p15 (0 + m) ∧ Dsk (fun j => S j ∨ B1 ≤ j) w' g (actD D a).1 ∧ Blk w' g4 #[.int .i64 ((actD D a).1.most : Int), .slice p9 n9 c9, .int .i64 ((actD D a).1.steps : Int), .bool (decide (0 ≤ (actD D a).1.left)), .int .i64 lf9, .bool (actD D a).1.done, .bool (actD D a).1.down] 27 ∧ Blk w' g6 #[.int .i64 0, .slice none 0 0, .int .i64 0, .bool false, .int .i64 0, .bool false, .bool false] 27 ∧ Sl kFl 81 0 w' p9 n9 c9 (actD D a).1.l ∧ i ≤ 0 + m)) (fun i => (0 + m) - i) (0) ⟨rfl, trivial⟩ ⟨hX, ⟨hW, hD, hB4, hB6, hl9, Nat.zero_le _⟩⟩ ?_
                  rintro i GL1 w57 ⟨hE57, hW, hD, hB4, hB6, hl9, hi⟩
                  have hX := hE57
                  refine c_seq ?_
                  refine c_seq ?_
                  refine r_plain ?_
                  refine p1 (x_move (by conv => lhs; whnf)) ?_
                  refine p1 (x_move (by conv => lhs; whnf)) ?_
                  refine p1 (x_len_slice u31 rfl) ?_
                  refine p1 (x_lss rfl rfl) ?_
                  refine r_nil ?_
                  refine t_n ?_
                  first | refine c_dec rfl (fun hc137 => ?_) (fun hc137 => ?_) | refine c_if rfl (fun hc137 => ?_) (fun hc137 => ?_)
                  · try simp only [decide_eq_true_eq, decide_eq_false_iff_not, Bool.not_eq_true, Bool.not_eq_false, Bool.not_eq_eq_eq_not, Bool.not_true, Bool.not_false, Int.not_lt, Int.not_le] at hc137
                    obtain ⟨gq, cur, hq15, hnF, hlow, hBq, hcs, hcell⟩ := hW.resolve_left (by omega)
                    subst hq15
                    obtain ⟨b, hb⟩ := hcell (0 + i) (by omega)
                    refine c_skip ?_
                    refine t_n ?_
                    refine c_seq ?_
                    refine c_block ?_
                    refine r_plain ?_
                    refine p1 (x_move (by conv => lhs; whnf)) ?_
                    refine p1 (x_move (by conv => lhs; whnf)) ?_
                    refine p1 (x_ixs0 u31 sz5 rfl rfl rfl (by omega)) ?_
                    refine p1 ((x_load1 un5 rfl (hBq.cell hb)).cast (rfl : _ = Value.int .u8 (b.toNat : Int))) ?_
                    refine p1 ((x_addw rfl rfl).cast (congrArg (Value.int .u8) (wrap_inc b))) ?_
                    refine p1 (x_ixs0 u31 sz5 rfl rfl rfl (by omega)) ?_
                    refine o_store1 rfl (by conv => lhs; whnf) rfl rfl sz5 hBq (by show 0 + i < _; omega) ?_
                    intro w58 hP58
                    have hX := hX.put hP58 ⟨.inr hlow, by decide⟩
                    have hD := hD.oneF hP58.one hnF (by decide)
                    have hB4 := hB4.one hP58.one (by decide)
                    have hB6 := hB6.one hP58.one (by decide)
                    have hl9 := hl9.oneT hP58.one (by decide)
                    have hW : OwnR (fun j => S j ∨ B1 ≤ j) w.heap.size w58 (some ⟨gq, 0, none⟩) (0 + m) := .inr ⟨gq, _, rfl, hnF, hlow, hP58.blk, by rw [Array.size_setIfInBounds]; exact hcs, set_bytes (b := b + 1) hcs hcell⟩
                    skip
                    refine r_nil ?_
                    refine b_n ?_
                    refine t_n ?_
                    refine r_plain ?_
                    refine p1 (x_move (by conv => lhs; whnf)) ?_
                    refine p1 (x_add rfl rfl (fits_i64 (by omega) (by omega))) ?_
                    refine p1 (x_assign (by conv => lhs; whnf)) ?_
                    refine r_nil ?_
                    refine t_n (At.mk (i + 1) (by repeat (first | exact Agr.refl _ _ | exact Agr.hav _ _ _ | refine Agr.upd rfl ?_ | refine Agr.updR rfl ?_ | refine Agr.updL ?_ _ rfl | refine Agr.hav' rfl ?_)) ⟨rfl, trivial⟩ ?_)
                    exact ⟨⟨hX, ⟨hW, hD, hB4, hB6, hl9, by omega⟩⟩, by show (0 + m) - (i + 1) < (0 + m) - i; omega⟩
                  · try simp only [decide_eq_true_eq, decide_eq_false_iff_not, Bool.not_eq_true, Bool.not_eq_false, Bool.not_eq_eq_eq_not, Bool.not_true, Bool.not_false, Int.not_lt, Int.not_le] at hc137
                    refine c_exit ?_
                    refine t_e ?_
                    refine t_e ?_
                    refine b_hit ?_
                    refine t_n ?_
                    refine c_seq ?_
                    refine r_plain ?_
                    refine p1 (x_loadB ua27 rfl hB4 (by exact sz27)) ?_
                    refine p1 (x_move (by conv => lhs; whnf)) ?_
                    refine p1 (x_move (by conv => lhs; whnf)) ?_
                    refine p1 ((x_eql rfl rfl).cast (congrArg _ (decide_eq_true (by first | rfl | exact hres)))) ?_
                    refine o_storeAll rfl (by conv => lhs; whnf) (by simp [Value.oneCell']) (by exact sz27) hB6 (by rfl) ?_
                    intro w59 hP59
                    have hX := hX.new hP59 (by omega)
                    have hW := hW.one hP59.one (by decide)
                    have hD := hD.one hP59.one (by decide)
                    have hB4 := hP59.keep hB4 (by omega)
                    have hB6 := hP59.blk
                    have hl9 := hl9.mod (hP59.mod 0 (Nat.zero_le _)) (Nat.zero_le _) (by decide)
                    refine p1 (x_assign (by conv => lhs; whnf)) ?_
                    refine r_nil ?_
                    refine t_n ?_
                    refine c_ret ?_
                    refine end2c rfl ua27 rfl (by conv => lhs; whnf) hB6 (by exact sz27) ?_
                    exact ⟨⟨_, rfl, p9, n9, c9, lf9, rfl, hl9, hlf9⟩, hD.mono (fun j hj h => h.imp id fun h => ⟨by omega, hj⟩), hX⟩
end Go.Proofs.Eng
end
section
set_option linter.unusedVariables false
set_option linter.unusedSimpArgs false
set_option maxRecDepth 100000
set_option maxHeartbeats 4000000
namespace Go.Proofs.Eng
open Go.RowKit
open Extern.Stop (cell)
theorem fb15 : Try.f15.body.isNone = false := by kernel_rfl
theorem fn15 : (Try.f15.name == "runtime.NumGoroutine") = false := by kernel_rfl
end Go.Proofs.Eng
end
section
set_option linter.unusedVariables false
set_option linter.unusedSimpArgs false
set_option maxRecDepth 100000
set_option maxHeartbeats 4000000
namespace Go.Proofs.Eng
open Go.RowKit
open Extern.Stop (cell)
theorem law_same (g : Nat) (S : Nat → Prop) (D : DS) (w : World) (hD : Dsk S w g D) (hok : DOk D) (hst : D.steps < 4611686018427387904) (hnames : ∀ x ∈ D.l, namedD x.1 = true) (p : Option Addr) (n c : Nat) (lf : Int) (hl : Sl kFl 81 0 w p n c D.l) (hlf : LfOk D lf) :
    Ret Try.prog 31 [.pointer (some ⟨g, 0, none⟩), .agg #[.int .i64 (D.most : Int), .slice p n c, .int .i64 (D.steps : Int), .bool (decide (0 ≤ D.left)), .int .i64 lf, .bool D.done, .bool D.down]] w (fun v w' => v = .bool true ∧ Ext w w') := by
  have hX := Ext.refl w
  refine enter 104 _ Try.func31 rfl rfl (Nat.le_of_ble_eq_true rfl) rfl ?_
  refine c_seq ?_
  refine r_plain ?_
  have hD := hD.narrow (Nat.le_refl _)
  have hW1 := Nat.le_refl w.heap.size
  have hlen := hl.len
  have hcap := hl.cap
  have hfew := hok.few
  have hroom := hok.room
  have hmost := hok.most
  have hXs3 := hX.size
  refine o_boxA (by conv => lhs; whnf) ?_
  intro w1 g3 hN3
  have hE1 := hN3.ext
  have hX := hX.ext hE1
  have hD := hD.ext hE1
  have hB3 := hN3.blk
  refine p1 (x_assign (by conv => lhs; whnf)) ?_
  refine r_nil ?_
  refine t_n ?_
  refine c_seq ?_
  refine r_plain ?_
  refine p1 (x_move (by conv => lhs; whnf)) ?_
  have hXs1 := hX.size
  refine o_call Try.func28 fn28 fb28 (disk_List g _ D _ hD hok) rfl ?_
  rintro v2 w2 ⟨⟨qn, cn, rfl, hN⟩, hE2⟩
  have hX := hX.ext hE2
  have hD := hD.ext hE2
  have hB3 := hB3.ext hE2
  have hN := hN.lower hXs1
  refine p1 (x_assign (by conv => lhs; whnf)) ?_
  refine r_nil ?_
  refine t_n ?_
  refine c_seq ?_
  refine c_seq ?_
  refine r_held (fun w1 w2 => Ext w1 w2) mixed ?_
  intro w3 hE3
  have hX := hX.ext hE3
  have hD := hD.ext hE3
  have hB3 := hB3.ext hE3
  have hN := hN.ext hE3
  have hSr2 : (fun w1 w2 => Ext w1 w2) w3 w3 := Ext.refl w3
  refine h_take 0 rfl (by kernel_rfl) (by kernel_rfl) (by kernel_rfl) hSr2 (fun wS hSS => by (have hX := hX.ext hSS; have hD := hD.ext hSS; have hB3 := hB3.ext hSS; have hN := hN.ext hSS; exact (x_move (by conv => lhs; whnf)))) ?_
  refine h_take 1 rfl (by kernel_rfl) (by kernel_rfl) (by kernel_rfl) hSr2 (fun wS hSS => by (have hX := hX.ext hSS; have hD := hD.ext hSS; have hB3 := hB3.ext hSS; have hN := hN.ext hSS; exact (x_len_slice u51 rfl))) ?_
  refine h_take 2 rfl (by kernel_rfl) (by kernel_rfl) (by kernel_rfl) hSr2 (fun wS hSS => by (have hX := hX.ext hSS; have hD := hD.ext hSS; have hB3 := hB3.ext hSS; have hN := hN.ext hSS; exact (x_fieldAddr fo27_1 sz25 rfl))) ?_
  refine h_take 3 rfl (by kernel_rfl) (by kernel_rfl) (by kernel_rfl) hSr2 (fun wS hSS => by (have hX := hX.ext hSS; have hD := hD.ext hSS; have hB3 := hB3.ext hSS; have hN := hN.ext hSS; exact (x_load1 un25 rfl (hB3.cell (rfl))))) ?_
  refine h_take 4 rfl (by kernel_rfl) (by kernel_rfl) (by kernel_rfl) hSr2 (fun wS hSS => by (have hX := hX.ext hSS; have hD := hD.ext hSS; have hB3 := hB3.ext hSS; have hN := hN.ext hSS; exact (x_len_slice u25 rfl))) ?_
  refine h_take 5 rfl (by kernel_rfl) (by kernel_rfl) (by kernel_rfl) hSr2 (fun wS hSS => by (have hX := hX.ext hSS; have hD := hD.ext hSS; have hB3 := hB3.ext hSS; have hN := hN.ext hSS; exact ((x_neq rfl rfl).cast (congrArg _ (decide_eq_false (by rw [hlen]; simp)))))) ?_
  refine h_take 6 rfl (by kernel_rfl) (by kernel_rfl) (by kernel_rfl) hSr2 (fun wS hSS => by (have hX := hX.ext hSS; have hD := hD.ext hSS; have hB3 := hB3.ext hSS; have hN := hN.ext hSS; exact (x_move (by conv => lhs; whnf)))) ?_
  refine h_takeg 7 20 rfl rfl rfl (by kernel_rfl) (by kernel_rfl) (by kernel_rfl) hSr2 (fun wS hSS => by (have hX := hX.ext hSS; have hD := hD.ext hSS; have hB3 := hB3.ext hSS; have hN := hN.ext hSS; exact (x_move (by conv => lhs; whnf)))) ?_
  refine h_takeg 9 20 rfl rfl rfl (by kernel_rfl) (by kernel_rfl) (by kernel_rfl) hSr2 (fun wS hSS => by (have hX := hX.ext hSS; have hD := hD.ext hSS; have hB3 := hB3.ext hSS; have hN := hN.ext hSS; exact (x_loadB ua27 rfl hB3 (by exact sz27)))) ?_
  refine h_one 8 _ rfl (by kernel_rfl) (hop_of_list (fun Q8 hQ8 => ?_))
  refine g_drop 20 rfl rfl ?_
  refine o_call Try.func29 fn29 fb29 (disk_Used g _ D _ hD) rfl ?_
  rintro v4 w4 ⟨rfl, hE4⟩
  have hX := hX.ext hE4
  have hD := hD.ext hE4
  have hB3 := hB3.ext hE4
  have hN := hN.ext hE4
  have hSr2 := hSr2.ext hE4
  refine hop_end hQ8 ⟨hSr2, ?_⟩
  refine h_one 10 _ rfl (by kernel_rfl) (hop_of_list (fun Q10 hQ10 => ?_))
  refine g_drop 20 rfl rfl ?_
  refine o_call Try.func54 fn54 fb54 (ref_Used (D.most : Int) (D.steps : Int) lf (decide (0 ≤ D.left)) D.done D.down D.l p n c _ (hl.ext hX) (by omega) (by omega)) rfl ?_
  rintro v5 w5 ⟨rfl, hE5⟩
  have hX := hX.ext hE5
  have hD := hD.ext hE5
  have hB3 := hB3.ext hE5
  have hN := hN.ext hE5
  have hSr2 := hSr2.ext hE5
  refine hop_end hQ10 ⟨hSr2, ?_⟩
  refine h_takeg 11 20 rfl rfl rfl (by kernel_rfl) (by kernel_rfl) (by kernel_rfl) hSr2 (fun wS hSS => by ( exact ((x_neq rfl rfl).cast (congrArg _ (decide_eq_false (fun h => h rfl)))))) ?_
  refine h_take 12 rfl (by kernel_rfl) (by kernel_rfl) (by kernel_rfl) hSr2 (fun wS hSS => by ( exact (x_pick_f rfl (by conv => lhs; whnf)))) ?_
  refine h_take 13 rfl (by kernel_rfl) (by kernel_rfl) (by kernel_rfl) hSr2 (fun wS hSS => by ( exact (x_move (by conv => lhs; whnf)))) ?_
  refine h_takeg 14 27 rfl rfl rfl (by kernel_rfl) (by kernel_rfl) (by kernel_rfl) hSr2 (fun wS hSS => by ( exact (x_move (by conv => lhs; whnf)))) ?_
  refine h_takeg 16 27 rfl rfl rfl (by kernel_rfl) (by kernel_rfl) (by kernel_rfl) hSr2 (fun wS hSS => by ( exact (x_fieldAddr fo27_2 sz3 rfl))) ?_
  refine h_two 15 17 _ _ rfl rfl (by kernel_rfl) (hop_of_list (fun Q15 hQ15 => ?_)) (hop_of_list (fun Q17 hQ17 => ?_))
  · skip
    refine g_drop 27 rfl rfl ?_
    refine o_call Try.func22 fn22 fb22 (disk_Steps g _ D _ hD) rfl ?_
    rintro v6 w6 ⟨rfl, hE6⟩
    have hX := hX.ext hE6
    have hD := hD.ext hE6
    have hB3 := hB3.ext hE6
    have hN := hN.ext hE6
    have hSr2 := hSr2.ext hE6
    refine hop_end hQ15 ⟨hSr2, ?_⟩
    refine h_one 17 _ rfl (by kernel_rfl) (hop_of_list (fun Q17 hQ17 => ?_))
    refine g1 27 rfl rfl (x_load1 un3 rfl (hB3.cell (rfl))) ?_
    refine hop_end hQ17 ⟨hSr2, ?_⟩
    refine h_takeg 18 27 rfl rfl rfl (by kernel_rfl) (by kernel_rfl) (by kernel_rfl) hSr2 (fun wS hSS => by ( exact ((x_neq rfl rfl).cast (congrArg _ (decide_eq_false (fun h => h rfl)))))) ?_
    refine h_take 19 rfl (by kernel_rfl) (by kernel_rfl) (by kernel_rfl) hSr2 (fun wS hSS => by ( exact (x_pick_f rfl (by conv => lhs; whnf)))) ?_
    refine h_take 20 rfl (by kernel_rfl) (by kernel_rfl) (by kernel_rfl) hSr2 (fun wS hSS => by ( exact (x_move (by conv => lhs; whnf)))) ?_
    refine h_takeg 21 34 rfl rfl rfl (by kernel_rfl) (by kernel_rfl) (by kernel_rfl) hSr2 (fun wS hSS => by ( exact (x_move (by conv => lhs; whnf)))) ?_
    refine h_takeg 23 34 rfl rfl rfl (by kernel_rfl) (by kernel_rfl) (by kernel_rfl) hSr2 (fun wS hSS => by ( exact (x_fieldAddr fo27_6 sz4 rfl))) ?_
    refine h_two 22 24 _ _ rfl rfl (by kernel_rfl) (hop_of_list (fun Q22 hQ22 => ?_)) (hop_of_list (fun Q24 hQ24 => ?_))
    · skip
      refine g_drop 34 rfl rfl ?_
      refine o_call Try.func21 fn21 fb21 (disk_Down g _ D _ hD) rfl ?_
      rintro v7 w7 ⟨rfl, hE7⟩
      have hX := hX.ext hE7
      have hD := hD.ext hE7
      have hB3 := hB3.ext hE7
      have hN := hN.ext hE7
      have hSr2 := hSr2.ext hE7
      refine hop_end hQ22 ⟨hSr2, ?_⟩
      refine h_one 24 _ rfl (by kernel_rfl) (hop_of_list (fun Q24 hQ24 => ?_))
      refine g1 34 rfl rfl (x_load1 un4 rfl (hB3.cell (rfl))) ?_
      refine hop_end hQ24 ⟨hSr2, ?_⟩
      refine h_takeg 25 34 rfl rfl rfl (by kernel_rfl) (by kernel_rfl) (by kernel_rfl) hSr2 (fun wS hSS => by ( exact ((x_neq_bool u4 rfl rfl).cast (congrArg _ (decide_eq_false (fun h => h rfl)))))) ?_
      refine h_take 26 rfl (by kernel_rfl) (by kernel_rfl) (by kernel_rfl) hSr2 (fun wS hSS => by ( exact (x_pick_f rfl (by conv => lhs; whnf)))) ?_
      refine h_done (by kernel_rfl) ?_
      refine t_n ?_
      refine c_f rfl ?_
      refine c_skip ?_
      refine t_n ?_
      refine c_seq ?_
      refine c_seq ?_
      refine r_plain ?_
      refine p1 (x_assign (by conv => lhs; whnf)) ?_
      refine r_nil ?_
      refine t_n ?_
      refine c_block ?_
      refine c_loop (ι := Nat × List ByteArray) [4, 6, 7, 8, 9, 10, 11, 41, 42, 43, 44, 45, 46, 47, 48, 49, 50, 51, 52, 53, 54, 55, 56, 57, 58, 59, 60, 61, 62, 63, 64, 65, 66, 67, 68, 69, 70, 71, 72, 73, 74, 75, 76, 77, 78, 79, 80, 81, 82, 83, 84, 85, 86, 87, 88, 89, 90, 91, 92, 93, 94, 95, 96, 97, 98, 99, 100, 101, 102, 103] (fun (i, zs) => [(6, .int .i64 (i : Int))]) (fun (i, zs) w' => Ext w w' ∧ (Own kStr 9 0 w.heap.size w' qn D.l.length cn zs ∧ Dsk (fun j => S j ∧ j < w.heap.size) w' g D ∧ Blk w' g3 #[.int .i64 (D.most : Int), .slice p n c, .int .i64 (D.steps : Int), .bool (decide (0 ≤ D.left)), .int .i64 lf, .bool D.done, .bool D.down] 27 ∧ i ≤ D.l.length ∧ ∀ j, i ≤ j → zs.getD j ByteArray.empty = (D.l.map (·.1)).getD j ByteArray.empty)) (fun (i, zs) => D.l.length - i) ((0, (D.l.map (·.1)))) ⟨rfl, trivial⟩ ⟨hX, ⟨hN, hD, hB3, Nat.zero_le _, fun j _ => rfl⟩⟩ ?_
      rintro ⟨i, zs⟩ GL0 w8 ⟨hE8, hN, hD, hB3, hi, hz⟩
      have hX := hE8
      refine c_seq ?_
      refine c_seq ?_
      refine r_plain ?_
      refine p1 (x_move (by conv => lhs; whnf)) ?_
      refine p1 (x_move (by conv => lhs; whnf)) ?_
      refine p1 (x_len_slice u51 rfl) ?_
      refine p1 (x_lss rfl rfl) ?_
      refine r_nil ?_
      refine t_n ?_
      first | refine c_dec rfl (fun hc44 => ?_) (fun hc44 => ?_) | refine c_if rfl (fun hc44 => ?_) (fun hc44 => ?_)
      · try simp only [decide_eq_true_eq, decide_eq_false_iff_not, Bool.not_eq_true, Bool.not_eq_false, Bool.not_eq_eq_eq_not, Bool.not_true, Bool.not_false, Int.not_lt, Int.not_le] at hc44
        refine c_skip ?_
        refine t_n ?_
        refine c_seq ?_
        refine c_block ?_
        refine c_seq ?_
        refine r_plain ?_
        refine p1 (x_move (by conv => lhs; whnf)) ?_
        refine p1 (x_move (by conv => lhs; whnf)) ?_
        refine p1 (x_move (by conv => lhs; whnf)) ?_
        obtain ⟨xf, hx⟩ : ∃ x, D.l.getD i default = x := ⟨_, rfl⟩
        have hkl : i < D.l.length := by omega
        have hnm : zs.getD i ByteArray.empty = xf.1 := by rw [hz i (Nat.le_refl _), ← hx, List.getD_eq_getElem?_getD, List.getElem?_map, List.getD_eq_getElem?_getD, List.getElem?_eq_getElem hkl]; rfl
        have hxm : xf ∈ D.l := by rw [← hx, List.getD_eq_getElem?_getD, List.getElem?_eq_getElem hkl]; exact List.getElem_mem _
        have hks : xf.1.size ≤ 9223372036854775807 := by have := named_size32 (hnames xf hxm); omega
        have hfr : ∀ wz, Ext w wz → wz.rangeAt (ab p) (ao p + i * 3) [.string xf.1, .string (toStr (xf.2.1.take xf.2.2)), .string (toStr (xf.2.1.drop xf.2.2))] := fun wz hz => by have := (hl.ext hz).flRange i (by omega); rw [hx] at this; exact this
        refine p1 (x_ixs0 u51 sz9 rfl rfl (hN.sl.adr kStr_pos (by omega)) (by omega)) ?_
        refine p1 ((x_load1 un9 rfl (hN.sl.strAt _ (by omega))).cast (by rw [hnm])) ?_
        have hXs7 := hX.size
        refine o_call Try.func14 fn14 fb14 (disk_Read g _ D _ hD hok xf.1 hks) rfl ?_
        rintro v9 w9 ⟨⟨q7, n7, c7, rfl, hO⟩, hE9⟩
        have hX := hX.ext hE9
        have hN := hN.ext hE9
        have hD := hD.ext hE9
        have hB3 := hB3.ext hE9
        have hO := hO.lower hXs7
        refine p1 (x_move (by conv => lhs; whnf)) ?_
        refine p1 (x_extract rfl rfl) ?_
        refine p1 (x_extract rfl rfl) ?_
        refine p1 (x_assign (by conv => lhs; whnf)) ?_
        refine p1 (x_assign (by conv => lhs; whnf)) ?_
        refine r_nil ?_
        refine t_n ?_
        refine c_seq ?_
        refine r_held (fun w1 w2 => Ext w1 w2) mixed ?_
        intro w10 hE10
        have hX := hX.ext hE10
        have hN := hN.ext hE10
        have hD := hD.ext hE10
        have hB3 := hB3.ext hE10
        have hO := hO.ext hE10
        have hSr8 : (fun w1 w2 => Ext w1 w2) w10 w10 := Ext.refl w10
        refine h_take 0 rfl (by kernel_rfl) (by kernel_rfl) (by kernel_rfl) hSr8 (fun wS hSS => by (have hX := hX.ext hSS; have hN := hN.ext hSS; have hD := hD.ext hSS; have hB3 := hB3.ext hSS; have hO := hO.ext hSS; exact (x_loadB ua27 rfl hB3 (by exact sz27)))) ?_
        refine h_take 1 rfl (by kernel_rfl) (by kernel_rfl) (by kernel_rfl) hSr8 (fun wS hSS => by (have hX := hX.ext hSS; have hN := hN.ext hSS; have hD := hD.ext hSS; have hB3 := hB3.ext hSS; have hO := hO.ext hSS; exact (x_fieldAddr fo27_1 sz25 rfl))) ?_
        refine h_take 2 rfl (by kernel_rfl) (by kernel_rfl) (by kernel_rfl) hSr8 (fun wS hSS => by (have hX := hX.ext hSS; have hN := hN.ext hSS; have hD := hD.ext hSS; have hB3 := hB3.ext hSS; have hO := hO.ext hSS; exact (x_load1 un25 rfl (hB3.cell (rfl))))) ?_
        refine h_take 3 rfl (by kernel_rfl) (by kernel_rfl) (by kernel_rfl) hSr8 (fun wS hSS => by (have hX := hX.ext hSS; have hN := hN.ext hSS; have hD := hD.ext hSS; have hB3 := hB3.ext hSS; have hO := hO.ext hSS; exact (x_move (by conv => lhs; whnf)))) ?_
        refine h_take 4 rfl (by kernel_rfl) (by kernel_rfl) (by kernel_rfl) hSr8 (fun wS hSS => by (have hX := hX.ext hSS; have hN := hN.ext hSS; have hD := hD.ext hSS; have hB3 := hB3.ext hSS; have hO := hO.ext hSS; exact (x_ixs u25 sz81 rfl rfl ((hl.ext hX).adr kFl_pos (by omega)) (by omega) (by omega)))) ?_
        refine h_take 5 rfl (by kernel_rfl) (by kernel_rfl) (by kernel_rfl) hSr8 (fun wS hSS => by (have hX := hX.ext hSS; have hN := hN.ext hSS; have hD := hD.ext hSS; have hB3 := hB3.ext hSS; have hO := hO.ext hSS; exact (x_fieldAddr fo81_0 sz9 rfl))) ?_
        refine h_take 6 rfl (by kernel_rfl) (by kernel_rfl) (by kernel_rfl) hSr8 (fun wS hSS => by (have hX := hX.ext hSS; have hN := hN.ext hSS; have hD := hD.ext hSS; have hB3 := hB3.ext hSS; have hO := hO.ext hSS; exact (x_load1 un9 rfl (hfr _ hX 0 _ rfl)))) ?_
        refine h_one 7 _ rfl (by kernel_rfl) (hop_of_list (fun Q7 hQ7 => ?_))
        refine o_call Try.func15 fn15 fb15 (ref_Read D p n c lf _ (hl.ext hX) hlf hok hst xf.1 hks) rfl ?_
        rintro v11 w11 ⟨rfl, hE11⟩
        have hX := hX.ext hE11
        have hN := hN.ext hE11
        have hD := hD.ext hE11
        have hB3 := hB3.ext hE11
        have hO := hO.ext hE11
        have hSr8 := hSr8.ext hE11
        refine hop_end hQ7 ⟨hSr8, ?_⟩
        refine h_take 8 rfl (by kernel_rfl) (by kernel_rfl) (by kernel_rfl) hSr8 (fun wS hSS => by ( exact (x_move (by conv => lhs; whnf)))) ?_
        refine h_take 9 rfl (by kernel_rfl) (by kernel_rfl) (by kernel_rfl) hSr8 (fun wS hSS => by ( exact (x_extract rfl rfl))) ?_
        refine h_take 10 rfl (by kernel_rfl) (by kernel_rfl) (by kernel_rfl) hSr8 (fun wS hSS => by ( exact (x_extract rfl rfl))) ?_
        refine h_take 11 rfl (by kernel_rfl) (by kernel_rfl) (by kernel_rfl) hSr8 (fun wS hSS => by ( exact (x_assign (by conv => lhs; whnf)))) ?_
        refine h_take 12 rfl (by kernel_rfl) (by kernel_rfl) (by kernel_rfl) hSr8 (fun wS hSS => by ( exact (x_assign (by conv => lhs; whnf)))) ?_
        refine h_done (by kernel_rfl) ?_
        refine t_n ?_
        refine c_seq ?_
        refine c_seq ?_
        refine r_still mixed (by kernel_rfl) ?_
        intro w12 hE12
        have hX := hX.ext hE12
        have hN := hN.ext hE12
        have hD := hD.ext hE12
        have hB3 := hB3.ext hE12
        have hO := hO.ext hE12
        refine s1 (x_move (by conv => lhs; whnf)) ?_
        refine s1 (x_move (by conv => lhs; whnf)) ?_
        refine s1 (x_ixs0 u51 sz9 rfl rfl (hN.sl.adr kStr_pos (by omega)) (by omega)) ?_
        refine s1 ((x_load1 un9 rfl (hN.sl.strAt _ (by omega))).cast (by rw [hnm])) ?_
        refine s1 (x_fieldAddr fo27_1 sz25 rfl) ?_
        refine s1 (x_load1 un25 rfl (hB3.cell (rfl))) ?_
        refine s1 (x_move (by conv => lhs; whnf)) ?_
        refine s1 (x_ixs u25 sz81 rfl rfl ((hl.ext hX).adr kFl_pos (by omega)) (by omega) (by omega)) ?_
        refine s1 (x_fieldAddr fo81_0 sz9 rfl) ?_
        refine s1 (x_load1 un9 rfl (hfr _ hX 0 _ rfl)) ?_
        refine s1 ((x_neq_str rfl rfl).cast (congrArg _ (decide_eq_false (fun h => h rfl)))) ?_
        refine s1 (x_move (by conv => lhs; whnf)) ?_
        refine sg1 78 rfl rfl (x_move (by conv => lhs; whnf)) ?_
        refine sg1 78 rfl rfl (x_bytes_str u31 u5 u9 rfl hO.sl) ?_
        refine sg1 78 rfl rfl (x_move (by conv => lhs; whnf)) ?_
        refine sg1 78 rfl rfl ((x_neq_str rfl rfl).cast (congrArg _ (decide_eq_false (fun h => h rfl)))) ?_
        refine s1 (x_pick_f rfl (by conv => lhs; whnf)) ?_
        refine s1 (x_move (by conv => lhs; whnf)) ?_
        refine sg1 84 rfl rfl (x_move (by conv => lhs; whnf)) ?_
        refine sg1 84 rfl rfl (x_move (by conv => lhs; whnf)) ?_
        refine sg1 84 rfl rfl ((x_neq rfl rfl).cast (congrArg _ (decide_eq_false (fun h => h rfl)))) ?_
        refine s1 (x_pick_f rfl (by conv => lhs; whnf)) ?_
        refine s_nil ?_
        refine t_n ?_
        refine c_f rfl ?_
        refine c_skip ?_
        refine t_n ?_
        refine c_seq ?_
        refine c_seq ?_
        refine r_plain ?_
        refine p1 (x_assign (by conv => lhs; whnf)) ?_
        refine r_nil ?_
        refine t_n ?_
        refine c_block ?_
        have hW := OwnR.of (F := (fun j => S j ∧ j < w.heap.size)) hO (fun gq e h => by have h1 := (own_at hO gq e).1; have h2 : gq < w.heap.size := h.2; omega)
        have hcf := hO.sl.cap
        have hff := hO.sl.fit
        refine c_loop (ι := Nat) [11, 89, 90, 91, 92, 93, 94, 95, 96, 97, 98, 99, 100] (fun t => [(11, .int .i64 (t : Int))]) (fun t w' => Ext w w' ∧ (OwnR (fun j => S j ∧ j < w.heap.size) w.heap.size w' q7 n7 ∧ Own kStr 9 0 w.heap.size w' qn D.l.length cn zs ∧ Dsk (fun j => S j ∧ j < w.heap.size) w' g D ∧ Blk w' g3 #[.int .i64 (D.most : Int), .slice p n c, .int .i64 (D.steps : Int), .bool (decide (0 ≤ D.left)), .int .i64 lf, .bool D.done, .bool D.down] 27 ∧ t ≤ n7)) (fun t => n7 - t) (0) ⟨rfl, trivial⟩ ⟨hX, ⟨hW, hN, hD, hB3, Nat.zero_le _⟩⟩ ?_
        rintro t GL2 w13 ⟨hE13, hW, hN, hD, hB3, ht⟩
        have hX := hE13
        refine c_seq ?_
        refine c_seq ?_
        refine r_plain ?_
        refine p1 (x_move (by conv => lhs; whnf)) ?_
        refine p1 (x_move (by conv => lhs; whnf)) ?_
        refine p1 (x_len_slice u31 rfl) ?_
        refine p1 (x_lss rfl rfl) ?_
        refine r_nil ?_
        refine t_n ?_
        first | refine c_dec rfl (fun hc92 => ?_) (fun hc92 => ?_) | refine c_if rfl (fun hc92 => ?_) (fun hc92 => ?_)
        · try simp only [decide_eq_true_eq, decide_eq_false_iff_not, Bool.not_eq_true, Bool.not_eq_false, Bool.not_eq_eq_eq_not, Bool.not_true, Bool.not_false, Int.not_lt, Int.not_le] at hc92
          obtain ⟨gq, cur, hq7, hnF, hlow, hBq, hcs, hcell⟩ := hW.resolve_left (by omega)
          subst hq7
          obtain ⟨b, hb⟩ := hcell (0 + t) (by omega)
          refine c_skip ?_
          refine t_n ?_
          refine c_seq ?_
          refine c_block ?_
          refine r_plain ?_
          refine p1 (x_move (by conv => lhs; whnf)) ?_
          refine p1 (x_move (by conv => lhs; whnf)) ?_
          refine p1 (x_ixs0 u31 sz5 rfl rfl rfl (by omega)) ?_
          refine p1 ((x_load1 un5 rfl (hBq.cell hb)).cast (rfl : _ = Value.int .u8 (b.toNat : Int))) ?_
          refine p1 ((x_addw rfl rfl).cast (congrArg (Value.int .u8) (wrap_inc b))) ?_
          refine p1 (x_ixs0 u31 sz5 rfl rfl rfl (by omega)) ?_
          refine o_store1 rfl (by conv => lhs; whnf) rfl rfl sz5 hBq (by show 0 + t < _; omega) ?_
          intro w14 hP14
          have hX := hX.put hP14 hlow
          have hD := hD.oneF hP14.one hnF (by decide)
          have hB3 := hB3.one hP14.one (by decide)
          have hN := hN.mod (hP14.mod 0 (Nat.zero_le _)) (Nat.zero_le _) (by decide)
          have hW : OwnR (fun j => S j ∧ j < w.heap.size) w.heap.size w14 (some ⟨gq, 0, none⟩) n7 := .inr ⟨gq, _, rfl, hnF, hlow, hP14.blk, by rw [Array.size_setIfInBounds]; exact hcs, set_bytes (b := b + 1) hcs hcell⟩
          skip
          refine r_nil ?_
          refine b_n ?_
          refine t_n ?_
          refine r_plain ?_
          refine p1 (x_move (by conv => lhs; whnf)) ?_
          refine p1 (x_add rfl rfl (fits_i64 (by omega) (by omega))) ?_
          refine p1 (x_assign (by conv => lhs; whnf)) ?_
          refine r_nil ?_
          refine t_n (At.mk (t + 1) (by repeat (first | exact Agr.refl _ _ | exact Agr.hav _ _ _ | refine Agr.upd rfl ?_ | refine Agr.updR rfl ?_ | refine Agr.updL ?_ _ rfl | refine Agr.hav' rfl ?_)) ⟨rfl, trivial⟩ ?_)
          exact ⟨⟨hX, ⟨hW, hN, hD, hB3, by omega⟩⟩, by show n7 - (t + 1) < n7 - t; omega⟩
        · try simp only [decide_eq_true_eq, decide_eq_false_iff_not, Bool.not_eq_true, Bool.not_eq_false, Bool.not_eq_eq_eq_not, Bool.not_true, Bool.not_false, Int.not_lt, Int.not_le] at hc92
          refine c_exit ?_
          refine t_e ?_
          refine t_e ?_
          refine b_hit ?_
          refine t_n ?_
          refine r_plain ?_
          refine p1 (x_move (by conv => lhs; whnf)) ?_
          refine p1 (x_move (by conv => lhs; whnf)) ?_
          refine p1 (x_ixs0 u51 sz9 rfl rfl (hN.sl.adr kStr_pos (by omega)) (by omega)) ?_
          refine o_storeSl1 (d := kStr) (i := i) (ByteArray.empty) rfl (by conv => lhs; whnf) rfl rfl hN (by omega) (by rfl) sz9 (Nat.zero_le _) (by decide) ?_
          intro w15 hN hM15
          have hX := hX.mod hM15 (Nat.le_refl _)
          have hD := hD.modT hM15 (by decide)
          have hB3 := hB3.mod hM15 (by decide)
          refine r_nil ?_
          refine b_n ?_
          refine t_n ?_
          refine r_plain ?_
          refine p1 (x_move (by conv => lhs; whnf)) ?_
          refine p1 (x_add rfl rfl (fits_i64 (by omega) (by omega))) ?_
          refine p1 (x_assign (by conv => lhs; whnf)) ?_
          refine r_nil ?_
          refine t_n (At.mk ((i + 1, zs.set i ByteArray.empty)) (by repeat (first | exact Agr.refl _ _ | exact Agr.hav _ _ _ | refine Agr.upd rfl ?_ | refine Agr.updR rfl ?_ | refine Agr.updL ?_ _ rfl | refine Agr.hav' rfl ?_)) ⟨rfl, trivial⟩ ?_)
          exact ⟨⟨hX, ⟨hN, hD, hB3, by omega, fun j hj => by rw [List.getD_eq_getElem?_getD, List.getElem?_set, if_neg (by omega), ← List.getD_eq_getElem?_getD]; exact hz j (by omega)⟩⟩, by show D.l.length - (i + 1) < D.l.length - i; omega⟩
      · try simp only [decide_eq_true_eq, decide_eq_false_iff_not, Bool.not_eq_true, Bool.not_eq_false, Bool.not_eq_eq_eq_not, Bool.not_true, Bool.not_false, Int.not_lt, Int.not_le] at hc44
        refine c_exit ?_
        refine t_e ?_
        refine t_e ?_
        refine b_hit ?_
        refine t_n ?_
        refine c_seq ?_
        refine r_plain ?_
        refine p1 (x_assign (by conv => lhs; whnf)) ?_
        refine r_nil ?_
        refine t_n ?_
        refine c_ret ?_
        refine end1 rfl (by conv => lhs; whnf) ?_
        exact ⟨rfl, hX⟩
    · skip
      refine g1 34 rfl rfl (x_load1 un4 rfl (hB3.cell (rfl))) ?_
      refine hop_end hQ24 ⟨hSr2, ?_⟩
      refine h_one 22 _ rfl (by kernel_rfl) (hop_of_list (fun Q22 hQ22 => ?_))
      refine g_drop 34 rfl rfl ?_
      refine o_call Try.func21 fn21 fb21 (disk_Down g _ D _ hD) rfl ?_
      rintro v16 w16 ⟨rfl, hE16⟩
      have hX := hX.ext hE16
      have hD := hD.ext hE16
      have hB3 := hB3.ext hE16
      have hN := hN.ext hE16
      have hSr2 := hSr2.ext hE16
      refine hop_end hQ22 ⟨hSr2, ?_⟩
      refine h_takeg 25 34 rfl rfl rfl (by kernel_rfl) (by kernel_rfl) (by kernel_rfl) hSr2 (fun wS hSS => by ( exact ((x_neq_bool u4 rfl rfl).cast (congrArg _ (decide_eq_false (fun h => h rfl)))))) ?_
      refine h_take 26 rfl (by kernel_rfl) (by kernel_rfl) (by kernel_rfl) hSr2 (fun wS hSS => by ( exact (x_pick_f rfl (by conv => lhs; whnf)))) ?_
      refine h_done (by kernel_rfl) ?_
      refine t_n ?_
      refine c_f rfl ?_
      refine c_skip ?_
      refine t_n ?_
      refine c_seq ?_
      refine c_seq ?_
      refine r_plain ?_
      refine p1 (x_assign (by conv => lhs; whnf)) ?_
      refine r_nil ?_
      refine t_n ?_
      refine c_block ?_
      refine c_loop (ι := Nat × List ByteArray) [4, 6, 7, 8, 9, 10, 11, 41, 42, 43, 44, 45, 46, 47, 48, 49, 50, 51, 52, 53, 54, 55, 56, 57, 58, 59, 60, 61, 62, 63, 64, 65, 66, 67, 68, 69, 70, 71, 72, 73, 74, 75, 76, 77, 78, 79, 80, 81, 82, 83, 84, 85, 86, 87, 88, 89, 90, 91, 92, 93, 94, 95, 96, 97, 98, 99, 100, 101, 102, 103] (fun (i, zs) => [(6, .int .i64 (i : Int))]) (fun (i, zs) w' => Ext w w' ∧ (Own kStr 9 0 w.heap.size w' qn D.l.length cn zs ∧ Dsk (fun j => S j ∧ j < w.heap.size) w' g D ∧ Blk w' g3 #[.int .i64 (D.most : Int), .slice p n c, .int .i64 (D.steps : Int), .bool (decide (0 ≤ D.left)), .int .i64 lf, .bool D.done, .bool D.down] 27 ∧ i ≤ D.l.length ∧ ∀ j, i ≤ j → zs.getD j ByteArray.empty = (D.l.map (·.1)).getD j ByteArray.empty)) (fun (i, zs) => D.l.length - i) ((0, (D.l.map (·.1)))) ⟨rfl, trivial⟩ ⟨hX, ⟨hN, hD, hB3, Nat.zero_le _, fun j _ => rfl⟩⟩ ?_
      rintro ⟨i, zs⟩ GL0 w17 ⟨hE17, hN, hD, hB3, hi, hz⟩
      have hX := hE17
      refine c_seq ?_
      refine c_seq ?_
      refine r_plain ?_
      refine p1 (x_move (by conv => lhs; whnf)) ?_
      refine p1 (x_move (by conv => lhs; whnf)) ?_
      refine p1 (x_len_slice u51 rfl) ?_
      refine p1 (x_lss rfl rfl) ?_
      refine r_nil ?_
      refine t_n ?_
      first | refine c_dec rfl (fun hc44 => ?_) (fun hc44 => ?_) | refine c_if rfl (fun hc44 => ?_) (fun hc44 => ?_)
      · try simp only [decide_eq_true_eq, decide_eq_false_iff_not, Bool.not_eq_true, Bool.not_eq_false, Bool.not_eq_eq_eq_not, Bool.not_true, Bool.not_false, Int.not_lt, Int.not_le] at hc44
        refine c_skip ?_
        refine t_n ?_
        refine c_seq ?_
        refine c_block ?_
        refine c_seq ?_
        refine r_plain ?_
        refine p1 (x_move (by conv => lhs; whnf)) ?_
        refine p1 (x_move (by conv => lhs; whnf)) ?_
        refine p1 (x_move (by conv => lhs; whnf)) ?_
        obtain ⟨xf, hx⟩ : ∃ x, D.l.getD i default = x := ⟨_, rfl⟩
        have hkl : i < D.l.length := by omega
        have hnm : zs.getD i ByteArray.empty = xf.1 := by rw [hz i (Nat.le_refl _), ← hx, List.getD_eq_getElem?_getD, List.getElem?_map, List.getD_eq_getElem?_getD, List.getElem?_eq_getElem hkl]; rfl
        have hxm : xf ∈ D.l := by rw [← hx, List.getD_eq_getElem?_getD, List.getElem?_eq_getElem hkl]; exact List.getElem_mem _
        have hks : xf.1.size ≤ 9223372036854775807 := by have := named_size32 (hnames xf hxm); omega
        have hfr : ∀ wz, Ext w wz → wz.rangeAt (ab p) (ao p + i * 3) [.string xf.1, .string (toStr (xf.2.1.take xf.2.2)), .string (toStr (xf.2.1.drop xf.2.2))] := fun wz hz => by have := (hl.ext hz).flRange i (by omega); rw [hx] at this; exact this
        refine p1 (x_ixs0 u51 sz9 rfl rfl (hN.sl.adr kStr_pos (by omega)) (by omega)) ?_
        refine p1 ((x_load1 un9 rfl (hN.sl.strAt _ (by omega))).cast (by rw [hnm])) ?_
        have hXs7 := hX.size
        refine o_call Try.func14 fn14 fb14 (disk_Read g _ D _ hD hok xf.1 hks) rfl ?_
        rintro v18 w18 ⟨⟨q7, n7, c7, rfl, hO⟩, hE18⟩
        have hX := hX.ext hE18
        have hN := hN.ext hE18
        have hD := hD.ext hE18
        have hB3 := hB3.ext hE18
        have hO := hO.lower hXs7
        refine p1 (x_move (by conv => lhs; whnf)) ?_
        refine p1 (x_extract rfl rfl) ?_
        refine p1 (x_extract rfl rfl) ?_
        refine p1 (x_assign (by conv => lhs; whnf)) ?_
        refine p1 (x_assign (by conv => lhs; whnf)) ?_
        refine r_nil ?_
        refine t_n ?_
        refine c_seq ?_
        refine r_held (fun w1 w2 => Ext w1 w2) mixed ?_
        intro w19 hE19
        have hX := hX.ext hE19
        have hN := hN.ext hE19
        have hD := hD.ext hE19
        have hB3 := hB3.ext hE19
        have hO := hO.ext hE19
        have hSr8 : (fun w1 w2 => Ext w1 w2) w19 w19 := Ext.refl w19
        refine h_take 0 rfl (by kernel_rfl) (by kernel_rfl) (by kernel_rfl) hSr8 (fun wS hSS => by (have hX := hX.ext hSS; have hN := hN.ext hSS; have hD := hD.ext hSS; have hB3 := hB3.ext hSS; have hO := hO.ext hSS; exact (x_loadB ua27 rfl hB3 (by exact sz27)))) ?_
        refine h_take 1 rfl (by kernel_rfl) (by kernel_rfl) (by kernel_rfl) hSr8 (fun wS hSS => by (have hX := hX.ext hSS; have hN := hN.ext hSS; have hD := hD.ext hSS; have hB3 := hB3.ext hSS; have hO := hO.ext hSS; exact (x_fieldAddr fo27_1 sz25 rfl))) ?_
        refine h_take 2 rfl (by kernel_rfl) (by kernel_rfl) (by kernel_rfl) hSr8 (fun wS hSS => by (have hX := hX.ext hSS; have hN := hN.ext hSS; have hD := hD.ext hSS; have hB3 := hB3.ext hSS; have hO := hO.ext hSS; exact (x_load1 un25 rfl (hB3.cell (rfl))))) ?_
        refine h_take 3 rfl (by kernel_rfl) (by kernel_rfl) (by kernel_rfl) hSr8 (fun wS hSS => by (have hX := hX.ext hSS; have hN := hN.ext hSS; have hD := hD.ext hSS; have hB3 := hB3.ext hSS; have hO := hO.ext hSS; exact (x_move (by conv => lhs; whnf)))) ?_
        refine h_take 4 rfl (by kernel_rfl) (by kernel_rfl) (by kernel_rfl) hSr8 (fun wS hSS => by (have hX := hX.ext hSS; have hN := hN.ext hSS; have hD := hD.ext hSS; have hB3 := hB3.ext hSS; have hO := hO.ext hSS; exact (x_ixs u25 sz81 rfl rfl ((hl.ext hX).adr kFl_pos (by omega)) (by omega) (by omega)))) ?_
        refine h_take 5 rfl (by kernel_rfl) (by kernel_rfl) (by kernel_rfl) hSr8 (fun wS hSS => by (have hX := hX.ext hSS; have hN := hN.ext hSS; have hD := hD.ext hSS; have hB3 := hB3.ext hSS; have hO := hO.ext hSS; exact (x_fieldAddr fo81_0 sz9 rfl))) ?_
        refine h_take 6 rfl (by kernel_rfl) (by kernel_rfl) (by kernel_rfl) hSr8 (fun wS hSS => by (have hX := hX.ext hSS; have hN := hN.ext hSS; have hD := hD.ext hSS; have hB3 := hB3.ext hSS; have hO := hO.ext hSS; exact (x_load1 un9 rfl (hfr _ hX 0 _ rfl)))) ?_
        refine h_one 7 _ rfl (by kernel_rfl) (hop_of_list (fun Q7 hQ7 => ?_))
        refine o_call Try.func15 fn15 fb15 (ref_Read D p n c lf _ (hl.ext hX) hlf hok hst xf.1 hks) rfl ?_
        rintro v20 w20 ⟨rfl, hE20⟩
        have hX := hX.ext hE20
        have hN := hN.ext hE20
        have hD := hD.ext hE20
        have hB3 := hB3.ext hE20
        have hO := hO.ext hE20
        have hSr8 := hSr8.ext hE20
        refine hop_end hQ7 ⟨hSr8, ?_⟩
        refine h_take 8 rfl (by kernel_rfl) (by kernel_rfl) (by kernel_rfl) hSr8 (fun wS hSS => by ( exact (x_move (by conv => lhs; whnf)))) ?_
        refine h_take 9 rfl (by kernel_rfl) (by kernel_rfl) (by kernel_rfl) hSr8 (fun wS hSS => by ( exact (x_extract rfl rfl))) ?_
        refine h_take 10 rfl (by kernel_rfl) (by kernel_rfl) (by kernel_rfl) hSr8 (fun wS hSS => by ( exact (x_extract rfl rfl))) ?_
        refine h_take 11 rfl (by kernel_rfl) (by kernel_rfl) (by kernel_rfl) hSr8 (fun wS hSS => by ( exact (x_assign (by conv => lhs; whnf)))) ?_
        refine h_take 12 rfl (by kernel_rfl) (by kernel_rfl) (by kernel_rfl) hSr8 (fun wS hSS => by ( exact (x_assign (by conv => lhs; whnf)))) ?_
        refine h_done (by kernel_rfl) ?_
        refine t_n ?_
        refine c_seq ?_
        refine c_seq ?_
        refine r_still mixed (by kernel_rfl) ?_
        intro w21 hE21
        have hX := hX.ext hE21
        have hN := hN.ext hE21
        have hD := hD.ext hE21
        have hB3 := hB3.ext hE21
        have hO := hO.ext hE21
        refine s1 (x_move (by conv => lhs; whnf)) ?_
        refine s1 (x_move (by conv => lhs; whnf)) ?_
        refine s1 (x_ixs0 u51 sz9 rfl rfl (hN.sl.adr kStr_pos (by omega)) (by omega)) ?_
        refine s1 ((x_load1 un9 rfl (hN.sl.strAt _ (by omega))).cast (by rw [hnm])) ?_
        refine s1 (x_fieldAddr fo27_1 sz25 rfl) ?_
        refine s1 (x_load1 un25 rfl (hB3.cell (rfl))) ?_
        refine s1 (x_move (by conv => lhs; whnf)) ?_
        refine s1 (x_ixs u25 sz81 rfl rfl ((hl.ext hX).adr kFl_pos (by omega)) (by omega) (by omega)) ?_
        refine s1 (x_fieldAddr fo81_0 sz9 rfl) ?_
        refine s1 (x_load1 un9 rfl (hfr _ hX 0 _ rfl)) ?_
        refine s1 ((x_neq_str rfl rfl).cast (congrArg _ (decide_eq_false (fun h => h rfl)))) ?_
        refine s1 (x_move (by conv => lhs; whnf)) ?_
        refine sg1 78 rfl rfl (x_move (by conv => lhs; whnf)) ?_
        refine sg1 78 rfl rfl (x_bytes_str u31 u5 u9 rfl hO.sl) ?_
        refine sg1 78 rfl rfl (x_move (by conv => lhs; whnf)) ?_
        refine sg1 78 rfl rfl ((x_neq_str rfl rfl).cast (congrArg _ (decide_eq_false (fun h => h rfl)))) ?_
        refine s1 (x_pick_f rfl (by conv => lhs; whnf)) ?_
        refine s1 (x_move (by conv => lhs; whnf)) ?_
        refine sg1 84 rfl rfl (x_move (by conv => lhs; whnf)) ?_
        refine sg1 84 rfl rfl (x_move (by conv => lhs; whnf)) ?_
        refine sg1 84 rfl rfl ((x_neq rfl rfl).cast (congrArg _ (decide_eq_false (fun h => h rfl)))) ?_
        refine s1 (x_pick_f rfl (by conv => lhs; whnf)) ?_
        refine s_nil ?_
        refine t_n ?_
        refine c_f rfl ?_
        refine c_skip ?_
        refine t_n ?_
        refine c_seq ?_
        refine c_seq ?_
        refine r_plain ?_
        refine p1 (x_assign (by conv => lhs; whnf)) ?_
        refine r_nil ?_
        refine t_n ?_
        refine c_block ?_
        have hW := OwnR.of (F := (fun j => S j ∧ j < w.heap.size)) hO (fun gq e h => by have h1 := (own_at hO gq e).1; have h2 : gq < w.heap.size := h.2; omega)
        have hcf := hO.sl.cap
        have hff := hO.sl.fit
        refine c_loop (ι := Nat) [11, 89, 90, 91, 92, 93, 94, 95, 96, 97, 98, 99, 100] (fun t => [(11, .int .i64 (t : Int))]) (fun t w' => Ext w w' ∧ (OwnR (fun j => S j ∧ j < w.heap.size) w.heap.size w' q7 n7 ∧ Own kStr 9 0 w.heap.size w' qn D.l.length cn zs ∧ Dsk (fun j => S j ∧ j < w.heap.size) w' g D ∧ Blk w' g3 #[.int .i64 (D.most : Int), .slice p n c, .int .i64 (D.steps : Int), .bool (decide (0 ≤ D.left)), .int .i64 lf, .bool D.done, .bool D.down] 27 ∧ t ≤ n7)) (fun t => n7 - t) (0) ⟨rfl, trivial⟩ ⟨hX, ⟨hW, hN, hD, hB3, Nat.zero_le _⟩⟩ ?_
        rintro t GL2 w22 ⟨hE22, hW, hN, hD, hB3, ht⟩
        have hX := hE22
        refine c_seq ?_
        refine c_seq ?_
        refine r_plain ?_
        refine p1 (x_move (by conv => lhs; whnf)) ?_
        refine p1 (x_move (by conv => lhs; whnf)) ?_
        refine p1 (x_len_slice u31 rfl) ?_
        refine p1 (x_lss rfl rfl) ?_
        refine r_nil ?_
        refine t_n ?_
        first | refine c_dec rfl (fun hc92 => ?_) (fun hc92 => ?_) | refine c_if rfl (fun hc92 => ?_) (fun hc92 => ?_)
        · try simp only [decide_eq_true_eq, decide_eq_false_iff_not, Bool.not_eq_true, Bool.not_eq_false, Bool.not_eq_eq_eq_not, Bool.not_true, Bool.not_false, Int.not_lt, Int.not_le] at hc92
          obtain ⟨gq, cur, hq7, hnF, hlow, hBq, hcs, hcell⟩ := hW.resolve_left (by omega)
          subst hq7
          obtain ⟨b, hb⟩ := hcell (0 + t) (by omega)
          refine c_skip ?_
          refine t_n ?_
          refine c_seq ?_
          refine c_block ?_
          refine r_plain ?_
          refine p1 (x_move (by conv => lhs; whnf)) ?_
          refine p1 (x_move (by conv => lhs; whnf)) ?_
          refine p1 (x_ixs0 u31 sz5 rfl rfl rfl (by omega)) ?_
          refine p1 ((x_load1 un5 rfl (hBq.cell hb)).cast (rfl : _ = Value.int .u8 (b.toNat : Int))) ?_
          refine p1 ((x_addw rfl rfl).cast (congrArg (Value.int .u8) (wrap_inc b))) ?_
          refine p1 (x_ixs0 u31 sz5 rfl rfl rfl (by omega)) ?_
          refine o_store1 rfl (by conv => lhs; whnf) rfl rfl sz5 hBq (by show 0 + t < _; omega) ?_
          intro w23 hP23
          have hX := hX.put hP23 hlow
          have hD := hD.oneF hP23.one hnF (by decide)
          have hB3 := hB3.one hP23.one (by decide)
          have hN := hN.mod (hP23.mod 0 (Nat.zero_le _)) (Nat.zero_le _) (by decide)
          have hW : OwnR (fun j => S j ∧ j < w.heap.size) w.heap.size w23 (some ⟨gq, 0, none⟩) n7 := .inr ⟨gq, _, rfl, hnF, hlow, hP23.blk, by rw [Array.size_setIfInBounds]; exact hcs, set_bytes (b := b + 1) hcs hcell⟩
          skip
          refine r_nil ?_
          refine b_n ?_
          refine t_n ?_
          refine r_plain ?_
          refine p1 (x_move (by conv => lhs; whnf)) ?_
          refine p1 (x_add rfl rfl (fits_i64 (by omega) (by omega))) ?_
          refine p1 (x_assign (by conv => lhs; whnf)) ?_
          refine r_nil ?_
          refine t_n (At.mk (t + 1) (by repeat (first | exact Agr.refl _ _ | exact Agr.hav _ _ _ | refine Agr.upd rfl ?_ | refine Agr.updR rfl ?_ | refine Agr.updL ?_ _ rfl | refine Agr.hav' rfl ?_)) ⟨rfl, trivial⟩ ?_)
          exact ⟨⟨hX, ⟨hW, hN, hD, hB3, by omega⟩⟩, by show n7 - (t + 1) < n7 - t; omega⟩
        · try simp only [decide_eq_true_eq, decide_eq_false_iff_not, Bool.not_eq_true, Bool.not_eq_false, Bool.not_eq_eq_eq_not, Bool.not_true, Bool.not_false, Int.not_lt, Int.not_le] at hc92
          refine c_exit ?_
          refine t_e ?_
          refine t_e ?_
          refine b_hit ?_
          refine t_n ?_
          refine r_plain ?_
          refine p1 (x_move (by conv => lhs; whnf)) ?_
          refine p1 (x_move (by conv => lhs; whnf)) ?_
          refine p1 (x_ixs0 u51 sz9 rfl rfl (hN.sl.adr kStr_pos (by omega)) (by omega)) ?_
          refine o_storeSl1 (d := kStr) (i := i) (ByteArray.empty) rfl (by conv => lhs; whnf) rfl rfl hN (by omega) (by rfl) sz9 (Nat.zero_le _) (by decide) ?_
          intro w24 hN hM24
          have hX := hX.mod hM24 (Nat.le_refl _)
          have hD := hD.modT hM24 (by decide)
          have hB3 := hB3.mod hM24 (by decide)
          refine r_nil ?_
          refine b_n ?_
          refine t_n ?_
          refine r_plain ?_
          refine p1 (x_move (by conv => lhs; whnf)) ?_
          refine p1 (x_add rfl rfl (fits_i64 (by omega) (by omega))) ?_
          refine p1 (x_assign (by conv => lhs; whnf)) ?_
          refine r_nil ?_
          refine t_n (At.mk ((i + 1, zs.set i ByteArray.empty)) (by repeat (first | exact Agr.refl _ _ | exact Agr.hav _ _ _ | refine Agr.upd rfl ?_ | refine Agr.updR rfl ?_ | refine Agr.updL ?_ _ rfl | refine Agr.hav' rfl ?_)) ⟨rfl, trivial⟩ ?_)
          exact ⟨⟨hX, ⟨hN, hD, hB3, by omega, fun j hj => by rw [List.getD_eq_getElem?_getD, List.getElem?_set, if_neg (by omega), ← List.getD_eq_getElem?_getD]; exact hz j (by omega)⟩⟩, by show D.l.length - (i + 1) < D.l.length - i; omega⟩
      · try simp only [decide_eq_true_eq, decide_eq_false_iff_not, Bool.not_eq_true, Bool.not_eq_false, Bool.not_eq_eq_eq_not, Bool.not_true, Bool.not_false, Int.not_lt, Int.not_le] at hc44
        refine c_exit ?_
        refine t_e ?_
        refine t_e ?_
        refine b_hit ?_
        refine t_n ?_
        refine c_seq ?_
        refine r_plain ?_
        refine p1 (x_assign (by conv => lhs; whnf)) ?_
        refine r_nil ?_
        refine t_n ?_
        refine c_ret ?_
        refine end1 rfl (by conv => lhs; whnf) ?_
        exact ⟨rfl, hX⟩
  · skip
    refine g1 27 rfl rfl (x_load1 un3 rfl (hB3.cell (rfl))) ?_
    refine hop_end hQ17 ⟨hSr2, ?_⟩
    refine h_one 15 _ rfl (by kernel_rfl) (hop_of_list (fun Q15 hQ15 => ?_))
    refine g_drop 27 rfl rfl ?_
    refine o_call Try.func22 fn22 fb22 (disk_Steps g _ D _ hD) rfl ?_
    rintro v25 w25 ⟨rfl, hE25⟩
    have hX := hX.ext hE25
    have hD := hD.ext hE25
    have hB3 := hB3.ext hE25
    have hN := hN.ext hE25
    have hSr2 := hSr2.ext hE25
    refine hop_end hQ15 ⟨hSr2, ?_⟩
    refine h_takeg 18 27 rfl rfl rfl (by kernel_rfl) (by kernel_rfl) (by kernel_rfl) hSr2 (fun wS hSS => by ( exact ((x_neq rfl rfl).cast (congrArg _ (decide_eq_false (fun h => h rfl)))))) ?_
    refine h_take 19 rfl (by kernel_rfl) (by kernel_rfl) (by kernel_rfl) hSr2 (fun wS hSS => by ( exact (x_pick_f rfl (by conv => lhs; whnf)))) ?_
    refine h_take 20 rfl (by kernel_rfl) (by kernel_rfl) (by kernel_rfl) hSr2 (fun wS hSS => by ( exact (x_move (by conv => lhs; whnf)))) ?_
    refine h_takeg 21 34 rfl rfl rfl (by kernel_rfl) (by kernel_rfl) (by kernel_rfl) hSr2 (fun wS hSS => by ( exact (x_move (by conv => lhs; whnf)))) ?_
    refine h_takeg 23 34 rfl rfl rfl (by kernel_rfl) (by kernel_rfl) (by kernel_rfl) hSr2 (fun wS hSS => by ( exact (x_fieldAddr fo27_6 sz4 rfl))) ?_
    refine h_two 22 24 _ _ rfl rfl (by kernel_rfl) (hop_of_list (fun Q22 hQ22 => ?_)) (hop_of_list (fun Q24 hQ24 => ?_))
    · skip
      refine g_drop 34 rfl rfl ?_
      refine o_call Try.func21 fn21 fb21 (disk_Down g _ D _ hD) rfl ?_
      rintro v26 w26 ⟨rfl, hE26⟩
      have hX := hX.ext hE26
      have hD := hD.ext hE26
      have hB3 := hB3.ext hE26
      have hN := hN.ext hE26
      have hSr2 := hSr2.ext hE26
      refine hop_end hQ22 ⟨hSr2, ?_⟩
      refine h_one 24 _ rfl (by kernel_rfl) (hop_of_list (fun Q24 hQ24 => ?_))
      refine g1 34 rfl rfl (x_load1 un4 rfl (hB3.cell (rfl))) ?_
      refine hop_end hQ24 ⟨hSr2, ?_⟩
      refine h_takeg 25 34 rfl rfl rfl (by kernel_rfl) (by kernel_rfl) (by kernel_rfl) hSr2 (fun wS hSS => by ( exact ((x_neq_bool u4 rfl rfl).cast (congrArg _ (decide_eq_false (fun h => h rfl)))))) ?_
      refine h_take 26 rfl (by kernel_rfl) (by kernel_rfl) (by kernel_rfl) hSr2 (fun wS hSS => by ( exact (x_pick_f rfl (by conv => lhs; whnf)))) ?_
      refine h_done (by kernel_rfl) ?_
      refine t_n ?_
      refine c_f rfl ?_
      refine c_skip ?_
      refine t_n ?_
      refine c_seq ?_
      refine c_seq ?_
      refine r_plain ?_
      refine p1 (x_assign (by conv => lhs; whnf)) ?_
      refine r_nil ?_
      refine t_n ?_
      refine c_block ?_
      refine c_loop (ι := Nat × List ByteArray) [4, 6, 7, 8, 9, 10, 11, 41, 42, 43, 44, 45, 46, 47, 48, 49, 50, 51, 52, 53, 54, 55, 56, 57, 58, 59, 60, 61, 62, 63, 64, 65, 66, 67, 68, 69, 70, 71, 72, 73, 74, 75, 76, 77, 78, 79, 80, 81, 82, 83, 84, 85, 86, 87, 88, 89, 90, 91, 92, 93, 94, 95, 96, 97, 98, 99, 100, 101, 102, 103] (fun (i, zs) => [(6, .int .i64 (i : Int))]) (fun (i, zs) w' => Ext w w' ∧ (Own kStr 9 0 w.heap.size w' qn D.l.length cn zs ∧ Dsk (fun j => S j ∧ j < w.heap.size) w' g D ∧ Blk w' g3 #[.int .i64 (D.most : Int), .slice p n c, .int .i64 (D.steps : Int), .bool (decide (0 ≤ D.left)), .int .i64 lf, .bool D.done, .bool D.down] 27 ∧ i ≤ D.l.length ∧ ∀ j, i ≤ j → zs.getD j ByteArray.empty = (D.l.map (·.1)).getD j ByteArray.empty)) (fun (i, zs) => D.l.length - i) ((0, (D.l.map (·.1)))) ⟨rfl, trivial⟩ ⟨hX, ⟨hN, hD, hB3, Nat.zero_le _, fun j _ => rfl⟩⟩ ?_
      rintro ⟨i, zs⟩ GL0 w27 ⟨hE27, hN, hD, hB3, hi, hz⟩
      have hX := hE27
      refine c_seq ?_
      refine c_seq ?_
      refine r_plain ?_
      refine p1 (x_move (by conv => lhs; whnf)) ?_
      refine p1 (x_move (by conv => lhs; whnf)) ?_
      refine p1 (x_len_slice u51 rfl) ?_
      refine p1 (x_lss rfl rfl) ?_
      refine r_nil ?_
      refine t_n ?_
      first | refine c_dec rfl (fun hc44 => ?_) (fun hc44 => ?_) | refine c_if rfl (fun hc44 => ?_) (fun hc44 => ?_)
      · try simp only [decide_eq_true_eq, decide_eq_false_iff_not, Bool.not_eq_true, Bool.not_eq_false, Bool.not_eq_eq_eq_not, Bool.not_true, Bool.not_false, Int.not_lt, Int.not_le] at hc44
        refine c_skip ?_
        refine t_n ?_
        refine c_seq ?_
        refine c_block ?_
        refine c_seq ?_
        refine r_plain ?_
        refine p1 (x_move (by conv => lhs; whnf)) ?_
        refine p1 (x_move (by conv => lhs; whnf)) ?_
        refine p1 (x_move (by conv => lhs; whnf)) ?_
        obtain ⟨xf, hx⟩ : ∃ x, D.l.getD i default = x := ⟨_, rfl⟩
        have hkl : i < D.l.length := by omega
        have hnm : zs.getD i ByteArray.empty = xf.1 := by rw [hz i (Nat.le_refl _), ← hx, List.getD_eq_getElem?_getD, List.getElem?_map, List.getD_eq_getElem?_getD, List.getElem?_eq_getElem hkl]; rfl
        have hxm : xf ∈ D.l := by rw [← hx, List.getD_eq_getElem?_getD, List.getElem?_eq_getElem hkl]; exact List.getElem_mem _
        have hks : xf.1.size ≤ 9223372036854775807 := by have := named_size32 (hnames xf hxm); omega
        have hfr : ∀ wz, Ext w wz → wz.rangeAt (ab p) (ao p + i * 3) [.string xf.1, .string (toStr (xf.2.1.take xf.2.2)), .string (toStr (xf.2.1.drop xf.2.2))] := fun wz hz => by have := (hl.ext hz).flRange i (by omega); rw [hx] at this; exact this
        refine p1 (x_ixs0 u51 sz9 rfl rfl (hN.sl.adr kStr_pos (by omega)) (by omega)) ?_
        refine p1 ((x_load1 un9 rfl (hN.sl.strAt _ (by omega))).cast (by rw [hnm])) ?_
        have hXs7 := hX.size
        refine o_call Try.func14 fn14 fb14 (disk_Read g _ D _ hD hok xf.1 hks) rfl ?_
        rintro v28 w28 ⟨⟨q7, n7, c7, rfl, hO⟩, hE28⟩
        have hX := hX.ext hE28
        have hN := hN.ext hE28
        have hD := hD.ext hE28
        have hB3 := hB3.ext hE28
        have hO := hO.lower hXs7
        refine p1 (x_move (by conv => lhs; whnf)) ?_
        refine p1 (x_extract rfl rfl) ?_
        refine p1 (x_extract rfl rfl) ?_
        refine p1 (x_assign (by conv => lhs; whnf)) ?_
        refine p1 (x_assign (by conv => lhs; whnf)) ?_
        refine r_nil ?_
        refine t_n ?_
        refine c_seq ?_
        refine r_held (fun w1 w2 => Ext w1 w2) mixed ?_
        intro w29 hE29
        have hX := hX.ext hE29
        have hN := hN.ext hE29
        have hD := hD.ext hE29
        have hB3 := hB3.ext hE29
        have hO := hO.ext hE29
        have hSr8 : (fun w1 w2 => Ext w1 w2) w29 w29 := Ext.refl w29
        refine h_take 0 rfl (by kernel_rfl) (by kernel_rfl) (by kernel_rfl) hSr8 (fun wS hSS => by (have hX := hX.ext hSS; have hN := hN.ext hSS; have hD := hD.ext hSS; have hB3 := hB3.ext hSS; have hO := hO.ext hSS; exact (x_loadB ua27 rfl hB3 (by exact sz27)))) ?_
        refine h_take 1 rfl (by kernel_rfl) (by kernel_rfl) (by kernel_rfl) hSr8 (fun wS hSS => by (have hX := hX.ext hSS; have hN := hN.ext hSS; have hD := hD.ext hSS; have hB3 := hB3.ext hSS; have hO := hO.ext hSS; exact (x_fieldAddr fo27_1 sz25 rfl))) ?_
        refine h_take 2 rfl (by kernel_rfl) (by kernel_rfl) (by kernel_rfl) hSr8 (fun wS hSS => by (have hX := hX.ext hSS; have hN := hN.ext hSS; have hD := hD.ext hSS; have hB3 := hB3.ext hSS; have hO := hO.ext hSS; exact (x_load1 un25 rfl (hB3.cell (rfl))))) ?_
        refine h_take 3 rfl (by kernel_rfl) (by kernel_rfl) (by kernel_rfl) hSr8 (fun wS hSS => by (have hX := hX.ext hSS; have hN := hN.ext hSS; have hD := hD.ext hSS; have hB3 := hB3.ext hSS; have hO := hO.ext hSS; exact (x_move (by conv => lhs; whnf)))) ?_
        refine h_take 4 rfl (by kernel_rfl) (by kernel_rfl) (by kernel_rfl) hSr8 (fun wS hSS => by (have hX := hX.ext hSS; have hN := hN.ext hSS; have hD := hD.ext hSS; have hB3 := hB3.ext hSS; have hO := hO.ext hSS; exact (x_ixs u25 sz81 rfl rfl ((hl.ext hX).adr kFl_pos (by omega)) (by omega) (by omega)))) ?_
        refine h_take 5 rfl (by kernel_rfl) (by kernel_rfl) (by kernel_rfl) hSr8 (fun wS hSS => by (have hX := hX.ext hSS; have hN := hN.ext hSS; have hD := hD.ext hSS; have hB3 := hB3.ext hSS; have hO := hO.ext hSS; exact (x_fieldAddr fo81_0 sz9 rfl))) ?_
        refine h_take 6 rfl (by kernel_rfl) (by kernel_rfl) (by kernel_rfl) hSr8 (fun wS hSS => by (have hX := hX.ext hSS; have hN := hN.ext hSS; have hD := hD.ext hSS; have hB3 := hB3.ext hSS; have hO := hO.ext hSS; exact (x_load1 un9 rfl (hfr _ hX 0 _ rfl)))) ?_
        refine h_one 7 _ rfl (by kernel_rfl) (hop_of_list (fun Q7 hQ7 => ?_))
        refine o_call Try.func15 fn15 fb15 (ref_Read D p n c lf _ (hl.ext hX) hlf hok hst xf.1 hks) rfl ?_
        rintro v30 w30 ⟨rfl, hE30⟩
        have hX := hX.ext hE30
        have hN := hN.ext hE30
        have hD := hD.ext hE30
        have hB3 := hB3.ext hE30
        have hO := hO.ext hE30
        have hSr8 := hSr8.ext hE30
        refine hop_end hQ7 ⟨hSr8, ?_⟩
        refine h_take 8 rfl (by kernel_rfl) (by kernel_rfl) (by kernel_rfl) hSr8 (fun wS hSS => by ( exact (x_move (by conv => lhs; whnf)))) ?_
        refine h_take 9 rfl (by kernel_rfl) (by kernel_rfl) (by kernel_rfl) hSr8 (fun wS hSS => by ( exact (x_extract rfl rfl))) ?_
        refine h_take 10 rfl (by kernel_rfl) (by kernel_rfl) (by kernel_rfl) hSr8 (fun wS hSS => by ( exact (x_extract rfl rfl))) ?_
        refine h_take 11 rfl (by kernel_rfl) (by kernel_rfl) (by kernel_rfl) hSr8 (fun wS hSS => by ( exact (x_assign (by conv => lhs; whnf)))) ?_
        refine h_take 12 rfl (by kernel_rfl) (by kernel_rfl) (by kernel_rfl) hSr8 (fun wS hSS => by ( exact (x_assign (by conv => lhs; whnf)))) ?_
        refine h_done (by kernel_rfl) ?_
        refine t_n ?_
        refine c_seq ?_
        refine c_seq ?_
        refine r_still mixed (by kernel_rfl) ?_
        intro w31 hE31
        have hX := hX.ext hE31
        have hN := hN.ext hE31
        have hD := hD.ext hE31
        have hB3 := hB3.ext hE31
        have hO := hO.ext hE31
        refine s1 (x_move (by conv => lhs; whnf)) ?_
        refine s1 (x_move (by conv => lhs; whnf)) ?_
        refine s1 (x_ixs0 u51 sz9 rfl rfl (hN.sl.adr kStr_pos (by omega)) (by omega)) ?_
        refine s1 ((x_load1 un9 rfl (hN.sl.strAt _ (by omega))).cast (by rw [hnm])) ?_
        refine s1 (x_fieldAddr fo27_1 sz25 rfl) ?_
        refine s1 (x_load1 un25 rfl (hB3.cell (rfl))) ?_
        refine s1 (x_move (by conv => lhs; whnf)) ?_
        refine s1 (x_ixs u25 sz81 rfl rfl ((hl.ext hX).adr kFl_pos (by omega)) (by omega) (by omega)) ?_
        refine s1 (x_fieldAddr fo81_0 sz9 rfl) ?_
        refine s1 (x_load1 un9 rfl (hfr _ hX 0 _ rfl)) ?_
        refine s1 ((x_neq_str rfl rfl).cast (congrArg _ (decide_eq_false (fun h => h rfl)))) ?_
        refine s1 (x_move (by conv => lhs; whnf)) ?_
        refine sg1 78 rfl rfl (x_move (by conv => lhs; whnf)) ?_
        refine sg1 78 rfl rfl (x_bytes_str u31 u5 u9 rfl hO.sl) ?_
        refine sg1 78 rfl rfl (x_move (by conv => lhs; whnf)) ?_
        refine sg1 78 rfl rfl ((x_neq_str rfl rfl).cast (congrArg _ (decide_eq_false (fun h => h rfl)))) ?_
        refine s1 (x_pick_f rfl (by conv => lhs; whnf)) ?_
        refine s1 (x_move (by conv => lhs; whnf)) ?_
        refine sg1 84 rfl rfl (x_move (by conv => lhs; whnf)) ?_
        refine sg1 84 rfl rfl (x_move (by conv => lhs; whnf)) ?_
        refine sg1 84 rfl rfl ((x_neq rfl rfl).cast (congrArg _ (decide_eq_false (fun h => h rfl)))) ?_
        refine s1 (x_pick_f rfl (by conv => lhs; whnf)) ?_
        refine s_nil ?_
        refine t_n ?_
        refine c_f rfl ?_
        refine c_skip ?_
        refine t_n ?_
        refine c_seq ?_
        refine c_seq ?_
        refine r_plain ?_
        refine p1 (x_assign (by conv => lhs; whnf)) ?_
        refine r_nil ?_
        refine t_n ?_
        refine c_block ?_
        have hW := OwnR.of (F := (fun j => S j ∧ j < w.heap.size)) hO (fun gq e h => by have h1 := (own_at hO gq e).1; have h2 : gq < w.heap.size := h.2; omega)
        have hcf := hO.sl.cap
        have hff := hO.sl.fit
        refine c_loop (ι := Nat) [11, 89, 90, 91, 92, 93, 94, 95, 96, 97, 98, 99, 100] (fun t => [(11, .int .i64 (t : Int))]) (fun t w' => Ext w w' ∧ (OwnR (fun j => S j ∧ j < w.heap.size) w.heap.size w' q7 n7 ∧ Own kStr 9 0 w.heap.size w' qn D.l.length cn zs ∧ Dsk (fun j => S j ∧ j < w.heap.size) w' g D ∧ Blk w' g3 #[.int .i64 (D.most : Int), .slice p n c, .int .i64 (D.steps : Int), .bool (decide (0 ≤ D.left)), .int .i64 lf, .bool D.done, .bool D.down] 27 ∧ t ≤ n7)) (fun t => n7 - t) (0) ⟨rfl, trivial⟩ ⟨hX, ⟨hW, hN, hD, hB3, Nat.zero_le _⟩⟩ ?_
        rintro t GL2 w32 ⟨hE32, hW, hN, hD, hB3, ht⟩
        have hX := hE32
        refine c_seq ?_
        refine c_seq ?_
        refine r_plain ?_
        refine p1 (x_move (by conv => lhs; whnf)) ?_
        refine p1 (x_move (by conv => lhs; whnf)) ?_
        refine p1 (x_len_slice u31 rfl) ?_
        refine p1 (x_lss rfl rfl) ?_
        refine r_nil ?_
        refine t_n ?_
        first | refine c_dec rfl (fun hc92 => ?_) (fun hc92 => ?_) | refine c_if rfl (fun hc92 => ?_) (fun hc92 => ?_)
        · try simp only [decide_eq_true_eq, decide_eq_false_iff_not, Bool.not_eq_true, Bool.not_eq_false, Bool.not_eq_eq_eq_not, Bool.not_true, Bool.not_false, Int.not_lt, Int.not_le] at hc92
          obtain ⟨gq, cur, hq7, hnF, hlow, hBq, hcs, hcell⟩ := hW.resolve_left (by omega)
          subst hq7
          obtain ⟨b, hb⟩ := hcell (0 + t) (by omega)
          refine c_skip ?_
          refine t_n ?_
          refine c_seq ?_
          refine c_block ?_
          refine r_plain ?_
          refine p1 (x_move (by conv => lhs; whnf)) ?_
          refine p1 (x_move (by conv => lhs; whnf)) ?_
          refine p1 (x_ixs0 u31 sz5 rfl rfl rfl (by omega)) ?_
          refine p1 ((x_load1 un5 rfl (hBq.cell hb)).cast (rfl : _ = Value.int .u8 (b.toNat : Int))) ?_
          refine p1 ((x_addw rfl rfl).cast (congrArg (Value.int .u8) (wrap_inc b))) ?_
          refine p1 (x_ixs0 u31 sz5 rfl rfl rfl (by omega)) ?_
          refine o_store1 rfl (by conv => lhs; whnf) rfl rfl sz5 hBq (by show 0 + t < _; omega) ?_
          intro w33 hP33
          have hX := hX.put hP33 hlow
          have hD := hD.oneF hP33.one hnF (by decide)
          have hB3 := hB3.one hP33.one (by decide)
          have hN := hN.mod (hP33.mod 0 (Nat.zero_le _)) (Nat.zero_le _) (by decide)
          have hW : OwnR (fun j => S j ∧ j < w.heap.size) w.heap.size w33 (some ⟨gq, 0, none⟩) n7 := .inr ⟨gq, _, rfl, hnF, hlow, hP33.blk, by rw [Array.size_setIfInBounds]; exact hcs, set_bytes (b := b + 1) hcs hcell⟩
          skip
          refine r_nil ?_
          refine b_n ?_
          refine t_n ?_
          refine r_plain ?_
          refine p1 (x_move (by conv => lhs; whnf)) ?_
          refine p1 (x_add rfl rfl (fits_i64 (by omega) (by omega))) ?_
          refine p1 (x_assign (by conv => lhs; whnf)) ?_
          refine r_nil ?_
          refine t_n (At.mk (t + 1) (by repeat (first | exact Agr.refl _ _ | exact Agr.hav _ _ _ | refine Agr.upd rfl ?_ | refine Agr.updR rfl ?_ | refine Agr.updL ?_ _ rfl | refine Agr.hav' rfl ?_)) ⟨rfl, trivial⟩ ?_)
          exact ⟨⟨hX, ⟨hW, hN, hD, hB3, by omega⟩⟩, by show n7 - (t + 1) < n7 - t; omega⟩
        · try simp only [decide_eq_true_eq, decide_eq_false_iff_not, Bool.not_eq_true, Bool.not_eq_false, Bool.not_eq_eq_eq_not, Bool.not_true, Bool.not_false, Int.not_lt, Int.not_le] at hc92
          refine c_exit ?_
          refine t_e ?_
          refine t_e ?_
          refine b_hit ?_
          refine t_n ?_
          refine r_plain ?_
          refine p1 (x_move (by conv => lhs; whnf)) ?_
          refine p1 (x_move (by conv => lhs; whnf)) ?_
          refine p1 (x_ixs0 u51 sz9 rfl rfl (hN.sl.adr kStr_pos (by omega)) (by omega)) ?_
          refine o_storeSl1 (d := kStr) (i := i) (ByteArray.empty) rfl (by conv => lhs; whnf) rfl rfl hN (by omega) (by rfl) sz9 (Nat.zero_le _) (by decide) ?_
          intro w34 hN hM34
          have hX := hX.mod hM34 (Nat.le_refl _)
          have hD := hD.modT hM34 (by decide)
          have hB3 := hB3.mod hM34 (by decide)
          refine r_nil ?_
          refine b_n ?_
          refine t_n ?_
          refine r_plain ?_
          refine p1 (x_move (by conv => lhs; whnf)) ?_
          refine p1 (x_add rfl rfl (fits_i64 (by omega) (by omega))) ?_
          refine p1 (x_assign (by conv => lhs; whnf)) ?_
          refine r_nil ?_
          refine t_n (At.mk ((i + 1, zs.set i ByteArray.empty)) (by repeat (first | exact Agr.refl _ _ | exact Agr.hav _ _ _ | refine Agr.upd rfl ?_ | refine Agr.updR rfl ?_ | refine Agr.updL ?_ _ rfl | refine Agr.hav' rfl ?_)) ⟨rfl, trivial⟩ ?_)
          exact ⟨⟨hX, ⟨hN, hD, hB3, by omega, fun j hj => by rw [List.getD_eq_getElem?_getD, List.getElem?_set, if_neg (by omega), ← List.getD_eq_getElem?_getD]; exact hz j (by omega)⟩⟩, by show D.l.length - (i + 1) < D.l.length - i; omega⟩
      · try simp only [decide_eq_true_eq, decide_eq_false_iff_not, Bool.not_eq_true, Bool.not_eq_false, Bool.not_eq_eq_eq_not, Bool.not_true, Bool.not_false, Int.not_lt, Int.not_le] at hc44
        refine c_exit ?_
        refine t_e ?_
        refine t_e ?_
        refine b_hit ?_
        refine t_n ?_
        refine c_seq ?_
        refine r_plain ?_
        refine p1 (x_assign (by conv => lhs; whnf)) ?_
        refine r_nil ?_
        refine t_n ?_
        refine c_ret ?_
        refine end1 rfl (by conv => lhs; whnf) ?_
        exact ⟨rfl, hX⟩
    · skip
      refine g1 34 rfl rfl (x_load1 un4 rfl (hB3.cell (rfl))) ?_
      refine hop_end hQ24 ⟨hSr2, ?_⟩
      refine h_one 22 _ rfl (by kernel_rfl) (hop_of_list (fun Q22 hQ22 => ?_))
      refine g_drop 34 rfl rfl ?_
      refine o_call Try.func21 fn21 fb21 (disk_Down g _ D _ hD) rfl ?_
      rintro v35 w35 ⟨rfl, hE35⟩
      have hX := hX.ext hE35
      have hD := hD.ext hE35
      have hB3 := hB3.ext hE35
      have hN := hN.ext hE35
      have hSr2 := hSr2.ext hE35
      refine hop_end hQ22 ⟨hSr2, ?_⟩
      refine h_takeg 25 34 rfl rfl rfl (by kernel_rfl) (by kernel_rfl) (by kernel_rfl) hSr2 (fun wS hSS => by ( exact ((x_neq_bool u4 rfl rfl).cast (congrArg _ (decide_eq_false (fun h => h rfl)))))) ?_
      refine h_take 26 rfl (by kernel_rfl) (by kernel_rfl) (by kernel_rfl) hSr2 (fun wS hSS => by ( exact (x_pick_f rfl (by conv => lhs; whnf)))) ?_
      refine h_done (by kernel_rfl) ?_
      refine t_n ?_
      refine c_f rfl ?_
      refine c_skip ?_
      refine t_n ?_
      refine c_seq ?_
      refine c_seq ?_
      refine r_plain ?_
      refine p1 (x_assign (by conv => lhs; whnf)) ?_
      refine r_nil ?_
      refine t_n ?_
      refine c_block ?_
      refine c_loop (ι := Nat × List ByteArray) [4, 6, 7, 8, 9, 10, 11, 41, 42, 43, 44, 45, 46, 47, 48, 49, 50, 51, 52, 53, 54, 55, 56, 57, 58, 59, 60, 61, 62, 63, 64, 65, 66, 67, 68, 69, 70, 71, 72, 73, 74, 75, 76, 77, 78, 79, 80, 81, 82, 83, 84, 85, 86, 87, 88, 89, 90, 91, 92, 93, 94, 95, 96, 97, 98, 99, 100, 101, 102, 103] (fun (i, zs) => [(6, .int .i64 (i : Int))]) (fun (i, zs) w' => Ext w w' ∧ (Own kStr 9 0 w.heap.size w' qn D.l.length cn zs ∧ Dsk (fun j => S j ∧ j < w.heap.size) w' g D ∧ Blk w' g3 #[.int .i64 (D.most : Int), .slice p n c, .int .i64 (D.steps : Int), .bool (decide (0 ≤ D.left)), .int .i64 lf, .bool D.done, .bool D.down] 27 ∧ i ≤ D.l.length ∧ ∀ j, i ≤ j → zs.getD j ByteArray.empty = (D.l.map (·.1)).getD j ByteArray.empty)) (fun (i, zs) => D.l.length - i) ((0, (D.l.map (·.1)))) ⟨rfl, trivial⟩ ⟨hX, ⟨hN, hD, hB3, Nat.zero_le _, fun j _ => rfl⟩⟩ ?_
      rintro ⟨i, zs⟩ GL0 w36 ⟨hE36, hN, hD, hB3, hi, hz⟩
      have hX := hE36
      refine c_seq ?_
      refine c_seq ?_
      refine r_plain ?_
      refine p1 (x_move (by conv => lhs; whnf)) ?_
      refine p1 (x_move (by conv => lhs; whnf)) ?_
      refine p1 (x_len_slice u51 rfl) ?_
      refine p1 (x_lss rfl rfl) ?_
      refine r_nil ?_
      refine t_n ?_
      first | refine c_dec rfl (fun hc44 => ?_) (fun hc44 => ?_) | refine c_if rfl (fun hc44 => ?_) (fun hc44 => ?_)
      · try simp only [decide_eq_true_eq, decide_eq_false_iff_not, Bool.not_eq_true, Bool.not_eq_false, Bool.not_eq_eq_eq_not, Bool.not_true, Bool.not_false, Int.not_lt, Int.not_le] at hc44
        refine c_skip ?_
        refine t_n ?_
        refine c_seq ?_
        refine c_block ?_
        refine c_seq ?_
        refine r_plain ?_
        refine p1 (x_move (by conv => lhs; whnf)) ?_
        refine p1 (x_move (by conv => lhs; whnf)) ?_
        refine p1 (x_move (by conv => lhs; whnf)) ?_
        obtain ⟨xf, hx⟩ : ∃ x, D.l.getD i default = x := ⟨_, rfl⟩
        have hkl : i < D.l.length := by omega
        have hnm : zs.getD i ByteArray.empty = xf.1 := by rw [hz i (Nat.le_refl _), ← hx, List.getD_eq_getElem?_getD, List.getElem?_map, List.getD_eq_getElem?_getD, List.getElem?_eq_getElem hkl]; rfl
        have hxm : xf ∈ D.l := by rw [← hx, List.getD_eq_getElem?_getD, List.getElem?_eq_getElem hkl]; exact List.getElem_mem _
        have hks : xf.1.size ≤ 9223372036854775807 := by have := named_size32 (hnames xf hxm); omega
        have hfr : ∀ wz, Ext w wz → wz.rangeAt (ab p) (ao p + i * 3) [.string xf.1, .string (toStr (xf.2.1.take xf.2.2)), .string (toStr (xf.2.1.drop xf.2.2))] := fun wz hz => by have := (hl.ext hz).flRange i (by omega); rw [hx] at this; exact this
        refine p1 (x_ixs0 u51 sz9 rfl rfl (hN.sl.adr kStr_pos (by omega)) (by omega)) ?_
        refine p1 ((x_load1 un9 rfl (hN.sl.strAt _ (by omega))).cast (by rw [hnm])) ?_
        have hXs7 := hX.size
        refine o_call Try.func14 fn14 fb14 (disk_Read g _ D _ hD hok xf.1 hks) rfl ?_
        rintro v37 w37 ⟨⟨q7, n7, c7, rfl, hO⟩, hE37⟩
        have hX := hX.ext hE37
        have hN := hN.ext hE37
        have hD := hD.ext hE37
        have hB3 := hB3.ext hE37
        have hO := hO.lower hXs7
        refine p1 (x_move (by conv => lhs; whnf)) ?_
        refine p1 (x_extract rfl rfl) ?_
        refine p1 (x_extract rfl rfl) ?_
        refine p1 (x_assign (by conv => lhs; whnf)) ?_
        refine p1 (x_assign (by conv => lhs; whnf)) ?_
        refine r_nil ?_
        refine t_n ?_
        refine c_seq ?_
        refine r_held (fun w1 w2 => Ext w1 w2) mixed ?_
        intro w38 hE38
        have hX := hX.ext hE38
        have hN := hN.ext hE38
        have hD := hD.ext hE38
        have hB3 := hB3.ext hE38
        have hO := hO.ext hE38
        have hSr8 : (fun w1 w2 => Ext w1 w2) w38 w38 := Ext.refl w38
        refine h_take 0 rfl (by kernel_rfl) (by kernel_rfl) (by kernel_rfl) hSr8 (fun wS hSS => by (have hX := hX.ext hSS; have hN := hN.ext hSS; have hD := hD.ext hSS; have hB3 := hB3.ext hSS; have hO := hO.ext hSS; exact (x_loadB ua27 rfl hB3 (by exact sz27)))) ?_
        refine h_take 1 rfl (by kernel_rfl) (by kernel_rfl) (by kernel_rfl) hSr8 (fun wS hSS => by (have hX := hX.ext hSS; have hN := hN.ext hSS; have hD := hD.ext hSS; have hB3 := hB3.ext hSS; have hO := hO.ext hSS; exact (x_fieldAddr fo27_1 sz25 rfl))) ?_
        refine h_take 2 rfl (by kernel_rfl) (by kernel_rfl) (by kernel_rfl) hSr8 (fun wS hSS => by (have hX := hX.ext hSS; have hN := hN.ext hSS; have hD := hD.ext hSS; have hB3 := hB3.ext hSS; have hO := hO.ext hSS; exact (x_load1 un25 rfl (hB3.cell (rfl))))) ?_
        refine h_take 3 rfl (by kernel_rfl) (by kernel_rfl) (by kernel_rfl) hSr8 (fun wS hSS => by (have hX := hX.ext hSS; have hN := hN.ext hSS; have hD := hD.ext hSS; have hB3 := hB3.ext hSS; have hO := hO.ext hSS; exact (x_move (by conv => lhs; whnf)))) ?_
        refine h_take 4 rfl (by kernel_rfl) (by kernel_rfl) (by kernel_rfl) hSr8 (fun wS hSS => by (have hX := hX.ext hSS; have hN := hN.ext hSS; have hD := hD.ext hSS; have hB3 := hB3.ext hSS; have hO := hO.ext hSS; exact (x_ixs u25 sz81 rfl rfl ((hl.ext hX).adr kFl_pos (by omega)) (by omega) (by omega)))) ?_
        refine h_take 5 rfl (by kernel_rfl) (by kernel_rfl) (by kernel_rfl) hSr8 (fun wS hSS => by (have hX := hX.ext hSS; have hN := hN.ext hSS; have hD := hD.ext hSS; have hB3 := hB3.ext hSS; have hO := hO.ext hSS; exact (x_fieldAddr fo81_0 sz9 rfl))) ?_
        refine h_take 6 rfl (by kernel_rfl) (by kernel_rfl) (by kernel_rfl) hSr8 (fun wS hSS => by (have hX := hX.ext hSS; have hN := hN.ext hSS; have hD := hD.ext hSS; have hB3 := hB3.ext hSS; have hO := hO.ext hSS; exact (x_load1 un9 rfl (hfr _ hX 0 _ rfl)))) ?_
        refine h_one 7 _ rfl (by kernel_rfl) (hop_of_list (fun Q7 hQ7 => ?_))
        refine o_call Try.func15 fn15 fb15 (ref_Read D p n c lf _ (hl.ext hX) hlf hok hst xf.1 hks) rfl ?_
        rintro v39 w39 ⟨rfl, hE39⟩
        have hX := hX.ext hE39
        have hN := hN.ext hE39
        have hD := hD.ext hE39
        have hB3 := hB3.ext hE39
        have hO := hO.ext hE39
        have hSr8 := hSr8.ext hE39
        refine hop_end hQ7 ⟨hSr8, ?_⟩
        refine h_take 8 rfl (by kernel_rfl) (by kernel_rfl) (by kernel_rfl) hSr8 (fun wS hSS => by ( exact (x_move (by conv => lhs; whnf)))) ?_
        refine h_take 9 rfl (by kernel_rfl) (by kernel_rfl) (by kernel_rfl) hSr8 (fun wS hSS => by ( exact (x_extract rfl rfl))) ?_
        refine h_take 10 rfl (by kernel_rfl) (by kernel_rfl) (by kernel_rfl) hSr8 (fun wS hSS => by ( exact (x_extract rfl rfl))) ?_
        refine h_take 11 rfl (by kernel_rfl) (by kernel_rfl) (by kernel_rfl) hSr8 (fun wS hSS => by ( exact (x_assign (by conv => lhs; whnf)))) ?_
        refine h_take 12 rfl (by kernel_rfl) (by kernel_rfl) (by kernel_rfl) hSr8 (fun wS hSS => by ( exact (x_assign (by conv => lhs; whnf)))) ?_
        refine h_done (by kernel_rfl) ?_
        refine t_n ?_
        refine c_seq ?_
        refine c_seq ?_
        refine r_still mixed (by kernel_rfl) ?_
        intro w40 hE40
        have hX := hX.ext hE40
        have hN := hN.ext hE40
        have hD := hD.ext hE40
        have hB3 := hB3.ext hE40
        have hO := hO.ext hE40
        refine s1 (x_move (by conv => lhs; whnf)) ?_
        refine s1 (x_move (by conv => lhs; whnf)) ?_
        refine s1 (x_ixs0 u51 sz9 rfl rfl (hN.sl.adr kStr_pos (by omega)) (by omega)) ?_
        refine s1 ((x_load1 un9 rfl (hN.sl.strAt _ (by omega))).cast (by rw [hnm])) ?_
        refine s1 (x_fieldAddr fo27_1 sz25 rfl) ?_
        refine s1 (x_load1 un25 rfl (hB3.cell (rfl))) ?_
        refine s1 (x_move (by conv => lhs; whnf)) ?_
        refine s1 (x_ixs u25 sz81 rfl rfl ((hl.ext hX).adr kFl_pos (by omega)) (by omega) (by omega)) ?_
        refine s1 (x_fieldAddr fo81_0 sz9 rfl) ?_
        refine s1 (x_load1 un9 rfl (hfr _ hX 0 _ rfl)) ?_
        refine s1 ((x_neq_str rfl rfl).cast (congrArg _ (decide_eq_false (fun h => h rfl)))) ?_
        refine s1 (x_move (by conv => lhs; whnf)) ?_
        refine sg1 78 rfl rfl (x_move (by conv => lhs; whnf)) ?_
        refine sg1 78 rfl rfl (x_bytes_str u31 u5 u9 rfl hO.sl) ?_
        refine sg1 78 rfl rfl (x_move (by conv => lhs; whnf)) ?_
        refine sg1 78 rfl rfl ((x_neq_str rfl rfl).cast (congrArg _ (decide_eq_false (fun h => h rfl)))) ?_
        refine s1 (x_pick_f rfl (by conv => lhs; whnf)) ?_
        refine s1 (x_move (by conv => lhs; whnf)) ?_
        refine sg1 84 rfl rfl (x_move (by conv => lhs; whnf)) ?_
        refine sg1 84 rfl rfl (x_move (by conv => lhs; whnf)) ?_
        refine sg1 84 rfl rfl ((x_neq rfl rfl).cast (congrArg _ (decide_eq_false (fun h => h rfl)))) ?_
        refine s1 (x_pick_f rfl (by conv => lhs; whnf)) ?_
        refine s_nil ?_
        refine t_n ?_
        refine c_f rfl ?_
        refine c_skip ?_
        refine t_n ?_
        refine c_seq ?_
        refine c_seq ?_
        refine r_plain ?_
        refine p1 (x_assign (by conv => lhs; whnf)) ?_
        refine r_nil ?_
        refine t_n ?_
        refine c_block ?_
        have hW := OwnR.of (F := (fun j => S j ∧ j < w.heap.size)) hO (fun gq e h => by have h1 := (own_at hO gq e).1; have h2 : gq < w.heap.size := h.2; omega)
        have hcf := hO.sl.cap
        have hff := hO.sl.fit
        refine c_loop (ι := Nat) [11, 89, 90, 91, 92, 93, 94, 95, 96, 97, 98, 99, 100] (fun t => [(11, .int .i64 (t : Int))]) (fun t w' => Ext w w' ∧ (OwnR (fun j => S j ∧ j < w.heap.size) w.heap.size w' q7 n7 ∧ Own kStr 9 0 w.heap.size w' qn D.l.length cn zs ∧ Dsk (fun j => S j ∧ j < w.heap.size) w' g D ∧ Blk w' g3 #[.int .i64 (D.most : Int), .slice p n c, .int .i64 (D.steps : Int), .bool (decide (0 ≤ D.left)), .int .i64 lf, .bool D.done, .bool D.down] 27 ∧ t ≤ n7)) (fun t => n7 - t) (0) ⟨rfl, trivial⟩ ⟨hX, ⟨hW, hN, hD, hB3, Nat.zero_le _⟩⟩ ?_
        rintro t GL2 w41 ⟨hE41, hW, hN, hD, hB3, ht⟩
        have hX := hE41
        refine c_seq ?_
        refine c_seq ?_
        refine r_plain ?_
        refine p1 (x_move (by conv => lhs; whnf)) ?_
        refine p1 (x_move (by conv => lhs; whnf)) ?_
        refine p1 (x_len_slice u31 rfl) ?_
        refine p1 (x_lss rfl rfl) ?_
        refine r_nil ?_
        refine t_n ?_
        first | refine c_dec rfl (fun hc92 => ?_) (fun hc92 => ?_) | refine c_if rfl (fun hc92 => ?_) (fun hc92 => ?_)
        · try simp only [decide_eq_true_eq, decide_eq_false_iff_not, Bool.not_eq_true, Bool.not_eq_false, Bool.not_eq_eq_eq_not, Bool.not_true, Bool.not_false, Int.not_lt, Int.not_le] at hc92
          obtain ⟨gq, cur, hq7, hnF, hlow, hBq, hcs, hcell⟩ := hW.resolve_left (by omega)
          subst hq7
          obtain ⟨b, hb⟩ := hcell (0 + t) (by omega)
          refine c_skip ?_
          refine t_n ?_
          refine c_seq ?_
          refine c_block ?_
          refine r_plain ?_
          refine p1 (x_move (by conv => lhs; whnf)) ?_
          refine p1 (x_move (by conv => lhs; whnf)) ?_
          refine p1 (x_ixs0 u31 sz5 rfl rfl rfl (by omega)) ?_
          refine p1 ((x_load1 un5 rfl (hBq.cell hb)).cast (rfl : _ = Value.int .u8 (b.toNat : Int))) ?_
          refine p1 ((x_addw rfl rfl).cast (congrArg (Value.int .u8) (wrap_inc b))) ?_
          refine p1 (x_ixs0 u31 sz5 rfl rfl rfl (by omega)) ?_
          refine o_store1 rfl (by conv => lhs; whnf) rfl rfl sz5 hBq (by show 0 + t < _; omega) ?_
          intro w42 hP42
          have hX := hX.put hP42 hlow
          have hD := hD.oneF hP42.one hnF (by decide)
          have hB3 := hB3.one hP42.one (by decide)
          have hN := hN.mod (hP42.mod 0 (Nat.zero_le _)) (Nat.zero_le _) (by decide)
          have hW : OwnR (fun j => S j ∧ j < w.heap.size) w.heap.size w42 (some ⟨gq, 0, none⟩) n7 := .inr ⟨gq, _, rfl, hnF, hlow, hP42.blk, by rw [Array.size_setIfInBounds]; exact hcs, set_bytes (b := b + 1) hcs hcell⟩
          skip
          refine r_nil ?_
          refine b_n ?_
          refine t_n ?_
          refine r_plain ?_
          refine p1 (x_move (by conv => lhs; whnf)) ?_
          refine p1 (x_add rfl rfl (fits_i64 (by omega) (by omega))) ?_
          refine p1 (x_assign (by conv => lhs; whnf)) ?_
          refine r_nil ?_
          refine t_n (At.mk (t + 1) (by repeat (first | exact Agr.refl _ _ | exact Agr.hav _ _ _ | refine Agr.upd rfl ?_ | refine Agr.updR rfl ?_ | refine Agr.updL ?_ _ rfl | refine Agr.hav' rfl ?_)) ⟨rfl, trivial⟩ ?_)
          exact ⟨⟨hX, ⟨hW, hN, hD, hB3, by omega⟩⟩, by show n7 - (t + 1) < n7 - t; omega⟩
        · try simp only [decide_eq_true_eq, decide_eq_false_iff_not, Bool.not_eq_true, Bool.not_eq_false, Bool.not_eq_eq_eq_not, Bool.not_true, Bool.not_false, Int.not_lt, Int.not_le] at hc92
          refine c_exit ?_
          refine t_e ?_
          refine t_e ?_
          refine b_hit ?_
          refine t_n ?_
          refine r_plain ?_
          refine p1 (x_move (by conv => lhs; whnf)) ?_
          refine p1 (x_move (by conv => lhs; whnf)) ?_
          refine p1 (x_ixs0 u51 sz9 rfl rfl (hN.sl.adr kStr_pos (by omega)) (by omega)) ?_
          refine o_storeSl1 (d := kStr) (i := i) (ByteArray.empty) rfl (by conv => lhs; whnf) rfl rfl hN (by omega) (by rfl) sz9 (Nat.zero_le _) (by decide) ?_
          intro w43 hN hM43
          have hX := hX.mod hM43 (Nat.le_refl _)
          have hD := hD.modT hM43 (by decide)
          have hB3 := hB3.mod hM43 (by decide)
          refine r_nil ?_
          refine b_n ?_
          refine t_n ?_
          refine r_plain ?_
          refine p1 (x_move (by conv => lhs; whnf)) ?_
          refine p1 (x_add rfl rfl (fits_i64 (by omega) (by omega))) ?_
          refine p1 (x_assign (by conv => lhs; whnf)) ?_
          refine r_nil ?_
          refine t_n (At.mk ((i + 1, zs.set i ByteArray.empty)) (by repeat (first | exact Agr.refl _ _ | exact Agr.hav _ _ _ | refine Agr.upd rfl ?_ | refine Agr.updR rfl ?_ | refine Agr.updL ?_ _ rfl | refine Agr.hav' rfl ?_)) ⟨rfl, trivial⟩ ?_)
          exact ⟨⟨hX, ⟨hN, hD, hB3, by omega, fun j hj => by rw [List.getD_eq_getElem?_getD, List.getElem?_set, if_neg (by omega), ← List.getD_eq_getElem?_getD]; exact hz j (by omega)⟩⟩, by show D.l.length - (i + 1) < D.l.length - i; omega⟩
      · try simp only [decide_eq_true_eq, decide_eq_false_iff_not, Bool.not_eq_true, Bool.not_eq_false, Bool.not_eq_eq_eq_not, Bool.not_true, Bool.not_false, Int.not_lt, Int.not_le] at hc44
        refine c_exit ?_
        refine t_e ?_
        refine t_e ?_
        refine b_hit ?_
        refine t_n ?_
        refine c_seq ?_
        refine r_plain ?_
        refine p1 (x_assign (by conv => lhs; whnf)) ?_
        refine r_nil ?_
        refine t_n ?_
        refine c_ret ?_
        refine end1 rfl (by conv => lhs; whnf) ?_
        exact ⟨rfl, hX⟩
end Go.Proofs.Eng
end
section
set_option linter.unusedVariables false
set_option linter.unusedSimpArgs false
set_option maxRecDepth 100000
set_option maxHeartbeats 4000000
namespace Go.Proofs.Eng
open Go.RowKit
open Extern.Stop (cell)
theorem fb12 : Try.f12.body.isNone = false := by kernel_rfl
theorem fb13 : Try.f13.body.isNone = false := by kernel_rfl
theorem fb31 : Try.f31.body.isNone = false := by kernel_rfl
theorem fn12 : (Try.f12.name == "runtime.NumGoroutine") = false := by kernel_rfl
theorem fn13 : (Try.f13.name == "runtime.NumGoroutine") = false := by kernel_rfl
theorem fn31 : (Try.f31.name == "runtime.NumGoroutine") = false := by kernel_rfl
end Go.Proofs.Eng
end
section
set_option linter.unusedVariables false
set_option linter.unusedSimpArgs false
set_option maxRecDepth 100000
set_option maxHeartbeats 4000000
namespace Go.Proofs.Eng
open Go.RowKit
open Extern.Stop (cell)
theorem law_DiskReads (acts : List DAct) (e B : Nat) (p : Option Addr) (n c : Nat) (k : ByteArray) (hks : k.size ≤ 9223372036854775807) (w : World) (hA : Sl kDA e B w p n c acts) (hBB : B ≤ w.heap.size) (hs : n ≤ 4611686018427387000) (hdl : ∀ a ∈ acts, a.data.length ≤ 140737488351232) :
    Ret Try.prog 3 [.slice p n c, .string k] w (fun v w' => v = .bool true ∧ Ext w w') := by
  have hX := Ext.refl w
  refine enter 54 _ Try.func3 rfl rfl (Nat.le_of_ble_eq_true rfl) rfl ?_
  refine c_seq ?_
  refine r_plain ?_
  refine p1 (x_assign (by conv => lhs; whnf)) ?_
  refine r_nil ?_
  refine t_n ?_
  refine c_seq ?_
  refine r_plain ?_
  have hXs1 := hX.size
  refine o_call Try.func11 fn11 fb11 (disk_New 500 _) rfl ?_
  rintro v1 w1 ⟨⟨g, rfl, hD0⟩, hE1⟩
  have hX := hX.ext hE1
  have hD : Dsk (since w) w1 g (newD 500) := hD0.all (fun _ h => h.elim) hXs1
  skip
  refine o_call Try.func12 fn12 fb12 (ref_New 500 _) rfl ?_
  rintro v2 w2 ⟨⟨cs0, rfl, pr, nr, cr, lfr, rfl, hlr, hlfr⟩, hE2⟩
  have hX := hX.ext hE2
  have hD := hD.ext hE2
  have hXs6 := hX.size
  refine o_alloc zr27 ?_
  intro w3 g6 hN6
  have hE3 := hN6.ext
  have hX := hX.ext hE3
  have hD := hD.ext hE3
  have hlr := hlr.ext hE3
  have hB6 := hN6.blk
  refine p1 (x_assign (by conv => lhs; whnf)) ?_
  have hg6w : w.heap.size ≤ g6 := by rw [hN6.g_eq]; exact hXs6
  refine o_storeAll rfl (by conv => lhs; whnf) (by simp [Value.oneCell']) (by exact sz27) hB6 (by rfl) ?_
  intro w4 hP4
  have hX := hX.put hP4 (hg6w)
  have hD := hD.one hP4.one (by decide)
  have hlr := hlr.mod (hP4.mod 0 (Nat.zero_le _)) (Nat.zero_le _) (by decide)
  have hB6 := hP4.blk
  refine r_nil ?_
  refine t_n ?_
  refine c_seq ?_
  refine c_seq ?_
  refine r_plain ?_
  refine p1 (x_assign (by conv => lhs; whnf)) ?_
  refine r_nil ?_
  refine t_n ?_
  refine c_block ?_
  refine c_loop (ι := Nat × Option Addr × Nat × Nat × Int) [7, 14, 15, 16, 17, 18, 19, 20, 21, 22, 23, 24, 25, 26, 27, 28, 29] (fun (i, pr, nr, cr, lfr) => [(7, .int .i64 (i : Int))]) (fun (i, pr, nr, cr, lfr) w' => Ext w w' ∧ (i ≤ n ∧ Dsk (since w) w' g (playD (newD 500) (acts.take i)) ∧ Blk w' g6 #[.int .i64 ((playD (newD 500) (acts.take i)).most : Int), .slice pr nr cr, .int .i64 ((playD (newD 500) (acts.take i)).steps : Int), .bool (decide (0 ≤ (playD (newD 500) (acts.take i)).left)), .int .i64 lfr, .bool (playD (newD 500) (acts.take i)).done, .bool (playD (newD 500) (acts.take i)).down] 27 ∧ Sl kFl 81 0 w' pr nr cr (playD (newD 500) (acts.take i)).l ∧ LfOk (playD (newD 500) (acts.take i)) lfr)) (fun (i, pr, nr, cr, lfr) => n - i) ((0, pr, nr, cr, lfr)) ⟨rfl, trivial⟩ ⟨hX, ⟨Nat.zero_le _, hD, hB6, hlr, hlfr⟩⟩ ?_
  rintro ⟨i, pr, nr, cr, lfr⟩ GL0 w5 ⟨hE5, hi, hD, hB6, hlr, hlfr⟩
  have hX := hE5
  have hlen := hA.len
  have hG := good_play (most := 500) (acts.take i) _ 0 (good_new 500) (fun a ha => da_bound hA a (List.mem_of_mem_take ha))
  rw [Nat.zero_add, List.length_take] at hG
  have hGs := hG.steps
  have hGl := hG.left
  refine c_seq ?_
  refine c_seq ?_
  refine r_plain ?_
  refine p1 (x_move (by conv => lhs; whnf)) ?_
  refine p1 (x_move (by conv => lhs; whnf)) ?_
  refine p1 (x_len_slice u22 rfl) ?_
  refine p1 (x_lss rfl rfl) ?_
  refine r_nil ?_
  refine t_n ?_
  first | refine c_dec rfl (fun hc17 => ?_) (fun hc17 => ?_) | refine c_if rfl (fun hc17 => ?_) (fun hc17 => ?_)
  · try simp only [decide_eq_true_eq, decide_eq_false_iff_not, Bool.not_eq_true, Bool.not_eq_false, Bool.not_eq_eq_eq_not, Bool.not_true, Bool.not_false, Int.not_lt, Int.not_le] at hc17
    refine c_skip ?_
    refine t_n ?_
    refine c_seq ?_
    refine c_block ?_
    obtain ⟨q, m, c2, hr, hlo, hz1, hz2, hz3, hz4⟩ := hA.daAt i (by omega)
    obtain ⟨a, ha⟩ : ∃ a, acts.getD i default = a := ⟨_, rfl⟩
    have ham : a ∈ acts := by rw [← ha]; exact da_mem (n := _) rfl (by omega)
    rw [ha] at hr hlo hz1 hz2 hz3 hz4
    have hdm : m ≤ 140737488351232 := by rw [← hlo.len]; exact hdl a ham
    refine r_held (fun _ w2 => Ext w w2) mixed ?_
    intro w6 hE6
    have hX := hX.ext hE6
    have hD := hD.ext hE6
    have hB6 := hB6.ext hE6
    have hlr := hlr.ext hE6
    have hSr5 : (fun _ w2 => Ext w w2) w6 w6 := hX
    refine h_take 0 rfl (by kernel_rfl) (by kernel_rfl) (by kernel_rfl) hSr5 (fun wS hSS => by ( exact (x_move (by conv => lhs; whnf)))) ?_
    refine h_take 2 rfl (by kernel_rfl) (by kernel_rfl) (by kernel_rfl) hSr5 (fun wS hSS => by ( exact (x_move (by conv => lhs; whnf)))) ?_
    refine h_take 3 rfl (by kernel_rfl) (by kernel_rfl) (by kernel_rfl) hSr5 (fun wS hSS => by ( exact (x_move (by conv => lhs; whnf)))) ?_
    refine h_take 4 rfl (by kernel_rfl) (by kernel_rfl) (by kernel_rfl) hSr5 (fun wS hSS => by ( exact (x_ixs u22 sz33 rfl rfl ((hA.ext hX).adr kDA_pos (by omega)) (by omega) (by omega)))) ?_
    refine h_take 5 rfl (by kernel_rfl) (by kernel_rfl) (by kernel_rfl) hSr5 (fun wS hSS => by (have hX := hSS; exact (x_loadN ua33 rfl (by exact sz33) (fun j v hv => hX.cell (hr j v hv))))) ?_
    refine h_one 1 _ rfl (by kernel_rfl) (hop_of_list (fun Q1 hQ1 => ?_))
    refine p1 (x_loadB ua27 rfl hB6 (by exact sz27)) ?_
    refine hop_end hQ1 ⟨hSr5, ?_⟩
    refine h_one 6 _ rfl (by kernel_rfl) (hop_of_list (fun Q6 hQ6 => ?_))
    have hXs7 := hX.size
    refine o_call Try.func13 fn13 fb13 (law_do g (fun j => since w j ∧ j < w6.heap.size) (playD (newD 500) (acts.take i)) _ (hD.narrow (Nat.le_refl _)) hG.ok (by omega) hGl _ _ _ _ hlr hlfr (fun j h => h.2) a _ q m c2 (hlo.keep (hX.same _ [])) (fun j h => Nat.le_trans hBB h.1) hdm hz1 hz2 hz3 hz4) rfl ?_
    rintro v7 w7 ⟨⟨cs1, rfl, p9, n9, c9, lf9, rfl, hl9, hlf9⟩, hD2, hM2⟩
    have hD : Dsk (since w) w7 g (actD (playD (newD 500) (acts.take i)) a).1 := hD2.mono (fun k _ h => h.elim (fun h => h.1) (fun h => Nat.le_trans hXs7 h.1))
    have hX := hX.modS hM2 (fun j h => by have := (fun j h => h.1) j h; exact this)
    have hSr5 := hX
    have hB6 := hB6.modS hM2 (.inr (by decide))
    skip
    refine hop_end hQ6 ⟨hSr5, ?_⟩
    refine h_take 7 rfl (by kernel_rfl) (by kernel_rfl) (by kernel_rfl) hSr5 (fun wS hSS => by ( exact (x_move (by conv => lhs; whnf)))) ?_
    refine h_take 8 rfl (by kernel_rfl) (by kernel_rfl) (by kernel_rfl) hSr5 (fun wS hSS => by ( exact (x_extract rfl rfl))) ?_
    refine h_take 9 rfl (by kernel_rfl) (by kernel_rfl) (by kernel_rfl) hSr5 (fun wS hSS => by ( exact (x_extract rfl rfl))) ?_
    refine h_one 10 _ rfl (by kernel_rfl) (hop_of_list (fun Q10 hQ10 => ?_))
    refine o_storeAll rfl (by conv => lhs; whnf) (by simp [Value.oneCell']) (by exact sz27) hB6 (by rfl) ?_
    intro w8 hP8
    have hX := hX.put hP8 (hg6w)
    have hSr5 := hSr5.put hP8 (hg6w)
    have hD := hD.one hP8.one (by decide)
    have hB6 := hP8.blk
    have hl9 := hl9.mod (hP8.mod 0 (Nat.zero_le _)) (Nat.zero_le _) (by decide)
    refine hop_end hQ10 ⟨hSr5, ?_⟩
    refine h_done (by kernel_rfl) ?_
    refine b_n ?_
    refine t_n ?_
    refine r_plain ?_
    refine p1 (x_move (by conv => lhs; whnf)) ?_
    refine p1 (x_add rfl rfl (fits_i64 (by omega) (by omega))) ?_
    refine p1 (x_assign (by conv => lhs; whnf)) ?_
    refine r_nil ?_
    refine t_n (At.mk ((i + 1, p9, n9, c9, lf9)) (by repeat (first | exact Agr.refl _ _ | exact Agr.hav _ _ _ | refine Agr.upd rfl ?_ | refine Agr.updR rfl ?_ | refine Agr.updL ?_ _ rfl | refine Agr.hav' rfl ?_)) ⟨rfl, trivial⟩ ?_)
    exact ⟨⟨hX, ⟨by omega, by rw [take_da (by omega), ha, play_snoc]; exact hD, by rw [take_da (by omega), ha, play_snoc]; exact hB6, by rw [take_da (by omega), ha, play_snoc]; exact hl9, by rw [take_da (by omega), ha, play_snoc]; exact hlf9⟩⟩, by show n - (i + 1) < n - i; omega⟩
  · try simp only [decide_eq_true_eq, decide_eq_false_iff_not, Bool.not_eq_true, Bool.not_eq_false, Bool.not_eq_eq_eq_not, Bool.not_true, Bool.not_false, Int.not_lt, Int.not_le] at hc17
    refine c_exit ?_
    refine t_e ?_
    refine t_e ?_
    refine b_hit ?_
    refine t_n ?_
    refine c_seq ?_
    refine r_plain ?_
    refine p1 (x_move (by conv => lhs; whnf)) ?_
    refine p1 (x_move (by conv => lhs; whnf)) ?_
    refine o_call Try.func14 fn14 fb14 (disk_Read g _ (playD (newD 500) (acts.take i)) _ hD hG.ok k hks) rfl ?_
    rintro v9 w9 ⟨⟨q8, n8, c8, rfl, hO⟩, hE9⟩
    have hX := hX.ext hE9
    have hD := hD.ext hE9
    have hB6 := hB6.ext hE9
    have hlr := hlr.ext hE9
    refine p1 (x_move (by conv => lhs; whnf)) ?_
    refine p1 (x_extract rfl rfl) ?_
    refine p1 (x_extract rfl rfl) ?_
    refine p1 (x_assign (by conv => lhs; whnf)) ?_
    refine p1 (x_assign (by conv => lhs; whnf)) ?_
    refine r_nil ?_
    refine t_n ?_
    refine c_seq ?_
    refine r_plain ?_
    refine p1 (x_loadB ua27 rfl hB6 (by exact sz27)) ?_
    refine p1 (x_move (by conv => lhs; whnf)) ?_
    refine o_call Try.func15 fn15 fb15 (ref_Read (playD (newD 500) (acts.take i)) pr nr cr lfr _ hlr hlfr hG.ok (by omega) k hks) rfl ?_
    rintro v10 w10 ⟨rfl, hE10⟩
    have hX := hX.ext hE10
    have hD := hD.ext hE10
    have hB6 := hB6.ext hE10
    have hlr := hlr.ext hE10
    have hO := hO.ext hE10
    refine p1 (x_move (by conv => lhs; whnf)) ?_
    refine p1 (x_extract rfl rfl) ?_
    refine p1 (x_extract rfl rfl) ?_
    refine p1 (x_assign (by conv => lhs; whnf)) ?_
    refine p1 (x_assign (by conv => lhs; whnf)) ?_
    refine r_nil ?_
    refine t_n ?_
    refine c_seq ?_
    refine r_plain ?_
    refine p1 (x_move (by conv => lhs; whnf)) ?_
    refine p1 (x_bytes_str u31 u5 u9 rfl hO.sl) ?_
    refine p1 (x_move (by conv => lhs; whnf)) ?_
    refine p1 ((x_eql_str rfl rfl).cast (congrArg _ (decide_eq_true (by rfl)))) ?_
    refine p1 (x_move (by conv => lhs; whnf)) ?_
    refine g1 46 rfl rfl (x_move (by conv => lhs; whnf)) ?_
    refine g1 46 rfl rfl (x_move (by conv => lhs; whnf)) ?_
    refine g1 46 rfl rfl ((x_eql rfl rfl).cast (congrArg _ (decide_eq_true (by rfl)))) ?_
    refine p1 (x_pick_t rfl (by conv => lhs; whnf)) ?_
    refine p1 (x_move (by conv => lhs; whnf)) ?_
    refine g_drop 51 rfl rfl ?_
    refine o_call Try.func16 fn16 fb16 (disk_awake _) rfl ?_
    rintro v11 w11 ⟨rfl, hE11⟩
    have hX := hX.ext hE11
    have hD := hD.ext hE11
    have hB6 := hB6.ext hE11
    have hlr := hlr.ext hE11
    have hO := hO.ext hE11
    refine p1 (x_pick_t rfl (by conv => lhs; whnf)) ?_
    refine p1 (x_assign (by conv => lhs; whnf)) ?_
    refine r_nil ?_
    refine t_n ?_
    refine c_ret ?_
    refine end1 rfl (by conv => lhs; whnf) ?_
    exact ⟨rfl, hX⟩
theorem law_DiskPlays (most : Int) (acts : List DAct) (e B : Nat) (p : Option Addr) (n c : Nat) (w : World) (hA : Sl kDA e B w p n c acts) (hBB : B ≤ w.heap.size) (hs : n ≤ 4611686018427387000) (hdl : ∀ a ∈ acts, a.data.length ≤ 140737488351232) :
    Ret Try.prog 7 [.int .i64 most, .slice p n c] w (fun v w' => v = .bool true ∧ Ext w w') := by
  have hX := Ext.refl w
  refine enter 45 _ Try.func7 rfl rfl (Nat.le_of_ble_eq_true rfl) rfl ?_
  refine c_seq ?_
  refine r_plain ?_
  refine p1 (x_assign (by conv => lhs; whnf)) ?_
  refine r_nil ?_
  refine t_n ?_
  refine c_seq ?_
  refine r_plain ?_
  refine p1 (x_move (by conv => lhs; whnf)) ?_
  have hXs1 := hX.size
  refine o_call Try.func11 fn11 fb11 (disk_New most _) rfl ?_
  rintro v1 w1 ⟨⟨g, rfl, hD0⟩, hE1⟩
  have hX := hX.ext hE1
  have hD : Dsk (since w) w1 g (newD most) := hD0.all (fun _ h => h.elim) hXs1
  skip
  refine p1 (x_move (by conv => lhs; whnf)) ?_
  refine o_call Try.func12 fn12 fb12 (ref_New most _) rfl ?_
  rintro v2 w2 ⟨⟨cs0, rfl, pr, nr, cr, lfr, rfl, hlr, hlfr⟩, hE2⟩
  have hX := hX.ext hE2
  have hD := hD.ext hE2
  have hXs6 := hX.size
  refine o_alloc zr27 ?_
  intro w3 g6 hN6
  have hE3 := hN6.ext
  have hX := hX.ext hE3
  have hD := hD.ext hE3
  have hlr := hlr.ext hE3
  have hB6 := hN6.blk
  refine p1 (x_assign (by conv => lhs; whnf)) ?_
  have hg6w : w.heap.size ≤ g6 := by rw [hN6.g_eq]; exact hXs6
  refine o_storeAll rfl (by conv => lhs; whnf) (by simp [Value.oneCell']) (by exact sz27) hB6 (by rfl) ?_
  intro w4 hP4
  have hX := hX.put hP4 (hg6w)
  have hD := hD.one hP4.one (by decide)
  have hlr := hlr.mod (hP4.mod 0 (Nat.zero_le _)) (Nat.zero_le _) (by decide)
  have hB6 := hP4.blk
  refine r_nil ?_
  refine t_n ?_
  refine c_seq ?_
  refine c_seq ?_
  refine r_plain ?_
  refine p1 (x_move (by conv => lhs; whnf)) ?_
  refine p1 ((x_eql_ptrnil u23 rfl rfl).cast (congrArg _ (decide_eq_false (by simp)))) ?_
  refine r_nil ?_
  refine t_n ?_
  refine c_f rfl ?_
  refine c_skip ?_
  refine t_n ?_
  refine c_seq ?_
  refine r_plain ?_
  refine p1 (x_assign (by conv => lhs; whnf)) ?_
  refine r_nil ?_
  refine t_n ?_
  refine c_seq ?_
  refine c_seq ?_
  refine r_plain ?_
  refine p1 (x_assign (by conv => lhs; whnf)) ?_
  refine r_nil ?_
  refine t_n ?_
  refine c_block ?_
  refine c_loop (ι := Nat × Option Addr × Nat × Nat × Int) [4, 7, 8, 15, 16, 17, 18, 19, 20, 21, 22, 23, 24, 25, 26, 27, 28, 29, 30, 31, 32, 33, 34, 35, 36, 37, 38] (fun (i, pr, nr, cr, lfr) => [(8, .int .i64 (i : Int))]) (fun (i, pr, nr, cr, lfr) w' => Ext w w' ∧ (i ≤ n ∧ Dsk (since w) w' g (playD (newD most) (acts.take i)) ∧ Blk w' g6 #[.int .i64 ((playD (newD most) (acts.take i)).most : Int), .slice pr nr cr, .int .i64 ((playD (newD most) (acts.take i)).steps : Int), .bool (decide (0 ≤ (playD (newD most) (acts.take i)).left)), .int .i64 lfr, .bool (playD (newD most) (acts.take i)).done, .bool (playD (newD most) (acts.take i)).down] 27 ∧ Sl kFl 81 0 w' pr nr cr (playD (newD most) (acts.take i)).l ∧ LfOk (playD (newD most) (acts.take i)) lfr)) (fun (i, pr, nr, cr, lfr) => n - i) ((0, pr, nr, cr, lfr)) ⟨rfl, trivial⟩ ⟨hX, ⟨Nat.zero_le _, hD, hB6, hlr, hlfr⟩⟩ ?_
  rintro ⟨i, pr, nr, cr, lfr⟩ GL0 w5 ⟨hE5, hi, hD, hB6, hlr, hlfr⟩
  have hX := hE5
  have hlen := hA.len
  have hG := good_play (most := most) (acts.take i) _ 0 (good_new most) (fun a ha => da_bound hA a (List.mem_of_mem_take ha))
  rw [Nat.zero_add, List.length_take] at hG
  have hGs := hG.steps
  have hGl := hG.left
  refine c_seq ?_
  refine c_seq ?_
  refine r_plain ?_
  refine p1 (x_move (by conv => lhs; whnf)) ?_
  refine p1 (x_move (by conv => lhs; whnf)) ?_
  refine p1 (x_len_slice u22 rfl) ?_
  refine p1 (x_lss rfl rfl) ?_
  refine r_nil ?_
  refine t_n ?_
  first | refine c_dec rfl (fun hc18 => ?_) (fun hc18 => ?_) | refine c_if rfl (fun hc18 => ?_) (fun hc18 => ?_)
  · try simp only [decide_eq_true_eq, decide_eq_false_iff_not, Bool.not_eq_true, Bool.not_eq_false, Bool.not_eq_eq_eq_not, Bool.not_true, Bool.not_false, Int.not_lt, Int.not_le] at hc18
    refine c_skip ?_
    refine t_n ?_
    refine c_seq ?_
    refine c_block ?_
    refine c_seq ?_
    obtain ⟨q, m, c2, hr, hlo, hz1, hz2, hz3, hz4⟩ := hA.daAt i (by omega)
    obtain ⟨a, ha⟩ : ∃ a, acts.getD i default = a := ⟨_, rfl⟩
    have ham : a ∈ acts := by rw [← ha]; exact da_mem (n := _) rfl (by omega)
    rw [ha] at hr hlo hz1 hz2 hz3 hz4
    have hdm : m ≤ 140737488351232 := by rw [← hlo.len]; exact hdl a ham
    refine r_held (fun _ w2 => Ext w w2) mixed ?_
    intro w6 hE6
    have hX := hX.ext hE6
    have hD := hD.ext hE6
    have hB6 := hB6.ext hE6
    have hlr := hlr.ext hE6
    have hSr8 : (fun _ w2 => Ext w w2) w6 w6 := hX
    refine h_take 0 rfl (by kernel_rfl) (by kernel_rfl) (by kernel_rfl) hSr8 (fun wS hSS => by ( exact (x_move (by conv => lhs; whnf)))) ?_
    refine h_take 2 rfl (by kernel_rfl) (by kernel_rfl) (by kernel_rfl) hSr8 (fun wS hSS => by ( exact (x_move (by conv => lhs; whnf)))) ?_
    refine h_take 3 rfl (by kernel_rfl) (by kernel_rfl) (by kernel_rfl) hSr8 (fun wS hSS => by ( exact (x_move (by conv => lhs; whnf)))) ?_
    refine h_take 4 rfl (by kernel_rfl) (by kernel_rfl) (by kernel_rfl) hSr8 (fun wS hSS => by ( exact (x_ixs u22 sz33 rfl rfl ((hA.ext hX).adr kDA_pos (by omega)) (by omega) (by omega)))) ?_
    refine h_take 5 rfl (by kernel_rfl) (by kernel_rfl) (by kernel_rfl) hSr8 (fun wS hSS => by (have hX := hSS; exact (x_loadN ua33 rfl (by exact sz33) (fun j v hv => hX.cell (hr j v hv))))) ?_
    refine h_one 1 _ rfl (by kernel_rfl) (hop_of_list (fun Q1 hQ1 => ?_))
    refine p1 (x_loadB ua27 rfl hB6 (by exact sz27)) ?_
    refine hop_end hQ1 ⟨hSr8, ?_⟩
    refine h_one 6 _ rfl (by kernel_rfl) (hop_of_list (fun Q6 hQ6 => ?_))
    have hXs7 := hX.size
    refine o_call Try.func13 fn13 fb13 (law_do g (fun j => since w j ∧ j < w6.heap.size) (playD (newD most) (acts.take i)) _ (hD.narrow (Nat.le_refl _)) hG.ok (by omega) hGl _ _ _ _ hlr hlfr (fun j h => h.2) a _ q m c2 (hlo.keep (hX.same _ [])) (fun j h => Nat.le_trans hBB h.1) hdm hz1 hz2 hz3 hz4) rfl ?_
    rintro v7 w7 ⟨⟨cs1, rfl, p9, n9, c9, lf9, rfl, hl9, hlf9⟩, hD2, hM2⟩
    have hD : Dsk (since w) w7 g (actD (playD (newD most) (acts.take i)) a).1 := hD2.mono (fun k _ h => h.elim (fun h => h.1) (fun h => Nat.le_trans hXs7 h.1))
    have hX := hX.modS hM2 (fun j h => by have := (fun j h => h.1) j h; exact this)
    have hSr8 := hX
    have hB6 := hB6.modS hM2 (.inr (by decide))
    skip
    refine hop_end hQ6 ⟨hSr8, ?_⟩
    refine h_take 7 rfl (by kernel_rfl) (by kernel_rfl) (by kernel_rfl) hSr8 (fun wS hSS => by ( exact (x_move (by conv => lhs; whnf)))) ?_
    refine h_take 8 rfl (by kernel_rfl) (by kernel_rfl) (by kernel_rfl) hSr8 (fun wS hSS => by ( exact (x_extract rfl rfl))) ?_
    refine h_take 9 rfl (by kernel_rfl) (by kernel_rfl) (by kernel_rfl) hSr8 (fun wS hSS => by ( exact (x_extract rfl rfl))) ?_
    refine h_one 10 _ rfl (by kernel_rfl) (hop_of_list (fun Q10 hQ10 => ?_))
    refine o_storeAll rfl (by conv => lhs; whnf) (by simp [Value.oneCell']) (by exact sz27) hB6 (by rfl) ?_
    intro w8 hP8
    have hX := hX.put hP8 (hg6w)
    have hSr8 := hSr8.put hP8 (hg6w)
    have hD := hD.one hP8.one (by decide)
    have hB6 := hP8.blk
    have hl9 := hl9.mod (hP8.mod 0 (Nat.zero_le _)) (Nat.zero_le _) (by decide)
    refine hop_end hQ10 ⟨hSr8, ?_⟩
    refine h_take 11 rfl (by kernel_rfl) (by kernel_rfl) (by kernel_rfl) hSr8 (fun wS hSS => by ( exact (x_assign (by conv => lhs; whnf)))) ?_
    refine h_done (by kernel_rfl) ?_
    refine t_n ?_
    refine c_seq ?_
    have hG2 := good_act hG a hz4
    have hG2s := hG2.steps
    refine r_plain ?_
    refine p1 (x_move (by conv => lhs; whnf)) ?_
    refine p1 (x_not rfl) ?_
    refine p1 (x_move (by conv => lhs; whnf)) ?_
    refine g1 33 rfl rfl (x_move (by conv => lhs; whnf)) ?_
    refine g1 33 rfl rfl (x_loadB ua27 rfl hB6 (by exact sz27)) ?_
    refine g_drop 33 rfl rfl ?_
    refine o_call Try.func31 fn31 fb31 (law_same g _ (actD (playD (newD most) (acts.take i)) a).1 _ hD hG2.ok (by omega) hG2.names p9 n9 c9 lf9 hl9 hlf9) rfl ?_
    rintro v9 w9 ⟨rfl, hE9⟩
    have hX := hX.ext hE9
    have hD := hD.ext hE9
    have hB6 := hB6.ext hE9
    have hl9 := hl9.ext hE9
    refine g1 33 rfl rfl (x_not rfl) ?_
    refine p1 (x_pick_f rfl (by conv => lhs; whnf)) ?_
    refine r_nil ?_
    refine t_n ?_
    refine c_f rfl ?_
    refine c_skip ?_
    refine b_n ?_
    refine t_n ?_
    refine r_plain ?_
    refine p1 (x_move (by conv => lhs; whnf)) ?_
    refine p1 (x_add rfl rfl (fits_i64 (by omega) (by omega))) ?_
    refine p1 (x_assign (by conv => lhs; whnf)) ?_
    refine r_nil ?_
    refine t_n (At.mk ((i + 1, p9, n9, c9, lf9)) (by repeat (first | exact Agr.refl _ _ | exact Agr.hav _ _ _ | refine Agr.upd rfl ?_ | refine Agr.updR rfl ?_ | refine Agr.updL ?_ _ rfl | refine Agr.hav' rfl ?_)) ⟨rfl, trivial⟩ ?_)
    exact ⟨⟨hX, ⟨by omega, by rw [take_da (by omega), ha, play_snoc]; exact hD, by rw [take_da (by omega), ha, play_snoc]; exact hB6, by rw [take_da (by omega), ha, play_snoc]; exact hl9, by rw [take_da (by omega), ha, play_snoc]; exact hlf9⟩⟩, by show n - (i + 1) < n - i; omega⟩
  · try simp only [decide_eq_true_eq, decide_eq_false_iff_not, Bool.not_eq_true, Bool.not_eq_false, Bool.not_eq_eq_eq_not, Bool.not_true, Bool.not_false, Int.not_lt, Int.not_le] at hc18
    refine c_exit ?_
    refine t_e ?_
    refine t_e ?_
    refine b_hit ?_
    refine t_n ?_
    refine c_seq ?_
    refine r_plain ?_
    refine p1 (x_move (by conv => lhs; whnf)) ?_
    refine p1 (x_loadB ua27 rfl hB6 (by exact sz27)) ?_
    refine o_call Try.func31 fn31 fb31 (law_same g _ (playD (newD most) (acts.take i)) _ hD hG.ok (by omega) hG.names pr nr cr lfr hlr hlfr) rfl ?_
    rintro v10 w10 ⟨rfl, hE10⟩
    have hX := hX.ext hE10
    have hD := hD.ext hE10
    have hB6 := hB6.ext hE10
    have hlr := hlr.ext hE10
    refine p1 (x_move (by conv => lhs; whnf)) ?_
    refine g_drop 42 rfl rfl ?_
    refine o_call Try.func16 fn16 fb16 (disk_awake _) rfl ?_
    rintro v11 w11 ⟨rfl, hE11⟩
    have hX := hX.ext hE11
    have hD := hD.ext hE11
    have hB6 := hB6.ext hE11
    have hlr := hlr.ext hE11
    refine p1 (x_pick_t rfl (by conv => lhs; whnf)) ?_
    refine p1 (x_assign (by conv => lhs; whnf)) ?_
    refine r_nil ?_
    refine t_n ?_
    refine c_ret ?_
    refine end1 rfl (by conv => lhs; whnf) ?_
    exact ⟨rfl, hX⟩
end Go.Proofs.Eng
end
