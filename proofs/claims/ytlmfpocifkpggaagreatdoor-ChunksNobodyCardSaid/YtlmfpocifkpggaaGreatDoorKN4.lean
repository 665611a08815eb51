import Derived.Test.YtlmfpocifkpggaaGreatDoorKN3
import Derived.Shelf.SlSortCmp.InsertionK
import Derived.WalkKit
import Derived.WalkSpells
import Derived.WalkLawsBesides
import Derived.StillTailTactics
import Derived.Deep.MidRow
import Derived.Stop.BytesEq
import Derived.OrdersHeld
import Derived.KernelRfl
import Derived.Deep.AppendSrc
import Derived.Deep.DeepAppendWide
import Derived.Test.YtlmfpocifkpggaaGreatDoorProg
import Derived.Test.YtlmfpocifkpggaaGreatDoorSort
import Derived.Shelf.SlSortCmp.NoneTotal
set_option linter.unusedVariables false
set_option linter.unusedSimpArgs false
set_option linter.unusedSectionVars false
section
set_option maxRecDepth 100000
set_option maxHeartbeats 4000000
namespace Go.Proofs.Eng
open Go.RowKit
open Extern.Stop (cell)
theorem manifest_Get (xs : List UInt8) (B : Nat) (p : Option Addr) (n c : Nat) (w : World) (hl : Sl kByte 5 B w p n c xs) (hq : Qt w) :
    Ret Tryz.prog 93 [.slice p n c] w (fun v w' => (∃ (seg size : Int) (q : Option Addr) (m c' : Nat) (e : Int), v = .tuple #[.agg #[.int .i64 seg, .int .i64 size, .slice q m c'], .int .i64 e] ∧ ((e = 0 ∧ ∃ M : Mf, ManOf xs M ∧ seg = (M.seg : Int) ∧ size = (M.size : Int) ∧ Own kByte 5 0 w.heap.size w' q m c' M.index) ∨ (e = 4 ∧ ¬ ∃ M, ManOf xs M))) ∧ Ext w w') := by
 have hX := Ext.refl w
 refine enter 66 _ Tryz.func93 rfl rfl (Nat.le_of_ble_eq_true rfl) rfl ?_
 refine c_seq (r_plain ?_)
 have hz2 := hX.size
 refine o_alloc zr99 ?_
 intro w1 g2 hN2
 have hE1 := hN2.ext
 have hX := hX.ext hE1
 have hB2 := hN2.blk
 have hq2 := hN2.g_eq
 refine p1 (x_assign (by conv => lhs; whnf)) ?_
 refine r_nil (t_n (c_seq (r_plain ?_)))
 refine p1 (x_move (by conv => lhs; whnf)) ?_
 refine o_call Tryz.func133 fn133 fb133 (frame_Open xs _ _ _ _ _ (hl.ext hX) (hq.ext hX)) rfl ?_
 rintro v2 w2 ⟨⟨qo, mo, co, rfl, hO⟩, hE2⟩
 have hX := hX.ext hE2
 have hB2 := hB2.ext hE2
 have hO := hO.lower (Nat.zero_le _)
 refine p1 (x_move (by conv => lhs; whnf)) ?_
 refine p1 (x_extract rfl rfl) ?_
 refine p1 (x_extract rfl rfl) ?_
 refine p1 (x_extract rfl rfl) ?_
 have hz4 := hX.size
 have hl4_2 := hB2.lt
 refine o_alloc zr187 ?_
 intro w3 g4 hN4
 have hE3 := hN4.ext
 have hX := hX.ext hE3
 have hB2 := hB2.ext hE3
 have hO := hO.ext hE3
 have hB4 := hN4.blk
 have hq4 := hN4.g_eq
 refine o_storeAll rfl (by conv => lhs; whnf) (by simp [Value.oneCell']) (by exact sz187) hB4 (by rfl) ?_
 intro w4 hP4
 have hX := hX.put hP4 (by omega)
 have hB2 := hP4.keep hB2 (by omega)
 have hO := hO.mod (hP4.mod 0 (Nat.zero_le _)) (Nat.zero_le _) (by decide)
 have hB4 := hP4.blk
 refine p1 (x_assign (by conv => lhs; whnf)) ?_
 refine p1 (x_assign (by conv => lhs; whnf)) ?_
 refine r_nil (t_n (c_seq (c_seq ?_)))
 have hWr2 := Ext.refl w4
 refine c_cut (ι := Unit) [17, 18, 19, 20, 21, 22, 23] (fun _ => [(23, .bool (decide ((openF xs).2.2 ≠ 0 ∨ ((openF xs).1.1.toNat : Int) ≠ 3)))]) (fun _ w' => Ext w4 w') ?_ ?_
 ·skip
  refine r_plain ?_
  refine p1 (x_move (by conv => lhs; whnf)) ?_
  refine p1 (x_neq rfl rfl) ?_
  refine p1b (x_move (by conv => lhs; whnf)) (fun hb2_2 => ?_) (fun hb2_2 => ?_)
  ·try simp only [dA, dB, dC, dD, dE, dF, dG, Int.not_lt, Int.not_le] at hb2_2
   refine g0 19 rfl (by first | exact .inl rfl | exact .inr rfl) ?_
   refine g0 19 rfl (by first | exact .inl rfl | exact .inr rfl) ?_
   refine g0 19 rfl (by first | exact .inl rfl | exact .inr rfl) ?_
   refine p1 (x_pick_t rfl (by conv => lhs; whnf)) ?_
   refine r_nil ?_
   refine t_n (At.mk () (by repeat (first | exact Agr.refl _ _ | exact Agr.hav _ _ _ | refine Agr.upd rfl ?_ | refine Agr.updR rfl ?_ | refine Agr.updL ?_ _ rfl | refine Agr.hav' rfl ?_)) ⟨congrArg Value.bool (by first | rfl | exact (decide_eq_true (by omega)).symm | exact (decide_eq_false (by omega)).symm | exact decide_eq_decide.2 (by omega) | (simp_all; done) | grind), trivial⟩ hWr2)
  ·try simp only [dA, dB, dC, dD, dE, dF, dG, Int.not_lt, Int.not_le] at hb2_2
   refine g1 19 rfl rfl (x_fieldAddr fo187_0 sz5 rfl) ?_
   refine g1 19 rfl rfl (x_load1 un5 rfl (hB4.cell (rfl))) ?_
   refine g1 19 rfl rfl ((x_neq rfl rfl)) ?_
   refine p1 (x_pick_f rfl (by conv => lhs; whnf)) ?_
   refine r_nil ?_
   refine t_n (At.mk () (by repeat (first | exact Agr.refl _ _ | exact Agr.hav _ _ _ | refine Agr.upd rfl ?_ | refine Agr.updR rfl ?_ | refine Agr.updL ?_ _ rfl | refine Agr.hav' rfl ?_)) ⟨congrArg Value.bool (by first | rfl | exact (decide_eq_true (by omega)).symm | exact (decide_eq_false (by omega)).symm | exact decide_eq_decide.2 (by omega) | (simp_all; done) | grind), trivial⟩ hWr2)
 ·rintro _ Gr2 w5 hE5
  have hX := hX.ext hE5
  have hB2 := hB2.ext hE5
  have hO := hO.ext hE5
  have hB4 := hB4.ext hE5
  refine t_n ?_
  first | refine c_dec rfl (fun hc23 => ?_) (fun hc23 => ?_) | refine c_if rfl (fun hc23 => ?_) (fun hc23 => ?_)
  ·try simp only [dA, dB, dC, dD, dE, dF, dG, Int.not_lt, Int.not_le] at hc23
   have hno : ¬ ∃ M, ManOf xs M := fun ⟨M, hM⟩ => by
     have h9 := manOf_open hM
     rw [h9] at hc23
     simp at hc23
   refine c_seq (r_plain ?_)
   refine p1 (x_build0 pl99 rfl) ?_
   refine o_storeAll rfl (by conv => lhs; whnf) (by simp [Value.oneCell']) (by exact sz99) hB2 (by rfl) ?_
   intro w6 hP6
   have hX := hX.put hP6 (by omega)
   have hB2 := hP6.blk
   have hO := hO.mod (hP6.mod 0 (Nat.zero_le _)) (Nat.zero_le _) (by decide)
   have hB4 := hP6.keep hB4 (by omega)
   refine p1 (x_assign (by conv => lhs; whnf)) ?_
   refine r_nil (t_n (c_ret (t_r ?_)))
   refine end2c rfl ua99 rfl (by conv => lhs; whnf) hB2 sz99 ?_
   first
     | exact ⟨⟨0, 0, none, 0, 0, 4, rfl, .inr ⟨rfl, hno⟩⟩, hX⟩
     | exact ⟨⟨0, 0, none, 0, 0, 4, rfl, .inr ⟨rfl, fun ⟨M, hM⟩ => hb8_3 (hMx M hM).1⟩⟩, hX⟩
     | exact ⟨⟨0, 0, none, 0, 0, 4, rfl, .inr ⟨rfl, fun ⟨M, hM⟩ => hPn hb8_7 ⟨N1, N2, rfl, rfl, by have := (hMx M hM).2; rw [← this]; exact hM.1⟩⟩⟩, hX⟩
     | (refine ⟨⟨0, 0, none, 0, 0, 4, rfl, .inr ⟨rfl, fun ⟨M, hM⟩ => ?_⟩⟩, hX⟩
        have e1 : N1 = s := by omega
        have e2 : N2 = z := by omega
        subst e1 e2
        have h9 := (hMx M hM).2
        rw [h9] at hM
        have h8 := hM.2
        simp [h8] at hc63)
     | (have e1 : N1 = s := by omega
        have e2 : N2 = z := by omega
        subst e1 e2
        have h8 : manB ⟨N1, N2, ix⟩ = xs := by simpa using hc63
        exact ⟨⟨_, _, _, _, _, 0, rfl, .inl ⟨rfl, ⟨N1, N2, ix⟩, ⟨hok, h8⟩, rfl, rfl, hI⟩⟩, hX⟩)
  ·try simp only [dA, dB, dC, dD, dE, dF, dG, Int.not_lt, Int.not_le] at hc23
   have h0 : (openF xs).2.2 = 0 := Classical.byContradiction fun h => hc23 (.inl h)
   have hbl := (openF_ok h0).2.1
   have hbo : ∀ M, ManOf xs M → manBody M = (openF xs).1.2 := fun M h => by rw [manOf_open h]
   have hol := hO.len
   refine c_skip (t_n (c_seq (r_plain ?_)))
   refine p1 (x_fieldAddr fo187_1 sz23 rfl) ?_
   refine p1 (x_load1 un23 rfl (hB4.cell (rfl))) ?_
   have hXs7 := hX.size
   refine o_call Tryz.func136 fn136 fb136 (leb_Read (openF xs).1.2 _ _ _ _ _ hO.sl (by omega)) rfl ?_
   rintro v7 w7 ⟨⟨g7, rfl, hg7, hR⟩, hE7⟩
   have hX := hX.ext hE7
   have hB2 := hB2.ext hE7
   have hO := hO.ext hE7
   have hB4 := hB4.ext hE7
   have hg0 : w.heap.size ≤ g7 := by omega
   refine p1 (x_assign (by conv => lhs; whnf)) ?_
   refine r_nil (t_n (c_seq (r_plain ?_)))
   refine p1 (x_move (by conv => lhs; whnf)) ?_
   refine o_call Tryz.func137 fn137 fb137 (reader_UintG (openF xs).1.2 g7 0 _ hR 999999) rfl ?_
   rintro v8 w8 ⟨N1, e1, R1, rfl, hN51, hR, hT1, hM8⟩
   have hX := hX.mod hM8 (hg0)
   have hB2 := hB2.mod hM8 (by decide)
   have hO := hO.mod hM8 (Nat.zero_le _) (by decide)
   have hB4 := hB4.mod hM8 (by decide)
   refine p1 (x_convf u3 us180 rfl (fits_i64 (by omega) (by omega))) ?_
   refine p1 (x_move (by conv => lhs; whnf)) ?_
   refine o_call Tryz.func137 fn137 fb137 (reader_UintG R1 g7 e1 _ hR 16777216) rfl ?_
   rintro v9 w9 ⟨N2, e2, R2, rfl, hN52, hR, hT2, hM9⟩
   have hX := hX.mod hM9 (hg0)
   have hB2 := hB2.mod hM9 (by decide)
   have hO := hO.mod hM9 (Nat.zero_le _) (by decide)
   have hB4 := hB4.mod hM9 (by decide)
   refine p1 (x_convf u3 us180 rfl (fits_i64 (by omega) (by omega))) ?_
   refine p1 (x_build2of3 pl99 (by conv => lhs; whnf) (by conv => lhs; whnf) rfl rfl) ?_
   have hlt8 := hB4.lt
   obtain ⟨hRl, hRd, hRm⟩ := man_read hbo hT1 hT2
   have hlt4 := hB4.lt
   have hXs8 := hX.size
   have hz8 := hX.size
   have hl8_2 := hB2.lt
   have hl8_4 := hB4.lt
   refine o_alloc zr99 ?_
   intro w10 g8 hN8
   have hE10 := hN8.ext
   have hX := hX.ext hE10
   have hB2 := hB2.ext hE10
   have hO := hO.ext hE10
   have hB4 := hB4.ext hE10
   have hR := hR.ext hE10
   have hB8 := hN8.blk
   have hq8 := hN8.g_eq
   refine o_storeAll rfl (by conv => lhs; whnf) (by simp [Value.oneCell']) (by exact sz99) hB8 (by rfl) ?_
   intro w11 hP11
   have hX := hX.put hP11 (by omega)
   have hB2 := hP11.keep hB2 (by omega)
   have hO := hO.mod (hP11.mod 0 (Nat.zero_le _)) (Nat.zero_le _) (by decide)
   have hB4 := hP11.keep hB4 (by omega)
   have hR := hR.mod (hP11.mod 0 (Nat.zero_le _)) (Nat.zero_le _) (by decide)
   have hB8 := hP11.blk
   refine r_nil (t_n (c_seq ?_))
   have hg8 := hN8.g_eq
   have hcap := hO.sl.cap
   have hfit := hO.sl.fit
   refine r_held (fun _ w2 => Blk w2 g4 #[.int .u8 ((openF xs).1.1.toNat : Int), .slice qo mo co] 187) mixed ?_
   intro w12 hE12
   have hX := hX.ext hE12
   have hB2 := hB2.ext hE12
   have hO := hO.ext hE12
   have hB4 := hB4.ext hE12
   have hR := hR.ext hE12
   have hB8 := hB8.ext hE12
   have hSr6 : (fun _ w2 => Blk w2 g4 #[.int .u8 ((openF xs).1.1.toNat : Int), .slice qo mo co] 187) w12 w12 := hB4
   refine h_take 0 rfl (by kernel_rfl) (by kernel_rfl) (by kernel_rfl) hSr6 (fun wS hSS => by ( exact (x_fieldAddr fo187_1 sz23 rfl))) ?_
   refine h_take 1 rfl (by kernel_rfl) (by kernel_rfl) (by kernel_rfl) hSr6 (fun wS hSS => by (have hB4 := hSS; exact (x_load1 un23 rfl (hB4.cell (rfl))))) ?_
   refine h_take 2 rfl (by kernel_rfl) (by kernel_rfl) (by kernel_rfl) hSr6 (fun wS hSS => by ( exact (x_fieldAddr fo187_1 sz23 rfl))) ?_
   refine h_take 3 rfl (by kernel_rfl) (by kernel_rfl) (by kernel_rfl) hSr6 (fun wS hSS => by (have hB4 := hSS; exact (x_load1 un23 rfl (hB4.cell (rfl))))) ?_
   refine h_take 4 rfl (by kernel_rfl) (by kernel_rfl) (by kernel_rfl) hSr6 (fun wS hSS => by (have hB4 := hSS; exact (x_len_slice u23 rfl))) ?_
   refine h_take 5 rfl (by kernel_rfl) (by kernel_rfl) (by kernel_rfl) hSr6 (fun wS hSS => by ( exact (x_move (by conv => lhs; whnf)))) ?_
   refine h_one 6 _ rfl (by kernel_rfl) (hop_of_list (fun Q6 hQ6 => ?_))
   refine o_call Tryz.func138 fn138 fb138 (reader_Left R2 g7 e2 _ hR) rfl ?_
   rintro v13 w13 ⟨rfl, hE13⟩
   have hX := hX.ext hE13
   have hB2 := hB2.ext hE13
   have hO := hO.ext hE13
   have hB4 := hB4.ext hE13
   have hR := hR.ext hE13
   have hB8 := hB8.ext hE13
   have hSr6 := hSr6.ext hE13
   refine hop_end hQ6 ⟨hSr6, ?_⟩
   refine h_take 7 rfl (by kernel_rfl) (by kernel_rfl) (by kernel_rfl) hSr6 (fun wS hSS => by ( exact (x_sub rfl rfl (fits_i64 (by omega) (by omega))))) ?_
   refine h_take 8 rfl (by kernel_rfl) (by kernel_rfl) (by kernel_rfl) hSr6 (fun wS hSS => by ( exact (x_slice_l u23 sz5 rfl rfl (by omega) (by omega)))) ?_
   refine h_one 9 _ rfl (by kernel_rfl) (hop_of_list (fun Q9 hQ9 => ?_))
   have hX9 := hX.size
   obtain ⟨ix, hix⟩ : ∃ x, x = (openF xs).1.2.drop ((mo : Int) - (R2.length : Int)).toNat := ⟨_, rfl⟩
   refine o_call Tryz.func58 fn58 fb58 (slices_Clone_byte _ _ _ _ _ _ _ (hO.sl.dropI ((mo : Int) - (R2.length : Int)).toNat (by omega)) (by omega)) rfl ?_
   rintro v14 w14 ⟨⟨qi, ci, rfl, hI⟩, hE14⟩
   have hX := hX.ext hE14
   have hB2 := hB2.ext hE14
   have hO := hO.ext hE14
   have hB4 := hB4.ext hE14
   have hR := hR.ext hE14
   have hB8 := hB8.ext hE14
   have hSr6 := hSr6.ext hE14
   rw [← hix] at hI
   have hI := hI.lower hX9
   refine hop_end hQ9 ⟨hSr6, ?_⟩
   refine h_take 10 rfl (by kernel_rfl) (by kernel_rfl) (by kernel_rfl) hSr6 (fun wS hSS => by ( exact (x_fieldAddr fo99_2 sz23 rfl))) ?_
   refine h_one 11 _ rfl (by kernel_rfl) (hop_of_list (fun Q11 hQ11 => ?_))
   refine o_store1 rfl (by conv => lhs; whnf) rfl rfl sz23 hB8 (by first | exact Nat.zero_lt_one | simp) ?_
   intro w15 hP15
   have hX := hX.put hP15 (by omega)
   have hB2 := hP15.keep hB2 (by omega)
   have hO := hO.mod (hP15.mod 0 (Nat.zero_le _)) (Nat.zero_le _) (by decide)
   have hB4 := hP15.keep hB4 (by omega)
   have hR := hR.mod (hP15.mod 0 (Nat.zero_le _)) (Nat.zero_le _) (by decide)
   have hB8 := hP15.blk
   try simp only [List.setIfInBounds_toArray, List.set_cons_zero, List.set_cons_succ] at hB8
   have hSr6 := hP15.keep hSr6 (by omega)
   have hI := hI.mod (hP15.mod 0 (Nat.zero_le _)) (Nat.zero_le _) (by decide)
   refine hop_end hQ11 ⟨hSr6, ?_⟩
   refine h_done (by kernel_rfl) ?_
   refine t_n (c_seq (c_seq (r_plain ?_)))
   refine p1 (x_loadB ua99 rfl hB8 sz99) ?_
   refine o_call Tryz.func97 fn97 fb97 (manifest_Put (N1 : Int) (N2 : Int) ix _ _ _ _ _ hI.sl (hq.ext hX)) rfl ?_
   rintro v16 w16 ⟨⟨qp, mp, cp, ep, rfl, hpe, hP⟩, hE16⟩
   have hX := hX.ext hE16
   have hB2 := hB2.ext hE16
   have hO := hO.ext hE16
   have hB4 := hB4.ext hE16
   have hR := hR.ext hE16
   have hB8 := hB8.ext hE16
   have hI := hI.ext hE16
   have hPx : ∀ w2, Ext w16 w2 → ep = 0 → ∃ s z : Nat, (N1 : Int) = (s : Int) ∧ (N2 : Int) = (z : Int) ∧ (Mf.mk s z ix).Ok ∧ Own kByte 5 0 0 w2 qp mp cp (manB ⟨s, z, ix⟩) := fun w2 hx he => by
     obtain ⟨_, s, z, h1, h2, h3, h4⟩ := hP.resolve_right (fun h => h.1 he)
     exact ⟨s, z, h1, h2, h3, (h4.lower (Nat.zero_le _)).ext hx⟩
   have hPn : ep ≠ 0 → ¬ ∃ s z : Nat, (N1 : Int) = (s : Int) ∧ (N2 : Int) = (z : Int) ∧ (Mf.mk s z ix).Ok := fun he => (hP.resolve_left (fun h => he h.1)).2
   have hG7 := Ext.refl w16
   have hMx : ∀ M, ManOf xs M → e2 = 0 ∧ M = ⟨N1, N2, ix⟩ := fun M hM => by
     obtain ⟨g1, g2, g3, g4⟩ := hRm M hM
     have h9 := hRd g1
     have hk : ((mo : Int) - (R2.length : Int)).toNat = (openF xs).1.2.length - R2.length := by omega
     have h8 : ix = M.index := by rw [hix, hk, h9, g4]
     refine ⟨g1, ?_⟩
     cases M with | mk a b c => simp only at g2 g3 h8; rw [g2, g3, h8]
   refine p1 (x_move (by conv => lhs; whnf)) ?_
   refine p1 (x_extract rfl rfl) ?_
   refine p1 (x_extract rfl rfl) ?_
   refine p1 (x_assign (by conv => lhs; whnf)) ?_
   refine p1 (x_assign (by conv => lhs; whnf)) ?_
   refine r_nil (t_n (c_seq (r_plain ?_)))
   refine p1 (x_move (by conv => lhs; whnf)) ?_
   refine o_call Tryz.func139 fn139 fb139 (reader_Err R2 g7 e2 _ hR) rfl ?_
   rintro v17 w17 ⟨rfl, hE17⟩
   have hX := hX.ext hE17
   have hB2 := hB2.ext hE17
   have hO := hO.ext hE17
   have hB4 := hB4.ext hE17
   have hR := hR.ext hE17
   have hB8 := hB8.ext hE17
   have hI := hI.ext hE17
   have hG7 := hG7.ext hE17
   refine p1 (x_neq rfl rfl) ?_
   refine p1b (x_move (by conv => lhs; whnf)) (fun hb8_3 => ?_) (fun hb8_3 => ?_)
   ·try simp only [dA, dB, dC, dD, dE, dF, dG, Int.not_lt, Int.not_le] at hb8_3
    refine g0 54 rfl (by first | exact .inl rfl | exact .inr rfl) ?_
    refine g0 54 rfl (by first | exact .inl rfl | exact .inr rfl) ?_
    refine p1 (x_pick_t rfl (by conv => lhs; whnf)) ?_
    refine p1 (x_move (by conv => lhs; whnf)) ?_
    refine g0 58 rfl (by first | exact .inl rfl | exact .inr rfl) ?_
    refine g0 58 rfl (by first | exact .inl rfl | exact .inr rfl) ?_
    refine g0 58 rfl (by first | exact .inl rfl | exact .inr rfl) ?_
    refine g0 58 rfl (by first | exact .inl rfl | exact .inr rfl) ?_
    refine p1 (x_pick_t rfl (by conv => lhs; whnf)) ?_
    refine r_nil (t_n ?_)
    refine c_t rfl ?_
    refine c_seq (r_plain ?_)
    refine p1 (x_build0 pl99 rfl) ?_
    refine o_storeAll rfl (by conv => lhs; whnf) (by simp [Value.oneCell']) (by exact sz99) hB2 (by rfl) ?_
    intro w18 hP18
    have hX := hX.put hP18 (by omega)
    have hB2 := hP18.blk
    have hO := hO.mod (hP18.mod 0 (Nat.zero_le _)) (Nat.zero_le _) (by decide)
    have hB4 := hP18.keep hB4 (by omega)
    have hR := hR.mod (hP18.mod 0 (Nat.zero_le _)) (Nat.zero_le _) (by decide)
    have hB8 := hP18.keep hB8 (by omega)
    have hI := hI.mod (hP18.mod 0 (Nat.zero_le _)) (Nat.zero_le _) (by decide)
    refine p1 (x_assign (by conv => lhs; whnf)) ?_
    refine r_nil (t_n (c_ret (t_r ?_)))
    refine end2c rfl ua99 rfl (by conv => lhs; whnf) hB2 sz99 ?_
    first
      | exact ⟨⟨0, 0, none, 0, 0, 4, rfl, .inr ⟨rfl, hno⟩⟩, hX⟩
      | exact ⟨⟨0, 0, none, 0, 0, 4, rfl, .inr ⟨rfl, fun ⟨M, hM⟩ => hb8_3 (hMx M hM).1⟩⟩, hX⟩
      | exact ⟨⟨0, 0, none, 0, 0, 4, rfl, .inr ⟨rfl, fun ⟨M, hM⟩ => hPn hb8_7 ⟨N1, N2, rfl, rfl, by have := (hMx M hM).2; rw [← this]; exact hM.1⟩⟩⟩, hX⟩
      | (refine ⟨⟨0, 0, none, 0, 0, 4, rfl, .inr ⟨rfl, fun ⟨M, hM⟩ => ?_⟩⟩, hX⟩
         have e1 : N1 = s := by omega
         have e2 : N2 = z := by omega
         subst e1 e2
         have h9 := (hMx M hM).2
         rw [h9] at hM
         have h8 := hM.2
         simp [h8] at hc63)
      | (have e1 : N1 = s := by omega
         have e2 : N2 = z := by omega
         subst e1 e2
         have h8 : manB ⟨N1, N2, ix⟩ = xs := by simpa using hc63
         exact ⟨⟨_, _, _, _, _, 0, rfl, .inl ⟨rfl, ⟨N1, N2, ix⟩, ⟨hok, h8⟩, rfl, rfl, hI⟩⟩, hX⟩)
   ·try simp only [dA, dB, dC, dD, dE, dF, dG, Int.not_lt, Int.not_le] at hb8_3
    refine g1 54 rfl rfl (x_move (by conv => lhs; whnf)) ?_
    refine g1 54 rfl rfl (x_neq rfl rfl) ?_
    refine p1 (x_pick_f rfl (by conv => lhs; whnf)) ?_
    refine p1b (x_move (by conv => lhs; whnf)) (fun hb8_7 => ?_) (fun hb8_7 => ?_)
    ·try simp only [dA, dB, dC, dD, dE, dF, dG, Int.not_lt, Int.not_le] at hb8_7
     refine g0 58 rfl (by first | exact .inl rfl | exact .inr rfl) ?_
     refine g0 58 rfl (by first | exact .inl rfl | exact .inr rfl) ?_
     refine g0 58 rfl (by first | exact .inl rfl | exact .inr rfl) ?_
     refine g0 58 rfl (by first | exact .inl rfl | exact .inr rfl) ?_
     refine p1 (x_pick_t rfl (by conv => lhs; whnf)) ?_
     refine r_nil (t_n ?_)
     refine c_t rfl ?_
     refine c_seq (r_plain ?_)
     refine p1 (x_build0 pl99 rfl) ?_
     refine o_storeAll rfl (by conv => lhs; whnf) (by simp [Value.oneCell']) (by exact sz99) hB2 (by rfl) ?_
     intro w19 hP19
     have hX := hX.put hP19 (by omega)
     have hB2 := hP19.blk
     have hO := hO.mod (hP19.mod 0 (Nat.zero_le _)) (Nat.zero_le _) (by decide)
     have hB4 := hP19.keep hB4 (by omega)
     have hR := hR.mod (hP19.mod 0 (Nat.zero_le _)) (Nat.zero_le _) (by decide)
     have hB8 := hP19.keep hB8 (by omega)
     have hI := hI.mod (hP19.mod 0 (Nat.zero_le _)) (Nat.zero_le _) (by decide)
     refine p1 (x_assign (by conv => lhs; whnf)) ?_
     refine r_nil (t_n (c_ret (t_r ?_)))
     refine end2c rfl ua99 rfl (by conv => lhs; whnf) hB2 sz99 ?_
     first
       | exact ⟨⟨0, 0, none, 0, 0, 4, rfl, .inr ⟨rfl, hno⟩⟩, hX⟩
       | exact ⟨⟨0, 0, none, 0, 0, 4, rfl, .inr ⟨rfl, fun ⟨M, hM⟩ => hb8_3 (hMx M hM).1⟩⟩, hX⟩
       | exact ⟨⟨0, 0, none, 0, 0, 4, rfl, .inr ⟨rfl, fun ⟨M, hM⟩ => hPn hb8_7 ⟨N1, N2, rfl, rfl, by have := (hMx M hM).2; rw [← this]; exact hM.1⟩⟩⟩, hX⟩
       | (refine ⟨⟨0, 0, none, 0, 0, 4, rfl, .inr ⟨rfl, fun ⟨M, hM⟩ => ?_⟩⟩, hX⟩
          have e1 : N1 = s := by omega
          have e2 : N2 = z := by omega
          subst e1 e2
          have h9 := (hMx M hM).2
          rw [h9] at hM
          have h8 := hM.2
          simp [h8] at hc63)
       | (have e1 : N1 = s := by omega
          have e2 : N2 = z := by omega
          subst e1 e2
          have h8 : manB ⟨N1, N2, ix⟩ = xs := by simpa using hc63
          exact ⟨⟨_, _, _, _, _, 0, rfl, .inl ⟨rfl, ⟨N1, N2, ix⟩, ⟨hok, h8⟩, rfl, rfl, hI⟩⟩, hX⟩)
    ·try simp only [dA, dB, dC, dD, dE, dF, dG, Int.not_lt, Int.not_le] at hb8_7
     obtain ⟨s, z, hs1, hz1, hok, hOp⟩ := hPx _ hG7 (by omega)
     refine g1 58 rfl rfl (x_move (by conv => lhs; whnf)) ?_
     refine g1 58 rfl rfl (x_move (by conv => lhs; whnf)) ?_
     refine g_drop 58 rfl rfl ?_
     refine o_call Tryz.func140 fn140 fb140 (bytes_Equal_ret (manB ⟨s, z, ix⟩) xs _ hOp.sl (hl.ext hX)) rfl ?_
     rintro v20 w20 ⟨rfl, hE20⟩
     have hX := hX.ext hE20
     have hB2 := hB2.ext hE20
     have hO := hO.ext hE20
     have hB4 := hB4.ext hE20
     have hR := hR.ext hE20
     have hB8 := hB8.ext hE20
     have hI := hI.ext hE20
     have hG7 := hG7.ext hE20
     first | refine g1 58 rfl rfl (x_notd rfl) ?_ | refine g1 58 rfl rfl (x_not rfl) ?_
     refine p1 (x_pick_f rfl (by conv => lhs; whnf)) ?_
     refine r_nil (t_n ?_)
     first | refine c_dec rfl (fun hc63 => ?_) (fun hc63 => ?_) | refine c_if rfl (fun hc63 => ?_) (fun hc63 => ?_)
     ·try simp only [dA, dB, dC, dD, dE, dF, dG, Int.not_lt, Int.not_le] at hc63
      refine c_seq (r_plain ?_)
      refine p1 (x_build0 pl99 rfl) ?_
      refine o_storeAll rfl (by conv => lhs; whnf) (by simp [Value.oneCell']) (by exact sz99) hB2 (by rfl) ?_
      intro w21 hP21
      have hX := hX.put hP21 (by omega)
      have hB2 := hP21.blk
      have hO := hO.mod (hP21.mod 0 (Nat.zero_le _)) (Nat.zero_le _) (by decide)
      have hB4 := hP21.keep hB4 (by omega)
      have hR := hR.mod (hP21.mod 0 (Nat.zero_le _)) (Nat.zero_le _) (by decide)
      have hB8 := hP21.keep hB8 (by omega)
      have hI := hI.mod (hP21.mod 0 (Nat.zero_le _)) (Nat.zero_le _) (by decide)
      refine p1 (x_assign (by conv => lhs; whnf)) ?_
      refine r_nil (t_n (c_ret (t_r ?_)))
      refine end2c rfl ua99 rfl (by conv => lhs; whnf) hB2 sz99 ?_
      first
        | exact ⟨⟨0, 0, none, 0, 0, 4, rfl, .inr ⟨rfl, hno⟩⟩, hX⟩
        | exact ⟨⟨0, 0, none, 0, 0, 4, rfl, .inr ⟨rfl, fun ⟨M, hM⟩ => hb8_3 (hMx M hM).1⟩⟩, hX⟩
        | exact ⟨⟨0, 0, none, 0, 0, 4, rfl, .inr ⟨rfl, fun ⟨M, hM⟩ => hPn hb8_7 ⟨N1, N2, rfl, rfl, by have := (hMx M hM).2; rw [← this]; exact hM.1⟩⟩⟩, hX⟩
        | (refine ⟨⟨0, 0, none, 0, 0, 4, rfl, .inr ⟨rfl, fun ⟨M, hM⟩ => ?_⟩⟩, hX⟩
           have e1 : N1 = s := by omega
           have e2 : N2 = z := by omega
           subst e1 e2
           have h9 := (hMx M hM).2
           rw [h9] at hM
           have h8 := hM.2
           simp [h8] at hc63)
        | (have e1 : N1 = s := by omega
           have e2 : N2 = z := by omega
           subst e1 e2
           have h8 : manB ⟨N1, N2, ix⟩ = xs := by simpa using hc63
           exact ⟨⟨_, _, _, _, _, 0, rfl, .inl ⟨rfl, ⟨N1, N2, ix⟩, ⟨hok, h8⟩, rfl, rfl, hI⟩⟩, hX⟩)
     ·try simp only [dA, dB, dC, dD, dE, dF, dG, Int.not_lt, Int.not_le] at hc63
      refine c_skip (t_n (c_seq (r_plain ?_)))
      refine p1 (x_loadB ua99 rfl hB8 sz99) ?_
      refine o_storeAll rfl (by conv => lhs; whnf) (by simp [Value.oneCell']) (by exact sz99) hB2 (by rfl) ?_
      intro w22 hP22
      have hX := hX.put hP22 (by omega)
      have hB2 := hP22.blk
      have hO := hO.mod (hP22.mod 0 (Nat.zero_le _)) (Nat.zero_le _) (by decide)
      have hB4 := hP22.keep hB4 (by omega)
      have hR := hR.mod (hP22.mod 0 (Nat.zero_le _)) (Nat.zero_le _) (by decide)
      have hB8 := hP22.keep hB8 (by omega)
      have hI := hI.mod (hP22.mod 0 (Nat.zero_le _)) (Nat.zero_le _) (by decide)
      refine p1 (x_assign (by conv => lhs; whnf)) ?_
      refine r_nil (t_n (c_ret ?_))
      refine end2c rfl ua99 rfl (by conv => lhs; whnf) hB2 sz99 ?_
      first
        | exact ⟨⟨0, 0, none, 0, 0, 4, rfl, .inr ⟨rfl, hno⟩⟩, hX⟩
        | exact ⟨⟨0, 0, none, 0, 0, 4, rfl, .inr ⟨rfl, fun ⟨M, hM⟩ => hb8_3 (hMx M hM).1⟩⟩, hX⟩
        | exact ⟨⟨0, 0, none, 0, 0, 4, rfl, .inr ⟨rfl, fun ⟨M, hM⟩ => hPn hb8_7 ⟨N1, N2, rfl, rfl, by have := (hMx M hM).2; rw [← this]; exact hM.1⟩⟩⟩, hX⟩
        | (refine ⟨⟨0, 0, none, 0, 0, 4, rfl, .inr ⟨rfl, fun ⟨M, hM⟩ => ?_⟩⟩, hX⟩
           have e1 : N1 = s := by omega
           have e2 : N2 = z := by omega
           subst e1 e2
           have h9 := (hMx M hM).2
           rw [h9] at hM
           have h8 := hM.2
           simp [h8] at hc63)
        | (have e1 : N1 = s := by omega
           have e2 : N2 = z := by omega
           subst e1 e2
           have h8 : manB ⟨N1, N2, ix⟩ = xs := by simpa using hc63
           exact ⟨⟨_, _, _, _, _, 0, rfl, .inl ⟨rfl, ⟨N1, N2, ix⟩, ⟨hok, h8⟩, rfl, rfl, hI⟩⟩, hX⟩)
end Go.Proofs.Eng
end
section
set_option maxRecDepth 100000
set_option maxHeartbeats 4000000
namespace Go.Proofs.Eng
open Go.RowKit
open Extern.Stop (cell)
theorem fb100 : Tryz.f100.body.isNone = false := by kernel_rfl
theorem fb101 : Tryz.f101.body.isNone = false := by kernel_rfl
theorem fb102 : Tryz.f102.body.isNone = false := by kernel_rfl
theorem fb18 : Tryz.f18.body.isNone = false := by kernel_rfl
theorem fb19 : Tryz.f19.body.isNone = false := by kernel_rfl
theorem fb20 : Tryz.f20.body.isNone = false := by kernel_rfl
theorem fb45 : Tryz.f45.body.isNone = false := by kernel_rfl
theorem fb98 : Tryz.f98.body.isNone = false := by kernel_rfl
theorem fb99 : Tryz.f99.body.isNone = false := by kernel_rfl
theorem fn100 : (Tryz.f100.name == "runtime.NumGoroutine") = false := by kernel_rfl
theorem fn101 : (Tryz.f101.name == "runtime.NumGoroutine") = false := by kernel_rfl
theorem fn102 : (Tryz.f102.name == "runtime.NumGoroutine") = false := by kernel_rfl
theorem fn18 : (Tryz.f18.name == "runtime.NumGoroutine") = false := by kernel_rfl
theorem fn19 : (Tryz.f19.name == "runtime.NumGoroutine") = false := by kernel_rfl
theorem fn20 : (Tryz.f20.name == "runtime.NumGoroutine") = false := by kernel_rfl
theorem fn45 : (Tryz.f45.name == "runtime.NumGoroutine") = false := by kernel_rfl
theorem fn98 : (Tryz.f98.name == "runtime.NumGoroutine") = false := by kernel_rfl
theorem fn99 : (Tryz.f99.name == "runtime.NumGoroutine") = false := by kernel_rfl
theorem inf95 : (Tryz.prog.info? 95).map (fun i => (i.zero, i.size, i.bytes)) = some (some (.nilFunc), 1, 8) := by kernel_rfl
theorem sz95 : (Tryz.prog.info? 95).map (·.size) = some 1 := by kernel_rfl
theorem u149 : Tryz.prog.underlying 149 = some (.slice 95) := by kernel_rfl
theorem un95 : (Tryz.prog.underlying 95).map TypeDesc.isRow = some false := by kernel_rfl
theorem zr23 : (Tryz.prog.info? 23).map (·.zero) = some (some (.slice none 0 0)) := by kernel_rfl
end Go.Proofs.Eng
end
section
set_option maxRecDepth 100000
set_option maxHeartbeats 4000000
namespace Go.Proofs.Eng
open Go.RowKit
open Extern.Stop (cell)
theorem chunks_all (fs : List Clo) (I : Nat → World → Prop) (Q : Int → World → Prop) (B : Nat) (p : Option Addr) (n c : Nat) (w : World) (h0 : I 0 w) (hl : ∀ i w', I i w' → Sl kFn 95 B w' p n c fs)
    (hfs : ∀ i, i < n → ∃ fn, Tryz.prog.funcs[(fs.getD i default).1]? = some fn ∧ (fn.name == "runtime.NumGoroutine") = false ∧ fn.body.isNone = false ∧ ∀ w1, I i w1 → Ret Tryz.prog (fs.getD i default).1 (fs.getD i default).2 w1 (fun v w' => ∃ e : Int, v = .int .i64 e ∧ (e = 0 → I (i + 1) w') ∧ (e ≠ 0 → Q e w'))) :
    Ret Tryz.prog 45 [.slice p n c] w (fun v w' => ∃ e : Int, v = .int .i64 e ∧ (e = 0 → I n w') ∧ (e ≠ 0 → Q e w')) := by
 have hX := h0
 refine enter 18 _ Tryz.func45 rfl rfl (Nat.le_of_ble_eq_true rfl) rfl ?_
 refine c_seq (r_plain ?_)
 refine p1 (x_assign (by conv => lhs; whnf)) ?_
 refine r_nil (t_n (c_seq (c_seq (r_plain ?_))))
 refine p1 (x_move (by conv => lhs; whnf)) ?_
 refine p1 (x_len_slice u149 rfl) ?_
 refine p1 (x_move (by conv => lhs; whnf)) ?_
 refine r_nil (t_n (c_block ?_))
 have hlen := (hl 0 w h0).len
 have hcap := (hl 0 w h0).cap
 have hfit := (hl 0 w h0).fit
 refine c_loop (ι := Nat) [2, 4, 5, 8, 9, 10, 11, 12, 13, 14, 15, 16, 17] (fun k => [(8, .int .i64 (k : Int))]) (fun k w' => I k w' ∧ (k ≤ n)) (fun k => n - k) (0) ⟨rfl, trivial⟩ ⟨hX, by omega⟩ ?_
 rintro k GL0 w1 ⟨hE1, hk⟩
 have hX := hE1
 refine c_seq (r_plain ?_)
 refine p1 (x_lss rfl rfl) ?_
 refine r_nil (t_n (c_seq ?_))
 first | refine c_dec rfl (fun hc9 => ?_) (fun hc9 => ?_) | refine c_if rfl (fun hc9 => ?_) (fun hc9 => ?_)
 ·try simp only [dA, dB, dC, dD, dE, dF, dG, Int.not_lt, Int.not_le] at hc9
  refine c_skip (t_n (c_seq (c_block (c_seq (r_plain ?_)))))
  refine p1 (x_ixs0 u149 sz95 rfl rfl ((hl _ _ hX).adr kFn_pos (by omega)) (by omega)) ?_
  refine p1 (x_load1 un95 rfl ((hl _ _ hX).fnAt _ (by omega))) ?_
  refine p1 (x_assign (by conv => lhs; whnf)) ?_
  refine r_nil (t_n (c_seq (r_plain ?_)))
  refine p1 (x_move (by conv => lhs; whnf)) ?_
  obtain ⟨fn, hf, hnm, hbd, hcall⟩ := hfs k (by omega)
  refine o_callv (fs := []) (cs := (fs.getD k default).2) rfl hf hnm hbd rfl rfl (hcall _ hX) ?_
  rintro v2 w2 ⟨e, rfl, hI1, hQ1⟩
  refine p1 (x_assign (by conv => lhs; whnf)) ?_
  refine r_nil (t_n (c_seq (r_plain ?_)))
  refine p1 (x_move (by conv => lhs; whnf)) ?_
  refine p1 (x_neq rfl rfl) ?_
  refine r_nil (t_n ?_)
  first | refine c_dec rfl (fun hc15 => ?_) (fun hc15 => ?_) | refine c_if rfl (fun hc15 => ?_) (fun hc15 => ?_)
  ·try simp only [dA, dB, dC, dD, dE, dF, dG, Int.not_lt, Int.not_le] at hc15
   refine c_seq (r_plain ?_)
   refine p1 (x_move (by conv => lhs; whnf)) ?_
   refine p1 (x_assign (by conv => lhs; whnf)) ?_
   refine r_nil (t_n (c_ret (b_r (t_r (t_r (b_r (t_r ?_)))))))
   refine end1 rfl (by conv => lhs; whnf) ?_
   first
     | exact ⟨e, rfl, fun h => absurd h hc15, hQ1⟩
     | exact ⟨0, rfl, fun _ => by rw [show n = k from by omega]; exact hX, fun h => absurd rfl h⟩
  ·try simp only [dA, dB, dC, dD, dE, dF, dG, Int.not_lt, Int.not_le] at hc15
   have hX := hI1 (by omega)
   refine c_skip (b_n (t_n (r_plain ?_)))
   refine p1 (x_add rfl rfl (fits_i64 (by omega) (by omega))) ?_
   refine p1 (x_move (by conv => lhs; whnf)) ?_
   refine r_nil ?_
   refine t_n (At.mk (k + 1) (by repeat (first | exact Agr.refl _ _ | exact Agr.hav _ _ _ | refine Agr.upd rfl ?_ | refine Agr.updR rfl ?_ | refine Agr.updL ?_ _ rfl | refine Agr.hav' rfl ?_)) ⟨rfl, trivial⟩ ?_)
   exact ⟨⟨hX, by omega⟩, by first | (dsimp only; omega) | ((show _ < _); omega)⟩
 ·try simp only [dA, dB, dC, dD, dE, dF, dG, Int.not_lt, Int.not_le] at hc9
  refine c_exit (t_e (t_e (b_hit (t_n (c_seq (r_plain ?_))))))
  refine p1 (x_assign (by conv => lhs; whnf)) ?_
  refine r_nil (t_n (c_ret ?_))
  refine end1 rfl (by conv => lhs; whnf) ?_
  first
    | exact ⟨e, rfl, fun h => absurd h hc15, hQ1⟩
    | exact ⟨0, rfl, fun _ => by rw [show n = k from by omega]; exact hX, fun h => absurd rfl h⟩
theorem grow2 {S : Nat → Prop} {w w1 w' : World} (h1 : w.heap.size ≤ w1.heap.size) (h2 : w1.heap.size ≤ w'.heap.size) : ∀ k, k < w'.heap.size → grow (grow S w w1) w1 w' k → grow S w w' k := fun k hk hg => by
  rcases hg with (hs | ⟨a, b⟩) | ⟨a, b⟩
  · exact .inl hs
  · exact .inr ⟨a, by omega⟩
  · exact .inr ⟨by omega, b⟩
theorem all_disk (fs : List Clo) (ops : List (DS → DS × Int)) (κ : Nat → Nat) (gd : Nat) (S : Nat → Prop) (D : DS) (p : Option Addr) (n c : Nat) (w : World) (hD : Dsk S w gd D) (hg : DG D (κ 0)) (hl : Sl kFn 95 0 w p n c fs) (ho : ops.length = n)
    (hfs : ∀ i, i < n → ∃ fn, Tryz.prog.funcs[(fs.getD i default).1]? = some fn ∧ (fn.name == "runtime.NumGoroutine") = false ∧ fn.body.isNone = false ∧ ∀ Di w1, Dsk (grow S w w1) w1 gd Di → ModS S ED w w1 → DG Di (κ i) →
      Ret Tryz.prog (fs.getD i default).1 (fs.getD i default).2 w1 (fun v w' => v = .int .i64 ((ops.getD i fun D => (D, 0)) Di).2 ∧ Dsk (grow (grow S w w1) w1 w') w' gd ((ops.getD i fun D => (D, 0)) Di).1 ∧ ModS (grow S w w1) ED w1 w' ∧ DG ((ops.getD i fun D => (D, 0)) Di).1 (κ (i + 1)))) :
    Ret Tryz.prog 45 [.slice p n c] w (fun v w' => v = .int .i64 (runD ops D).2 ∧ Dsk (grow S w w') w' gd (runD ops D).1 ∧ ModS S ED w w') := by
  refine ⟨Calls.mono (chunks_all fs (fun i w' => ∃ Di, Dsk (grow S w w') w' gd Di ∧ ModS S ED w w' ∧ DG Di (κ i) ∧ runD ops D = runD (ops.drop i) Di) (fun e w' => e = (runD ops D).2 ∧ Dsk (grow S w w') w' gd (runD ops D).1 ∧ ModS S ED w w') 0 p n c w
    ⟨D, hD.grown w, .refl _ _ _, hg, rfl⟩ (fun i w' ⟨Di, _, m, _⟩ => hl.modS m (fun _ _ => Nat.zero_le _) (by decide)) fun i hi => ?_).out ?_⟩
  · obtain ⟨fn, h1, h2, h3, h4⟩ := hfs i hi
    refine ⟨fn, h1, h2, h3, fun w1 ⟨Di, hDi, m, hgi, hr⟩ => ⟨Calls.mono (h4 Di w1 hDi m hgi).out ?_⟩⟩
    rintro e w' ⟨v, rfl, rfl, hD', m', hg'⟩
    have hd := runD_drop (ops := ops) (i := i) (by omega) Di
    have hD2 : Dsk (grow S w w') w' gd ((ops.getD i fun D => (D, 0)) Di).1 := hD'.mono (grow2 m.size m'.size)
    refine ⟨_, rfl, _, rfl, fun h0 => ⟨_, hD2, m.step m', hg', ?_⟩, fun h0 => ?_⟩
    · rw [hr, hd, andD, if_pos h0]
    · have : runD ops D = (ops.getD i fun D => (D, 0)) Di := by rw [hr, hd, andD, if_neg h0]
      rw [this]; exact ⟨rfl, hD2, m.step m'⟩
  · rintro e w' ⟨v, rfl, e', rfl, h1, h2⟩
    refine ⟨_, rfl, ?_⟩
    by_cases h0 : e' = 0
    · obtain ⟨Di, a, b, _, hr⟩ := h1 h0
      have hz : ops.drop n = [] := List.drop_eq_nil_of_le (by omega)
      rw [hz] at hr
      rw [hr, h0]; exact ⟨rfl, a, b⟩
    · obtain ⟨a, b, c⟩ := h2 h0
      rw [a]; exact ⟨rfl, b, c⟩
theorem write_1 (gd : Nat) (S : Nat → Prop) (D : DS) (w : World) (hD : Dsk S w gd D) (hok : DOk D) (hst : D.steps < 4611686018427387904) (hle : D.left ≤ 9223372036854775807) (hnm : ∀ x ∈ D.l, namedD x.1 = true) (b0 : Nat) (hb0 : Blk w b0 #[.pointer (some ⟨gd, 0, none⟩)] 34) :
    Ret Tryz.prog 98 [.pointer (some ⟨b0, 0, none⟩)] w (fun v w' => v = .int .i64 (createD D nNew).2 ∧ Dsk (grow S w w') w' gd (createD D nNew).1 ∧ ModS S ED w w') := by
 have hX := Ext.refl w
 refine enter 4 _ Tryz.func98 rfl rfl (Nat.le_of_ble_eq_true rfl) rfl ?_
 refine c_seq (r_plain ?_)
 refine p1 (x_assign (by conv => lhs; whnf)) ?_
 refine r_nil (t_n (c_seq (r_plain ?_)))
 refine p1 (x_load1 un34 rfl (hb0.cell (rfl))) ?_
 have hXs := hX.size
 refine o_call Tryz.func18 fn18 fb18 (disk_Create gd S D _ hD hok hst hle nNew (by decide)) rfl ?_
 rintro v1 w1 ⟨rfl, hD2, hM2⟩
 refine p1 (x_assign (by conv => lhs; whnf)) ?_
 refine r_nil (t_n (c_ret ?_))
 refine end1 rfl (by conv => lhs; whnf) ?_
 exact ⟨rfl, hD2.wide hXs, (ModS.ofExt hX).trans hM2 (fun _ _ h => h)⟩
theorem write_3 (gd : Nat) (S : Nat → Prop) (D : DS) (w : World) (hD : Dsk S w gd D) (hok : DOk D) (hst : D.steps < 4611686018427387904) (hle : D.left ≤ 9223372036854775807) (hnm : ∀ x ∈ D.l, namedD x.1 = true) (b0 : Nat) (hb0 : Blk w b0 #[.pointer (some ⟨gd, 0, none⟩)] 34) :
    Ret Tryz.prog 100 [.pointer (some ⟨b0, 0, none⟩)] w (fun v w' => v = .int .i64 (syncD D nNew).2 ∧ Dsk (grow S w w') w' gd (syncD D nNew).1 ∧ ModS S ED w w') := by
 have hX := Ext.refl w
 refine enter 4 _ Tryz.func100 rfl rfl (Nat.le_of_ble_eq_true rfl) rfl ?_
 refine c_seq (r_plain ?_)
 refine p1 (x_assign (by conv => lhs; whnf)) ?_
 refine r_nil (t_n (c_seq (r_plain ?_)))
 refine p1 (x_load1 un34 rfl (hb0.cell (rfl))) ?_
 have hXs := hX.size
 refine o_call Tryz.func20 fn20 fb20 (disk_Sync gd S D _ hD hok hst hle nNew (by decide)) rfl ?_
 rintro v1 w1 ⟨rfl, hD2, hM2⟩
 refine p1 (x_assign (by conv => lhs; whnf)) ?_
 refine r_nil (t_n (c_ret ?_))
 refine end1 rfl (by conv => lhs; whnf) ?_
 exact ⟨rfl, hD2.wide hXs, (ModS.ofExt hX).trans hM2 (fun _ _ h => h)⟩
theorem write_4 (gd : Nat) (S : Nat → Prop) (D : DS) (w : World) (hD : Dsk S w gd D) (hok : DOk D) (hst : D.steps < 4611686018427387904) (hle : D.left ≤ 9223372036854775807) (hnm : ∀ x ∈ D.l, namedD x.1 = true) (b0 : Nat) (hb0 : Blk w b0 #[.pointer (some ⟨gd, 0, none⟩)] 34) :
    Ret Tryz.prog 101 [.pointer (some ⟨b0, 0, none⟩)] w (fun v w' => v = .int .i64 (renameD D nNew nMan).2 ∧ Dsk (grow S w w') w' gd (renameD D nNew nMan).1 ∧ ModS S ED w w') := by
 have hX := Ext.refl w
 refine enter 4 _ Tryz.func101 rfl rfl (Nat.le_of_ble_eq_true rfl) rfl ?_
 refine c_seq (r_plain ?_)
 refine p1 (x_assign (by conv => lhs; whnf)) ?_
 refine r_nil (t_n (c_seq (r_plain ?_)))
 refine p1 (x_load1 un34 rfl (hb0.cell (rfl))) ?_
 have hXs := hX.size
 refine o_call Tryz.func102 fn102 fb102 (disk_Rename gd S D _ hD hok hst hle nNew nMan (by decide) (by decide)) rfl ?_
 rintro v1 w1 ⟨rfl, hD2, hM2⟩
 refine p1 (x_assign (by conv => lhs; whnf)) ?_
 refine r_nil (t_n (c_ret ?_))
 refine end1 rfl (by conv => lhs; whnf) ?_
 exact ⟨rfl, hD2.wide hXs, (ModS.ofExt hX).trans hM2 (fun _ _ h => h)⟩
theorem write_2 (gd : Nat) (S : Nat → Prop) (D : DS) (w : World) (hD : Dsk S w gd D) (hok : DOk D) (hst : D.steps < 4611686018427387904) (hle : D.left ≤ 9223372036854775807) (hnm : ∀ x ∈ D.l, namedD x.1 = true) (b0 b1 e B : Nat) (p : Option Addr) (n c : Nat) (ys : By) (hb0 : Blk w b0 #[.pointer (some ⟨gd, 0, none⟩)] 34) (hb1 : Blk w b1 #[.slice p n c] 23) (hl : Sl kByte e B w p n c ys) :
    Ret Tryz.prog 99 [.pointer (some ⟨b0, 0, none⟩), .pointer (some ⟨b1, 0, none⟩)] w (fun v w' => v = .int .i64 (appendD D nNew ys).2 ∧ Dsk (grow S w w') w' gd (appendD D nNew ys).1 ∧ ModS S ED w w') := by
 have hX := Ext.refl w
 refine enter 6 _ Tryz.func99 rfl rfl (Nat.le_of_ble_eq_true rfl) rfl ?_
 refine c_seq (r_plain ?_)
 refine p1 (x_assign (by conv => lhs; whnf)) ?_
 refine r_nil (t_n (c_seq (r_plain ?_)))
 refine p1 (x_load1 un34 rfl (hb0.cell (rfl))) ?_
 refine p1 (x_load1 un23 rfl (hb1.cell (rfl))) ?_
 have hXs := hX.size
 refine o_call Tryz.func19 fn19 fb19 (disk_Append gd S D _ hD hok hst hle nNew (by decide) e B _ _ _ _ hl) rfl ?_
 rintro v1 w1 ⟨rfl, hD2, hM2⟩
 refine p1 (x_assign (by conv => lhs; whnf)) ?_
 refine r_nil (t_n (c_ret ?_))
 refine end1 rfl (by conv => lhs; whnf) ?_
 exact ⟨rfl, hD2.wide hXs, (ModS.ofExt hX).trans hM2 (fun _ _ h => h)⟩
theorem Ret.and {P : Program} {g : FuncId} {as_ : List Value} {w : World} {R : Value → World → Prop} {Q : Prop} (h : Ret P g as_ w R) (hq : Q) : Ret P g as_ w (fun v w' => R v w' ∧ Q) :=
  ⟨Calls.mono h.out fun e w' ⟨v, h1, h2⟩ => ⟨v, h1, h2, hq⟩⟩
theorem Ret.imp {P : Program} {g : FuncId} {as_ : List Value} {w : World} {R R' : Value → World → Prop} (h : Ret P g as_ w R) (hq : ∀ v w', R v w' → R' v w') : Ret P g as_ w R' :=
  ⟨Calls.mono h.out fun e w' ⟨v, h1, h2⟩ => ⟨v, h1, hq _ _ h2⟩⟩
theorem Ret.dg {P : Program} {g : FuncId} {as_ : List Value} {w : World} {A : Value → World → Prop} {B C : World → Prop} {Q : Prop} (h : Ret P g as_ w (fun v w' => A v w' ∧ B w' ∧ C w')) (hq : Q) : Ret P g as_ w (fun v w' => A v w' ∧ B w' ∧ C w' ∧ Q) :=
  h.imp fun _ _ ⟨a, b, c⟩ => ⟨a, b, c, hq⟩
theorem chunks_write (gd : Nat) (S : Nat → Prop) (D : DS) (w : World) (hD : Dsk S w gd D) (hok : DOk D) (hst : D.steps < 4611686018427380000) (hle : D.left ≤ 9223372036854775807) (hnm : ∀ x ∈ D.l, namedD x.1 = true) (s z : Nat) (xs : By) (e B : Nat) (p : Option Addr) (n c : Nat) (hl : Sl kByte 5 B w p n c xs) (hq : Qt w) :
    Ret Tryz.prog 51 [.pointer (some ⟨gd, 0, none⟩), .agg #[.int .i64 (s : Int), .int .i64 (z : Int), .slice p n c]] w (fun v w' => v = .int .i64 (writeM D ⟨s, z, xs⟩).2 ∧ Dsk (grow S w w') w' gd (writeM D ⟨s, z, xs⟩).1 ∧ ModS S ED w w') := by
 have hD := hD.narrow (Nat.le_refl _)
 have hX := Ext.refl w
 refine enter 21 _ Tryz.func51 rfl rfl (Nat.le_of_ble_eq_true rfl) rfl ?_
 refine c_seq (r_plain ?_)
 have hz2 := hX.size
 refine o_box1 (by conv => lhs; whnf) rfl ?_
 intro w1 g2 hN2
 have hE1 := hN2.ext
 have hX := hX.ext hE1
 have hD := hD.ext hE1
 have hB2 := hN2.blk
 have hq2 := hN2.g_eq
 have hz3 := hX.size
 have hl3_2 := hB2.lt
 refine o_boxA (by conv => lhs; whnf) ?_
 intro w2 g3 hN3
 have hE2 := hN3.ext
 have hX := hX.ext hE2
 have hD := hD.ext hE2
 have hB2 := hB2.ext hE2
 have hB3 := hN3.blk
 have hq3 := hN3.g_eq
 refine p1 (x_assign (by conv => lhs; whnf)) ?_
 refine r_nil (t_n (c_seq (r_plain ?_)))
 refine p1 (x_loadB ua99 rfl hB3 (by exact sz99)) ?_
 have hXw := hX.size
 refine o_call Tryz.func97 fn97 fb97 (manifest_Put (s : Int) (z : Int) xs _ _ _ _ _ (hl.ext hX) (hq.ext hX)) rfl ?_
 rintro v3 w3 ⟨⟨qp, mp, cp, ep, rfl, hpe, hP⟩, hE3⟩
 have hX := hX.ext hE3
 have hD := hD.ext hE3
 have hB2 := hB2.ext hE3
 have hB3 := hB3.ext hE3
 have hPx : ∀ w2, Ext w3 w2 → ep = 0 → Own kByte 5 0 w.heap.size w2 qp mp cp (manB ⟨s, z, xs⟩) := fun w2 hx he => by
   obtain ⟨_, s2, z2, hs2, hz2, _, hOw⟩ := hP.resolve_right (fun h => h.1 he)
   have e1 : s2 = s := by omega
   have e2 : z2 = z := by omega
   subst e1 e2
   exact (hOw.lower hXw).ext hx
 have hG := Ext.refl w3
 refine p1 (x_move (by conv => lhs; whnf)) ?_
 refine p1 (x_extract rfl rfl) ?_
 refine p1 (x_extract rfl rfl) ?_
 have hz5 := hX.size
 have hl5_2 := hB2.lt
 have hl5_3 := hB3.lt
 refine o_alloc zr23 ?_
 intro w4 g5 hN5
 have hE4 := hN5.ext
 have hX := hX.ext hE4
 have hD := hD.ext hE4
 have hB2 := hB2.ext hE4
 have hB3 := hB3.ext hE4
 have hG := hG.ext hE4
 have hB5 := hN5.blk
 have hq5 := hN5.g_eq
 refine o_store1 rfl (by conv => lhs; whnf) rfl rfl sz23 hB5 (by first | exact Nat.zero_lt_one | simp) ?_
 intro w5 hP5
 have hX := hX.put hP5 (by omega)
 have hD := hD.modT (hP5.mod 0 (Nat.zero_le _)) (by decide)
 have hB2 := hP5.keep hB2 (by omega)
 have hB3 := hP5.keep hB3 (by omega)
 have hG := hG.put hP5 (by omega)
 have hB5 := hP5.blk
 try simp only [List.setIfInBounds_toArray, List.set_cons_zero, List.set_cons_succ] at hB5
 refine p1 (x_assign (by conv => lhs; whnf)) ?_
 refine r_nil (t_n (c_seq (c_seq (r_plain ?_))))
 refine p1 (x_move (by conv => lhs; whnf)) ?_
 refine p1 (x_neq rfl rfl) ?_
 refine r_nil (t_n ?_)
 first | refine c_dec rfl (fun hc13 => ?_) (fun hc13 => ?_) | refine c_if rfl (fun hc13 => ?_) (fun hc13 => ?_)
 ·try simp only [dA, dB, dC, dD, dE, dF, dG, Int.not_lt, Int.not_le] at hc13
  have hpw : writeM D ⟨s, z, xs⟩ = (D, errM s z xs) := by unfold writeM; rw [if_neg (by rw [← hpe]; exact hc13)]
  refine c_seq (r_plain ?_)
  refine p1 (x_move (by conv => lhs; whnf)) ?_
  refine p1 (x_assign (by conv => lhs; whnf)) ?_
  refine r_nil (t_n (c_ret (t_r ?_)))
  refine end1 rfl (by conv => lhs; whnf) ?_
  first
    | exact ⟨by rw [hpw, hpe], by rw [hpw]; exact hD.mono (fun k _ h => .inl h.1), ModS.ofExt hX⟩
    | exact ⟨by rw [hpw, writeD_run], by rw [hpw, writeD_run]; exact hD2.mono (fun k _ hg => hg.imp (fun h => h.1) (fun ⟨a, b⟩ => ⟨by omega, b⟩)), ((ModS.ofExt hX).trans hM2 (fun _ _ h => h)).mono (fun j _ h => h.1)⟩
 ·try simp only [dA, dB, dC, dD, dE, dF, dG, Int.not_lt, Int.not_le] at hc13
  have he0 : ep = 0 := by omega
  have hpw : writeM D ⟨s, z, xs⟩ = writeD D (manB ⟨s, z, xs⟩) := by unfold writeM; rw [if_pos (by rw [← hpe]; exact he0)]
  refine c_skip (t_n (c_seq (r_plain ?_)))
  refine p1 (x_makeFunc (fs := []) (cs := [.pointer (some ⟨g2, 0, none⟩)]) rfl rfl) ?_
  refine p1 (x_makeFunc (fs := []) (cs := [.pointer (some ⟨g2, 0, none⟩), .pointer (some ⟨g5, 0, none⟩)]) rfl rfl) ?_
  refine p1 (x_makeFunc (fs := []) (cs := [.pointer (some ⟨g2, 0, none⟩)]) rfl rfl) ?_
  refine p1 (x_makeFunc (fs := []) (cs := [.pointer (some ⟨g2, 0, none⟩)]) rfl rfl) ?_
  refine o_buildSlice u149 inf95 rfl (by decide) (fun base hb => fill_kn [fcv (98, [.pointer (some ⟨g2, 0, none⟩)]), fcv (99, [.pointer (some ⟨g2, 0, none⟩), .pointer (some ⟨g5, 0, none⟩)]), fcv (100, [.pointer (some ⟨g2, 0, none⟩)]), fcv (101, [.pointer (some ⟨g2, 0, none⟩)])] (by intro v hv'; simp only [List.mem_cons, List.not_mem_nil, or_false] at hv'; rcases hv' with rfl | rfl | rfl | rfl <;> rfl) base hb) ?_
  intro w6 g19 hN19
  have hE6 := hN19.ext
  have hX := hX.ext hE6
  have hD := hD.ext hE6
  have hB2 := hB2.ext hE6
  have hB3 := hB3.ext hE6
  have hG := hG.ext hE6
  have hB5 := hB5.ext hE6
  have hS19 : Sl kFn 95 0 w6 (some ⟨g19, 0, none⟩) 4 4 [(98, [.pointer (some ⟨g2, 0, none⟩)]), (99, [.pointer (some ⟨g2, 0, none⟩), .pointer (some ⟨g5, 0, none⟩)]), (100, [.pointer (some ⟨g2, 0, none⟩)]), (101, [.pointer (some ⟨g2, 0, none⟩)])] := (own_lit (B0 := 0) ([(98, [.pointer (some ⟨g2, 0, none⟩)]), (99, [.pointer (some ⟨g2, 0, none⟩), .pointer (some ⟨g5, 0, none⟩)]), (100, [.pointer (some ⟨g2, 0, none⟩)]), (101, [.pointer (some ⟨g2, 0, none⟩)])] : List Clo) hN19 (Nat.zero_le _) (by simp)).sl
  have hOw := hPx _ hG he0
  have hOu := out_own (S := (fun j => S j ∧ j < w.heap.size)) hOw (fun j h => h.2)
  have hXs := hX.size
  refine o_call Tryz.func45 fn45 fb45 (all_disk [(98, [.pointer (some ⟨g2, 0, none⟩)]), (99, [.pointer (some ⟨g2, 0, none⟩), .pointer (some ⟨g5, 0, none⟩)]), (100, [.pointer (some ⟨g2, 0, none⟩)]), (101, [.pointer (some ⟨g2, 0, none⟩)])] [fun D => createD D nNew, fun D => appendD D nNew (manB ⟨s, z, xs⟩), fun D => syncD D nNew, fun D => renameD D nNew nMan] (fun i => D.steps + i) gd (fun j => S j ∧ j < w.heap.size) D _ _ _ _ hD (⟨hok, Nat.le_refl _, hle, hnm⟩) hS19 rfl (fun i hi => ?_)) rfl ?_
  · rcases i with _ | _ | _ | _ | i
    · exact ⟨Tryz.f98, Tryz.func98, fn98, fb98, fun Di w1 hDi m hgi => (write_1 gd _ Di w1 hDi hgi.ok (by have := hgi.steps; (try dsimp only at this); omega) hgi.left hgi.names g2 (hB2.modS m (.inr (by decide)))).dg (hgi.create _)⟩
    · exact ⟨Tryz.f99, Tryz.func99, fn99, fb99, fun Di w1 hDi m hgi => (write_2 gd _ Di w1 hDi hgi.ok (by have := hgi.steps; (try dsimp only at this); omega) hgi.left hgi.names g2 g5 _ _ _ _ _ _ (hB2.modS m (.inr (by decide))) (hB5.modS m (.inr (by decide))) (hOu.modS m).sl).dg (hgi.append _ _)⟩
    · exact ⟨Tryz.f100, Tryz.func100, fn100, fb100, fun Di w1 hDi m hgi => (write_3 gd _ Di w1 hDi hgi.ok (by have := hgi.steps; (try dsimp only at this); omega) hgi.left hgi.names g2 (hB2.modS m (.inr (by decide)))).dg (hgi.sync _)⟩
    · exact ⟨Tryz.f101, Tryz.func101, fn101, fb101, fun Di w1 hDi m hgi => (write_4 gd _ Di w1 hDi hgi.ok (by have := hgi.steps; (try dsimp only at this); omega) hgi.left hgi.names g2 (hB2.modS m (.inr (by decide)))).dg (hgi.rename _ _)⟩
    · exact absurd hi (by omega)
  rintro v7 w7 ⟨rfl, hD2, hM2⟩
  refine p1 (x_assign (by conv => lhs; whnf)) ?_
  refine r_nil (t_n (c_ret ?_))
  refine end1 rfl (by conv => lhs; whnf) ?_
  first
    | exact ⟨by rw [hpw, hpe], by rw [hpw]; exact hD.mono (fun k _ h => .inl h.1), ModS.ofExt hX⟩
    | exact ⟨by rw [hpw, writeD_run], by rw [hpw, writeD_run]; exact hD2.mono (fun k _ hg => hg.imp (fun h => h.1) (fun ⟨a, b⟩ => ⟨by omega, b⟩)), ((ModS.ofExt hX).trans hM2 (fun _ _ h => h)).mono (fun j _ h => h.1)⟩
end Go.Proofs.Eng
end
section
set_option maxRecDepth 100000
set_option maxHeartbeats 4000000
namespace Go.Proofs.Eng
open Go.RowKit
open Extern.Stop (cell)
theorem chunks_run (b0 : List UInt8) (Bl Bd B g : Nat) (p0 : Option Addr) (n0 c0 : Nat) (l : Nat) (J Jx : List Ck → World → Prop) (w : World) (hBg : Blk w g #[.slice p0 n0 c0] 23) (hS : Sl kByte 5 B w p0 n0 c0 b0) (hq : Qt w) (hUp : Up Bl w) (h3 : 4 < Bd) (hBB : B ≤ Bd) (hBg2 : Bd ≤ g)
    (hJ : Hd J (But g 23) [] w) (hY : ∀ pre x W1, J pre W1 → XC Bl b0 pre x W1 → YieldAt (fnc none) 0 Tryz.prog l (encC x).toArray W1 fun e W' => (e = .returned (.bool true) ∧ J (pre ++ [x]) W' ∧ RndG Bd g [22, 23, 31] W1 W') ∨ (e = .returned (.bool false) ∧ Jx (pre ++ [x]) W')) :
    Ret Tryz.prog 132 [.func (.yield l) #[] #[], .pointer (some ⟨g, 0, none⟩)] w (fun v w' => (∃ xs, SC b0 xs ∧ J xs w') ∨ (∃ pre, True ∧ Jx pre w')) := by
 have hX := Tv.mk
 refine enter 32 _ Tryz.func132 rfl rfl (Nat.le_of_ble_eq_true rfl) rfl ?_
 refine c_block ?_
 refine c_loop (ι := Option Addr × Nat × Nat × List UInt8 × List Ck) [3, 4, 5, 6, 7, 8, 9, 10, 11, 12, 13, 14, 15, 16, 17, 18, 19, 20, 21, 22, 23, 24, 25, 26, 27, 28, 29, 30, 31] (fun (p, n, c, rest, pre) => []) (fun (p, n, c, rest, pre) w' => Tv ∧ (Hd J (But g 23) pre w' ∧ Blk w' g #[.slice p n c] 23 ∧ Sl kByte 5 B w' p n c rest ∧ Qt w' ∧ Up Bl w' ∧ (∀ x ∈ pre, x.e = 0) ∧ pre.length + n ≤ b0.length ∧ chunksF b0 = (chunksF rest).map (fun l => pre.map (·.body) ++ l))) (fun (p, n, c, rest, pre) => n) ((p0, n0, c0, b0, [])) trivial ⟨hX, ⟨hJ, hBg, hS, hq, hUp, by simp, by simp [hS.len], by simp⟩⟩ ?_
 rintro ⟨p, n, c, rest, pre⟩ GL0 w1 ⟨hE1, hJ, hBg, hS, hq, hUp, hez, hcnt, hC⟩
 have hX := hE1
 refine c_seq (c_seq (r_plain ?_))
 refine p1 (x_load1 un23 rfl (hBg.cell (rfl))) ?_
 refine p1 (x_len_slice u23 rfl) ?_
 refine p1 (x_gtr rfl rfl) ?_
 refine r_nil (t_n ?_)
 first | refine c_dec rfl (fun hc8 => ?_) (fun hc8 => ?_) | refine c_if rfl (fun hc8 => ?_) (fun hc8 => ?_)
 ·try simp only [dA, dB, dC, dD, dE, dF, dG, Int.not_lt, Int.not_le] at hc8
  have hrl := hS.len
  have hfit := hS.fit
  have hcap := hS.cap
  have hne : rest ≠ [] := fun e => by rw [e] at hrl; simp at hrl; omega
  refine c_skip (t_n (c_block (c_seq (r_plain ?_))))
  refine p1 (x_load1 un23 rfl (hBg.cell (rfl))) ?_
  have hUp1 := hUp.le
  refine o_call Tryz.func133 fn133 fb133 (frame_Open rest _ _ _ _ _ hS hq) rfl ?_
  rintro v2 w2 ⟨⟨qo, mo, co, rfl, hF⟩, hE2⟩
  have hX := hX.ext hE2
  have hJ := hJ.ext hE2
  have hBg := hBg.ext hE2
  have hS := hS.ext hE2
  have hq := hq.ext hE2
  have hUp := hUp.ext hE2
  have hF := hF.lower hUp1
  refine p1 (x_move (by conv => lhs; whnf)) ?_
  refine p1 (x_extract rfl rfl) ?_
  refine p1 (x_extract rfl rfl) ?_
  refine p1 (x_extract rfl rfl) ?_
  have hJ0 := hJ
  have hBg0 := hBg
  have hS0 := hS
  have hq0 := hq
  have hUp0 := hUp
  have hF0 := hF
  refine o_alloc zr187 ?_
  intro w3 g3 hN3
  have hE3 := hN3.ext
  have hX := hX.ext hE3
  have hJ := hJ.ext hE3
  have hBg := hBg.ext hE3
  have hS := hS.ext hE3
  have hq := hq.ext hE3
  have hUp := hUp.ext hE3
  have hF := hF.ext hE3
  have hB3 := hN3.blk
  refine o_storeAll rfl (by conv => lhs; whnf) (by simp [Value.oneCell']) (by exact sz187) hB3 (by rfl) ?_
  intro w4 hP4
  have hX := hX.put hP4 (True.intro)
  have hJ := hJ0.ext (hN3.ext.put hP4 (by rw [hN3.g_eq]; exact Nat.le_refl _))
  have hBg := hBg0.ext (hN3.ext.put hP4 (by rw [hN3.g_eq]; exact Nat.le_refl _))
  have hS := hS0.ext (hN3.ext.put hP4 (by rw [hN3.g_eq]; exact Nat.le_refl _))
  have hq := hq0.ext (hN3.ext.put hP4 (by rw [hN3.g_eq]; exact Nat.le_refl _))
  have hUp := hUp0.ext (hN3.ext.put hP4 (by rw [hN3.g_eq]; exact Nat.le_refl _))
  have hF := hF0.ext (hN3.ext.put hP4 (by rw [hN3.g_eq]; exact Nat.le_refl _))
  have hB3 := hP4.blk
  refine p1 (x_assign (by conv => lhs; whnf)) ?_
  refine p1 (x_assign (by conv => lhs; whnf)) ?_
  refine r_nil (t_n (c_seq (c_seq ?_)))
  have hWr2 := Ext.refl w4
  refine c_cut (ι := Unit) [15, 16, 17, 18, 19, 20, 21] (fun _ => [(21, .bool (decide ((openF rest).2.2 ≠ 0 ∨ ((openF rest).1.1.toNat : Int) ≠ 1)))]) (fun _ w' => Ext w4 w') ?_ ?_
  ·skip
   refine r_plain ?_
   refine p1 (x_move (by conv => lhs; whnf)) ?_
   refine p1 (x_neq rfl rfl) ?_
   refine p1b (x_move (by conv => lhs; whnf)) (fun hb2_2 => ?_) (fun hb2_2 => ?_)
   ·try simp only [dA, dB, dC, dD, dE, dF, dG, Int.not_lt, Int.not_le] at hb2_2
    refine Eng.g0 17 rfl (by first | exact .inl rfl | exact .inr rfl) ?_
    refine Eng.g0 17 rfl (by first | exact .inl rfl | exact .inr rfl) ?_
    refine Eng.g0 17 rfl (by first | exact .inl rfl | exact .inr rfl) ?_
    refine p1 (x_pick_t rfl (by conv => lhs; whnf)) ?_
    refine r_nil ?_
    refine t_n (At.mk () (by repeat (first | exact Agr.refl _ _ | exact Agr.hav _ _ _ | refine Agr.upd rfl ?_ | refine Agr.updR rfl ?_ | refine Agr.updL ?_ _ rfl | refine Agr.hav' rfl ?_)) ⟨congrArg Value.bool (by first | rfl | exact (decide_eq_true (by omega)).symm | exact (decide_eq_false (by omega)).symm | exact decide_eq_decide.2 (by omega) | (simp_all; done) | grind), trivial⟩ hWr2)
   ·try simp only [dA, dB, dC, dD, dE, dF, dG, Int.not_lt, Int.not_le] at hb2_2
    refine Eng.g1 17 rfl rfl (x_fieldAddr fo187_0 sz5 rfl) ?_
    refine Eng.g1 17 rfl rfl (x_load1 un5 rfl (hB3.cell (rfl))) ?_
    refine Eng.g1 17 rfl rfl (x_neq rfl rfl) ?_
    refine p1 (x_pick_f rfl (by conv => lhs; whnf)) ?_
    refine r_nil ?_
    refine t_n (At.mk () (by repeat (first | exact Agr.refl _ _ | exact Agr.hav _ _ _ | refine Agr.upd rfl ?_ | refine Agr.updR rfl ?_ | refine Agr.updL ?_ _ rfl | refine Agr.hav' rfl ?_)) ⟨congrArg Value.bool (by first | rfl | exact (decide_eq_true (by omega)).symm | exact (decide_eq_false (by omega)).symm | exact decide_eq_decide.2 (by omega) | (simp_all; done) | grind), trivial⟩ hWr2)
  ·rintro _ Gr2 w5 hE5
   have hX := hX.ext hE5
   have hJ := hJ.ext hE5
   have hBg := hBg.ext hE5
   have hS := hS.ext hE5
   have hq := hq.ext hE5
   have hUp := hUp.ext hE5
   have hF := hF.ext hE5
   have hB3 := hB3.ext hE5
   refine t_n ?_
   first | refine c_dec rfl (fun hc21 => ?_) (fun hc21 => ?_) | refine c_if rfl (fun hc21 => ?_) (fun hc21 => ?_)
   ·try simp only [dA, dB, dC, dD, dE, dF, dG, Int.not_lt, Int.not_le] at hc21
    have hnb := chunksF_bad hne (fun h => by rcases hc21 with h1 | h1; (· exact h1 h.1); (· exact h1 (by rw [h.2]; rfl)))
    have hnone : chunksF b0 = none := by rw [hC, hnb]; rfl
    refine c_seq ?_
    refine Wf.toWp (f_plainY 1 rfl ?_)
    refine p1 (x_move (by conv => lhs; whnf)) ?_
    refine r_nil (t_n ?_)
    refine o_yield rfl rfl (hY pre ⟨none, 0, 0, [], 4⟩ _ hJ.h ⟨Own.nil _ _ _ _ _, .inr ⟨rfl, hnone⟩, by omega⟩) (fun e w0 hr => by rcases hr with ⟨h, _⟩ | ⟨h, _⟩ <;> exact ⟨_, h⟩) ?_
    rintro v6 w6 (⟨hv6, hJ6, hRn6⟩ | ⟨hv6, hJx6⟩) <;> cases hv6
    ·skip
     have hJ : Hd J (But g 23) (pre ++ [⟨none, 0, 0, [], 4⟩]) _ := hJ.to hJ6
     refine f_rest rfl ?_
     refine r_nil (t_n (t_n (c_ret (t_r (b_r (t_r (b_r ?_)))))))
     refine end0 rfl ?_
     first
       | exact .inr ⟨_, trivial, hJx⟩
       | exact .inl ⟨_, fun _ => hfin, hJ.h⟩
       | exact .inl ⟨_, fun hh => absurd (hh _ (List.mem_append_right _ (List.mem_singleton.2 rfl))) (by decide), hJ.h⟩
    ·skip
     have hJx := hJx6
     refine f_rest rfl ?_
     refine r_nil (t_n (t_n (c_ret (t_r (b_r (t_r (b_r ?_)))))))
     refine end0 rfl ?_
     first
       | exact .inr ⟨_, trivial, hJx⟩
       | exact .inl ⟨_, fun _ => hfin, hJ.h⟩
       | exact .inl ⟨_, fun hh => absurd (hh _ (List.mem_append_right _ (List.mem_singleton.2 rfl))) (by decide), hJ.h⟩
   ·try simp only [dA, dB, dC, dD, dE, dF, dG, Int.not_lt, Int.not_le] at hc21
    have hk0 : (openF rest).2.2 = 0 := Classical.byContradiction fun h => hc21 (.inl h)
    have hk1 : (openF rest).1.1 = 1 := u8_inj.1 (Classical.byContradiction fun h => hc21 (.inr h))
    have hu := openF_used hk0
    rw [hrl] at hu
    have hCo := chunksF_ok hne ⟨hk0, hk1⟩
    refine c_skip (t_n (c_seq (c_seq ?_)))
    refine Wf.toWp (f_plainY 3 rfl ?_)
    refine p1 (x_move (by conv => lhs; whnf)) ?_
    refine p1 (x_fieldAddr fo187_1 sz23 rfl) ?_
    refine p1 (x_load1 un23 rfl (hB3.cell (rfl))) ?_
    refine r_nil (t_n ?_)
    refine o_yield rfl rfl (hY pre ⟨qo, mo, co, (openF rest).1.2, 0⟩ _ hJ.h ⟨hF, .inl rfl, by omega⟩) (fun e w0 hr => by rcases hr with ⟨h, _⟩ | ⟨h, _⟩ <;> exact ⟨_, h⟩) ?_
    rintro v7 w7 (⟨hv7, hJ7, hRn7⟩ | ⟨hv7, hJx7⟩) <;> cases hv7
    ·skip
     have hJ : Hd J (But g 23) (pre ++ [⟨qo, mo, co, (openF rest).1.2, 0⟩]) _ := hJ.to hJ7
     have hBg := hBg.rndG hRn7 (.inr (.inr rfl))
     have hS := hS.rndG hRn7 hBB (by decide)
     have hq := hq.rndG hRn7 h3
     have hUp : Up Bl _ := ⟨Nat.le_trans hUp.le hRn7.size⟩
     refine f_rest rfl ?_
     refine p1 (x_not rfl) ?_
     refine r_nil (t_n (t_n ?_))
     refine c_f rfl ?_
     refine c_skip (t_n (r_plain ?_))
     refine p1 (x_load1 un23 rfl (hBg.cell (rfl))) ?_
     refine p1 (x_move (by conv => lhs; whnf)) ?_
     refine p1 (x_slice_lN u23 sz5 rfl rfl (by omega)) ?_
     refine o_store1 rfl (by conv => lhs; whnf) rfl rfl sz23 hBg (by simp) ?_
     intro w8 hP8
     have hX := hX.put hP8 (True.intro)
     have hJ := hJ.rel (But.ofPut hP8)
     have hBg := hP8.blk
     try simp only [List.setIfInBounds_toArray, List.set_cons_zero, List.set_cons_succ] at hBg
     have hS := hS.mod (hP8.mod g (Nat.le_refl _)) (by omega) (by decide)
     have hq := hq.but (But.ofPut hP8) (by omega)
     have hUp := hUp.put hP8
     refine r_nil (b_n ?_)
     refine t_n (At.mk ((adw p c (openF rest).2.1 1, n - (openF rest).2.1, c - (openF rest).2.1, rest.drop (openF rest).2.1, pre ++ [⟨qo, mo, co, (openF rest).1.2, 0⟩])) (by repeat (first | exact Agr.refl _ _ | exact Agr.hav _ _ _ | refine Agr.upd rfl ?_ | refine Agr.updR rfl ?_ | refine Agr.updL ?_ _ rfl | refine Agr.hav' rfl ?_)) trivial ?_)
     exact ⟨⟨hX, ⟨hJ, hBg, hS.dropI _ (by omega), hq, hUp, fun y hy => (List.mem_append.1 hy).elim (hez y) (fun hy => by simp only [List.mem_singleton] at hy; rw [hy]), by rw [List.length_append]; simp; omega, chunks_step hC rfl hCo⟩⟩, by first | (dsimp only; omega) | ((show _ < _); omega)⟩
    ·skip
     have hJx := hJx7
     refine f_rest rfl ?_
     refine p1 (x_not rfl) ?_
     refine r_nil (t_n (t_n ?_))
     refine c_t rfl ?_
     refine c_ret (t_r (b_r (t_r (b_r ?_))))
     refine end0 rfl ?_
     first
       | exact .inr ⟨_, trivial, hJx⟩
       | exact .inl ⟨_, fun _ => hfin, hJ.h⟩
       | exact .inl ⟨_, fun hh => absurd (hh _ (List.mem_append_right _ (List.mem_singleton.2 rfl))) (by decide), hJ.h⟩
 ·try simp only [dA, dB, dC, dD, dE, dF, dG, Int.not_lt, Int.not_le] at hc8
  have hr0 : rest = [] := List.length_eq_zero_iff.1 (by have := hS.len; omega)
  have hfin : chunksF b0 = some (pre.map (·.body)) := by rw [hC, hr0, chunksF_nil]; simp
  refine c_exit (t_e (t_e (b_hit ?_)))
  refine end0n rfl ?_
  first
    | exact .inr ⟨_, trivial, hJx⟩
    | exact .inl ⟨_, fun _ => hfin, hJ.h⟩
    | exact .inl ⟨_, fun hh => absurd (hh _ (List.mem_append_right _ (List.mem_singleton.2 rfl))) (by decide), hJ.h⟩
theorem chunks_seq (b0 : List UInt8) (Bl Bd B g : Nat) (p0 : Option Addr) (n0 c0 : Nat) (w : World) (hBg : Blk w g #[.slice p0 n0 c0] 23) (hS : Sl kByte 5 B w p0 n0 c0 b0) (hq : Qt w) (hUp : Up Bl w) (h3 : 4 < Bd) (hBB : B ≤ Bd) (hBg2 : Bd ≤ g) :
    SeqOk Tryz.prog 132 [.pointer (some ⟨g, 0, none⟩)] encC (RndG Bd g [22, 23, 31]) (SC b0) (fun _ => True) (XC Bl b0) (But g 23) w :=
  ⟨fun l J Jx W hx hJ hJx hY h0 => Calls.mono (chunks_run b0 Bl Bd B g p0 n0 c0 l J Jx W (hBg.ext hx) (hS.ext hx) (hq.ext hx) (hUp.ext hx) h3 hBB hBg2 ⟨h0, hJ, fun _ _ h => .ofExt h⟩ hY).out
    fun e w' ⟨v, he, hr⟩ => ⟨⟨v, he⟩, hr⟩⟩
theorem segment_chunks (p : Option Addr) (n c : Nat) (w : World) :
    Ret Tryz.prog 87 [.slice p n c] w (fun v w' => (∃ g, v = .func (.func 132) #[] #[.pointer (some ⟨g, 0, none⟩)] ∧ g = w.heap.size ∧ Blk w' g #[.slice p n c] 23) ∧ Ext w w') := by
 have hX := Ext.refl w
 refine enter 4 _ Tryz.func87 rfl rfl (Nat.le_of_ble_eq_true rfl) rfl ?_
 refine c_seq (r_plain ?_)
 refine o_box1 (by conv => lhs; whnf) rfl ?_
 intro w1 g1 hN1
 have hE1 := hN1.ext
 have hX := hX.ext hE1
 have hB1 := hN1.blk
 refine p1 (x_assign (by conv => lhs; whnf)) ?_
 refine r_nil (t_n (c_seq (r_plain ?_)))
 refine p1 (x_makeFunc (fs := []) (cs := [.pointer (some ⟨g1, 0, none⟩)]) rfl rfl) ?_
 refine p1 (x_assign (by conv => lhs; whnf)) ?_
 refine r_nil (t_n (c_ret ?_))
 refine end1 rfl (by conv => lhs; whnf) ?_
 exact ⟨⟨g1, rfl, hN1.g_eq, hB1⟩, hX⟩
theorem segment_Get (xs : List UInt8) (B : Nat) (p : Option Addr) (n c : Nat) (w : World) (hl : Sl kByte 5 B w p n c xs) (hq : Qt w) (hBw : B ≤ w.heap.size) (hn : n ≤ 100000000) :
    Ret Tryz.prog 38 [.slice p n c] w (fun v w' => (∃ q m c', v = .tuple #[.slice q m c', .int .i64 (getSg xs).2] ∧ Own (kOb w.heap.size) 23 0 w.heap.size w' q m c' (getSg xs).1) ∧ Ext w w') := by
 have hX := Ext.refl w
 refine enterM 19 _ Tryz.func38 rfl rfl (Nat.le_of_ble_eq_true rfl) rfl ?_
 refine c_seq (r_plain ?_)
 refine o_alloc zr22 ?_
 intro w1 g2 hN2
 have hE1 := hN2.ext
 have hX := hX.ext hE1
 have hB2 := hN2.blk
 have hl2 := hB2.lt
 refine o_alloc zr31 ?_
 intro w2 g3 hN3
 have hE2 := hN3.ext
 have hX := hX.ext hE2
 have hB2 := hB2.ext hE2
 have hB3 := hN3.blk
 refine r_nil (t_n (c_seq (r_plain ?_)))
 have hl3 := hB3.lt
 refine o_alloc zr22 ?_
 intro w3 g4 hN4
 have hE3 := hN4.ext
 have hX := hX.ext hE3
 have hB2 := hB2.ext hE3
 have hB3 := hB3.ext hE3
 have hB4 := hN4.blk
 refine r_nil (t_n (c_seq (c_seq ?_)))
 have e2 := hN2.g_eq
 have e3 := hN3.g_eq
 have e4 := hN4.g_eq
 have s2 := hN2.ext.size
 have s3 := hN3.ext.size
 have hg2 : w.heap.size ≤ g2 := by omega
 have hg3 : w.heap.size ≤ g3 := by omega
 have hg4 : w.heap.size ≤ g4 := by omega
 have h23 : g2 < g3 := by omega
 have h34 : g3 < g4 := by omega
 have hl4 := hB4.lt
 have hB2 : Blk _ g2 #[.slice none 0 0] 22 := hB2
 have hB3 : Blk _ g3 #[.int .i64 0] 31 := hB3
 have hB4 : Blk _ g4 #[.slice none 0 0] 22 := hB4
 have hlen := hl.len
 refine r_plain ?_
 refine p1 (x_move (by conv => lhs; whnf)) ?_
 refine o_call Tryz.func87 fn87 fb87 (segment_chunks _ _ _ _) rfl ?_
 rintro v4 w4 ⟨⟨gb, rfl, hgb, hBb⟩, hE4⟩
 have hX := hX.ext hE4
 have hB2 := hB2.ext hE4
 have hB3 := hB3.ext hE4
 have hB4 := hB4.ext hE4
 refine r_nil (t_n (c_block ?_))
 obtain ⟨B1, hB1⟩ : ∃ B1, B1 = w4.heap.size := ⟨_, rfl⟩
 have hgB : gb < B1 := by have := hBb.lt; omega
 have hXr := hX.size
 have hgb4 : g4 < gb := by omega
 have hq3 := hq.lt
 refine c_rf (ps := [9, 10]) ([]) (fun pre W => Ext w W ∧ Blk W g2 #[.slice none 0 0] 22 ∧ Blk W g3 #[.int .i64 0] 31 ∧ (∃ q m d, Blk W g4 #[.slice q m d] 22 ∧ Own (kOb w.heap.size) 23 0 B1 W q m d (pre.map (·.body))) ∧ (∀ x ∈ pre, x.e = 0)) (fun c pre W => c = .ret ∧ Ext w W ∧ Blk W g2 #[.slice none 0 0] 22 ∧ Blk W g3 #[.int .i64 4] 31 ∧ chunksF xs = none) rfl rfl Tryz.func132 fn132 fb132 (fun _ _ h => h.size) (fun _ _ h => .ofLp h hXr) (fun _ _ _ h k => h.trans k) (chunks_seq xs w.heap.size w.heap.size B gb _ _ _ _ hBb (hl.ext hX) (hq.ext hX) ⟨hXr⟩ hq3 hBw (by omega)) (fun s x A B h m => ⟨h.1.lp m (Nat.zero_le _), h.2⟩) (fun _ _ h => .ofExt h) (But.rl) (fun _ => rfl) (by rintro s A B ⟨h1, h2, h3, ⟨q, m, d, h4, h5⟩, h6⟩ x; exact ⟨But.extTo h1 x (by omega), h2.but x (.inr (by decide)), h3.but x (.inr (by decide)), ⟨q, m, d, h4.but x (.inr (by decide)), h5.but x (.inl hgB) (Nat.zero_le _) (by simp [kOb])⟩, h6⟩) (by rintro s A B ⟨h1, h2, h3, ⟨q, m, d, h4, h5⟩, h6⟩ x; exact ⟨h1.lp x hXr, h2.lp x, h3.lp x, ⟨q, m, d, h4.lp x, h5.lp x (Nat.zero_le _)⟩, h6⟩) (by rintro c s A B ⟨h0, h1, h2, h3, h4⟩ x; exact ⟨h0, But.extTo h1 x (by omega), h2.but x (.inr (by decide)), h3.but x (.inr (by decide)), h4⟩) (by rintro c s A B ⟨h0, h1, h2, h3, h4⟩ x; exact ⟨h0, h1.lp x hXr, h2.lp x, h3.lp x, h4⟩) (⟨hX, hB2, hB3, ⟨none, 0, 0, hB4, Own.nil _ _ _ _ _⟩, by simp⟩) ?_ ?_ ?_
 ·intro x
  apply Exists.intro
  refine ⟨fun l W => ?ha, fun l pre W hsz hI hXx => ?hb⟩
  case ha =>
   refine f_seq ?_
   refine f_plain rfl ?_
   refine p1 (x_assign (by conv => lhs; whnf)) ?_
   refine r_nil (t_n (t_n ?_))
   refine f_plain rfl ?_
   refine p1 (x_assign (by conv => lhs; whnf)) ?_
   refine r_nil (t_n (t_n ?_))
   exact ⟨rfl, rfl⟩
  case hb =>
   obtain ⟨hX, hB2, hB3, ⟨q, m, d, hB4, hO⟩, hez⟩ := hI
   obtain ⟨hF, hxe, hpl⟩ := hXx
   have hZ := Nn.refl W
   have hR := RndG.refl w.heap.size gb [22, 23, 31] W
   have hol := hO.len
   rw [List.length_map] at hol
   refine f_block ?_
   refine f_seq ?_
   refine f_seq ?_
   refine f_plain rfl ?_
   refine p1 (x_move (by conv => lhs; whnf)) ?_
   refine p1 (x_neq rfl rfl) ?_
   refine r_nil (t_n (t_n ?_))
   first | refine f_dec rfl (fun hc12 => ?_) (fun hc12 => ?_) | refine f_if rfl (fun hc12 => ?_) (fun hc12 => ?_)
   ·try simp only [dA, dB, dC, dD, dE, dF, dG, Int.not_lt, Int.not_le] at hc12
    have hxe4 : x.e = 4 ∧ chunksF xs = none := hxe.resolve_left hc12
    refine f_seq ?_
    refine f_plain rfl ?_
    refine p1 (x_move (by conv => lhs; whnf)) ?_
    refine o_store1 rfl (by conv => lhs; whnf) rfl rfl sz22 hB2 Nat.zero_lt_one ?_
    intro w6 hP6
    have hX := hX.put hP6 (hg2)
    have hB2 := hP6.blk
    try simp only [List.setIfInBounds_toArray, List.set_cons_zero, List.set_cons_succ] at hB2
    have hB3 := hP6.keep hB3 (by omega)
    have hB4 := hP6.keep hB4 (by omega)
    have hO := hO.mod (hP6.mod 0 (Nat.zero_le _)) (Nat.zero_le _) (by simp [kOb])
    have hZ := hZ.put hP6
    have hR := hR.put hP6 ⟨by decide, by omega, by omega⟩
    refine o_store1 rfl (by conv => lhs; whnf) rfl rfl sz31 hB3 Nat.zero_lt_one ?_
    intro w7 hP7
    have hX := hX.put hP7 (hg3)
    have hB2 := hP7.keep hB2 (by omega)
    have hB3 := hP7.blk
    try simp only [List.setIfInBounds_toArray, List.set_cons_zero, List.set_cons_succ] at hB3
    have hB4 := hP7.keep hB4 (by omega)
    have hO := hO.mod (hP7.mod 0 (Nat.zero_le _)) (Nat.zero_le _) (by simp [kOb])
    have hZ := hZ.put hP7
    have hR := hR.put hP7 ⟨by decide, by omega, by omega⟩
    refine r_nil (t_n (t_n ?_))
    refine f_ret ?_
    refine t_r (b_r ?_)
    exact ⟨fun k hn hk => hZ.old k hk hn, rfl, hX, hB2, by rw [hxe4.1] at hB3; exact hB3, hxe4.2⟩
   ·try simp only [dA, dB, dC, dD, dE, dF, dG, Int.not_lt, Int.not_le] at hc12
    have hx0 : x.e = 0 := Classical.byContradiction hc12
    refine f_skip ?_
    refine t_n ?_
    refine f_plain rfl ?_
    refine p1 (x_load1 un22 rfl (hB4.cell (rfl))) ?_
    refine p1 (x_move (by conv => lhs; whnf)) ?_
    refine o_buildSlice u22 inf23 rfl (by decide) (fun base hb => fill_one (by rfl) base hb) ?_
    intro w8 g16 hN16
    have hE8 := hN16.ext
    have hX := hX.ext hE8
    have hB2 := hB2.ext hE8
    have hB3 := hB3.ext hE8
    have hB4 := hB4.ext hE8
    have hO := hO.ext hE8
    have hF := hF.ext hE8
    have hZ := hZ.ext hE8
    have hR := hR.ext hE8
    have hJ := ob_made hN16 hF
    obtain ⟨cssJ, hAJ, hsrJ⟩ := src_kind u22 hJ kOb_pos
    have hB9 := hR.size
    refine o_append (d := (kOb _)) ([x.body]) u22 inf23 rfl kOb_pos rfl rfl hO (hsrJ) rfl (hAJ) (rfl) (by omega) (by omega) (by omega) (by omega) (by simp [kOb]) ?_
    intro p17 c17 w9 hO hM9
    have hX := hX.mod hM9 (by omega)
    have hB2 := hB2.mod hM9 (by decide)
    have hB3 := hB3.mod hM9 (by decide)
    have hB4 := hB4.mod hM9 (by decide)
    have hZ := hZ.mod hM9 
    have hR := hR.mod hM9 ⟨by decide, by omega, by omega⟩
    refine o_store1 rfl (by conv => lhs; whnf) rfl rfl sz22 hB4 Nat.zero_lt_one ?_
    intro w10 hP10
    have hX := hX.put hP10 (hg4)
    have hB2 := hP10.keep hB2 (by omega)
    have hB3 := hP10.keep hB3 (by omega)
    have hB4 := hP10.blk
    try simp only [List.setIfInBounds_toArray, List.set_cons_zero, List.set_cons_succ] at hB4
    have hZ := hZ.put hP10
    have hR := hR.put hP10 ⟨by decide, by omega, by omega⟩
    have hO := hO.mod (hP10.mod 0 (Nat.zero_le _)) (Nat.zero_le _) (by simp [kOb])
    refine r_nil (t_n (b_n ?_))
    exact ⟨hR, fun k hn hk => hZ.old k hk hn, hX, hB2, hB3, ⟨_, _, _, hB4, by rw [List.map_append]; exact hO⟩, fun y hy => (List.mem_append.1 hy).elim (hez y) (fun hy => by simp only [List.mem_singleton] at hy; rw [hy]; exact hx0)⟩
 ·rintro D zs_ w5 hsz hS ⟨hX, hB2, hB3, ⟨q, m, d, hB4, hO⟩, hez⟩ hDf
  have hDs : Dfs w.heap.size w5 [D] := (Dfs.nil _ _).cons hDf (Nat.le_trans hXr hsz) (by simp)
  have hfin := hS hez
  have hp : getSg xs = (zs_.map (·.body), 0) := by unfold getSg; rw [hfin]
  refine b_n (t_n (c_seq (r_plain ?_)))
  refine p1 (x_load1 un22 rfl (hB4.cell (rfl))) ?_
  refine o_store1 rfl (by conv => lhs; whnf) rfl rfl sz22 hB2 Nat.zero_lt_one ?_
  intro w11 hP11
  have hX := hX.put hP11 (hg2)
  have hB2 := hP11.blk
  try simp only [List.setIfInBounds_toArray, List.set_cons_zero, List.set_cons_succ] at hB2
  have hB3 := hP11.keep hB3 (by omega)
  have hB4 := hP11.keep hB4 (by omega)
  have hO := hO.mod (hP11.mod 0 (Nat.zero_le _)) (Nat.zero_le _) (by simp [kOb])
  have hDs := hDs.mod (hP11.mod 0 (Nat.zero_le _)) (Nat.zero_le _) trivial
  refine o_store1 rfl (by conv => lhs; whnf) rfl rfl sz31 hB3 Nat.zero_lt_one ?_
  intro w12 hP12
  have hX := hX.put hP12 (hg3)
  have hB2 := hP12.keep hB2 (by omega)
  have hB3 := hP12.blk
  try simp only [List.setIfInBounds_toArray, List.set_cons_zero, List.set_cons_succ] at hB3
  have hB4 := hP12.keep hB4 (by omega)
  have hO := hO.mod (hP12.mod 0 (Nat.zero_le _)) (Nat.zero_le _) (by simp [kOb])
  have hDs := hDs.mod (hP12.mod 0 (Nat.zero_le _)) (Nat.zero_le _) trivial
  refine r_nil (t_n (c_ret ?_))
  first
    | (exact end2ccM [D] rfl un22 un31 rfl rfl hB2 hB3 rfl hDs fun wz hLz => ⟨⟨_, _, _, by rw [hp], by rw [hp]; exact Own.nil _ _ _ _ _⟩, hX.lp hLz (Nat.le_refl _)⟩)
    | (exact end2ccM [D] rfl un22 un31 rfl rfl hB2 hB3 rfl hDs fun wz hLz => ⟨⟨_, _, _, by rw [hp], by rw [hp]; exact (hO.lower (by omega)).lp hLz (Nat.zero_le _)⟩, hX.lp hLz (Nat.le_refl _)⟩)
 ·rintro D c pre w5 hsz hSp ⟨rfl, hX, hB2, hB3, hnone⟩ hDf
  have hDs : Dfs w.heap.size w5 [D] := (Dfs.nil _ _).cons hDf (Nat.le_trans hXr hsz) (by simp)
  have hp : getSg xs = ([], 4) := by unfold getSg; rw [hnone]
  refine c_ret (b_r (t_r ?_))
  first
    | (exact end2ccM [D] rfl un22 un31 rfl rfl hB2 hB3 rfl hDs fun wz hLz => ⟨⟨_, _, _, by rw [hp], by rw [hp]; exact Own.nil _ _ _ _ _⟩, hX.lp hLz (Nat.le_refl _)⟩)
    | (exact end2ccM [D] rfl un22 un31 rfl rfl hB2 hB3 rfl hDs fun wz hLz => ⟨⟨_, _, _, by rw [hp], by rw [hp]; exact (hO.lower (by omega)).lp hLz (Nat.zero_le _)⟩, hX.lp hLz (Nat.le_refl _)⟩)
end Go.Proofs.Eng
end
section
set_option maxRecDepth 100000
set_option maxHeartbeats 4000000
namespace Go.Proofs.Eng
open Go.RowKit
open Extern.Stop (cell)
theorem u51i : Tryz.prog.underlying 139 = some (.interface (Tryz.prog.methodsAt 139)) := by kernel_rfl
theorem segment_Name (n : Int) (w : World) (hg : Gl w) :
    Ret Tryz.prog 49 [.int .i64 n] w (fun v w' => v = .string (toStr (nameF n)) ∧ Ext w w') := by
 have hX := Ext.refl w
 refine enter 18 _ Tryz.func49 rfl rfl (Nat.le_of_ble_eq_true rfl) rfl ?_
 refine c_seq (r_plain ?_)
 refine p1 (x_assign (by conv => lhs; whnf)) ?_
 refine r_nil (t_n (c_seq (c_seq ?_)))
 have hWr1 := Ext.refl w
 refine c_cut (ι := Unit) [4, 5, 6, 7, 8, 9] (fun _ => [(9, .bool (decide (n < 1 ∨ 999999 < n)))]) (fun _ w' => Ext w w') ?_ ?_
 ·skip
  refine r_plain ?_
  refine p1 (x_move (by conv => lhs; whnf)) ?_
  refine p1 (x_lss rfl rfl) ?_
  refine p1b (x_move (by conv => lhs; whnf)) (fun hb1_2 => ?_) (fun hb1_2 => ?_)
  ·try simp only [dA, dB, dC, dD, dE, dF, dG, Int.not_lt, Int.not_le] at hb1_2
   refine g0 6 rfl (by first | exact .inl rfl | exact .inr rfl) ?_
   refine g0 6 rfl (by first | exact .inl rfl | exact .inr rfl) ?_
   refine p1 (x_pick_t rfl (by conv => lhs; whnf)) ?_
   refine r_nil ?_
   refine t_n (At.mk () (by repeat (first | exact Agr.refl _ _ | exact Agr.hav _ _ _ | refine Agr.upd rfl ?_ | refine Agr.updR rfl ?_ | refine Agr.updL ?_ _ rfl | refine Agr.hav' rfl ?_)) ⟨congrArg Value.bool (by first | rfl | exact (decide_eq_true (by omega)).symm | exact (decide_eq_false (by omega)).symm | exact decide_eq_decide.2 (by omega) | (simp_all; done) | grind), trivial⟩ hWr1)
  ·try simp only [dA, dB, dC, dD, dE, dF, dG, Int.not_lt, Int.not_le] at hb1_2
   refine g1 6 rfl rfl (x_move (by conv => lhs; whnf)) ?_
   refine g1 6 rfl rfl (x_gtr rfl rfl) ?_
   refine p1 (x_pick_f rfl (by conv => lhs; whnf)) ?_
   refine r_nil ?_
   refine t_n (At.mk () (by repeat (first | exact Agr.refl _ _ | exact Agr.hav _ _ _ | refine Agr.upd rfl ?_ | refine Agr.updR rfl ?_ | refine Agr.updL ?_ _ rfl | refine Agr.hav' rfl ?_)) ⟨congrArg Value.bool (by first | rfl | exact (decide_eq_true (by omega)).symm | exact (decide_eq_false (by omega)).symm | exact decide_eq_decide.2 (by omega) | (simp_all; done) | grind), trivial⟩ hWr1)
 ·rintro _ Gr1 w1 hE1
  have hX := hX.ext hE1
  refine t_n ?_
  first | refine c_dec rfl (fun hc9 => ?_) (fun hc9 => ?_) | refine c_if rfl (fun hc9 => ?_) (fun hc9 => ?_)
  ·try simp only [dA, dB, dC, dD, dE, dF, dG, Int.not_lt, Int.not_le] at hc9
   have hp : nameF n = [] := if_pos hc9
   refine c_seq (r_plain ?_)
   refine p1 (x_assign (by conv => lhs; whnf)) ?_
   refine r_nil (t_n (c_ret (t_r ?_)))
   refine end1 rfl (by conv => lhs; whnf) ?_
   first
     | exact ⟨by rw [hp]; rfl, hX⟩
     | exact ⟨by rw [hp, ← hin.2, List.drop_replicate, List.append_assoc], hX⟩
  ·try simp only [dA, dB, dC, dD, dE, dF, dG, Int.not_lt, Int.not_le] at hc9
   have hin := itoa_name (n := n) (by omega) (by omega)
   have hp : nameF n = nameL n.toNat := nameF_ok (by omega) (by omega)
   refine c_skip (t_n (c_seq (r_plain ?_)))
   refine p1 (x_move (by conv => lhs; whnf)) ?_
   refine o_call Tryz.func96 fn96 fb96 (itoa_ret n (by omega) (by omega) _ (hg.ext hX)) rfl ?_
   rintro v2 w2 ⟨rfl, hE2⟩
   have hX := hX.ext hE2
   refine p1 (x_assign (by conv => lhs; whnf)) ?_
   refine r_nil (t_n (c_seq (r_plain ?_)))
   refine p1 (x_move (by conv => lhs; whnf)) ?_
   refine p1 (x_len_strL u9 rfl) ?_
   refine p1 (x_slice_str_lL (xs := List.replicate 6 48) u9 rfl rfl (by rw [List.length_replicate]; exact hin.1)) ?_
   refine p1 (x_add_strL (xs := begF) rfl rfl (by rw [List.length_drop, List.length_replicate]; show 4 + _ ≤ _; omega)) ?_
   refine p1 (x_move (by conv => lhs; whnf)) ?_
   refine p1 (x_add_strL rfl rfl (by rw [List.length_append, List.length_drop, List.length_replicate]; show 4 + _ + _ ≤ _; omega)) ?_
   refine p1 (x_assign (by conv => lhs; whnf)) ?_
   refine r_nil (t_n (c_ret ?_))
   refine end1 rfl (by conv => lhs; whnf) ?_
   first
     | exact ⟨by rw [hp]; rfl, hX⟩
     | exact ⟨by rw [hp, ← hin.2, List.drop_replicate, List.append_assoc], hX⟩
theorem segment_Number (xs : List UInt8) (w : World) (hg : Gl w) :
    Ret Tryz.prog 36 [.string (toStr xs)] w (fun v w' => (∃ r : Int, v = .int .i64 r ∧ IsNum xs r) ∧ Ext w w') := by
 have hX := Ext.refl w
 refine enter 33 _ Tryz.func36 rfl rfl (Nat.le_of_ble_eq_true rfl) rfl ?_
 refine c_seq (r_plain ?_)
 refine p1 (x_assign (by conv => lhs; whnf)) ?_
 refine r_nil (t_n (c_seq (r_plain ?_)))
 refine p1 (x_move (by conv => lhs; whnf)) ?_
 refine o_call Tryz.func85 fn85 fb85 (cut_ret xs _) rfl ?_
 rintro v1 w1 ⟨⟨hp, s2, rfl, hh1, hh0⟩, hE1⟩
 have hX := hX.ext hE1
 refine p1 (x_move (by conv => lhs; whnf)) ?_
 refine p1 (x_extract rfl rfl) ?_
 refine p1 (x_extract rfl rfl) ?_
 refine p1 (x_assign (by conv => lhs; whnf)) ?_
 refine p1 (x_assign (by conv => lhs; whnf)) ?_
 refine r_nil (t_n (c_seq (c_seq ?_)))
 have hWr2 := Ext.refl w1
 refine c_cut (ι := Unit) [12, 13, 14, 15, 16, 17, 18] (fun _ => [(18, .bool (decide (hp = false ∨ s2.length ≠ 6)))]) (fun _ w' => Ext w1 w') ?_ ?_
 ·skip
  refine r_plain ?_
  refine p1 (x_move (by conv => lhs; whnf)) ?_
  refine p1 (x_not rfl) ?_
  refine p1b (x_move (by conv => lhs; whnf)) (fun hb2_2 => ?_) (fun hb2_2 => ?_)
  ·try simp only [dA, dB, dC, dD, dE, dF, dG, Int.not_lt, Int.not_le] at hb2_2
   refine g0 14 rfl (by first | exact .inl rfl | exact .inr rfl) ?_
   refine g0 14 rfl (by first | exact .inl rfl | exact .inr rfl) ?_
   refine g0 14 rfl (by first | exact .inl rfl | exact .inr rfl) ?_
   refine p1 (x_pick_t rfl (by conv => lhs; whnf)) ?_
   refine r_nil ?_
   refine t_n (At.mk () (by repeat (first | exact Agr.refl _ _ | exact Agr.hav _ _ _ | refine Agr.upd rfl ?_ | refine Agr.updR rfl ?_ | refine Agr.updL ?_ _ rfl | refine Agr.hav' rfl ?_)) ⟨congrArg Value.bool (by first | rfl | (simp_all; done) | grind), trivial⟩ hWr2)
  ·try simp only [dA, dB, dC, dD, dE, dF, dG, Int.not_lt, Int.not_le] at hb2_2
   refine g1 14 rfl rfl (x_move (by conv => lhs; whnf)) ?_
   refine g1 14 rfl rfl (x_len_strL u9 rfl) ?_
   refine g1 14 rfl rfl (x_neq rfl rfl) ?_
   refine p1 (x_pick_f rfl (by conv => lhs; whnf)) ?_
   refine r_nil ?_
   refine t_n (At.mk () (by repeat (first | exact Agr.refl _ _ | exact Agr.hav _ _ _ | refine Agr.upd rfl ?_ | refine Agr.updR rfl ?_ | refine Agr.updL ?_ _ rfl | refine Agr.hav' rfl ?_)) ⟨congrArg Value.bool (by first | rfl | (simp_all; done) | grind), trivial⟩ hWr2)
 ·rintro _ Gr2 w2 hE2
  have hX := hX.ext hE2
  refine t_n ?_
  first | refine c_dec rfl (fun hc18 => ?_) (fun hc18 => ?_) | refine c_if rfl (fun hc18 => ?_) (fun hc18 => ?_)
  ·try simp only [dA, dB, dC, dD, dE, dF, dG, Int.not_lt, Int.not_le] at hc18
   have hpp : IsNum xs 0 := num_cut hh1 hh0 hc18
   refine c_seq (r_plain ?_)
   refine p1 (x_assign (by conv => lhs; whnf)) ?_
   refine r_nil (t_n (c_ret (t_r ?_)))
   refine end1 rfl (by conv => lhs; whnf) ?_
   exact ⟨⟨_, rfl, hpp⟩, hX⟩
  ·try simp only [dA, dB, dC, dD, dE, dF, dG, Int.not_lt, Int.not_le] at hc18
   have hpt : hp = true := by cases hp; (· exact absurd (.inl rfl) hc18); (· rfl)
   have hs6 : s2.length = 6 := Classical.byContradiction fun h => hc18 (.inr h)
   have hxs := hh1 hpt
   refine c_skip (t_n (c_seq (r_plain ?_)))
   refine p1 (x_move (by conv => lhs; whnf)) ?_
   refine o_call Tryz.func86 fn86 fb86 (atoi_ret s2 (by omega) _ (hg.ext hX)) rfl ?_
   rintro v3 w3 ⟨⟨r, ev, b, rfl, hA⟩, hE3⟩
   have hX := hX.ext hE3
   refine p1 (x_move (by conv => lhs; whnf)) ?_
   refine p1 (x_extract rfl rfl) ?_
   refine p1 (x_extract rfl rfl) ?_
   refine p1 (x_assign (by conv => lhs; whnf)) ?_
   refine p1 (x_assign (by conv => lhs; whnf)) ?_
   refine r_nil (t_n (c_seq (c_seq ?_)))
   have hWr5 := Ext.refl w3
   refine c_cut (ι := Unit) [24, 25, 26, 27, 28, 29, 30, 31] (fun _ => [(31, .bool (decide (b = true ∨ toStr (nameF r) ≠ toStr xs)))]) (fun _ w' => Ext w3 w') ?_ ?_
   ·skip
    refine r_plain ?_
    refine p1 (x_move (by conv => lhs; whnf)) ?_
    refine p1 (x_neq_err u51i rfl rfl (hA.imp (fun h => ⟨h.1, h.2.2⟩) fun h => ⟨h.1, h.2.2⟩)) ?_
    refine p1b (x_move (by conv => lhs; whnf)) (fun hb5_2 => ?_) (fun hb5_2 => ?_)
    ·try simp only [dA, dB, dC, dD, dE, dF, dG, Int.not_lt, Int.not_le] at hb5_2
     refine g0 26 rfl (by first | exact .inl rfl | exact .inr rfl) ?_
     refine g0 26 rfl (by first | exact .inl rfl | exact .inr rfl) ?_
     refine g0 26 rfl (by first | exact .inl rfl | exact .inr rfl) ?_
     refine g0 26 rfl (by first | exact .inl rfl | exact .inr rfl) ?_
     refine p1 (x_pick_t rfl (by conv => lhs; whnf)) ?_
     refine r_nil ?_
     refine t_n (At.mk () (by repeat (first | exact Agr.refl _ _ | exact Agr.hav _ _ _ | refine Agr.upd rfl ?_ | refine Agr.updR rfl ?_ | refine Agr.updL ?_ _ rfl | refine Agr.hav' rfl ?_)) ⟨congrArg Value.bool (by first | rfl | (simp_all; done) | grind), trivial⟩ hWr5)
    ·try simp only [dA, dB, dC, dD, dE, dF, dG, Int.not_lt, Int.not_le] at hb5_2
     refine g1 26 rfl rfl (x_move (by conv => lhs; whnf)) ?_
     refine g_drop 26 rfl rfl ?_
     refine o_call Tryz.func49 fn49 fb49 (segment_Name r _ (hg.ext hX)) rfl ?_
     rintro v5 w5 ⟨rfl, hE5⟩
     have hX := hX.ext hE5
     have hWr5 := hWr5.ext hE5
     refine g1 26 rfl rfl (x_move (by conv => lhs; whnf)) ?_
     refine g1 26 rfl rfl (x_neq_str rfl rfl) ?_
     refine p1 (x_pick_f rfl (by conv => lhs; whnf)) ?_
     refine r_nil ?_
     refine t_n (At.mk () (by repeat (first | exact Agr.refl _ _ | exact Agr.hav _ _ _ | refine Agr.upd rfl ?_ | refine Agr.updR rfl ?_ | refine Agr.updL ?_ _ rfl | refine Agr.hav' rfl ?_)) ⟨congrArg Value.bool (by first | rfl | (simp_all; done) | grind), trivial⟩ hWr5)
   ·rintro _ Gr5 w4 hE4
    have hX := hX.ext hE4
    refine t_n ?_
    first | refine c_dec rfl (fun hc31 => ?_) (fun hc31 => ?_) | refine c_if rfl (fun hc31 => ?_) (fun hc31 => ?_)
    ·try simp only [dA, dB, dC, dD, dE, dF, dG, Int.not_lt, Int.not_le] at hc31
     have hpp : IsNum xs 0 := num_atoi hxs hA hc31
     refine c_seq (r_plain ?_)
     refine p1 (x_assign (by conv => lhs; whnf)) ?_
     refine r_nil (t_n (c_ret (t_r ?_)))
     refine end1 rfl (by conv => lhs; whnf) ?_
     exact ⟨⟨_, rfl, hpp⟩, hX⟩
    ·try simp only [dA, dB, dC, dD, dE, dF, dG, Int.not_lt, Int.not_le] at hc31
     have hpp : IsNum xs r := num_back (fun e => by have := congrArg List.length hxs; rw [e, List.length_append] at this; simp [begF] at this; omega) (toStr_inj (Classical.byContradiction fun h => hc31 (.inr h)))
     refine c_skip (t_n (c_seq (r_plain ?_)))
     refine p1 (x_move (by conv => lhs; whnf)) ?_
     refine p1 (x_assign (by conv => lhs; whnf)) ?_
     refine r_nil (t_n (c_ret ?_))
     refine end1 rfl (by conv => lhs; whnf) ?_
     exact ⟨⟨_, rfl, hpp⟩, hX⟩
end Go.Proofs.Eng
end
section
set_option maxRecDepth 100000
set_option maxHeartbeats 4000000
namespace Go.Proofs.Eng
open Go.RowKit
open Extern.Stop (cell)
theorem fb36 : Tryz.f36.body.isNone = false := by kernel_rfl
theorem fb95 : Tryz.f95.body.isNone = false := by kernel_rfl
theorem fn36 : (Tryz.f36.name == "runtime.NumGoroutine") = false := by kernel_rfl
theorem fn95 : (Tryz.f95.name == "runtime.NumGoroutine") = false := by kernel_rfl
end Go.Proofs.Eng
end
section
set_option maxRecDepth 100000
set_option maxHeartbeats 4000000
namespace Go.Proofs.Eng
open Go.RowKit
open Extern.Stop (cell)
theorem segment_NumberS (s : ByteArray) (w : World) (hg : Gl w) : Ret Tryz.prog 36 [.string s] w (fun v w' => (∃ r : Int, v = .int .i64 r ∧ (r = 0 ↔ ¬ SegN s)) ∧ Ext w w') := by
  have h := segment_Number s.data.toList w hg
  rw [toStr_of] at h
  refine h.imp ?_
  rintro v w' ⟨⟨r, rfl, hr⟩, hx⟩
  have := isNum_seg hr
  rw [toStr_of] at this
  exact ⟨⟨r, rfl, this⟩, hx⟩
theorem cleanL_drop {keep : ByteArray} {ns : List ByteArray} {k : Nat} (h : k < ns.length) (D : DS) : cleanL keep D (ns.drop k) = if keepN (ns.getD k ByteArray.empty) keep = true then cleanL keep D (ns.drop (k + 1)) else andD (removeD D (ns.getD k ByteArray.empty)) fun D => cleanL keep D (ns.drop (k + 1)) := by
  rw [List.drop_eq_getElem_cons h, List.getD_eq_getElem?_getD, List.getElem?_eq_getElem h]; rfl
theorem Good.few {D : DS} {i : Nat} (h : Good D i) : D.l.length ≤ 64 := h.ok.few
theorem chunks_clean (gd : Nat) (S : Nat → Prop) (D : DS) (w : World) (hD : Dsk S w gd D) (hok : DOk D) (hst : D.steps < 4611686018427380000) (hle : D.left ≤ 9223372036854775807) (hnm : ∀ x ∈ D.l, namedD x.1 = true) (hS : ∀ k, S k → 6 ≤ k) (hg : Gt w) (keep : ByteArray) :
    Ret Tryz.prog 47 [.pointer (some ⟨gd, 0, none⟩), .string keep] w (fun v w' => v = .int .i64 (cleanD D keep).2 ∧ Dsk (grow S w w') w' gd (cleanD D keep).1 ∧ ModS S ED w w') := by
 have hgs := hg.size
 have hX := ModS.refl S ED w
 refine enter 34 _ Tryz.func47 rfl rfl (Nat.le_of_ble_eq_true rfl) rfl ?_
 refine c_seq (r_plain ?_)
 refine p1 (x_assign (by conv => lhs; whnf)) ?_
 refine r_nil (t_n (c_seq (c_seq (r_plain ?_))))
 refine p1 (x_move (by conv => lhs; whnf)) ?_
 refine o_call Tryz.func35 fn35 fb35 (disk_List gd S D _ hD hok) rfl ?_
 rintro v1 w1 ⟨⟨qn, cn, rfl, hN⟩, hE1⟩
 have hX := hX.ext hE1
 have hD := hD.ext hE1
 have hg := hg.ext hE1
 have hN := hN.sl
 refine p1 (x_len_slice u74 rfl) ?_
 refine p1 (x_move (by conv => lhs; whnf)) ?_
 refine r_nil (t_n (c_block ?_))
 have hfew := hok.few
 have hnl : (D.l.map (·.1)).length = D.l.length := List.length_map _
 refine c_loop (ι := Nat) [4, 6, 7, 11, 12, 13, 14, 15, 16, 17, 18, 19, 20, 21, 22, 23, 24, 25, 26, 27, 28, 29, 30, 31, 32, 33] (fun k => [(11, .int .i64 (k : Int))]) (fun k w' => ModS S ED w w' ∧ (k ≤ D.l.length ∧ Sl kStr 9 0 w' qn D.l.length cn (D.l.map (·.1)) ∧ Gt w' ∧ ∃ Dk, Dsk (grow S w w') w' gd Dk ∧ Good Dk (D.steps + k) ∧ cleanD D keep = cleanL keep Dk ((D.l.map (·.1)).drop k))) (fun k => D.l.length - k) (0) ⟨rfl, trivial⟩ ⟨hX, Nat.zero_le _, hN, hg, D, hD.grown w, ⟨hok, Nat.le_refl _, hle, hnm⟩, rfl⟩ ?_
 rintro k GL0 w2 ⟨hE2, hk, hN, hg, Dk, hD, hgk, hcl⟩
 have hX := hE2
 refine c_seq (r_plain ?_)
 refine p1 (x_lss rfl rfl) ?_
 refine r_nil (t_n (c_seq ?_))
 first | refine c_dec rfl (fun hc12 => ?_) (fun hc12 => ?_) | refine c_if rfl (fun hc12 => ?_) (fun hc12 => ?_)
 ·try simp only [dA, dB, dC, dD, dE, dF, dG, Int.not_lt, Int.not_le] at hc12
  refine c_skip (t_n (c_seq (c_block (c_seq ?_))))
  have hcd := cleanL_drop (keep := keep) (ns := D.l.map (·.1)) (k := k) (by omega) Dk
  have hnk : namedD ((D.l.map (·.1)).getD k ByteArray.empty) = true := by
    have hm := mem_of_getD (z := ByteArray.empty) (xs := D.l.map (·.1)) (i := k) (by omega) rfl
    obtain ⟨x, hx, e⟩ := List.mem_map.1 hm
    rw [← e]; exact hnm x hx
  have hsz := named_size32 hnk
  refine r_plain ?_
  refine p1 (x_ixs0 u74 sz9 rfl rfl (hN.adr kStr_pos (by omega)) (by omega)) ?_
  refine p1 (x_load1 un9 rfl (hN.strAt _ (by omega))) ?_
  refine p1 (x_assign (by conv => lhs; whnf)) ?_
  refine r_nil (t_n (c_seq (c_seq ?_)))
  have hWr4 := Ext.refl w2
  refine c_cut (ι := Unit) [15, 16, 17, 18, 19, 20, 21, 22, 23, 24, 25, 26] (fun _ => [(26, .bool (keepN ((D.l.map (·.1)).getD k ByteArray.empty) keep))]) (fun _ w' => Ext w2 w') ?_ ?_
  ·skip
   refine r_plain ?_
   refine p1 (x_move (by conv => lhs; whnf)) ?_
   refine p1 (x_neq_str rfl (show _ = Value.string nNew from rfl)) ?_
   refine p1b (x_move (by conv => lhs; whnf)) (fun hb4_2 => ?_) (fun hb4_2 => ?_)
   ·try simp only [dA, dB, dC, dD, dE, dF, dG, Int.not_lt, Int.not_le] at hb4_2
    refine g1 17 rfl rfl (x_move (by conv => lhs; whnf)) ?_
    refine g_drop 17 rfl rfl ?_
    refine o_call Tryz.func36 fn36 fb36 (segment_NumberS _ _ hg.l) rfl ?_
    rintro v4 w4 ⟨⟨rn, rfl, hrn⟩, hE4⟩
    have hX := hX.ext hE4
    have hN := hN.ext hE4
    have hg := hg.ext hE4
    have hD := hD.ext hE4
    have hWr4 := hWr4.ext hE4
    refine g1 17 rfl rfl (x_eql rfl rfl) ?_
    refine g1b 17 rfl rfl (x_move (by conv => lhs; whnf)) (fun hb4_6 => ?_) (fun hb4_6 => ?_)
    ·try simp only [dA, dB, dC, dD, dE, dF, dG, Int.not_lt, Int.not_le] at hb4_6
     refine g0 21 rfl (by first | exact .inl rfl | exact .inr rfl) ?_
     refine g0 21 rfl (by first | exact .inl rfl | exact .inr rfl) ?_
     refine g0 21 rfl (by first | exact .inl rfl | exact .inr rfl) ?_
     refine g1 17 rfl rfl (x_pick_t rfl (by conv => lhs; whnf)) ?_
     refine p1 (x_pick_t rfl (by conv => lhs; whnf)) ?_
     refine r_nil ?_
     refine t_n (At.mk () (by repeat (first | exact Agr.refl _ _ | exact Agr.hav _ _ _ | refine Agr.upd rfl ?_ | refine Agr.updR rfl ?_ | refine Agr.updL ?_ _ rfl | refine Agr.hav' rfl ?_)) ⟨congrArg Value.bool (by have hk9 := keepN_iff (n := ((D.l.map (·.1)).getD k ByteArray.empty)) (keep := keep); first | grind | (simp_all; done)), trivial⟩ hWr4)
    ·try simp only [dA, dB, dC, dD, dE, dF, dG, Int.not_lt, Int.not_le] at hb4_6
     refine g1 21 rfl rfl (x_move (by conv => lhs; whnf)) ?_
     refine g1 21 rfl rfl (x_move (by conv => lhs; whnf)) ?_
     refine g1 21 rfl rfl (x_eql_str rfl rfl) ?_
     refine g1 17 rfl rfl (x_pick_f rfl (by conv => lhs; whnf)) ?_
     refine p1 (x_pick_t rfl (by conv => lhs; whnf)) ?_
     refine r_nil ?_
     refine t_n (At.mk () (by repeat (first | exact Agr.refl _ _ | exact Agr.hav _ _ _ | refine Agr.upd rfl ?_ | refine Agr.updR rfl ?_ | refine Agr.updL ?_ _ rfl | refine Agr.hav' rfl ?_)) ⟨congrArg Value.bool (by have hk9 := keepN_iff (n := ((D.l.map (·.1)).getD k ByteArray.empty)) (keep := keep); first | grind | (simp_all; done)), trivial⟩ hWr4)
   ·try simp only [dA, dB, dC, dD, dE, dF, dG, Int.not_lt, Int.not_le] at hb4_2
    refine g0 17 rfl (by first | exact .inl rfl | exact .inr rfl) ?_
    refine g0 17 rfl (by first | exact .inl rfl | exact .inr rfl) ?_
    refine g0 17 rfl (by first | exact .inl rfl | exact .inr rfl) ?_
    refine g0 17 rfl (by first | exact .inl rfl | exact .inr rfl) ?_
    refine g0 21 rfl (by first | exact .inl rfl | exact .inr rfl) ?_
    refine g0 21 rfl (by first | exact .inl rfl | exact .inr rfl) ?_
    refine g0 21 rfl (by first | exact .inl rfl | exact .inr rfl) ?_
    refine g0 17 rfl (by first | exact .inl rfl | exact .inr rfl) ?_
    refine p1 (x_pick_f rfl (by conv => lhs; whnf)) ?_
    refine r_nil ?_
    refine t_n (At.mk () (by repeat (first | exact Agr.refl _ _ | exact Agr.hav _ _ _ | refine Agr.upd rfl ?_ | refine Agr.updR rfl ?_ | refine Agr.updL ?_ _ rfl | refine Agr.hav' rfl ?_)) ⟨congrArg Value.bool (by have hk9 := keepN_iff (n := ((D.l.map (·.1)).getD k ByteArray.empty)) (keep := keep); first | grind | (simp_all; done)), trivial⟩ hWr4)
  ·rintro _ Gr4 w3 hE3
   have hX := hX.ext hE3
   have hN := hN.ext hE3
   have hg := hg.ext hE3
   have hD := hD.ext hE3
   refine t_n ?_
   first | refine c_dec rfl (fun hc26 => ?_) (fun hc26 => ?_) | refine c_if rfl (fun hc26 => ?_) (fun hc26 => ?_)
   ·try simp only [dA, dB, dC, dD, dE, dF, dG, Int.not_lt, Int.not_le] at hc26
    have hcn := hcl.trans (hcd.trans (if_pos hc26))
    refine c_exit (t_e (b_hit (t_n (r_plain ?_))))
    refine p1 (x_add rfl rfl (fits_i64 (by omega) (by omega))) ?_
    refine p1 (x_move (by conv => lhs; whnf)) ?_
    refine r_nil ?_
    refine t_n (At.mk (k + 1) (by repeat (first | exact Agr.refl _ _ | exact Agr.hav _ _ _ | refine Agr.upd rfl ?_ | refine Agr.updR rfl ?_ | refine Agr.updL ?_ _ rfl | refine Agr.hav' rfl ?_)) ⟨rfl, trivial⟩ ?_)
    exact ⟨⟨hX, by omega, hN, hg, by first | exact ⟨Dk, hD.more, hgk.mono (by omega), hcn⟩ | exact ⟨_, hD, hgr.mono (by omega), by rw [hcn, andD, if_pos (by omega)]⟩⟩, by first | (dsimp only; omega) | ((show _ < _); omega)⟩
   ·try simp only [dA, dB, dC, dD, dE, dF, dG, Int.not_lt, Int.not_le] at hc26
    have hcn := hcl.trans (hcd.trans (if_neg (by rw [hc26]; simp)))
    have hgr := good_remove hgk ((D.l.map (·.1)).getD k ByteArray.empty)
    refine c_skip (t_n (c_seq (r_plain ?_)))
    refine p1 (x_move (by conv => lhs; whnf)) ?_
    refine p1 (x_move (by conv => lhs; whnf)) ?_
    have hD := hD.more
    have hXs := hX.size
    refine o_call Tryz.func95 fn95 fb95 (disk_Remove gd _ Dk _ hD hgk.ok (by have := hgk.steps; omega) hgk.left ((D.l.map (·.1)).getD k ByteArray.empty) (by omega)) rfl ?_
    rintro v5 w5 ⟨rfl, hD2, hM2⟩
    have hD := hD2.mono (grow2 hXs hM2.size)
    have hX := hX.step hM2
    have hN := hN.modS hM2 (fun _ _ => Nat.zero_le _) (by decide)
    have hg := hg.modS hM2 (far_grow hS hgs)
    skip
    refine p1 (x_assign (by conv => lhs; whnf)) ?_
    refine r_nil (t_n (c_seq (r_plain ?_)))
    refine p1 (x_move (by conv => lhs; whnf)) ?_
    refine p1 (x_neq rfl rfl) ?_
    refine r_nil (t_n ?_)
    first | refine c_dec rfl (fun hc31 => ?_) (fun hc31 => ?_) | refine c_if rfl (fun hc31 => ?_) (fun hc31 => ?_)
    ·try simp only [dA, dB, dC, dD, dE, dF, dG, Int.not_lt, Int.not_le] at hc31
     refine c_seq (r_plain ?_)
     refine p1 (x_move (by conv => lhs; whnf)) ?_
     refine p1 (x_assign (by conv => lhs; whnf)) ?_
     refine r_nil (t_n (c_ret (b_r (t_r (t_r (b_r (t_r ?_)))))))
     refine end1 rfl (by conv => lhs; whnf) ?_
     first
       | exact ⟨by rw [hcn, andD, if_neg hc31], by rw [hcn, andD, if_neg hc31]; exact hD, hX⟩
       | (have hz : (D.l.map (·.1)).drop k = [] := List.drop_eq_nil_of_le (by omega)
          rw [hz] at hcl
          rw [hcl]
          exact ⟨rfl, hD, hX⟩)
    ·try simp only [dA, dB, dC, dD, dE, dF, dG, Int.not_lt, Int.not_le] at hc31
     refine c_skip (b_n (t_n (r_plain ?_)))
     refine p1 (x_add rfl rfl (fits_i64 (by omega) (by omega))) ?_
     refine p1 (x_move (by conv => lhs; whnf)) ?_
     refine r_nil ?_
     refine t_n (At.mk (k + 1) (by repeat (first | exact Agr.refl _ _ | exact Agr.hav _ _ _ | refine Agr.upd rfl ?_ | refine Agr.updR rfl ?_ | refine Agr.updL ?_ _ rfl | refine Agr.hav' rfl ?_)) ⟨rfl, trivial⟩ ?_)
     exact ⟨⟨hX, by omega, hN, hg, by first | exact ⟨Dk, hD.more, hgk.mono (by omega), hcn⟩ | exact ⟨_, hD, hgr.mono (by omega), by rw [hcn, andD, if_pos (by omega)]⟩⟩, by first | (dsimp only; omega) | ((show _ < _); omega)⟩
 ·try simp only [dA, dB, dC, dD, dE, dF, dG, Int.not_lt, Int.not_le] at hc12
  refine c_exit (t_e (t_e (b_hit (t_n (c_seq (r_plain ?_))))))
  refine p1 (x_assign (by conv => lhs; whnf)) ?_
  refine r_nil (t_n (c_ret ?_))
  refine end1 rfl (by conv => lhs; whnf) ?_
  first
    | exact ⟨by rw [hcn, andD, if_neg hc31], by rw [hcn, andD, if_neg hc31]; exact hD, hX⟩
    | (have hz : (D.l.map (·.1)).drop k = [] := List.drop_eq_nil_of_le (by omega)
       rw [hz] at hcl
       rw [hcl]
       exact ⟨rfl, hD, hX⟩)
end Go.Proofs.Eng
end
section
namespace Go.Proofs.Eng
open Go.RowKit Go.Sort
section
variable {α : Type} [Inhabited α] {sz : Nat} {enc : α → List Value} {hl : ∀ x, (enc x).length = sz} {h1 : ∀ x, ∀ v ∈ enc x, v.oneCell' = true}
theorem flat_enc : ∀ (xs : List α) (i j : Nat) (v : Value), i < xs.length → (enc (xs.getD i default))[j]? = some v → (∀ x, (enc x).length = sz) → (xs.map enc).flatten[i * sz + j]? = some v := by
  intro xs i j v hi hv hl
  refine Kind.flat_get (s := sz) (fun c hc => ?_) (i := i) (j := j) ?_
  · obtain ⟨x, _, rfl⟩ := List.mem_map.1 hc; exact hl x
  · rw [List.getD_eq_getElem?_getD, List.getElem?_map]
    rw [List.getD_eq_getElem?_getD] at hv
    rw [List.getElem?_eq_getElem hi] at hv ⊢
    exact hv
theorem flat_len (hl : ∀ x, (enc x).length = sz) : ∀ xs : List α, (xs.map enc).flatten.length = xs.length * sz
  | [] => by simp
  | x :: xs => by rw [List.map_cons, List.flatten_cons, List.length_append, hl, flat_len hl xs, List.length_cons, Nat.add_mul]; omega
theorem flatK_eq (hl : ∀ x, (enc x).length = sz) (d' : Array α) : (flatK enc sz d').toList = (d'.toList.map enc).flatten := by
  have hlen : (d'.toList.map enc).flatten.length = d'.size * sz := flat_len hl d'.toList
  apply List.ext_getElem?
  intro t
  by_cases ht : t < d'.size * sz
  · have hk : 0 < sz := by rcases Nat.eq_zero_or_pos sz with h | h; (· subst h; simp at ht); (· exact h)
    have hlt : t / sz < d'.size := Nat.div_lt_of_lt_mul (by rw [Nat.mul_comm]; exact ht)
    have hm : t % sz < sz := Nat.mod_lt _ hk
    have e1 : t = t / sz * sz + t % sz := by have := Nat.div_add_mod t sz; rw [Nat.mul_comm] at this; omega
    have hg := get_flatK enc sz d' t ht
    have hm' : t % sz < (enc d'[t / sz]!).length := by rw [hl]; exact hm
    have hx : (enc d'[t / sz]!)[t % sz]? = some (flatK enc sz d')[t]! := by
      rw [hg, List.getElem?_eq_getElem hm', getElem!_pos (enc d'[t / sz]!) (t % sz) hm']
    have hr := flat_enc (sz := sz) (enc := enc) d'.toList (t / sz) (t % sz) _ (by simpa using hlt) (by
      rw [show d'.toList.getD (t / sz) default = d'[t / sz]! from by rw [getElem!_pos d' _ hlt]; simp [List.getD_eq_getElem?_getD, hlt]]; exact hx) hl
    rw [← e1] at hr
    have hsz : t < (flatK enc sz d').size := by simpa using ht
    rw [hr, Array.getElem?_toList, Array.getElem?_eq_getElem hsz, getElem!_pos (flatK enc sz d') t hsz]
  · rw [List.getElem?_eq_none (by simp; omega), List.getElem?_eq_none (by omega)]
theorem holds_of_own {e : TypeId} {B B0 : Nat} {w : World} {g n c : Nat} {xs : List α} (h : Own (Kind.pure sz enc hl h1) e B B0 w (some ⟨g, 0, none⟩) n c xs) (hn : 0 < n) : HoldsK enc sz w g 0 xs.toArray := by
  obtain ⟨g', cur, css, e1, h2, h3, h4, h5, h6, ha, hlf, ht⟩ := h.block hn
  injection e1 with e1; injection e1 with e1; subst e1
  have hc := all_pure ha
  subst hc
  have hf := flatK_eq hl xs.toArray
  intro j hj
  have hz : (Kind.pure sz enc hl h1).sz = sz := rfl
  have hj' : j < n * sz := by have := h.len; simpa [this] using hj
  refine ⟨?_, frozen_of_row w g _ cur e h3⟩
  have hnc : n * sz ≤ c * sz := Nat.mul_le_mul_right _ h4
  rw [Nat.zero_add]
  refine h3.cell ?_
  have e2 : (xs.map enc).flatten[j]? = cur[j]? := by
    rw [← ht, List.getElem?_take, if_pos (by rw [hz]; exact hj'), Array.getElem?_toList]
  rw [← e2]
  have e3 : (flatK enc sz xs.toArray).toList = (xs.map enc).flatten := hf
  rw [← e3, Array.getElem?_toList, Array.getElem?_eq_getElem hj, getElem!_pos (flatK enc sz xs.toArray) j hj]
  rfl
theorem mod_sortWorld {e : TypeId} {B0 : Nat} {w : World} {g : Nat} {cur : Array Value} (hg : B0 ≤ g) (hB : Blk w g cur e) (m : Nat) (d' : Array α) (os : Array Obj) : Mod B0 e w (sortWorldK enc sz w g 0 m d' os) ∧
    Blk (sortWorldK enc sz w g 0 m d' os) g (putCells id 0 (flatK enc sz d') cur) e := by
  have hlt := hB.lt
  have hsz : (putRowK enc sz (Sort.ahead w m) g 0 d').heap.size = w.heap.size := by unfold putRowK; rw [size_putRow]; rfl
  have hcell : ∀ k, k < w.heap.size → (sortWorldK enc sz w g 0 m d' os).heap[k]? = (putRowK enc sz (Sort.ahead w m) g 0 d').heap[k]? := fun k hk => heap_grow_old _ os (by rw [hsz]; exact hk)
  have hother : ∀ k, k ≠ g → (putRowK enc sz (Sort.ahead w m) g 0 d').heap[k]? = w.heap[k]? := fun k hk => by
    simp only [putRowK, putRow, mapBlock, Sort.ahead, Array.getElem?_modify]
    rw [if_neg (fun e => hk e.symm)]
  have hgb : (putRowK enc sz (Sort.ahead w m) g 0 d').heap[g]? = some (.cells (putCells id 0 (flatK enc sz d') cur) e (0, 0)) := by
    simp only [putRowK, putRow, mapBlock, Sort.ahead, Array.getElem?_modify]
    rw [if_pos trivial]
    have : w.heap[g]? = some (.cells cur e (0, 0)) := hB
    rw [this]; rfl
  have hblk : Blk (sortWorldK enc sz w g 0 m d' os) g (putCells id 0 (flatK enc sz d') cur) e := (hcell g hlt).trans hgb
  refine ⟨⟨?_, fun k hk ho => ?_, fun k hk => ?_, ?_, rfl, rfl, rfl⟩, hblk⟩
  · unfold sortWorldK; rw [size_grow, hsz]; omega
  · have hne : k ≠ g := by
      intro ek; subst ek
      rcases ho with ho | ho
      · omega
      · exact ho hB.ty
    exact (hcell k hk).trans (hother k hne)
  · by_cases ek : k = g
    · subst ek; rw [hblk.ty, hB.ty]
    · exact ty_of_heap ((hcell k hk).trans (hother k ek))
  · exact Nat.le_refl _
theorem own_of_sort {e : TypeId} {B B0 : Nat} {w : World} {g n c : Nat} {xs : List α} (h : Own (Kind.pure sz enc hl h1) e B B0 w (some ⟨g, 0, none⟩) n c xs) (hn : 0 < n) (m : Nat) (d' : Array α) (hd : d'.size = n) (os : Array Obj) :
    Own (Kind.pure sz enc hl h1) e B B0 (sortWorldK enc sz w g 0 m d' os) (some ⟨g, 0, none⟩) n c d'.toList ∧ Mod B0 e w (sortWorldK enc sz w g 0 m d' os) := by
  obtain ⟨g', cur, css, e1, h2, h3, h4, h5, h6, ha, hlf, ht⟩ := h.block hn
  injection e1 with e1; injection e1 with e1; subst e1
  obtain ⟨hm, hb⟩ := mod_sortWorld (enc := enc) (sz := sz) h2 h3 m d' os
  have hz : (Kind.pure sz enc hl h1).sz = sz := rfl
  have hnc : n * sz ≤ c * sz := Nat.mul_le_mul_right _ h4
  refine ⟨Own.remade h2 hb h4 h5 (by rw [hz] at h6 ⊢; simp [putCells, h6]) (by simp [hd]) (pure_all B _ d'.toList) ?_, hm⟩
  rw [← flatK_eq hl d', hz]
  have hs : (flatK enc sz d').size = n * sz := by simp [hd]
  apply List.ext_getElem?
  intro j
  rw [List.getElem?_take]
  rw [hz] at h6
  by_cases hj : j < n * sz
  · rw [if_pos hj, Array.getElem?_toList, Array.getElem?_toList]
    have hjc : j < cur.size := by omega
    simp only [putCells, Array.getElem?_mapIdx, Array.getElem?_eq_getElem hjc, Option.map_some]
    rw [if_pos ⟨Nat.zero_le _, by omega⟩, Nat.sub_zero, Array.getElem?_eq_getElem (show j < (flatK enc sz d').size by omega), getElem!_pos (flatK enc sz d') j (by omega)]
    rfl
  · rw [if_neg hj, Array.getElem?_toList, Array.getElem?_eq_none (by omega)]
end
theorem lex_asymm : ∀ (a b : List UInt8), lex a b = true → lex b a = false
  | x :: l, y :: m, h => by
    unfold lex at h ⊢
    by_cases e : x = y
    · rw [if_pos e] at h; rw [if_pos e.symm]; exact lex_asymm l m h
    · rw [if_neg e] at h; rw [if_neg (fun h => e h.symm)]
      simp only [decide_eq_true_eq, decide_eq_false_iff_not] at h ⊢
      rw [UInt8.lt_iff_toNat_lt] at h ⊢; omega
  | [], _, h => by simp [lex] at h
  | _ :: _, [], h => by simp [lex] at h
theorem lex_trans : ∀ (a b c : List UInt8), lex a b = true → lex b c = true → lex a c = true
  | x :: l, y :: m, z :: n, h, k => by
    unfold lex at h k ⊢
    by_cases e : x = y
    · subst e
      rw [if_pos rfl] at h
      by_cases e2 : x = z
      · rw [if_pos e2] at k ⊢; exact lex_trans l m n h k
      · rw [if_neg e2] at k ⊢; exact k
    · rw [if_neg e] at h
      by_cases e2 : y = z
      · subst e2; rw [if_neg e]; exact h
      · rw [if_neg e2] at k
        simp only [decide_eq_true_eq] at h k
        have h' := UInt8.lt_iff_toNat_lt.1 h
        have k' := UInt8.lt_iff_toNat_lt.1 k
        have e3 : x ≠ z := by intro e3; subst e3; omega
        rw [if_neg e3]
        simp only [decide_eq_true_eq]
        rw [UInt8.lt_iff_toNat_lt]; omega
  | [], _, _, h, _ => by simp [lex] at h
  | _ :: _, [], _, h, _ => by simp [lex] at h
  | _ :: _, _ :: _, [], _, h => by simp [lex] at h
theorem lex_total : ∀ (a b : List UInt8), a.length = b.length → a = b ∨ lex a b = true ∨ lex b a = true
  | x :: l, y :: m, h => by
    unfold lex
    by_cases e : x = y
    · subst e
      rw [if_pos rfl, if_pos rfl]
      rcases lex_total l m (by simpa using h) with h | h | h
      · exact .inl (by rw [h])
      · exact .inr (.inl h)
      · exact .inr (.inr h)
    · rw [if_neg e, if_neg (fun h => e h.symm)]
      right
      simp only [decide_eq_true_eq, UInt8.lt_iff_toNat_lt]
      have : x.toNat ≠ y.toNat := fun h => e (UInt8.toNat_inj.1 h)
      omega
  | [], [], _ => .inl rfl
  | _ :: _, [], h => by simp at h
  | [], _ :: _, h => by simp at h
theorem hlt_asymm {a b : Hash} (h : hlt a b = true) : hlt b a = false := lex_asymm _ _ h
theorem hlt_trans {a b c : Hash} (h : hlt a b = true) (k : hlt b c = true) : hlt a c = true := lex_trans _ _ _ h k
theorem hlt_total (a b : Hash) : a = b ∨ hlt a b = true ∨ hlt b a = true := (lex_total a.1 b.1 (by rw [a.2, b.2])).imp Subtype.ext id
theorem hlt_ne {a b : Hash} (h : hlt a b = true) : a ≠ b := by intro e; subst e; rw [hlt_self] at h; cases h
theorem ltOf_hcmp (a b : Hash) : ltOf hcmp a b = hlt a b := by
  unfold ltOf hcmp
  by_cases e : a = b
  · subst e; simp [hlt_self]
  · rw [if_neg e]
    by_cases h : hlt a b = true
    · simp [h]
    · simp [h]
theorem swo_hash : SWO (ltOf hcmp) where
  irrefl := fun x => by rw [ltOf_hcmp]; exact hlt_self x
  trans := fun x y z h k => by rw [ltOf_hcmp] at *; exact hlt_trans h k
  ntrans := fun x y z h k => by
    rw [ltOf_hcmp] at *
    rcases hlt_total x z with e | e | e
    · rw [e]; exact hlt_self z
    · rcases hlt_total x y with e2 | e2 | e2
      · rw [e2] at e; rw [e] at k; cases k
      · rw [e2] at h; cases h
      · have := hlt_trans e2 e; rw [this] at k; cases k
    · exact hlt_asymm e
abbrev Rise (l : List Hash) : Prop := l.Pairwise (fun a b => hlt a b = true)
theorem rise_ext : ∀ {l m : List Hash}, Rise l → Rise m → (∀ h, h ∈ l ↔ h ∈ m) → l = m
  | [], [], _, _, _ => rfl
  | [], y :: m, _, _, h => by have := (h y).2 (by simp); simp at this
  | x :: l, [], _, _, h => by have := (h x).1 (by simp); simp at this
  | x :: l, y :: m, hl, hm, h => by
    have hl := List.pairwise_cons.1 hl
    have hm := List.pairwise_cons.1 hm
    have hxy : x = y := by
      rcases List.mem_cons.1 ((h x).1 (by simp)) with e | e
      · exact e
      · rcases List.mem_cons.1 ((h y).2 (by simp)) with e2 | e2
        · exact e2.symm
        · have := hlt_asymm (hl.1 y e2); rw [hm.1 x e] at this; cases this
    subst hxy
    congr 1
    refine rise_ext hl.2 hm.2 fun z => ?_
    constructor
    · intro hz
      rcases List.mem_cons.1 ((h z).1 (by simp [hz])) with e | e
      · exact absurd e.symm (hlt_ne (hl.1 z hz))
      · exact e
    · intro hz
      rcases List.mem_cons.1 ((h z).2 (by simp [hz])) with e | e
      · exact absurd e.symm (hlt_ne (hm.1 z hz))
      · exact e
def cpt (xs : List Hash) : Nat → List Hash
  | 0 => []
  | m + 1 => if 0 < m ∧ xs.getD m default = xs.getD (m - 1) default then cpt xs m else cpt xs m ++ [xs.getD m default]
theorem cpt_sorted {xs : List Hash} (hs : ∀ i j, i < j → j < xs.length → hlt (xs.getD j default) (xs.getD i default) = false) : ∀ m, m ≤ xs.length →
    Rise (cpt xs m) ∧ (∀ h, h ∈ cpt xs m ↔ ∃ i, i < m ∧ xs.getD i default = h)
  | 0, _ => ⟨List.Pairwise.nil, fun h => by simp [cpt]⟩
  | m + 1, hm => by
    obtain ⟨h1, h2⟩ := cpt_sorted hs m (by omega)
    unfold cpt
    by_cases e : 0 < m ∧ xs.getD m default = xs.getD (m - 1) default
    · rw [if_pos e]
      refine ⟨h1, fun h => (h2 h).trans ⟨fun ⟨i, hi, e⟩ => ⟨i, by omega, e⟩, fun ⟨i, hi, e2⟩ => ?_⟩⟩
      by_cases hi2 : i < m
      · exact ⟨i, hi2, e2⟩
      · have : i = m := by omega
        subst this
        exact ⟨i - 1, by omega, by rw [← e.2]; exact e2⟩
    · rw [if_neg e]
      refine ⟨List.pairwise_append.2 ⟨h1, by simp, fun a ha b hb => ?_⟩, fun h => ?_⟩
      · have hb' : b = xs.getD m default := by simpa using hb
        subst hb'
        obtain ⟨i, hi, rfl⟩ := (h2 a).1 ha
        rcases hlt_total (xs.getD i default) (xs.getD m default) with e3 | e3 | e3
        · exfalso
          apply e
          refine ⟨by omega, ?_⟩
          by_cases hi2 : i = m - 1
          · rw [← hi2]; exact e3.symm
          · have k1 := hs i (m - 1) (by omega) (by omega)
            have k2 := hs (m - 1) m (by omega) (by omega)
            rw [e3] at k1
            rcases hlt_total (xs.getD m default) (xs.getD (m - 1) default) with e4 | e4 | e4
            · exact e4
            · rw [e4] at k2; cases k2
            · rw [e4] at k1; cases k1
        · exact e3
        · have := hs i m hi (by omega); rw [e3] at this; cases this
      · rw [List.mem_append, h2]
        constructor
        · rintro (⟨i, hi, e3⟩ | e3)
          · exact ⟨i, by omega, e3⟩
          · exact ⟨m, by omega, (List.mem_singleton.1 e3).symm⟩
        · rintro ⟨i, hi, e3⟩
          by_cases hi2 : i < m
          · exact .inl ⟨i, hi2, e3⟩
          · have : i = m := by omega
            subst this; right; exact List.mem_singleton.2 e3.symm
theorem cpt_take {xs : List Hash} : ∀ m, m ≤ xs.length → (∀ i, 0 < i → i < m → xs.getD i default ≠ xs.getD (i - 1) default) → cpt xs m = xs.take m
  | 0, _, _ => rfl
  | m + 1, hm, h => by
    unfold cpt
    rw [if_neg (fun e => h m e.1 (by omega) e.2), cpt_take m (by omega) (fun i h1 h2 => h i h1 (by omega)), List.take_succ_eq_append_getElem (by omega)]
    congr 2
    rw [List.getD_eq_getElem?_getD, List.getElem?_eq_getElem (by omega)]; rfl
theorem cpt_eq {xs : List Hash} {m : Nat} (h : 0 < m) (e : xs.getD m default = xs.getD (m - 1) default) : cpt xs (m + 1) = cpt xs m := by
  conv => lhs; unfold cpt
  rw [if_pos ⟨h, e⟩]
theorem cpt_ne {xs : List Hash} {m : Nat} (e : xs.getD m default ≠ xs.getD (m - 1) default) : cpt xs (m + 1) = cpt xs m ++ [xs.getD m default] := by
  conv => lhs; unfold cpt
  rw [if_neg (fun h => e h.2)]
theorem drop_more {α : Type} {xs zs : List α} {a b : Nat} (h : zs.drop a = xs.drop a) (hab : a ≤ b) : zs.drop b = xs.drop b := by
  have e : b = a + (b - a) := by omega
  rw [e, ← List.drop_drop, ← List.drop_drop, h]
end Go.Proofs.Eng
end
section
namespace Go.Proofs.EngD
open Go.RowKit
def sp : Nat := 1000000007
def upd (f : Nat → Value) (d : Nat) (v : Value) : Nat → Value := fun t => bif Nat.beq t d then (bif Nat.beq d sp then f t else v) else f t
def updR (f : Nat → Value) (d : Nat) (v : Value) : Nat → Value := fun t => bif Nat.beq t d then v else f t
def dec1 : Value → Deferred
  | .int _ k => { target := .collected k.toNat, args := #[] }
  | .func g first captured => { target := .fn g captured, args := first }
  | _ => { target := .nil, args := #[] }
def decD : Value → List Deferred
  | .tuple vs => vs.toList.map dec1
  | _ => []
def fr (n : Nat) (f : Nat → Value) : Act := ⟨Array.ofFn (fun i : Fin (min n sp) => f i), decD (f sp)⟩
def ev (n : Nat) (f : Nat → Value) : Operand → Value
  | .tmp t => bif (Nat.blt t n && Nat.blt t sp) then f t else undef
  | .const v => v
  | .global g => .pointer (some ⟨g, 0, none⟩)
  | .func g => .func (.func g) #[] #[]
theorem blt_t {a b : Nat} (h : a < b) : Nat.blt a b = true := by rw [Nat.blt_eq]; exact h
theorem blt_f {a b : Nat} (h : ¬ a < b) : Nat.blt a b = false := by
  cases hb : Nat.blt a b
  · rfl
  · rw [Nat.blt_eq] at hb; exact absurd hb h
theorem beq_f {a b : Nat} (h : ¬ a = b) : Nat.beq a b = false := by
  cases hb : Nat.beq a b
  · rfl
  · exact absurd (Nat.eq_of_beq_eq_true hb) h
theorem ev_lt {n : Nat} {f : Nat → Value} {t : Nat} (h : t < min n sp) : ev n f (.tmp t) = f t := by
  show (bif (Nat.blt t n && Nat.blt t sp) then f t else undef) = f t
  rw [blt_t (by omega : t < n), blt_t (by omega : t < sp)]; rfl
theorem ev_ge {n : Nat} {f : Nat → Value} {t : Nat} (h : ¬ t < min n sp) : ev n f (.tmp t) = undef := by
  show (bif (Nat.blt t n && Nat.blt t sp) then f t else undef) = undef
  by_cases h1 : t < n
  · rw [blt_f (by omega : ¬ t < sp), Bool.and_false]; rfl
  · rw [blt_f h1, Bool.false_and]; rfl
theorem tmps_fr (n : Nat) (f : Nat → Value) (t : Nat) : (fr n f).tmps[t]? = if t < min n sp then some (f t) else none := by
  show (Array.ofFn (fun i : Fin (min n sp) => f i))[t]? = _
  rw [Array.getElem?_ofFn]
  by_cases h : t < min n sp <;> simp only [h, dif_pos, if_pos, dif_neg, if_neg, not_false_eq_true]
theorem eval_fr (n : Nat) (f : Nat → Value) : (fr n f).eval = ev n f := by
  funext x
  cases x with
  | tmp t =>
    have h : (fr n f).eval (.tmp t) = ((fr n f).tmps[t]?).getD undef := by simp [Act.eval]
    rw [h, tmps_fr]
    by_cases ht : t < min n sp
    · rw [ev_lt ht, if_pos ht]; rfl
    · rw [ev_ge ht, if_neg ht]; rfl
  | const v => rfl
  | global g => rfl
  | func g => rfl
theorem upd_eq (f : Nat → Value) (d : Nat) (v : Value) (hd : ¬ d = sp) : upd f d v d = v := by
  show (bif Nat.beq d d then (bif Nat.beq d sp then f d else v) else f d) = v
  rw [Nat.beq_refl, beq_f hd]; rfl
theorem upd_ne {f : Nat → Value} {d : Nat} {v : Value} {t : Nat} (h : ¬ t = d) : upd f d v t = f t := by
  show (bif Nat.beq t d then _ else f t) = f t
  rw [beq_f h]; rfl
theorem upd_sp (f : Nat → Value) (d : Nat) (v : Value) : upd f d v sp = f sp := by
  by_cases h : sp = d
  · subst h
    show (bif Nat.beq sp sp then (bif Nat.beq sp sp then f sp else v) else f sp) = f sp
    rw [Nat.beq_refl]; rfl
  · exact upd_ne h
theorem updR_eq (f : Nat → Value) (d : Nat) (v : Value) : updR f d v d = v := by
  show (bif Nat.beq d d then v else f d) = v
  rw [Nat.beq_refl]; rfl
theorem updR_ne {f : Nat → Value} {d : Nat} {v : Value} {t : Nat} (h : ¬ t = d) : updR f d v t = f t := by
  show (bif Nat.beq t d then v else f t) = f t
  rw [beq_f h]; rfl
theorem put_fr (n : Nat) (f : Nat → Value) (d : Nat) (v : Value) : (fr n f).put (some d) v = fr n (upd f d v) := by
  unfold fr Act.put
  simp only [Act.mk.injEq, upd_sp, and_true]
  apply Array.ext (by simp)
  intro i h1 h2
  have hi : i < min n sp := by simpa using h2
  simp only [Array.getElem_ofFn]
  by_cases h : d = i
  · subst h; rw [upd_eq _ _ _ (by omega)]; simp
  · rw [upd_ne (fun e => h e.symm)]
    have e : ((Array.ofFn (fun i : Fin (min n sp) => f i)).setIfInBounds d v)[i]? = some (f i) := by rw [Array.getElem?_setIfInBounds_ne h, Array.getElem?_ofFn, dif_pos hi]
    rw [Array.getElem?_eq_getElem (by simpa using hi)] at e
    exact Option.some.inj e
theorem enter_fr {P : Program} {g : FuncId} {fn : Func} {c : Code} {w : World} {R : Ending → World → Prop} (n : Nat) (vs : List Value)
    (hf : P.funcs[g]? = some fn) (hb : fn.body = some c) (hn : fn.ntmps = n) (hl : vs.length ≤ min n sp) (hn2 : min n sp = n)
    (h : c.wp P (bodyPost P fn R) (fr n (fun t => vs.getD t undef)) w) : Calls P g vs.toArray w R := by
  refine calls_of_wp hf hb ?_
  subst hn
  have e : ({ tmps := vs.toArray ++ Array.replicate (fn.ntmps - vs.toArray.size) undef, defers := [] } : Act) = fr fn.ntmps (fun t => vs.getD t undef) := by
    unfold fr
    have hD : decD (vs.getD sp undef) = [] := by
      rw [List.getD_eq_getElem?_getD, List.getElem?_eq_none (by omega)]; rfl
    rw [hD]
    congr 1
    apply Array.ext (by simp only [Array.size_append, List.size_toArray, Array.size_replicate, Array.size_ofFn]; omega)
    intro i h1 h2
    simp only [Array.getElem_ofFn, Array.getElem_append, List.size_toArray]
    by_cases hi : i < vs.length
    · simp [hi]
    · simp [hi]
  rw [e]; exact h
structure Ret (P : Program) (g : FuncId) (vs : List Value) (w : World) (R : Value → World → Prop) : Prop where
  mk :: (out : Calls P g vs.toArray w fun e w' => ∃ v, e = .returned v ∧ R v w')
structure Wp (P : Program) (c : Code) (Q : Exit → Act → World → Prop) (a : Act) (w : World) : Prop where
  mk :: (out : c.wp P Q a w)
structure Lst (P : Program) (ops : Array Oper) (Q : Exit → Act → World → Prop) (l : List Oper) (a : Act) (w : World) : Prop where
  mk :: (out : wpList P ops Q l a w)
structure St (P : Program) (ops : Array Oper) (w : World) (K : Act → Prop) (l : List Oper) (a : Act) : Prop where
  mk :: (out : wpStill P ops w K l a)
structure End (P : Program) (fn : Func) (R : Value → World → Prop) (e : Exit) (a : Act) (w : World) : Prop where
  mk :: (out : bodyPost P fn (fun e w' => ∃ v, e = .returned v ∧ R v w') e a w)
theorem enter {P : Program} {g : FuncId} {fn : Func} {c : Code} {w : World} {R : Value → World → Prop} (n : Nat) (vs : List Value)
    (hf : P.funcs[g]? = some fn) (hb : fn.body = some c) (hn : fn.ntmps = n) (hl : vs.length ≤ min n sp) (hn2 : min n sp = n)
    (h : Wp P c (End P fn R) (fr n (fun t => vs.getD t undef)) w) : Ret P g vs w R := ⟨enter_fr n vs hf hb hn hl hn2 (wp_mono h.out fun _ _ _ k => k.out)⟩
theorem end1 {P : Program} {fn : Func} {R : Value → World → Prop} {n : Nat} {f : Nat → Value} {w : World} {t : Nat} {v : Value} (hr : fn.results = #[.tmp t]) (hv : ev n f (.tmp t) = v) (h : R v w) (hd : decD (f sp) = [] := by rfl) :
    End P fn R .ret (fr n f) w := by
  refine ⟨bodyPost_ret (results_tmp hr _ _ _) hd ⟨v, ?_, h⟩⟩
  rw [← hv, ← eval_fr]; rfl
def Ex (P : Program) (w : World) (n : Nat) (f : Nat → Value) (o : Oper) (v : Value) : Prop := (execOp (ev n f) o).run P w = .ok (.value v) w
section steps
variable {P : Program} {ops : Array Oper} {Q : Exit → Act → World → Prop} {rest : List Oper} {n : Nat} {f : Nat → Value} {w : World}
variable {op : Op} {ty : TypeId} {pos : String} {aft : Array Edge} {d : Nat} {v : Value}
theorem p1 (h : Ex P w n f ⟨some d, op, ty, pos, aft, none⟩ v) (k : Lst P ops Q rest (fr n (upd f d v)) w) : Lst P ops Q (⟨some d, op, ty, pos, aft, none⟩ :: rest) (fr n f) w :=
  ⟨wpList_plain rfl fun K hK => by
    unfold Oper.wp
    rw [eval_fr, h, Oper.upon_value, put_fr]
    exact hK _ _ k.out⟩
end steps
end Go.Proofs.EngD
end
section
namespace Go.Proofs.EngD
open Go.RowKit
section ops
variable {P : Program} {w : World} {n : Nat} {f : Nat → Value} {dst : Option Nat} {ty : TypeId} {pos : String} {aft : Array Edge} {gd : Option (Nat × Bool)}
variable {x y z : Operand} {v u : Value} {k : IntKind} {a b : Int} {T T' : TypeId}
theorem x_move (h : ev n f x = v) : Ex P w n f ⟨dst, .move x, ty, pos, aft, gd⟩ v := by subst h; rfl
theorem x_assign (h : ev n f x = v) : Ex P w n f ⟨dst, .assign x, ty, pos, aft, gd⟩ v := by subst h; rfl
theorem ex_bin {op : BinOp} {r : Value} (hx : ev n f x = v) (hy : ev n f y = u) (hg : (eqGuard op T x y v u).run P w = .ok () w) (h : (binOp op T v u).run P w = .ok r w) : Ex P w n f ⟨dst, .binOp op T x y T', ty, pos, aft, gd⟩ r := by
  unfold Ex execOp
  subst hx hy
  simp only [Sem.run_bind, hg, h, Result.andThen_ok]
  rfl
theorem guard_int {op : BinOp} (k k' : IntKind) : (eqGuard op T x y (.int k a) (.int k' b)).run P w = .ok () w := by cases op <;> rfl
-- arithmetic, wrapped
theorem x_addw (hx : ev n f x = .int k a) (hy : ev n f y = .int k b) : Ex P w n f ⟨dst, .binOp .add T x y T', ty, pos, aft, gd⟩ (.int k (k.wrap (a + b))) :=
  ex_bin hx hy (guard_int k k) (by simp [binOp, Op.intArith])
def Fits (k : IntKind) (a : Int) : Prop := k.wrap a = a
theorem fits_i64 {a : Int} (h1 : -9223372036854775808 ≤ a) (h2 : a ≤ 9223372036854775807) : Fits .i64 a := by
  unfold Fits IntKind.wrap; simp [IntKind.bits, IntKind.signed, IntKind.max]; omega
theorem x_add (hx : ev n f x = .int k a) (hy : ev n f y = .int k b) (h : Fits k (a + b)) : Ex P w n f ⟨dst, .binOp .add T x y T', ty, pos, aft, gd⟩ (.int k (a + b)) := by
  have := x_addw (P := P) (w := w) (dst := dst) (T := T) (T' := T') (ty := ty) (pos := pos) (aft := aft) (gd := gd) hx hy
  rwa [h] at this
-- comparisons of numbers
theorem x_lss (hx : ev n f x = .int k a) (hy : ev n f y = .int k b) : Ex P w n f ⟨dst, .binOp .lss T x y T', ty, pos, aft, gd⟩ (.bool (decide (a < b))) :=
  ex_bin hx hy (guard_int k k) (by simp [binOp, Op.intCmp])
theorem x_eql (hx : ev n f x = .int k a) (hy : ev n f y = .int k b) : Ex P w n f ⟨dst, .binOp .eql T x y T', ty, pos, aft, gd⟩ (.bool (decide (a = b))) :=
  ex_bin hx hy (guard_int k k) (by
    simp only [binOp, ne_eq, not_true_eq_false, if_false, Op.intCmp, Sem.run_pure]
    congr 2)
-- texts
end ops
end Go.Proofs.EngD
end
section
namespace Go.Proofs.EngD
open Go.RowKit
def drw (w : World) : Nat := w.drawn
structure Ext (w w' : World) : Prop where
  size : w.heap.size ≤ w'.heap.size
  old : ∀ k, k < w.heap.size → w'.heap[k]? = w.heap[k]?
  os : w'.os = w.os
  tape : w'.tape = w.tape
  output : w'.output = w.output
  drawn : drw w ≤ drw w'
theorem Ext.refl (w : World) : Ext w w := ⟨Nat.le_refl _, fun _ _ => rfl, rfl, rfl, rfl, Nat.le_refl _⟩
theorem Ext.trans {a b c : World} (h : Ext a b) (k : Ext b c) : Ext a c :=
  ⟨Nat.le_trans h.size k.size, fun i hi => (k.old i (Nat.lt_of_lt_of_le hi h.size)).trans (h.old i hi), k.os.trans h.os, k.tape.trans h.tape, k.output.trans h.output, Nat.le_trans h.drawn k.drawn⟩
theorem Ext.ext {a b c : World} (h : Ext a b) (k : Ext b c) : Ext a c := h.trans k
theorem Ext.drew (w : World) : Ext w w.drew := ⟨Nat.le_refl _, fun _ _ => rfl, rfl, rfl, rfl, Nat.le_succ _⟩
theorem Ext.alloc (w : World) (o : Obj) : Ext w (w.alloc o) := ⟨by simp, fun k hk => Below.heap_alloc w o k hk, rfl, rfl, rfl, Nat.le_refl _⟩
def Blk (w : World) (g : Nat) (cs : Array Value) (t : TypeId) : Prop := w.heap[g]? = some (.cells cs t (0, 0))
theorem Blk.lt {w : World} {g : Nat} {cs : Array Value} {t : TypeId} (h : Blk w g cs t) : g < w.heap.size := (Array.getElem?_eq_some_iff.1 h).1
theorem Blk.ext {w w' : World} {g : Nat} {cs : Array Value} {t : TypeId} (h : Blk w g cs t) (e : Ext w w') : Blk w' g cs t := (e.old g h.lt).trans h
theorem Blk.cell {w : World} {g : Nat} {cs : Array Value} {t : TypeId} (h : Blk w g cs t) {i : Nat} {v : Value} (hv : cs[i]? = some v) : w.cell? ⟨g, i, none⟩ = some v := by
  rw [cell_of_row w g i cs t (0, 0) h]; exact hv
theorem Blk.range {w : World} {g : Nat} {cs : Array Value} {t : TypeId} (h : Blk w g cs t) : w.rangeAt g 0 cs.toList := by
  intro j v hj
  rw [Nat.zero_add]
  exact h.cell (by simpa using hj)
theorem Blk.fresh (w : World) (cs : Array Value) (t : TypeId) : Blk (w.alloc (.cells cs t)) w.heap.size cs t := heap_alloc_new w _
section control
variable {P : Program} {Q : Exit → Act → World → Prop} {K : Act → World → Prop} {a : Act} {w : World} {n : Nat} {f : Nat → Value}
theorem t_n (h : K a w) : Exit.then K Q .normal a w := h
theorem t_e {i : Nat} (h : Q (.exit i) a w) : Exit.then K Q (.exit i) a w := h
theorem t_r (h : Q .ret a w) : Exit.then K Q .ret a w := h
theorem b_n {i : Nat} (h : Q .normal a w) : Exit.inBlock i Q .normal a w := h
theorem b_hit {i : Nat} (h : Q .normal a w) : Exit.inBlock i Q (.exit i) a w := by show (if i = i then Q .normal a w else Q (.exit i) a w); rw [if_pos rfl]; exact h
theorem b_r {i : Nat} (h : Q .ret a w) : Exit.inBlock i Q .ret a w := h
theorem c_seq {x y : Code} (h : Wp P x (Exit.then (Wp P y Q) Q) a w) : Wp P (Code.seq x y) Q a w :=
  ⟨wp_seq (wp_mono h.out fun e a w hq => by cases e <;> first | exact Wp.out hq | exact hq)⟩
theorem c_skip (h : Q .normal a w) : Wp P .skip Q a w := ⟨wp_skip h⟩
theorem c_ret (h : Q .ret a w) : Wp P .ret Q a w := ⟨wp_ret h⟩
theorem c_exit {i : Nat} (h : Q (.exit i) a w) : Wp P (.exit i) Q a w := ⟨wp_exit h⟩
theorem c_block {i : Nat} {c : Code} (h : Wp P c (Exit.inBlock i Q) a w) : Wp P (.block i c) Q a w := ⟨wp_block h.out⟩
theorem c_if {c : Operand} {x y : Code} {b : Bool} (hc : ev n f c = .bool b) (ht : b = true → Wp P x Q (fr n f) w) (hf : b = false → Wp P y Q (fr n f) w) : Wp P (Code.cond c x y) Q (fr n f) w :=
  ⟨wp_cond_split (t := b) (by rw [eval_fr]; exact hc) (fun h => (ht h).out) (fun h => (hf h).out)⟩
theorem c_dec {c : Operand} {x y : Code} {p : Prop} [Decidable p] (hc : ev n f c = .bool (decide p)) (ht : p → Wp P x Q (fr n f) w) (hf : ¬ p → Wp P y Q (fr n f) w) : Wp P (Code.cond c x y) Q (fr n f) w :=
  c_if hc (fun h => ht (of_decide_eq_true h)) (fun h => hf (of_decide_eq_false h))
def hav (f : Nat → Value) (C : List Nat) (g : Nat → Value) : Nat → Value := fun t => bif C.elem t then g t else f t
def updL (f : Nat → Value) : List (Nat × Value) → Nat → Value
  | [] => f
  | (d, v) :: l => updR (updL f l) d v
def hold (f : Nat → Value) : List (Nat × Value) → Prop
  | [] => True
  | (d, v) :: l => f d = v ∧ hold f l
def Agr (C : List Nat) (F f : Nat → Value) : Prop := ∀ t, C.elem t = false → F t = f t
theorem Agr.refl (C : List Nat) (f : Nat → Value) : Agr C f f := fun _ _ => rfl
theorem Agr.hav (C : List Nat) (f g : Nat → Value) : Agr C (hav f C g) f := fun t h => by show (bif C.elem t then g t else f t) = f t; rw [h]; rfl
theorem Agr.upd {C : List Nat} {F f : Nat → Value} {d : Nat} {v : Value} (hd : C.elem d = true) (h : Agr C F f) : Agr C (upd F d v) f := fun t ht => by
  rw [upd_ne (fun e => by subst e; rw [hd] at ht; cases ht)]; exact h t ht
theorem updL_self {F : Nat → Value} : ∀ (l : List (Nat × Value)), hold F l → updL F l = F
  | [], _ => rfl
  | (d, v) :: l, h => by
    have ih := updL_self l h.2
    funext t
    show EngD.updR (updL F l) d v t = F t
    rw [ih]
    by_cases e : t = d
    · subst e; rw [updR_eq]; exact h.1.symm
    · rw [updR_ne e]
theorem hav_self {C : List Nat} {F f : Nat → Value} (h : Agr C F f) : EngD.hav f C F = F := by
  funext t
  show (bif C.elem t then F t else f t) = F t
  cases hc : C.elem t
  · exact (h t hc).symm
  · rfl
theorem frame_eq {C : List Nat} {F f : Nat → Value} {l : List (Nat × Value)} (ha : Agr C F f) (hh : hold F l) : fr n F = fr n (updL (EngD.hav f C F) l) := by
  rw [hav_self ha, updL_self l hh]
def At (n : Nat) (f : Nat → Value) (C : List Nat) {ι : Type} (L : ι → List (Nat × Value)) (I : ι → World → Prop) (a : Act) (w : World) : Prop := ∃ i F, a = fr n F ∧ Agr C F f ∧ hold F (L i) ∧ I i w
theorem At.mk {C : List Nat} {ι : Type} {L : ι → List (Nat × Value)} {I : ι → World → Prop} {F : Nat → Value} (i : ι) (ha : Agr C F f) (hh : hold F (L i)) (hI : I i w) : At n f C L I (fr n F) w := ⟨i, F, rfl, ha, hh, hI⟩
theorem c_loop {c : Code} {ι : Type} (C : List Nat) (L : ι → List (Nat × Value)) (I : ι → World → Prop) (μ : ι → Nat) (i0 : ι) (hh : hold f (L i0)) (h0 : I i0 w)
    (round : ∀ i g w, I i w → Wp P c (Exit.then (At n f C L fun i' w' => I i' w' ∧ μ i' < μ i) Q) (fr n (updL (EngD.hav f C g) (L i))) w) : Wp P (Code.loop c) Q (fr n f) w := by
  refine ⟨?_⟩
  intro b k cs
  have key : ∀ m i F w, μ i = m → Agr C F f → hold F (L i) → I i w →
      ∃ e a' w', Q e a' w' ∧ Arrives P (lone (b.at (fr n F) (.code c :: .inLoop c :: k)) cs w) b k cs e a' w' := by
    intro m
    induction m using Nat.strongRecOn with
    | _ m ih =>
      intro i F w hm hA hH hI
      have hr := round i F w hI
      rw [← frame_eq (n := n) hA hH] at hr
      obtain ⟨e, a₁, w₁, hq, harr⟩ := hr.out b (.inLoop c :: k) cs
      cases e with
      | normal =>
        obtain ⟨i', F', rfl, hA', hH', hI', hlt⟩ := hq
        obtain ⟨e₂, a₂, w₂, hq₂, harr₂⟩ := ih (μ i') (hm ▸ hlt) i' F' w₁ rfl hA' hH' hI'
        exact ⟨e₂, a₂, w₂, hq₂, .of_steps (Steps.trans harr (.one step_inLoop)) harr₂⟩
      | exit id => exact ⟨_, a₁, w₁, hq, .pass (x := .inLoop c) rfl (fun _ _ => .inl (by simp)) harr⟩
      | goto l => exact ⟨_, a₁, w₁, hq, .pass (x := .inLoop c) rfl (fun _ _ => .inl (by simp)) harr⟩
      | ret => exact ⟨_, a₁, w₁, hq, .pass (x := .inLoop c) rfl (fun _ _ => .inl (by simp)) harr⟩
      | panic ch => exact ⟨_, a₁, w₁, hq, .pass (x := .inLoop c) rfl (fun _ _ => .inl (by simp)) harr⟩
      | outgrown => exact ⟨_, a₁, w₁, hq, .pass (x := .inLoop c) rfl (fun _ _ => .inl (by simp)) harr⟩
  obtain ⟨e, a', w', hq, harr⟩ := key _ i0 f w rfl (Agr.refl _ _) hh h0
  exact ⟨e, a', w', hq, .of_steps (.one step_loop) harr⟩
end control
end Go.Proofs.EngD
end
section
namespace Go.Proofs.EngD
open Go.RowKit
section ops
variable {P : Program} {w : World} {n : Nat} {f : Nat → Value} {dst : Option Nat} {ty : TypeId} {pos : String} {aft : Array Edge} {gd : Option (Nat × Bool)}
variable {x y z : Operand} {v u : Value} {k : IntKind} {a b : Int} {T T' : TypeId}
theorem isAgg_f {d : TypeDesc} (hu : P.underlying T = some d) (hd : d.isRow = false) : (isAgg T).run P w = .ok false w := by
  unfold isAgg
  rw [Sem.run_bind, run_underlying hu w]
  cases d <;> simp_all [TypeDesc.isRow]
theorem run_load1 {d : TypeDesc} (hu : P.underlying T = some d) (hd : d.isRow = false) {p : Addr} (hc : w.cell? p = some v) : (loadVar T p).run P w = .ok v w := by
  simp [loadVar, Sem.run_bind, isAgg_f (w := w) hu hd, load, Sem.run, hc]
theorem x_load1 (hu : (P.underlying T).map TypeDesc.isRow = some false) {p : Addr} (hx : ev n f x = .pointer (some p)) (hc : w.cell? p = some v) :
    Ex P w n f ⟨dst, .load T x, ty, pos, aft, gd⟩ v := by
  obtain ⟨d, hu, hd⟩ := Option.map_eq_some_iff.1 hu
  unfold Ex execOp
  simp only [hx, Instr.loadAt, Instr.sureAddr, Sem.run_bind, Sem.run_pure, Result.andThen_ok, run_load1 hu hd hc]
theorem x_loadN (hu : (P.underlying T).map TypeDesc.isRow = some true) {b o : Nat} (hx : ev n f x = .pointer (some ⟨b, o, none⟩)) {cs : List Value} (hi : (P.info? T).map (·.size) = some cs.length) (hc : w.rangeAt b o cs) :
    Ex P w n f ⟨dst, .load T x, ty, pos, aft, gd⟩ (.agg cs.toArray) := by
  obtain ⟨d, hu, hd⟩ := Option.map_eq_some_iff.1 hu
  unfold Ex execOp
  simp only [hx, Instr.loadAt, Instr.sureAddr, Sem.run_bind, Sem.run_pure, Result.andThen_ok, run_loadVar_mid w b o T cs d hc hu hd hi]
theorem x_loadB (hu : (P.underlying T).map TypeDesc.isRow = some true) {g : Nat} (hx : ev n f x = .pointer (some ⟨g, 0, none⟩)) {cs : Array Value} {t : TypeId} (hB : Blk w g cs t) (hi : (P.info? T).map (·.size) = some cs.size) :
    Ex P w n f ⟨dst, .load T x, ty, pos, aft, gd⟩ (.agg cs) := by
  have := x_loadN (P := P) (w := w) (dst := dst) (ty := ty) (pos := pos) (aft := aft) (gd := gd) hu hx (cs := cs.toList) (by simpa using hi) hB.range
  simpa using this
theorem x_ixa {e : TypeId} {len : Nat} (hu : P.underlying T = some (.array len e)) {sz : Nat} (hz : (P.info? e).map (·.size) = some sz) {b o : Nat} (hx : ev n f x = .pointer (some ⟨b, o, none⟩)) (hy : ev n f y = .int k a)
    (h0 : 0 ≤ a) (h1 : a < (len : Int)) : Ex P w n f ⟨dst, .indexAddr T x y, ty, pos, aft, gd⟩ (.pointer (some ⟨b, o + a.toNat * sz, none⟩)) := by
  obtain ⟨ii, hi, hs⟩ := Option.map_eq_some_iff.1 hz
  unfold Ex execOp
  simp [hx, hy, Instr.indexAt, asIntOf, Instr.sureAddr, Sem.run_bind, run_underlying hu, h0, h1, sizeOf, typeInfo, hi, hs, Addr.add_mid]
theorem x_ixa0 {e : TypeId} {len : Nat} (hu : P.underlying T = some (.array len e)) (hz : (P.info? e).map (·.size) = some 1) {b i : Nat} (hx : ev n f x = .pointer (some ⟨b, 0, none⟩)) (hy : ev n f y = .int k (i : Int))
    (h1 : i < len) : Ex P w n f ⟨dst, .indexAddr T x y, ty, pos, aft, gd⟩ (.pointer (some ⟨b, i, none⟩)) := by
  have := x_ixa (P := P) (w := w) (dst := dst) (ty := ty) (pos := pos) (aft := aft) (gd := gd) hu hz hx hy (by omega) (by omega)
  simpa using this
-- equality of arrays of bytes
open Extern.Stop (cell) in
theorem x_eql_bytes {e : TypeId} {m : Nat} (hu : P.underlying T = some (.array m e)) (he : P.underlying e = some (.int .u8)) (hz : (P.info? e).map (·.size) = some 1) (hq : P.eqGuardType P.depth T = false) {xs ys : List UInt8}
    (hx : ev n f x = .agg (xs.map cell).toArray) (hy : ev n f y = .agg (ys.map cell).toArray) (hl : xs.length = m) (hl' : ys.length = m) : Ex P w n f ⟨dst, .binOp .eql T x y T', ty, pos, aft, gd⟩ (.bool (decide (xs = ys))) := by
  obtain ⟨ii, hi, hs⟩ := Option.map_eq_some_iff.1 hz
  have h := run_eql_bytes (P := P) w T e m hu he (fun w => by simp [sizeOf, typeInfo, hi, hs]) xs ys hl hl'
  refine ex_bin hx hy (run_eqGuard_agg w .eql T x y _ _ hq) ?_
  rw [h]
  congr 2
  by_cases hxy : xs = ys <;> simp [hxy]
end ops
section loud
variable {P : Program} {ops : Array Oper} {Q : Exit → Act → World → Prop} {rest : List Oper} {n : Nat} {f : Nat → Value} {w : World}
variable {op : Op} {ty : TypeId} {pos : String} {aft : Array Edge} {d : Nat} {v : Value} {x y z : Operand} {T : TypeId}
structure New (w w' : World) (g : Nat) (cs : Array Value) (t : TypeId) : Prop where
  blk : Blk w' g cs t
  ext : Ext w w'
  g_eq : g = w.heap.size
  size : w'.heap.size = g + 1
theorem New.alloc (w : World) (cs : Array Value) (t : TypeId) : New w (w.alloc (.cells cs t)) w.heap.size cs t := ⟨Blk.fresh w cs t, Ext.alloc w _, rfl, by simp⟩
theorem l1 {w' : World} (h : (execOp (ev n f) ⟨some d, op, ty, pos, aft, none⟩).run P w = .ok (.value v) w') (k : Lst P ops Q rest (fr n (upd f d v)) w') : Lst P ops Q (⟨some d, op, ty, pos, aft, none⟩ :: rest) (fr n f) w :=
  ⟨wpList_plain rfl fun K hK => by
    unfold Oper.wp
    rw [eval_fr, h, Oper.upon_value, put_fr]
    exact hK _ _ k.out⟩
theorem o_box (hx : ev n f x = v) (k : ∀ w' g, New w w' g v.cells T → Lst P ops Q rest (fr n (upd f d (.pointer (some ⟨g, 0, none⟩)))) w') : Lst P ops Q (⟨some d, .box T x, ty, pos, aft, none⟩ :: rest) (fr n f) w :=
  l1 (w' := w.alloc (.cells v.cells T)) (v := .pointer (some ⟨w.heap.size, 0, none⟩)) (by subst hx; rfl) (k _ _ (New.alloc _ _ _))
theorem o_boxA {cs : Array Value} (hx : ev n f x = .agg cs) (k : ∀ w' g, New w w' g cs T → Lst P ops Q rest (fr n (upd f d (.pointer (some ⟨g, 0, none⟩)))) w') : Lst P ops Q (⟨some d, .box T x, ty, pos, aft, none⟩ :: rest) (fr n f) w :=
  o_box hx k
def evL (n : Nat) (f : Nat → Value) : List Operand → List Value
  | [] => []
  | x :: l => ev n f x :: evL n f l
theorem evL_map (n : Nat) (f : Nat → Value) : ∀ l : List Operand, l.map (ev n f) = evL n f l
  | [] => rfl
  | x :: l => by rw [List.map_cons, evL_map n f l]; rfl
theorem o_call {g : FuncId} {as_ : List Operand} {ats : Array TypeId} {fn : Func} {vs : List Value} {R : Value → World → Prop} (hf : P.funcs[g]? = some fn) (hn : (fn.name == "runtime.NumGoroutine") = false) (hb : fn.body.isNone = false)
    (hc : Ret P g vs w R) (ha : evL n f as_ = vs) (k : ∀ v w', R v w' → Lst P ops Q rest (fr n (upd f d v)) w') :
    Lst P ops Q (⟨some d, .call ⟨.value (.func g), as_.toArray, ats⟩, ty, pos, aft, none⟩ :: rest) (fr n f) w :=
  ⟨wpList_plain rfl fun K hK => by
    have hn' : ¬ fn.name = "runtime.NumGoroutine" := by simpa using hn
    have hb' : ¬ fn.body = none := by intro e; rw [e] at hb; cases hb
    have ha' : as_.toArray.map (ev n f) = vs.toArray := by rw [List.map_toArray, evL_map, ha]
    have he : (execOp (ev n f) ⟨some d, .call ⟨.value (.func g), as_.toArray, ats⟩, ty, pos, aft, none⟩).run P w = .ok (.enter g vs.toArray) w := by
      simp [execOp, resolve, ha', ev, Deferred.ofValue, invoke, callFunc, hf, hn', hb', Sem.run_bind, Sem.run]
    unfold Oper.wp
    rw [eval_fr, he, Oper.upon_enter]
    refine Calls.mono hc.out fun e w' hr => ?_
    obtain ⟨v, rfl, hv⟩ := hr
    show K ((fr n f).put (some d) v) w'
    rw [put_fr]
    exact hK _ _ (k v w' hv).out⟩
end loud
section regions
variable {P : Program} {Q : Exit → Act → World → Prop} {n : Nat} {f : Nat → Value} {w : World} {l : List Oper} {id : Nat}
theorem r_plain (h : Lst P l.toArray Q l (fr n f) w) : Wp P (Code.region id l.toArray false) Q (fr n f) w := ⟨wp_region_lit h.out⟩
theorem r_nil {ops : Array Oper} {a : Act} (h : Q .normal a w) : Lst P ops Q [] a w := ⟨h⟩
theorem r_still (hm : P.follows .mixedOrders = true) (hB : Region.lexB .any l.toArray = true) (h : ∀ w', Ext w w' → St P l.toArray w' (fun a' => Q .normal a' w') l (fr n f)) : Wp P (Code.region id l.toArray true) Q (fr n f) w :=
  ⟨wp_region_still_lit hm hB (h w.drew (Ext.drew w)).out⟩
theorem s_nil {ops : Array Oper} {K : Act → Prop} {a : Act} (h : K a) : St P ops w K [] a := ⟨h⟩
theorem s1 {ops : Array Oper} {K : Act → Prop} {rest : List Oper} {op : Op} {ty : TypeId} {pos : String} {aft : Array Edge} {d : Nat} {v : Value} (h : Ex P w n f ⟨some d, op, ty, pos, aft, none⟩ v) (k : St P ops w K rest (fr n (upd f d v))) :
    St P ops w K (⟨some d, op, ty, pos, aft, none⟩ :: rest) (fr n f) := by
  refine ⟨?_⟩
  unfold wpStill
  simp only [Region.wanted, if_true]
  unfold Oper.still
  rw [eval_fr, h, Oper.stillUpon_value, put_fr]
  exact k.out
end regions
end Go.Proofs.EngD
end
section
namespace Go.Proofs.EngD
open Go.RowKit
open Extern.Stop (cell)
abbrev Hash := { l : List UInt8 // l.length = 32 }
instance : Inhabited Hash := ⟨⟨List.replicate 32 0, by simp⟩⟩
def hcs (h : Hash) : List Value := h.1.map cell
def hv (h : Hash) : Array Value := (hcs h).toArray
theorem hcs_len (h : Hash) : (hcs h).length = 32 := by simp [hcs, h.2]
theorem hv_sz {P : Program} {T : TypeId} (hs : (P.info? T).map (·.size) = some 32) (h : Hash) : (P.info? T).map (·.size) = some (hv h).size := by rw [hs]; simp [hv, hcs_len]
theorem hv_get (h : Hash) (i : Nat) (hi : i < 32) : (hv h)[i]? = some (.int .u8 (h.1.getD i 0).toNat) := by
  have := h.2
  simp [hv, hcs, cell, this, hi]
end Go.Proofs.EngD
end
section
namespace Go.Proofs.EngD
def lex : List UInt8 → List UInt8 → Bool
  | x :: l, y :: m => if x = y then lex l m else decide (x < y)
  | _, _ => false
theorem lex_at : ∀ (a b : List UInt8) (k : Nat), k < a.length → k < b.length → (∀ i, i < k → a.getD i 0 = b.getD i 0) → a.getD k 0 ≠ b.getD k 0 → lex a b = decide (a.getD k 0 < b.getD k 0)
  | x :: l, y :: m, 0, _, _, _, h => by
    simp at h
    simp [lex, h]
  | x :: l, y :: m, k + 1, ha, hb, he, h => by
    have h0 : x = y := he 0 (by omega)
    simp only [lex, if_pos h0]
    rw [lex_at l m k (by simpa using ha) (by simpa using hb) (fun i hi => he (i + 1) (by omega)) h]
    simp
  | [], _, k, ha, _, _, _ => by simp at ha
  | _ :: _, [], k, _, hb, _, _ => by simp at hb
theorem lex_self : ∀ a : List UInt8, lex a a = false
  | [] => rfl
  | x :: l => by simp [lex, lex_self l]
theorem eq_of_all {a b : List UInt8} (h : a.length = b.length) (he : ∀ i, i < a.length → a.getD i 0 = b.getD i 0) : a = b := by
  apply List.ext_getElem h
  intro i h1 h2
  have := he i h1
  simpa [h1, h2] using this
theorem u8_inj {a b : UInt8} : ((a.toNat : Int) = (b.toNat : Int)) ↔ a = b := by
  constructor
  · intro h; exact UInt8.toNat_inj.1 (by omega)
  · intro h; rw [h]
theorem u8_lt {a b : UInt8} : ((a.toNat : Int) < (b.toNat : Int)) ↔ a < b := by
  rw [UInt8.lt_iff_toNat_lt]; omega
theorem u8_dlt {a b : UInt8} : decide ((a.toNat : Int) < (b.toNat : Int)) = decide (a < b) := decide_eq_decide.2 u8_lt
def hlt (a b : Hash) : Bool := lex a.1 b.1
theorem hlt_self (a : Hash) : hlt a a = false := lex_self _
theorem hlt_at {a b : Hash} (k : Nat) (hk : k < 32) (he : ∀ i, i < k → a.1.getD i 0 = b.1.getD i 0) (h : a.1.getD k 0 ≠ b.1.getD k 0) : hlt a b = decide (a.1.getD k 0 < b.1.getD k 0) :=
  lex_at a.1 b.1 k (by rw [a.2]; exact hk) (by rw [b.2]; exact hk) he h
theorem hash_eq_of_all {a b : Hash} (h : ∀ i, i < 32 → a.1.getD i 0 = b.1.getD i 0) : a = b := Subtype.ext (eq_of_all (by rw [a.2, b.2]) (fun i hi => h i (by rw [a.2] at hi; exact hi)))
def hcmp (a b : Hash) : Int := if a = b then 0 else if hlt a b = true then -1 else 1
end Go.Proofs.EngD
end
section
set_option maxRecDepth 100000
set_option maxHeartbeats 4000000
namespace Go.Proofs.EngD
open Go.RowKit
open Extern.Stop (cell)
theorem mixed : Tryz.prog.follows .mixedOrders = true := by kernel_rfl
theorem eg64 : Tryz.prog.eqGuardType Tryz.prog.depth 64 = false := by kernel_rfl
theorem fb135 : Tryz.f135.body.isNone = false := by kernel_rfl
theorem fn135 : (Tryz.f135.name == "runtime.NumGoroutine") = false := by kernel_rfl
theorem sz5 : (Tryz.prog.info? 5).map (·.size) = some 1 := by kernel_rfl
theorem sz64 : (Tryz.prog.info? 64).map (·.size) = some 32 := by kernel_rfl
theorem u5 : Tryz.prog.underlying 5 = some (.int .u8) := by kernel_rfl
theorem u64 : Tryz.prog.underlying 64 = some (.array 32 5) := by kernel_rfl
theorem ua64 : (Tryz.prog.underlying 64).map TypeDesc.isRow = some true := by kernel_rfl
theorem un5 : (Tryz.prog.underlying 5).map TypeDesc.isRow = some false := by kernel_rfl
end Go.Proofs.EngD
end
section
set_option maxRecDepth 100000
set_option maxHeartbeats 4000000
namespace Go.Proofs.EngD
open Go.RowKit
open Extern.Stop (cell)
theorem sha_Less (a b : Hash) (w : World) :
    Ret Tryz.prog 135 [.agg (hv a), .agg (hv b)] w (fun v w' => v = .bool (hlt a b) ∧ Ext w w') := by
 have hX := Ext.refl w
 refine enter 25 _ Tryz.func135 rfl rfl (Nat.le_of_ble_eq_true rfl) rfl ?_
 refine c_seq (r_plain ?_)
 refine o_boxA (by conv => lhs; whnf) ?_
 intro w1 g2 hN2
 have hE1 := hN2.ext
 have hX := hX.ext hE1
 have hB2 := hN2.blk
 refine o_boxA (by conv => lhs; whnf) ?_
 intro w2 g3 hN3
 have hE2 := hN3.ext
 have hX := hX.ext hE2
 have hB2 := hB2.ext hE2
 have hB3 := hN3.blk
 refine p1 (x_assign (by conv => lhs; whnf)) ?_
 refine r_nil (t_n (c_seq (c_seq (r_plain ?_))))
 refine p1 (x_loadB ua64 rfl hB2 (hv_sz sz64 a)) ?_
 refine p1 (x_loadB ua64 rfl hB3 (hv_sz sz64 b)) ?_
 refine p1 (x_eql_bytes u64 u5 sz5 eg64 rfl rfl a.2 b.2) ?_
 refine r_nil (t_n ?_)
 first | refine c_dec rfl (fun hc8 => ?_) (fun hc8 => ?_) | refine c_if rfl (fun hc8 => ?_) (fun hc8 => ?_)
 ·try simp only [dA, dB, dC, dD, dE, dF, dG, Int.not_lt, Int.not_le] at hc8
  have hp : hlt a b = false := by rw [Subtype.ext hc8]; exact hlt_self b
  refine c_seq (r_plain ?_)
  refine p1 (x_assign (by conv => lhs; whnf)) ?_
  refine r_nil (t_n (c_ret (t_r ?_)))
  refine end1 rfl (by conv => lhs; whnf) ?_
  first | exact ⟨by rw [hp], hX⟩ | exact ⟨by rw [hlt_at k hk hL (fun e => hc15 (u8_inj.2 e)), u8_dlt], hX⟩
 ·try simp only [dA, dB, dC, dD, dE, dF, dG, Int.not_lt, Int.not_le] at hc8
  refine c_skip (t_n (c_seq (r_plain ?_)))
  refine p1 (x_assign (by conv => lhs; whnf)) ?_
  refine r_nil (t_n (c_seq (c_block ?_)))
  have hWL0 := Ext.refl w2
  refine c_loop (ι := Nat) [5, 9, 10, 11, 12, 13, 14, 15, 16, 17] (fun k => [(5, .int .i64 (k : Int))]) (fun k w' => Ext w2 w' ∧ (k < 32 ∧ ∀ i, i < k → a.1.getD i 0 = b.1.getD i 0)) (fun k => 32 - k) (0) ⟨rfl, trivial⟩ ⟨Ext.refl _, ⟨by omega, fun i hi => by omega⟩⟩ ?_
  rintro k GL0 w3 ⟨hE3, hk, hL⟩
  have hX := hX.ext hE3
  have hB2 := hB2.ext hE3
  have hB3 := hB3.ext hE3
  have hWL0 := hE3
  refine c_seq (c_seq ?_)
  refine r_still mixed (by kernel_rfl) ?_
  intro w4 hE4
  have hX := hX.ext hE4
  have hB2 := hB2.ext hE4
  have hB3 := hB3.ext hE4
  have hWL0 := hWL0.ext hE4
  refine s1 (x_move (by conv => lhs; whnf)) ?_
  refine s1 (x_ixa0 u64 sz5 rfl rfl (by omega)) ?_
  refine s1 (x_load1 un5 rfl (hB2.cell (hv_get a _ (by omega)))) ?_
  refine s1 (x_move (by conv => lhs; whnf)) ?_
  refine s1 (x_ixa0 u64 sz5 rfl rfl (by omega)) ?_
  refine s1 (x_load1 un5 rfl (hB3.cell (hv_get b _ (by omega)))) ?_
  refine s1 (x_eql rfl rfl) ?_
  refine s_nil (t_n ?_)
  first | refine c_dec rfl (fun hc15 => ?_) (fun hc15 => ?_) | refine c_if rfl (fun hc15 => ?_) (fun hc15 => ?_)
  ·try simp only [dA, dB, dC, dD, dE, dF, dG, Int.not_lt, Int.not_le] at hc15
   have h1 := u8_inj.1 hc15
   have hk2 : k + 1 < 32 := by
     apply Classical.byContradiction
     intro hn
     exact hc8 (congrArg Subtype.val <| hash_eq_of_all (fun i hi => if h : i < k then hL i h else by rw [show i = k from by omega]; exact h1))
   refine c_skip (t_n (c_block (r_plain ?_)))
   refine p1 (x_move (by conv => lhs; whnf)) ?_
   refine p1 (x_add rfl rfl (fits_i64 (by omega) (by omega))) ?_
   refine p1 (x_assign (by conv => lhs; whnf)) ?_
   refine r_nil (b_n ?_)
   refine t_n (At.mk (k + 1) (by repeat (first | exact Agr.refl _ _ | exact Agr.hav _ _ _ | refine Agr.upd rfl ?_ | refine Agr.updR rfl ?_ | refine Agr.updL ?_ _ rfl | refine Agr.hav' rfl ?_)) ⟨rfl, trivial⟩ ?_)
   exact ⟨⟨hWL0, ⟨hk2, fun i hi => if h : i < k then hL i h else by rw [show i = k from by omega]; exact h1⟩⟩, by first | (dsimp only; omega) | ((show _ < _); omega)⟩
  ·try simp only [dA, dB, dC, dD, dE, dF, dG, Int.not_lt, Int.not_le] at hc15
   refine c_exit (t_e (t_e (b_hit (t_n (c_seq ?_)))))
   refine r_still mixed (by kernel_rfl) ?_
   intro w5 hE5
   have hX := hX.ext hE5
   have hB2 := hB2.ext hE5
   have hB3 := hB3.ext hE5
   refine s1 (x_move (by conv => lhs; whnf)) ?_
   refine s1 (x_ixa0 u64 sz5 rfl rfl (by omega)) ?_
   refine s1 (x_load1 un5 rfl (hB2.cell (hv_get a _ (by omega)))) ?_
   refine s1 (x_move (by conv => lhs; whnf)) ?_
   refine s1 (x_ixa0 u64 sz5 rfl rfl (by omega)) ?_
   refine s1 (x_load1 un5 rfl (hB3.cell (hv_get b _ (by omega)))) ?_
   refine s1 (x_lss rfl rfl) ?_
   refine s1 (x_assign (by conv => lhs; whnf)) ?_
   refine s_nil (t_n (c_ret ?_))
   refine end1 rfl (by conv => lhs; whnf) ?_
   first | exact ⟨by rw [hp], hX⟩ | exact ⟨by rw [hlt_at k hk hL (fun e => hc15 (u8_inj.2 e)), u8_dlt], hX⟩
theorem compare_any (a b : Hash) (w : World) :
    Ret Tryz.prog 90 [.agg (hv a), .agg (hv b)] w (fun v w' => v = .int .i64 (hcmp a b) ∧ Ext w w') := by
 have hX := Ext.refl w
 refine enter 13 _ Tryz.func90 rfl rfl (Nat.le_of_ble_eq_true rfl) rfl ?_
 refine c_seq (r_plain ?_)
 refine o_boxA (by conv => lhs; whnf) ?_
 intro w1 g2 hN2
 have hE1 := hN2.ext
 have hX := hX.ext hE1
 have hB2 := hN2.blk
 refine o_boxA (by conv => lhs; whnf) ?_
 intro w2 g3 hN3
 have hE2 := hN3.ext
 have hX := hX.ext hE2
 have hB2 := hB2.ext hE2
 have hB3 := hN3.blk
 refine p1 (x_assign (by conv => lhs; whnf)) ?_
 refine r_nil (t_n (c_seq (c_block (c_seq (r_plain ?_)))))
 refine p1 (x_loadB ua64 rfl hB2 (hv_sz sz64 a)) ?_
 refine p1 (x_loadB ua64 rfl hB3 (hv_sz sz64 b)) ?_
 refine p1 (x_eql_bytes u64 u5 sz5 eg64 rfl rfl a.2 b.2) ?_
 refine p1 (x_assign (by conv => lhs; whnf)) ?_
 refine r_nil (t_n ?_)
 first | refine c_dec rfl (fun hc5 => ?_) (fun hc5 => ?_) | refine c_if rfl (fun hc5 => ?_) (fun hc5 => ?_)
 ·try simp only [dA, dB, dC, dD, dE, dF, dG, Int.not_lt, Int.not_le] at hc5
  have hp : hcmp a b = 0 := by unfold hcmp; rw [if_pos (Subtype.ext hc5)]
  refine c_seq (r_plain ?_)
  refine p1 (x_assign (by conv => lhs; whnf)) ?_
  refine r_nil (t_n (c_ret (b_r (t_r ?_))))
  refine end1 rfl (by conv => lhs; whnf) ?_
  exact ⟨by rw [hp], hX⟩
 ·try simp only [dA, dB, dC, dD, dE, dF, dG, Int.not_lt, Int.not_le] at hc5
  refine c_seq (r_plain ?_)
  refine p1 (x_loadB ua64 rfl hB2 (hv_sz sz64 a)) ?_
  refine p1 (x_loadB ua64 rfl hB3 (hv_sz sz64 b)) ?_
  refine o_call Tryz.func135 fn135 fb135 (sha_Less a b _) rfl ?_
  rintro v3 w3 ⟨rfl, hE3⟩
  have hX := hX.ext hE3
  have hB2 := hB2.ext hE3
  have hB3 := hB3.ext hE3
  refine p1 (x_assign (by conv => lhs; whnf)) ?_
  refine r_nil (t_n ?_)
  first | refine c_dec rfl (fun hc9 => ?_) (fun hc9 => ?_) | refine c_if rfl (fun hc9 => ?_) (fun hc9 => ?_)
  ·try simp only [dA, dB, dC, dD, dE, dF, dG, Int.not_lt, Int.not_le] at hc9
   have hp : hcmp a b = -1 := by unfold hcmp; rw [if_neg (fun e => hc5 (by rw [e])), if_pos hc9]
   refine c_seq (r_plain ?_)
   refine p1 (x_assign (by conv => lhs; whnf)) ?_
   refine r_nil (t_n (c_ret (b_r (t_r ?_))))
   refine end1 rfl (by conv => lhs; whnf) ?_
   exact ⟨by rw [hp], hX⟩
  ·try simp only [dA, dB, dC, dD, dE, dF, dG, Int.not_lt, Int.not_le] at hc9
   have hp : hcmp a b = 1 := by unfold hcmp; rw [if_neg (fun e => hc5 (by rw [e])), if_neg (by simp [hc9])]
   refine c_skip (b_n (t_n (c_seq (r_plain ?_))))
   refine p1 (x_assign (by conv => lhs; whnf)) ?_
   refine r_nil (t_n (c_ret ?_))
   refine end1 rfl (by conv => lhs; whnf) ?_
   exact ⟨by rw [hp], hX⟩
end Go.Proofs.EngD
end
section
namespace Go.Proofs.EngD
open Go.RowKit Go.Sort
theorem Ext.grown {w w' : World} (h : Ext w w') : ∃ q os', w' = Sort.grow (w.drewN q) os' := by
  refine ⟨w'.drawn - w.drawn, w'.heap.extract w.heap.size w'.heap.size, ?_⟩
  have e1 : w'.heap = w.heap ++ w'.heap.extract w.heap.size w'.heap.size := by
    apply Array.ext_getElem?
    intro k
    have hs := h.size
    by_cases hk : k < w.heap.size
    · rw [h.old k hk, Array.getElem?_append_left hk]
    · rw [Array.getElem?_append_right (by omega)]
      simp only [Array.getElem?_extract]
      by_cases hk2 : k < w'.heap.size
      · rw [if_pos (by omega)]; congr 1; omega
      · rw [if_neg (by omega), Array.getElem?_eq_none (by omega)]
  have e2 : w'.drawn = w.drawn + (w'.drawn - w.drawn) := by have : w.drawn ≤ w'.drawn := h.drawn; omega
  obtain ⟨h1, h2, h3⟩ := (⟨h.os, h.tape, h.output⟩ : w'.os = w.os ∧ w'.tape = w.tape ∧ w'.output = w.output)
  cases w'
  cases w
  simp only [Sort.grow, World.drewN] at *
  subst h1 h2 h3
  rw [← e1, ← e2]
section
variable {α : Type} [Inhabited α] {sz : Nat} {enc : α → List Value} {hl : ∀ x, (enc x).length = sz} {h1 : ∀ x, ∀ v ∈ enc x, v.oneCell' = true}
theorem cmpLays_of_ret {P : Program} {g : Nat} {cf : α → α → Int} (h : ∀ a b w, Ret P g [.agg (enc a).toArray, .agg (enc b).toArray] w (fun v w' => v = .int .i64 (cf a b) ∧ Ext w w')) (blk off size : Nat) (w : World) : CmpLays P g #[] enc sz cf blk off size w := by
  intro m os dk hs x y
  refine Calls.mono (h x y _).out ?_
  rintro e w' ⟨v, rfl, rfl, hx⟩
  exact ⟨rfl, hx.grown⟩
end
end Go.Proofs.EngD
end
section
namespace Go.Proofs.Eng
open Go.RowKit Go.Sort
theorem enters_hcmp : ∀ args w, (callFunc 90 args).run Tryz.prog w = .ok (.enter 90 args) w := enters_of Tryz.func90 (by kernel_rfl) rfl
theorem isAgg64 : ∀ w, (isAgg 64).run Tryz.prog w = .ok true w := Tryz.isAgg64
theorem sizeOf64 : ∀ w, (Go.sizeOf 64).run Tryz.prog w = .ok 32 w := Tryz.sizeOf64
def Sorted (l : List Hash) : Prop := ∀ i j, i < j → j < l.length → hlt (l.getD j default) (l.getD i default) = false
theorem lexD_eq : ∀ a b : List UInt8, EngD.lex a b = lex a b
  | [], [] => rfl
  | [], _ :: _ => rfl
  | _ :: _, [] => rfl
  | x :: a, y :: b => by unfold EngD.lex lex; rw [lexD_eq a b]
theorem hltD_eq (a b : Hash) : EngD.hlt a b = hlt a b := lexD_eq a.1 b.1
theorem hcmpD_eq (a b : Hash) : EngD.hcmp a b = hcmp a b := by unfold EngD.hcmp hcmp; rw [hltD_eq]
theorem slices_SortFunc_hash (xs : List Hash) (B0 : Nat) (p : Option Addr) (n c : Nat) (w : World) (hO : Own kHash 64 0 B0 w p n c xs) (hs : n ≤ 4194304000) :
    Ret Tryz.prog 89 [.slice p n c, .func (.func 90) #[] #[]] w (fun v w' => ∃ ys, Own kHash 64 0 B0 w' p n c ys ∧ ys.Perm xs ∧ Sorted ys ∧ Mod B0 64 w w') := by
  rcases Nat.eq_zero_or_pos n with h0 | h0
  · subst h0
    have hx0 : xs = [] := List.eq_nil_of_length_eq_zero hO.len
    subst hx0
    refine ⟨Calls.mono (AnyF.slices_SortFunc_none Tryz.sortHash p c (.func (.func 90) #[] #[]) w) ?_⟩
    rintro e w' ⟨rfl, rfl⟩
    exact ⟨_, rfl, [], hO, .refl _, fun i j h1 h2 => by simp at h2, .refl _ _ _⟩
  · obtain ⟨g, cur, css, e1, h2, h3, _⟩ := hO.block h0
    subst e1
    have hlen := hO.len
    have hH := holds_of_own (h := hO) h0
    have hc := AnyQ.slices_SortFunc Tryz.sortHash 32 isAgg64 sizeOf64 hcs hcs_len hcs_one hcmp swo_hash 90 #[] g 0 c xs.toArray w enters_hcmp
      (EngD.cmpLays_of_ret (sz := 32) (enc := hcs) (cf := hcmp) (fun a b w => hcmpD_eq a b ▸ EngD.compare_any a b w) g 0 _ w) hH h3.lt (by simp [hlen]; omega)
    have hsz : xs.toArray.size = n := by simpa using hlen
    rw [hsz] at hc
    refine ⟨Calls.mono hc ?_⟩
    rintro e w' ⟨rfl, d', m, os, hp, hso, rfl⟩
    have hd : d'.size = n := by rw [hp.1, hsz]
    obtain ⟨ho', hm'⟩ := own_of_sort hO h0 m d' hd os
    refine ⟨_, rfl, d'.toList, ho', ?_, ?_, hm'⟩
    · have hpp := hp.2.2
      have e2 : d'.extract 0 n = d' := by rw [← hd]; simp
      have e3 : xs.toArray.extract 0 n = xs.toArray := by rw [← hsz]; simp
      rw [e2, e3] at hpp
      simpa using hpp
    · intro i j hij hj
      have hj' : j < n := by simpa [hd] using hj
      have := hso i j (Nat.zero_le _) hij hj'
      rw [ltOf_hcmp] at this
      rw [getElem!_pos d' j (by omega), getElem!_pos d' i (by omega)] at this
      have g1 : d'.toList.getD j default = d'[j]'(by omega) := by simp [List.getD_eq_getElem?_getD, show j < d'.size by omega]
      have g2 : d'.toList.getD i default = d'[i]'(by omega) := by simp [List.getD_eq_getElem?_getD, show i < d'.size by omega]
      rw [g1, g2]; exact this
end Go.Proofs.Eng
end
section
namespace Go.Proofs.Eng
open Go.RowKit
def wth : List Hash → Hash → List Hash
  | [], h => [h]
  | x :: l, h => if hlt x h = true then x :: wth l h else if x = h then x :: l else h :: x :: l
theorem mem_wth : ∀ (l : List Hash) (h z : Hash), z ∈ wth l h ↔ z ∈ l ∨ z = h
  | [], h, z => by simp [wth]
  | x :: l, h, z => by
    unfold wth
    split
    · rw [List.mem_cons, mem_wth l h z, List.mem_cons]
      constructor
      · rintro (h | h | h) <;> simp [h]
      · rintro ((h | h) | h) <;> simp [h]
    · split
      · rename_i e
        constructor
        · intro h; exact .inl h
        · rintro (h | h)
          · exact h
          · rw [h, ← e]; simp
      · simp only [List.mem_cons]
        constructor
        · rintro (h | h) <;> simp [h]
        · rintro (h | h) <;> simp [h]
theorem rise_wth : ∀ (l : List Hash) (h : Hash), Rise l → Rise (wth l h)
  | [], h, _ => by simp [wth]
  | x :: l, h, hr => by
    have hr' := List.pairwise_cons.1 hr
    unfold wth
    split
    · rename_i hx
      refine List.pairwise_cons.2 ⟨fun z hz => ?_, rise_wth l h hr'.2⟩
      rcases (mem_wth l h z).1 hz with e | e
      · exact hr'.1 z e
      · rw [e]; exact hx
    · split
      · exact hr
      · rename_i h1 h2
        have h3 : hlt h x = true := by
          rcases hlt_total x h with e | e | e
          · exact absurd e h2
          · exact absurd e h1
          · exact e
        refine List.pairwise_cons.2 ⟨fun z hz => ?_, hr⟩
        rcases List.mem_cons.1 hz with e | e
        · rw [e]; exact h3
        · exact hlt_trans h3 (hr'.1 z e)
theorem wth_len : ∀ (l : List Hash) (h : Hash), (wth l h).length ≤ l.length + 1
  | [], h => by simp [wth]
  | x :: l, h => by
    unfold wth
    split
    · have := wth_len l h; simp; omega
    · split <;> simp
def srt (xs : List Hash) : List Hash := xs.foldl wth []
theorem foldl_wth : ∀ (xs acc : List Hash), Rise acc → Rise (xs.foldl wth acc) ∧ (∀ z, z ∈ xs.foldl wth acc ↔ z ∈ acc ∨ z ∈ xs) ∧ (xs.foldl wth acc).length ≤ acc.length + xs.length
  | [], acc, h => ⟨h, fun z => by simp, by simp⟩
  | x :: xs, acc, h => by
    obtain ⟨h1, h2, h3⟩ := foldl_wth xs (wth acc x) (rise_wth acc x h)
    refine ⟨h1, fun z => ?_, ?_⟩
    · rw [List.foldl_cons, h2 z, mem_wth, List.mem_cons, or_assoc]
    · have := wth_len acc x; rw [List.foldl_cons, List.length_cons]; omega
theorem rise_srt (xs : List Hash) : Rise (srt xs) := (foldl_wth xs [] .nil).1
theorem mem_srt {xs : List Hash} {z : Hash} : z ∈ srt xs ↔ z ∈ xs := by unfold srt; have := (foldl_wth xs [] .nil).2.1 z; simpa using this
theorem srt_eq {xs ys : List Hash} (h : Rise ys) (hm : ∀ z, z ∈ ys ↔ z ∈ xs) : ys = srt xs := rise_ext h (rise_srt xs) fun z => (hm z).trans mem_srt.symm
theorem mem_iff_getD {xs : List Hash} {z : Hash} : z ∈ xs ↔ ∃ i, i < xs.length ∧ xs.getD i default = z := by
  constructor
  · intro h
    obtain ⟨i, hi, e⟩ := List.mem_iff_getElem.1 h
    exact ⟨i, hi, by rw [List.getD_eq_getElem?_getD, List.getElem?_eq_getElem hi]; exact e⟩
  · rintro ⟨i, hi, e⟩; exact mem_of_getD hi e
theorem srt_cpt {xs ys : List Hash} {n : Nat} (hp : ys.Perm xs) (hs : Sorted ys) (hn : ys.length = n) : cpt ys n = srt xs := by
  subst hn
  obtain ⟨h1, h2⟩ := cpt_sorted hs ys.length (Nat.le_refl _)
  exact srt_eq h1 fun z => (h2 z).trans (mem_iff_getD.symm.trans hp.mem_iff)
end Go.Proofs.Eng
end
section
namespace Go.Proofs.Eng
open Go.RowKit
def inS (xs : List Hash) : Hash → Option Bool := fun h => if h ∈ xs then some true else none
theorem nodup_le : ∀ {xs ks : List Hash}, xs.Nodup → (∀ z ∈ xs, z ∈ ks) → xs.length ≤ ks.length
  | [], _, _, _ => by simp
  | x :: xs, ks, hn, hs => by
    have hn' := List.nodup_cons.1 hn
    have hx : x ∈ ks := hs x (by simp)
    have h1 := nodup_le (ks := ks.erase x) hn'.2 (fun z hz => (List.mem_erase_of_ne (fun e => hn'.1 (by rw [← e]; exact hz))).2 (hs z (by simp [hz])))
    rw [List.length_erase_of_mem hx] at h1
    have := List.length_pos_of_mem hx
    simp only [List.length_cons]
    omega
theorem Rise.nodup {xs : List Hash} (h : Rise xs) : xs.Nodup := List.Pairwise.imp (fun h e => hlt_ne h e) h
end Go.Proofs.Eng
end
section
set_option maxRecDepth 100000
set_option maxHeartbeats 4000000
namespace Go.Proofs.Eng
open Go.RowKit
open Extern.Stop (cell)
theorem sha_rotate (x n : Int) (w : World) (h0 : 0 ≤ n) (h1 : n ≤ 32) :
    Ret Tryz.prog 162 [.int .u32 x, .int .u64 n] w (fun v w' => v = .int .u32 (rotW x n) ∧ Ext w w') := by
 have hX := Ext.refl w
 refine enter 13 _ Tryz.func162 rfl rfl (Nat.le_of_ble_eq_true rfl) rfl ?_
 refine c_seq (r_plain ?_)
 refine p1 (x_assign (by conv => lhs; whnf)) ?_
 refine r_nil (t_n (c_seq (r_plain ?_)))
 refine p1 (x_move (by conv => lhs; whnf)) ?_
 refine p1 (x_move (by conv => lhs; whnf)) ?_
 refine p1 (x_shr rfl rfl (by omega)) ?_
 refine p1 (x_move (by conv => lhs; whnf)) ?_
 refine p1 (x_move (by conv => lhs; whnf)) ?_
 refine p1 (x_sub rfl rfl (fits_u64 (by omega) (by omega))) ?_
 refine p1 (x_shl rfl rfl (by omega)) ?_
 refine p1 (x_or rfl rfl) ?_
 refine p1 (x_assign (by conv => lhs; whnf)) ?_
 refine r_nil (t_n (c_ret ?_))
 refine end1 rfl (by conv => lhs; whnf) ?_
 exact ⟨rfl, hX⟩
theorem pa64 : placed Tryz.prog 175 = some (.agg #[.int .u32 0, .int .u32 0, .int .u32 0, .int .u32 0, .int .u32 0, .int .u32 0, .int .u32 0, .int .u32 0], [(0, 1), (1, 1), (2, 1), (3, 1), (4, 1), (5, 1), (6, 1), (7, 1)]) := by kernel_rfl
theorem fill8 (s : W8) : Instr.fill (fun i => ([(0, 1), (1, 1), (2, 1), (3, 1), (4, 1), (5, 1), (6, 1), (7, 1)] : List (Nat × Nat))[i]?) (Value.agg #[.int .u32 0, .int .u32 0, .int .u32 0, .int .u32 0, .int .u32 0, .int .u32 0, .int .u32 0, .int .u32 0]).cells [(0, .int .u32 s.a), (1, .int .u32 s.b), (2, .int .u32 s.c), (3, .int .u32 s.d), (4, .int .u32 s.e), (5, .int .u32 s.f), (6, .int .u32 s.g), (7, .int .u32 s.h)] = some (wds s.l) := by first | kernel_rfl | (simp [Instr.fill, Value.cells, wds, W8.l]; done)
theorem x_build8 {n : Nat} {f : Nat → Value} {w : World} {dst : Option Nat} {ty0 : TypeId} {pos : String} {aft : Array Edge} {gd : Option (Nat × Bool)} {parts : List (Nat × Operand)} (s : W8) (hp : evP n f parts = [(0, .int .u32 s.a), (1, .int .u32 s.b), (2, .int .u32 s.c), (3, .int .u32 s.d), (4, .int .u32 s.e), (5, .int .u32 s.f), (6, .int .u32 s.g), (7, .int .u32 s.h)]) : Ex Tryz.prog w n f ⟨dst, .build 175 parts.toArray, ty0, pos, aft, gd⟩ (.agg (wds s.l)) :=
  x_build pa64 hp (fill8 s)
end Go.Proofs.Eng
end
section
set_option maxRecDepth 100000
set_option maxHeartbeats 4000000
namespace Go.Proofs.Eng
open Go.RowKit
open Extern.Stop (cell)
theorem sha_mix (s : W8) (bs : List UInt8) (w : World) (hb : bs.length = 64) (hrt : Rt w) :
    Ret Tryz.prog 126 [.agg (wds s.l), .agg (bcs bs)] w (fun v w' => v = .agg (wds (mixF s bs).l) ∧ Ext w w') := by
 have hX := Ext.refl w
 refine enter 211 _ Tryz.func126 rfl rfl (Nat.le_of_ble_eq_true rfl) rfl ?_
 refine c_seq (r_plain ?_)
 refine o_boxA (by conv => lhs; whnf) ?_
 intro w1 g2 hN2
 have hE1 := hN2.ext
 have hX := hX.ext hE1
 have hB2 := hN2.blk
 have l2 := hB2.lt
 refine o_boxA (by conv => lhs; whnf) ?_
 intro w2 g3 hN3
 have hE2 := hN3.ext
 have hX := hX.ext hE2
 have hB2 := hB2.ext hE2
 have hB3 := hN3.blk
 have l3 := hB3.lt
 refine o_alloc zr175 ?_
 intro w3 g4 hN4
 have hE3 := hN4.ext
 have hX := hX.ext hE3
 have hB2 := hB2.ext hE3
 have hB3 := hB3.ext hE3
 have hB4 := hN4.blk
 refine r_nil (t_n (c_seq (r_plain ?_)))
 have l4 := hB4.lt
 refine o_alloc zr213 ?_
 intro w4 g5 hN5
 have hE4 := hN5.ext
 have hX := hX.ext hE4
 have hB2 := hB2.ext hE4
 have hB3 := hB3.ext hE4
 have hB4 := hB4.ext hE4
 have hB5 := hN5.blk
 refine r_nil (t_n (c_seq (c_seq ?_)))
 have e2 := hN2.g_eq
 have e3 := hN3.g_eq
 have e4 := hN4.g_eq
 have e5 := hN5.g_eq
 have hB3 : Blk _ g3 (bcs bs) 176 := hB3
 have hB4 : Blk _ g4 (wds (List.replicate 8 0)) 175 := hB4
 have hB5 : Blk _ g5 (wds (List.replicate 64 0)) 213 := hB5
 have hg2 : w.heap.size ≤ g2 := by omega
 have h23 : g2 < g3 := by omega
 have h34 : g3 < g4 := by omega
 have h45 : g4 < g5 := by omega
 refine r_plain ?_
 refine p1 (x_move (by conv => lhs; whnf)) ?_
 refine r_nil (t_n (c_block ?_))
 refine c_loop (ι := Nat) [6, 23, 24, 25, 26, 27, 28, 29, 30, 31, 32, 33, 34, 35, 36, 37, 38, 39, 40, 41, 42, 43, 44, 45, 46, 47, 48, 49, 50, 51, 52, 53, 54, 55, 56, 57] (fun i => [(23, .int .i64 (i : Int))]) (fun i w' => Ext w w' ∧ (i ≤ 16 ∧ Blk w' g2 (wds s.l) 175 ∧ Blk w' g3 (bcs bs) 176 ∧ Blk w' g4 (wds (List.replicate 8 0)) 175 ∧ Blk w' g5 (wds (ownW bs i)) 213)) (fun i => 16 - i) (0) ⟨rfl, trivial⟩ ⟨hX, ⟨by omega, hB2, hB3, hB4, hB5⟩⟩ ?_
 rintro i GL0 w5 ⟨hE5, hi, hB2, hB3, hB4, hB5⟩
 have hX := hE5
 refine c_seq (r_plain ?_)
 refine p1 (x_lss rfl rfl) ?_
 refine r_nil (t_n (c_seq ?_))
 first | refine c_dec rfl (fun hc24 => ?_) (fun hc24 => ?_) | refine c_if rfl (fun hc24 => ?_) (fun hc24 => ?_)
 ·try simp only [dA, dB, dC, dD, dE, dF, dG, Int.not_lt, Int.not_le] at hc24
  refine c_skip (t_n (c_seq (c_block (c_seq (r_plain ?_)))))
  refine p1 (x_move (by conv => lhs; whnf)) ?_
  refine p1 (x_assign (by conv => lhs; whnf)) ?_
  refine r_nil (t_n ?_)
  refine r_tail 31 mixed (by kernel_rfl) ?_
  intro w6 hE6
  have hX := hX.ext hE6
  have hB2 := hB2.ext hE6
  have hB3 := hB3.ext hE6
  have hB4 := hB4.ext hE6
  have hB5 := hB5.ext hE6
  refine s1 (x_move (by conv => lhs; whnf)) ?_
  refine s1 (x_move (by conv => lhs; whnf)) ?_
  refine s1 ((x_mul rfl rfl (fits_i64 (by omega) (by omega))).cast (congrArg _ (by omega : (4 : Int) * (i : Int) = ((4 * i : Nat) : Int)))) ?_
  refine s1 (x_ixa0 (i := 4 * i) u176 sz5 rfl rfl (by omega)) ?_
  have hx0 := (bs.getD (4 * i) 0).toNat_lt
  refine s1 (x_load1 un5 rfl (hB3.cell (bcs_get (by omega)))) ?_
  refine s1 (x_convf u174 us5 rfl (fits_u32 (by omega) (by omega))) ?_
  refine s1 (x_shl rfl rfl (by omega)) ?_
  refine s1 (x_move (by conv => lhs; whnf)) ?_
  refine s1 (x_mul rfl rfl (fits_i64 (by omega) (by omega))) ?_
  refine s1 ((x_add rfl rfl (fits_i64 (by omega) (by omega))).cast (congrArg _ (by omega : (4 : Int) * (i : Int) + 1 = ((4 * i + 1 : Nat) : Int)))) ?_
  refine s1 (x_ixa0 (i := 4 * i + 1) u176 sz5 rfl rfl (by omega)) ?_
  have hx1 := (bs.getD (4 * i + 1) 0).toNat_lt
  refine s1 (x_load1 un5 rfl (hB3.cell (bcs_get (by omega)))) ?_
  refine s1 (x_convf u174 us5 rfl (fits_u32 (by omega) (by omega))) ?_
  refine s1 (x_shl rfl rfl (by omega)) ?_
  refine s1 (x_or rfl rfl) ?_
  refine s1 (x_move (by conv => lhs; whnf)) ?_
  refine s1 (x_mul rfl rfl (fits_i64 (by omega) (by omega))) ?_
  refine s1 ((x_add rfl rfl (fits_i64 (by omega) (by omega))).cast (congrArg _ (by omega : (4 : Int) * (i : Int) + 2 = ((4 * i + 2 : Nat) : Int)))) ?_
  refine s1 (x_ixa0 (i := 4 * i + 2) u176 sz5 rfl rfl (by omega)) ?_
  have hx2 := (bs.getD (4 * i + 2) 0).toNat_lt
  refine s1 (x_load1 un5 rfl (hB3.cell (bcs_get (by omega)))) ?_
  refine s1 (x_convf u174 us5 rfl (fits_u32 (by omega) (by omega))) ?_
  refine s1 (x_shl rfl rfl (by omega)) ?_
  refine s1 (x_or rfl rfl) ?_
  refine s1 (x_move (by conv => lhs; whnf)) ?_
  refine s1 (x_mul rfl rfl (fits_i64 (by omega) (by omega))) ?_
  refine s1 ((x_add rfl rfl (fits_i64 (by omega) (by omega))).cast (congrArg _ (by omega : (4 : Int) * (i : Int) + 3 = ((4 * i + 3 : Nat) : Int)))) ?_
  refine s1 (x_ixa0 (i := 4 * i + 3) u176 sz5 rfl rfl (by omega)) ?_
  have hx3 := (bs.getD (4 * i + 3) 0).toNat_lt
  refine s1 (x_load1 un5 rfl (hB3.cell (bcs_get (by omega)))) ?_
  refine s1 (x_convf u174 us5 rfl (fits_u32 (by omega) (by omega))) ?_
  refine s1 ((x_or rfl rfl).cast (congrArg _ (or4 bs (4 * i)))) ?_
  refine s1 (x_ixa0 u213 sz174 rfl rfl (by omega)) ?_
  refine s_nil ?_
  refine o_store1 rfl (by conv => lhs; whnf) rfl rfl sz174 hB5 (by rw [wds_size, ownW_len]; omega) ?_
  intro w7 hP7
  have hX := hX.put hP7 (by omega)
  have hB2 := hP7.keep hB2 (by omega)
  have hB3 := hP7.keep hB3 (by omega)
  have hB4 := hP7.keep hB4 (by omega)
  have hB5 := hP7.blk
  rw [wds_set] at hB5
  refine r_nil (b_n (t_n (r_plain ?_)))
  refine p1 (x_add rfl rfl (fits_i64 (by omega) (by omega))) ?_
  refine p1 (x_move (by conv => lhs; whnf)) ?_
  refine r_nil ?_
  refine t_n (At.mk (i + 1) (by repeat (first | exact Agr.refl _ _ | exact Agr.hav _ _ _ | refine Agr.upd rfl ?_ | refine Agr.updR rfl ?_ | refine Agr.updL ?_ _ rfl | refine Agr.hav' rfl ?_)) ⟨rfl, trivial⟩ ?_)
  exact ⟨⟨hX, ⟨by omega, hB2, hB3, hB4, hB5⟩⟩, by first | (dsimp only; omega) | ((show _ < _); omega)⟩
 ·try simp only [dA, dB, dC, dD, dE, dF, dG, Int.not_lt, Int.not_le] at hc24
  have h16 : i = 16 := by omega
  subst h16
  refine c_exit (t_e (t_e (b_hit (t_n (c_seq (c_seq (r_plain ?_)))))))
  refine p1 (x_assign (by conv => lhs; whnf)) ?_
  refine r_nil (t_n (c_block ?_))
  refine c_loop (ι := Nat) [7, 8, 9, 58, 59, 60, 61, 62, 63, 64, 65, 66, 67, 68, 69, 70, 71, 72, 73, 74, 75, 76, 77, 78, 79, 80, 81, 82, 83, 84, 85, 86, 87, 88, 89, 90, 91, 92, 93, 94, 95, 96, 97, 98, 99, 100, 101, 102, 103, 104, 105, 106, 107, 108, 109, 110] (fun m => [(7, .int .i64 ((16 + m : Nat) : Int))]) (fun m w' => Ext w w' ∧ (m ≤ 48 ∧ Blk w' g2 (wds s.l) 175 ∧ Blk w' g3 (bcs bs) 176 ∧ Blk w' g4 (wds (List.replicate 8 0)) 175 ∧ Blk w' g5 (wds (extW (ownW bs 16) m)) 213)) (fun m => 48 - m) (0) ⟨rfl, trivial⟩ ⟨hX, ⟨by omega, hB2, hB3, hB4, hB5⟩⟩ ?_
  rintro m GL2 w8 ⟨hE8, hm, hB2, hB3, hB4, hB5⟩
  have hX := hE8
  refine c_seq (c_seq (r_plain ?_))
  refine p1 (x_move (by conv => lhs; whnf)) ?_
  refine p1 (x_lss rfl rfl) ?_
  refine r_nil (t_n ?_)
  first | refine c_dec rfl (fun hc59 => ?_) (fun hc59 => ?_) | refine c_if rfl (fun hc59 => ?_) (fun hc59 => ?_)
  ·try simp only [dA, dB, dC, dD, dE, dF, dG, Int.not_lt, Int.not_le] at hc59
   refine c_skip (t_n (c_seq (c_block (c_seq ?_))))
   refine r_held (fun w1 w2 => Ext w1 w2) mixed ?_
   intro w9 hE9
   have hX := hX.ext hE9
   have hB2 := hB2.ext hE9
   have hB3 := hB3.ext hE9
   have hB4 := hB4.ext hE9
   have hB5 := hB5.ext hE9
   have hSr10 : (fun w1 w2 => Ext w1 w2) w9 w9 := Ext.refl w9
   refine h_take 0 rfl (by kernel_rfl) (by kernel_rfl) (by kernel_rfl) hSr10 (fun wS hSS => by (have hX := hX.ext hSS; have hB2 := hB2.ext hSS; have hB3 := hB3.ext hSS; have hB4 := hB4.ext hSS; have hB5 := hB5.ext hSS; exact (x_move (by conv => lhs; whnf)))) ?_
   refine h_take 1 rfl (by kernel_rfl) (by kernel_rfl) (by kernel_rfl) hSr10 (fun wS hSS => by (have hX := hX.ext hSS; have hB2 := hB2.ext hSS; have hB3 := hB3.ext hSS; have hB4 := hB4.ext hSS; have hB5 := hB5.ext hSS; exact ((x_sub rfl rfl (fits_i64 (by omega) (by omega))).cast (congrArg _ (by omega : ((16 + m : Nat) : Int) - 15 = ((16 + m - 15 : Nat) : Int)))))) ?_
   refine h_take 2 rfl (by kernel_rfl) (by kernel_rfl) (by kernel_rfl) hSr10 (fun wS hSS => by (have hX := hX.ext hSS; have hB2 := hB2.ext hSS; have hB3 := hB3.ext hSS; have hB4 := hB4.ext hSS; have hB5 := hB5.ext hSS; exact (x_ixa0 u213 sz174 rfl rfl (by omega)))) ?_
   refine h_take 3 rfl (by kernel_rfl) (by kernel_rfl) (by kernel_rfl) hSr10 (fun wS hSS => by (have hX := hX.ext hSS; have hB2 := hB2.ext hSS; have hB3 := hB3.ext hSS; have hB4 := hB4.ext hSS; have hB5 := hB5.ext hSS; exact (x_load1 un174 rfl (hB5.cell (wds_get (by rw [extW_len, ownW_len]; omega)))))) ?_
   refine h_take 5 rfl (by kernel_rfl) (by kernel_rfl) (by kernel_rfl) hSr10 (fun wS hSS => by (have hX := hX.ext hSS; have hB2 := hB2.ext hSS; have hB3 := hB3.ext hSS; have hB4 := hB4.ext hSS; have hB5 := hB5.ext hSS; exact (x_move (by conv => lhs; whnf)))) ?_
   refine h_take 6 rfl (by kernel_rfl) (by kernel_rfl) (by kernel_rfl) hSr10 (fun wS hSS => by (have hX := hX.ext hSS; have hB2 := hB2.ext hSS; have hB3 := hB3.ext hSS; have hB4 := hB4.ext hSS; have hB5 := hB5.ext hSS; exact ((x_sub rfl rfl (fits_i64 (by omega) (by omega))).cast (congrArg _ (by omega : ((16 + m : Nat) : Int) - 15 = ((16 + m - 15 : Nat) : Int)))))) ?_
   refine h_take 7 rfl (by kernel_rfl) (by kernel_rfl) (by kernel_rfl) hSr10 (fun wS hSS => by (have hX := hX.ext hSS; have hB2 := hB2.ext hSS; have hB3 := hB3.ext hSS; have hB4 := hB4.ext hSS; have hB5 := hB5.ext hSS; exact (x_ixa0 u213 sz174 rfl rfl (by omega)))) ?_
   refine h_take 8 rfl (by kernel_rfl) (by kernel_rfl) (by kernel_rfl) hSr10 (fun wS hSS => by (have hX := hX.ext hSS; have hB2 := hB2.ext hSS; have hB3 := hB3.ext hSS; have hB4 := hB4.ext hSS; have hB5 := hB5.ext hSS; exact (x_load1 un174 rfl (hB5.cell (wds_get (by rw [extW_len, ownW_len]; omega)))))) ?_
   refine h_take 11 rfl (by kernel_rfl) (by kernel_rfl) (by kernel_rfl) hSr10 (fun wS hSS => by (have hX := hX.ext hSS; have hB2 := hB2.ext hSS; have hB3 := hB3.ext hSS; have hB4 := hB4.ext hSS; have hB5 := hB5.ext hSS; exact (x_move (by conv => lhs; whnf)))) ?_
   refine h_take 12 rfl (by kernel_rfl) (by kernel_rfl) (by kernel_rfl) hSr10 (fun wS hSS => by (have hX := hX.ext hSS; have hB2 := hB2.ext hSS; have hB3 := hB3.ext hSS; have hB4 := hB4.ext hSS; have hB5 := hB5.ext hSS; exact ((x_sub rfl rfl (fits_i64 (by omega) (by omega))).cast (congrArg _ (by omega : ((16 + m : Nat) : Int) - 15 = ((16 + m - 15 : Nat) : Int)))))) ?_
   refine h_take 13 rfl (by kernel_rfl) (by kernel_rfl) (by kernel_rfl) hSr10 (fun wS hSS => by (have hX := hX.ext hSS; have hB2 := hB2.ext hSS; have hB3 := hB3.ext hSS; have hB4 := hB4.ext hSS; have hB5 := hB5.ext hSS; exact (x_ixa0 u213 sz174 rfl rfl (by omega)))) ?_
   refine h_take 14 rfl (by kernel_rfl) (by kernel_rfl) (by kernel_rfl) hSr10 (fun wS hSS => by (have hX := hX.ext hSS; have hB2 := hB2.ext hSS; have hB3 := hB3.ext hSS; have hB4 := hB4.ext hSS; have hB5 := hB5.ext hSS; exact (x_load1 un174 rfl (hB5.cell (wds_get (by rw [extW_len, ownW_len]; omega)))))) ?_
   refine h_take 15 rfl (by kernel_rfl) (by kernel_rfl) (by kernel_rfl) hSr10 (fun wS hSS => by (have hX := hX.ext hSS; have hB2 := hB2.ext hSS; have hB3 := hB3.ext hSS; have hB4 := hB4.ext hSS; have hB5 := hB5.ext hSS; exact (x_shr rfl rfl (by omega)))) ?_
   refine h_one 4 _ rfl (by kernel_rfl) (hop_of_list (fun Q4 hQ4 => ?_))
   refine o_call Tryz.func162 fn162 fb162 (sha_rotate _ 7 _ (by decide) (by decide)) rfl ?_
   rintro v10 w10 ⟨rfl, hE10⟩
   have hX := hX.ext hE10
   have hB2 := hB2.ext hE10
   have hB3 := hB3.ext hE10
   have hB4 := hB4.ext hE10
   have hB5 := hB5.ext hE10
   have hSr10 := hSr10.ext hE10
   refine hop_end hQ4 ⟨hSr10, ?_⟩
   refine h_one 9 _ rfl (by kernel_rfl) (hop_of_list (fun Q9 hQ9 => ?_))
   refine o_call Tryz.func162 fn162 fb162 (sha_rotate _ 18 _ (by decide) (by decide)) rfl ?_
   rintro v11 w11 ⟨rfl, hE11⟩
   have hX := hX.ext hE11
   have hB2 := hB2.ext hE11
   have hB3 := hB3.ext hE11
   have hB4 := hB4.ext hE11
   have hB5 := hB5.ext hE11
   have hSr10 := hSr10.ext hE11
   refine hop_end hQ9 ⟨hSr10, ?_⟩
   refine h_take 10 rfl (by kernel_rfl) (by kernel_rfl) (by kernel_rfl) hSr10 (fun wS hSS => by ( exact (x_xor rfl rfl))) ?_
   refine h_take 16 rfl (by kernel_rfl) (by kernel_rfl) (by kernel_rfl) hSr10 (fun wS hSS => by ( exact (x_xor rfl rfl))) ?_
   refine h_take 17 rfl (by kernel_rfl) (by kernel_rfl) (by kernel_rfl) hSr10 (fun wS hSS => by ( exact (x_assign (by conv => lhs; whnf)))) ?_
   refine h_done (by kernel_rfl) ?_
   refine t_n (c_seq ?_)
   refine r_held (fun w1 w2 => Ext w1 w2) mixed ?_
   intro w12 hE12
   have hX := hX.ext hE12
   have hB2 := hB2.ext hE12
   have hB3 := hB3.ext hE12
   have hB4 := hB4.ext hE12
   have hB5 := hB5.ext hE12
   have hSr11 : (fun w1 w2 => Ext w1 w2) w12 w12 := Ext.refl w12
   refine h_take 0 rfl (by kernel_rfl) (by kernel_rfl) (by kernel_rfl) hSr11 (fun wS hSS => by (have hX := hX.ext hSS; have hB2 := hB2.ext hSS; have hB3 := hB3.ext hSS; have hB4 := hB4.ext hSS; have hB5 := hB5.ext hSS; exact (x_move (by conv => lhs; whnf)))) ?_
   refine h_take 1 rfl (by kernel_rfl) (by kernel_rfl) (by kernel_rfl) hSr11 (fun wS hSS => by (have hX := hX.ext hSS; have hB2 := hB2.ext hSS; have hB3 := hB3.ext hSS; have hB4 := hB4.ext hSS; have hB5 := hB5.ext hSS; exact ((x_sub rfl rfl (fits_i64 (by omega) (by omega))).cast (congrArg _ (by omega : ((16 + m : Nat) : Int) - 2 = ((16 + m - 2 : Nat) : Int)))))) ?_
   refine h_take 2 rfl (by kernel_rfl) (by kernel_rfl) (by kernel_rfl) hSr11 (fun wS hSS => by (have hX := hX.ext hSS; have hB2 := hB2.ext hSS; have hB3 := hB3.ext hSS; have hB4 := hB4.ext hSS; have hB5 := hB5.ext hSS; exact (x_ixa0 u213 sz174 rfl rfl (by omega)))) ?_
   refine h_take 3 rfl (by kernel_rfl) (by kernel_rfl) (by kernel_rfl) hSr11 (fun wS hSS => by (have hX := hX.ext hSS; have hB2 := hB2.ext hSS; have hB3 := hB3.ext hSS; have hB4 := hB4.ext hSS; have hB5 := hB5.ext hSS; exact (x_load1 un174 rfl (hB5.cell (wds_get (by rw [extW_len, ownW_len]; omega)))))) ?_
   refine h_take 5 rfl (by kernel_rfl) (by kernel_rfl) (by kernel_rfl) hSr11 (fun wS hSS => by (have hX := hX.ext hSS; have hB2 := hB2.ext hSS; have hB3 := hB3.ext hSS; have hB4 := hB4.ext hSS; have hB5 := hB5.ext hSS; exact (x_move (by conv => lhs; whnf)))) ?_
   refine h_take 6 rfl (by kernel_rfl) (by kernel_rfl) (by kernel_rfl) hSr11 (fun wS hSS => by (have hX := hX.ext hSS; have hB2 := hB2.ext hSS; have hB3 := hB3.ext hSS; have hB4 := hB4.ext hSS; have hB5 := hB5.ext hSS; exact ((x_sub rfl rfl (fits_i64 (by omega) (by omega))).cast (congrArg _ (by omega : ((16 + m : Nat) : Int) - 2 = ((16 + m - 2 : Nat) : Int)))))) ?_
   refine h_take 7 rfl (by kernel_rfl) (by kernel_rfl) (by kernel_rfl) hSr11 (fun wS hSS => by (have hX := hX.ext hSS; have hB2 := hB2.ext hSS; have hB3 := hB3.ext hSS; have hB4 := hB4.ext hSS; have hB5 := hB5.ext hSS; exact (x_ixa0 u213 sz174 rfl rfl (by omega)))) ?_
   refine h_take 8 rfl (by kernel_rfl) (by kernel_rfl) (by kernel_rfl) hSr11 (fun wS hSS => by (have hX := hX.ext hSS; have hB2 := hB2.ext hSS; have hB3 := hB3.ext hSS; have hB4 := hB4.ext hSS; have hB5 := hB5.ext hSS; exact (x_load1 un174 rfl (hB5.cell (wds_get (by rw [extW_len, ownW_len]; omega)))))) ?_
   refine h_take 11 rfl (by kernel_rfl) (by kernel_rfl) (by kernel_rfl) hSr11 (fun wS hSS => by (have hX := hX.ext hSS; have hB2 := hB2.ext hSS; have hB3 := hB3.ext hSS; have hB4 := hB4.ext hSS; have hB5 := hB5.ext hSS; exact (x_move (by conv => lhs; whnf)))) ?_
   refine h_take 12 rfl (by kernel_rfl) (by kernel_rfl) (by kernel_rfl) hSr11 (fun wS hSS => by (have hX := hX.ext hSS; have hB2 := hB2.ext hSS; have hB3 := hB3.ext hSS; have hB4 := hB4.ext hSS; have hB5 := hB5.ext hSS; exact ((x_sub rfl rfl (fits_i64 (by omega) (by omega))).cast (congrArg _ (by omega : ((16 + m : Nat) : Int) - 2 = ((16 + m - 2 : Nat) : Int)))))) ?_
   refine h_take 13 rfl (by kernel_rfl) (by kernel_rfl) (by kernel_rfl) hSr11 (fun wS hSS => by (have hX := hX.ext hSS; have hB2 := hB2.ext hSS; have hB3 := hB3.ext hSS; have hB4 := hB4.ext hSS; have hB5 := hB5.ext hSS; exact (x_ixa0 u213 sz174 rfl rfl (by omega)))) ?_
   refine h_take 14 rfl (by kernel_rfl) (by kernel_rfl) (by kernel_rfl) hSr11 (fun wS hSS => by (have hX := hX.ext hSS; have hB2 := hB2.ext hSS; have hB3 := hB3.ext hSS; have hB4 := hB4.ext hSS; have hB5 := hB5.ext hSS; exact (x_load1 un174 rfl (hB5.cell (wds_get (by rw [extW_len, ownW_len]; omega)))))) ?_
   refine h_take 15 rfl (by kernel_rfl) (by kernel_rfl) (by kernel_rfl) hSr11 (fun wS hSS => by (have hX := hX.ext hSS; have hB2 := hB2.ext hSS; have hB3 := hB3.ext hSS; have hB4 := hB4.ext hSS; have hB5 := hB5.ext hSS; exact (x_shr rfl rfl (by omega)))) ?_
   refine h_one 4 _ rfl (by kernel_rfl) (hop_of_list (fun Q4 hQ4 => ?_))
   refine o_call Tryz.func162 fn162 fb162 (sha_rotate _ 17 _ (by decide) (by decide)) rfl ?_
   rintro v13 w13 ⟨rfl, hE13⟩
   have hX := hX.ext hE13
   have hB2 := hB2.ext hE13
   have hB3 := hB3.ext hE13
   have hB4 := hB4.ext hE13
   have hB5 := hB5.ext hE13
   have hSr11 := hSr11.ext hE13
   refine hop_end hQ4 ⟨hSr11, ?_⟩
   refine h_one 9 _ rfl (by kernel_rfl) (hop_of_list (fun Q9 hQ9 => ?_))
   refine o_call Tryz.func162 fn162 fb162 (sha_rotate _ 19 _ (by decide) (by decide)) rfl ?_
   rintro v14 w14 ⟨rfl, hE14⟩
   have hX := hX.ext hE14
   have hB2 := hB2.ext hE14
   have hB3 := hB3.ext hE14
   have hB4 := hB4.ext hE14
   have hB5 := hB5.ext hE14
   have hSr11 := hSr11.ext hE14
   refine hop_end hQ9 ⟨hSr11, ?_⟩
   refine h_take 10 rfl (by kernel_rfl) (by kernel_rfl) (by kernel_rfl) hSr11 (fun wS hSS => by ( exact (x_xor rfl rfl))) ?_
   refine h_take 16 rfl (by kernel_rfl) (by kernel_rfl) (by kernel_rfl) hSr11 (fun wS hSS => by ( exact (x_xor rfl rfl))) ?_
   refine h_take 17 rfl (by kernel_rfl) (by kernel_rfl) (by kernel_rfl) hSr11 (fun wS hSS => by ( exact (x_assign (by conv => lhs; whnf)))) ?_
   refine h_done (by kernel_rfl) ?_
   refine t_n ?_
   refine r_tail 15 mixed (by kernel_rfl) ?_
   intro w15 hE15
   have hX := hX.ext hE15
   have hB2 := hB2.ext hE15
   have hB3 := hB3.ext hE15
   have hB4 := hB4.ext hE15
   have hB5 := hB5.ext hE15
   refine s1 (x_move (by conv => lhs; whnf)) ?_
   refine s1 (x_move (by conv => lhs; whnf)) ?_
   refine s1 ((x_sub rfl rfl (fits_i64 (by omega) (by omega))).cast (congrArg _ (by omega : ((16 + m : Nat) : Int) - 16 = ((16 + m - 16 : Nat) : Int)))) ?_
   refine s1 (x_ixa0 u213 sz174 rfl rfl (by omega)) ?_
   refine s1 (x_load1 un174 rfl (hB5.cell (wds_get (by rw [extW_len, ownW_len]; omega)))) ?_
   refine s1 (x_move (by conv => lhs; whnf)) ?_
   refine s1 (x_addw rfl rfl) ?_
   refine s1 (x_move (by conv => lhs; whnf)) ?_
   refine s1 ((x_sub rfl rfl (fits_i64 (by omega) (by omega))).cast (congrArg _ (by omega : ((16 + m : Nat) : Int) - 7 = ((16 + m - 7 : Nat) : Int)))) ?_
   refine s1 (x_ixa0 u213 sz174 rfl rfl (by omega)) ?_
   refine s1 (x_load1 un174 rfl (hB5.cell (wds_get (by rw [extW_len, ownW_len]; omega)))) ?_
   refine s1 (x_addw rfl rfl) ?_
   refine s1 (x_move (by conv => lhs; whnf)) ?_
   refine s1 (x_addw rfl rfl) ?_
   refine s1 (x_ixa0 u213 sz174 rfl rfl (by omega)) ?_
   refine s_nil ?_
   refine o_store1 rfl (by conv => lhs; whnf) rfl rfl sz174 hB5 (by rw [wds_size, extW_len, ownW_len]; omega) ?_
   intro w16 hP16
   have hX := hX.put hP16 (by omega)
   have hB2 := hP16.keep hB2 (by omega)
   have hB3 := hP16.keep hB3 (by omega)
   have hB4 := hP16.keep hB4 (by omega)
   have hB5 := hP16.blk
   rw [wds_set] at hB5
   refine r_nil (b_n (t_n (r_plain ?_)))
   refine p1 (x_move (by conv => lhs; whnf)) ?_
   refine p1 ((x_add rfl rfl (fits_i64 (by omega) (by omega))).cast (congrArg _ (by omega : ((16 + m : Nat) : Int) + 1 = ((16 + (m + 1) : Nat) : Int)))) ?_
   refine p1 (x_assign (by conv => lhs; whnf)) ?_
   refine r_nil ?_
   refine t_n (At.mk (m + 1) (by repeat (first | exact Agr.refl _ _ | exact Agr.hav _ _ _ | refine Agr.upd rfl ?_ | refine Agr.updR rfl ?_ | refine Agr.updL ?_ _ rfl | refine Agr.hav' rfl ?_)) ⟨rfl, trivial⟩ ?_)
   exact ⟨⟨hX, ⟨by omega, hB2, hB3, hB4, hB5⟩⟩, by show 48 - (m + 1) < 48 - m; omega⟩
  ·try simp only [dA, dB, dC, dD, dE, dF, dG, Int.not_lt, Int.not_le] at hc59
   have h48 : m = 48 := by omega
   subst h48
   obtain ⟨WW, hWW⟩ : ∃ WW, WW = extW (ownW bs 16) 48 := ⟨_, rfl⟩
   rw [← hWW] at hB5
   have hWl : WW.length = 64 := by rw [hWW, extW_len, ownW_len]
   refine c_exit (t_e (t_e (b_hit (t_n (c_seq ?_)))))
   refine r_still mixed (by kernel_rfl) ?_
   intro w17 hE17
   have hX := hX.ext hE17
   have hB2 := hB2.ext hE17
   have hB3 := hB3.ext hE17
   have hB4 := hB4.ext hE17
   have hB5 := hB5.ext hE17
   refine s1 (x_ixa0 (i := 0) u175 sz174 rfl rfl (by decide)) ?_
   refine s1 (x_load1 un174 rfl (hB2.cell (w8_0 _))) ?_
   refine s1 (x_ixa0 (i := 1) u175 sz174 rfl rfl (by decide)) ?_
   refine s1 (x_load1 un174 rfl (hB2.cell (w8_1 _))) ?_
   refine s1 (x_ixa0 (i := 2) u175 sz174 rfl rfl (by decide)) ?_
   refine s1 (x_load1 un174 rfl (hB2.cell (w8_2 _))) ?_
   refine s1 (x_ixa0 (i := 3) u175 sz174 rfl rfl (by decide)) ?_
   refine s1 (x_load1 un174 rfl (hB2.cell (w8_3 _))) ?_
   refine s1 (x_ixa0 (i := 4) u175 sz174 rfl rfl (by decide)) ?_
   refine s1 (x_load1 un174 rfl (hB2.cell (w8_4 _))) ?_
   refine s1 (x_ixa0 (i := 5) u175 sz174 rfl rfl (by decide)) ?_
   refine s1 (x_load1 un174 rfl (hB2.cell (w8_5 _))) ?_
   refine s1 (x_ixa0 (i := 6) u175 sz174 rfl rfl (by decide)) ?_
   refine s1 (x_load1 un174 rfl (hB2.cell (w8_6 _))) ?_
   refine s1 (x_ixa0 (i := 7) u175 sz174 rfl rfl (by decide)) ?_
   refine s1 (x_load1 un174 rfl (hB2.cell (w8_7 _))) ?_
   refine s1 (x_assign (by conv => lhs; whnf)) ?_
   refine s1 (x_assign (by conv => lhs; whnf)) ?_
   refine s1 (x_assign (by conv => lhs; whnf)) ?_
   refine s1 (x_assign (by conv => lhs; whnf)) ?_
   refine s1 (x_assign (by conv => lhs; whnf)) ?_
   refine s1 (x_assign (by conv => lhs; whnf)) ?_
   refine s1 (x_assign (by conv => lhs; whnf)) ?_
   refine s1 (x_assign (by conv => lhs; whnf)) ?_
   refine s_nil (t_n (c_seq (c_seq (r_plain ?_))))
   refine p1 (x_move (by conv => lhs; whnf)) ?_
   refine r_nil (t_n (c_block ?_))
   have hWL4 := Ext.refl w17
   refine c_loop (ι := Nat) [10, 11, 12, 13, 14, 15, 16, 17, 18, 19, 20, 127, 128, 129, 130, 131, 132, 133, 134, 135, 136, 137, 138, 139, 140, 141, 142, 143, 144, 145, 146, 147, 148, 149, 150, 151, 152, 153, 154, 155, 156, 157, 158, 159, 160, 161, 162, 163, 164, 165, 166, 167, 168, 169, 170, 171, 172, 173, 174, 175, 176, 177, 178, 179, 180, 181, 182, 183, 184, 185, 186, 187, 188, 189] (fun i => [(10, .int .u32 (runW WW s i).a), (11, .int .u32 (runW WW s i).b), (12, .int .u32 (runW WW s i).c), (13, .int .u32 (runW WW s i).d), (14, .int .u32 (runW WW s i).e), (15, .int .u32 (runW WW s i).f), (16, .int .u32 (runW WW s i).g), (17, .int .u32 (runW WW s i).h), (127, .int .i64 (i : Int))]) (fun i w' => Ext w17 w' ∧ (i ≤ 64)) (fun i => 64 - i) (0) ⟨rfl, rfl, rfl, rfl, rfl, rfl, rfl, rfl, rfl, trivial⟩ ⟨Ext.refl _, (by omega)⟩ ?_
   rintro i GL4 w18 ⟨hE18, hi⟩
   have hX := hX.ext hE18
   have hB2 := hB2.ext hE18
   have hB3 := hB3.ext hE18
   have hB4 := hB4.ext hE18
   have hB5 := hB5.ext hE18
   have hWL4 := hE18
   refine c_seq (r_plain ?_)
   refine p1 (x_lss rfl rfl) ?_
   refine r_nil (t_n (c_seq ?_))
   first | refine c_dec rfl (fun hc128 => ?_) (fun hc128 => ?_) | refine c_if rfl (fun hc128 => ?_) (fun hc128 => ?_)
   ·try simp only [dA, dB, dC, dD, dE, dF, dG, Int.not_lt, Int.not_le] at hc128
    refine c_skip (t_n (c_seq (c_block (c_seq (r_plain ?_)))))
    refine p1 (x_move (by conv => lhs; whnf)) ?_
    refine p1 (x_assign (by conv => lhs; whnf)) ?_
    refine r_nil (t_n (c_seq ?_))
    refine r_held (fun w1 w2 => Ext w1 w2) mixed ?_
    intro w19 hE19
    have hX := hX.ext hE19
    have hB2 := hB2.ext hE19
    have hB3 := hB3.ext hE19
    have hB4 := hB4.ext hE19
    have hB5 := hB5.ext hE19
    have hWL4 := hWL4.ext hE19
    have hSr17 : (fun w1 w2 => Ext w1 w2) w19 w19 := Ext.refl w19
    refine h_take 0 rfl (by kernel_rfl) (by kernel_rfl) (by kernel_rfl) hSr17 (fun wS hSS => by (have hX := hX.ext hSS; have hB2 := hB2.ext hSS; have hB3 := hB3.ext hSS; have hB4 := hB4.ext hSS; have hB5 := hB5.ext hSS; have hWL4 := hWL4.ext hSS; exact (x_move (by conv => lhs; whnf)))) ?_
    refine h_take 1 rfl (by kernel_rfl) (by kernel_rfl) (by kernel_rfl) hSr17 (fun wS hSS => by (have hX := hX.ext hSS; have hB2 := hB2.ext hSS; have hB3 := hB3.ext hSS; have hB4 := hB4.ext hSS; have hB5 := hB5.ext hSS; have hWL4 := hWL4.ext hSS; exact (x_move (by conv => lhs; whnf)))) ?_
    refine h_take 3 rfl (by kernel_rfl) (by kernel_rfl) (by kernel_rfl) hSr17 (fun wS hSS => by (have hX := hX.ext hSS; have hB2 := hB2.ext hSS; have hB3 := hB3.ext hSS; have hB4 := hB4.ext hSS; have hB5 := hB5.ext hSS; have hWL4 := hWL4.ext hSS; exact (x_move (by conv => lhs; whnf)))) ?_
    refine h_take 6 rfl (by kernel_rfl) (by kernel_rfl) (by kernel_rfl) hSr17 (fun wS hSS => by (have hX := hX.ext hSS; have hB2 := hB2.ext hSS; have hB3 := hB3.ext hSS; have hB4 := hB4.ext hSS; have hB5 := hB5.ext hSS; have hWL4 := hWL4.ext hSS; exact (x_move (by conv => lhs; whnf)))) ?_
    refine h_take 10 rfl (by kernel_rfl) (by kernel_rfl) (by kernel_rfl) hSr17 (fun wS hSS => by (have hX := hX.ext hSS; have hB2 := hB2.ext hSS; have hB3 := hB3.ext hSS; have hB4 := hB4.ext hSS; have hB5 := hB5.ext hSS; have hWL4 := hWL4.ext hSS; exact (x_move (by conv => lhs; whnf)))) ?_
    refine h_take 11 rfl (by kernel_rfl) (by kernel_rfl) (by kernel_rfl) hSr17 (fun wS hSS => by (have hX := hX.ext hSS; have hB2 := hB2.ext hSS; have hB3 := hB3.ext hSS; have hB4 := hB4.ext hSS; have hB5 := hB5.ext hSS; have hWL4 := hWL4.ext hSS; exact (x_move (by conv => lhs; whnf)))) ?_
    refine h_take 12 rfl (by kernel_rfl) (by kernel_rfl) (by kernel_rfl) hSr17 (fun wS hSS => by (have hX := hX.ext hSS; have hB2 := hB2.ext hSS; have hB3 := hB3.ext hSS; have hB4 := hB4.ext hSS; have hB5 := hB5.ext hSS; have hWL4 := hWL4.ext hSS; exact (x_and rfl rfl))) ?_
    refine h_take 13 rfl (by kernel_rfl) (by kernel_rfl) (by kernel_rfl) hSr17 (fun wS hSS => by (have hX := hX.ext hSS; have hB2 := hB2.ext hSS; have hB3 := hB3.ext hSS; have hB4 := hB4.ext hSS; have hB5 := hB5.ext hSS; have hWL4 := hWL4.ext hSS; exact (x_move (by conv => lhs; whnf)))) ?_
    refine h_take 14 rfl (by kernel_rfl) (by kernel_rfl) (by kernel_rfl) hSr17 (fun wS hSS => by (have hX := hX.ext hSS; have hB2 := hB2.ext hSS; have hB3 := hB3.ext hSS; have hB4 := hB4.ext hSS; have hB5 := hB5.ext hSS; have hWL4 := hWL4.ext hSS; exact (x_cpl32 rfl))) ?_
    refine h_take 15 rfl (by kernel_rfl) (by kernel_rfl) (by kernel_rfl) hSr17 (fun wS hSS => by (have hX := hX.ext hSS; have hB2 := hB2.ext hSS; have hB3 := hB3.ext hSS; have hB4 := hB4.ext hSS; have hB5 := hB5.ext hSS; have hWL4 := hWL4.ext hSS; exact (x_move (by conv => lhs; whnf)))) ?_
    refine h_take 16 rfl (by kernel_rfl) (by kernel_rfl) (by kernel_rfl) hSr17 (fun wS hSS => by (have hX := hX.ext hSS; have hB2 := hB2.ext hSS; have hB3 := hB3.ext hSS; have hB4 := hB4.ext hSS; have hB5 := hB5.ext hSS; have hWL4 := hWL4.ext hSS; exact (x_and rfl rfl))) ?_
    refine h_take 17 rfl (by kernel_rfl) (by kernel_rfl) (by kernel_rfl) hSr17 (fun wS hSS => by (have hX := hX.ext hSS; have hB2 := hB2.ext hSS; have hB3 := hB3.ext hSS; have hB4 := hB4.ext hSS; have hB5 := hB5.ext hSS; have hWL4 := hWL4.ext hSS; exact (x_xor rfl rfl))) ?_
    refine h_take 19 rfl (by kernel_rfl) (by kernel_rfl) (by kernel_rfl) hSr17 (fun wS hSS => by (have hX := hX.ext hSS; have hB2 := hB2.ext hSS; have hB3 := hB3.ext hSS; have hB4 := hB4.ext hSS; have hB5 := hB5.ext hSS; have hWL4 := hWL4.ext hSS; exact (x_move (by conv => lhs; whnf)))) ?_
    refine h_take 20 rfl (by kernel_rfl) (by kernel_rfl) (by kernel_rfl) hSr17 (fun wS hSS => by (have hX := hX.ext hSS; have hB2 := hB2.ext hSS; have hB3 := hB3.ext hSS; have hB4 := hB4.ext hSS; have hB5 := hB5.ext hSS; have hWL4 := hWL4.ext hSS; exact (x_ixa0 u213 sz174 rfl rfl (by omega)))) ?_
    refine h_take 21 rfl (by kernel_rfl) (by kernel_rfl) (by kernel_rfl) hSr17 (fun wS hSS => by (have hX := hX.ext hSS; have hB2 := hB2.ext hSS; have hB3 := hB3.ext hSS; have hB4 := hB4.ext hSS; have hB5 := hB5.ext hSS; have hWL4 := hWL4.ext hSS; exact (x_load1 un174 rfl (hrt.ext hX i (by omega))))) ?_
    refine h_take 23 rfl (by kernel_rfl) (by kernel_rfl) (by kernel_rfl) hSr17 (fun wS hSS => by (have hX := hX.ext hSS; have hB2 := hB2.ext hSS; have hB3 := hB3.ext hSS; have hB4 := hB4.ext hSS; have hB5 := hB5.ext hSS; have hWL4 := hWL4.ext hSS; exact (x_move (by conv => lhs; whnf)))) ?_
    refine h_take 24 rfl (by kernel_rfl) (by kernel_rfl) (by kernel_rfl) hSr17 (fun wS hSS => by (have hX := hX.ext hSS; have hB2 := hB2.ext hSS; have hB3 := hB3.ext hSS; have hB4 := hB4.ext hSS; have hB5 := hB5.ext hSS; have hWL4 := hWL4.ext hSS; exact (x_ixa0 u213 sz174 rfl rfl (by omega)))) ?_
    refine h_take 25 rfl (by kernel_rfl) (by kernel_rfl) (by kernel_rfl) hSr17 (fun wS hSS => by (have hX := hX.ext hSS; have hB2 := hB2.ext hSS; have hB3 := hB3.ext hSS; have hB4 := hB4.ext hSS; have hB5 := hB5.ext hSS; have hWL4 := hWL4.ext hSS; exact (x_load1 un174 rfl (hB5.cell (wds_get (by omega)))))) ?_
    refine h_one 2 _ rfl (by kernel_rfl) (hop_of_list (fun Q2 hQ2 => ?_))
    refine o_call Tryz.func162 fn162 fb162 (sha_rotate _ 6 _ (by decide) (by decide)) rfl ?_
    rintro v20 w20 ⟨rfl, hE20⟩
    have hX := hX.ext hE20
    have hB2 := hB2.ext hE20
    have hB3 := hB3.ext hE20
    have hB4 := hB4.ext hE20
    have hB5 := hB5.ext hE20
    have hWL4 := hWL4.ext hE20
    have hSr17 := hSr17.ext hE20
    refine hop_end hQ2 ⟨hSr17, ?_⟩
    refine h_one 4 _ rfl (by kernel_rfl) (hop_of_list (fun Q4 hQ4 => ?_))
    refine o_call Tryz.func162 fn162 fb162 (sha_rotate _ 11 _ (by decide) (by decide)) rfl ?_
    rintro v21 w21 ⟨rfl, hE21⟩
    have hX := hX.ext hE21
    have hB2 := hB2.ext hE21
    have hB3 := hB3.ext hE21
    have hB4 := hB4.ext hE21
    have hB5 := hB5.ext hE21
    have hWL4 := hWL4.ext hE21
    have hSr17 := hSr17.ext hE21
    refine hop_end hQ4 ⟨hSr17, ?_⟩
    refine h_take 5 rfl (by kernel_rfl) (by kernel_rfl) (by kernel_rfl) hSr17 (fun wS hSS => by ( exact (x_xor rfl rfl))) ?_
    refine h_one 7 _ rfl (by kernel_rfl) (hop_of_list (fun Q7 hQ7 => ?_))
    refine o_call Tryz.func162 fn162 fb162 (sha_rotate _ 25 _ (by decide) (by decide)) rfl ?_
    rintro v22 w22 ⟨rfl, hE22⟩
    have hX := hX.ext hE22
    have hB2 := hB2.ext hE22
    have hB3 := hB3.ext hE22
    have hB4 := hB4.ext hE22
    have hB5 := hB5.ext hE22
    have hWL4 := hWL4.ext hE22
    have hSr17 := hSr17.ext hE22
    refine hop_end hQ7 ⟨hSr17, ?_⟩
    refine h_take 8 rfl (by kernel_rfl) (by kernel_rfl) (by kernel_rfl) hSr17 (fun wS hSS => by ( exact (x_xor rfl rfl))) ?_
    refine h_take 9 rfl (by kernel_rfl) (by kernel_rfl) (by kernel_rfl) hSr17 (fun wS hSS => by ( exact (x_addw rfl rfl))) ?_
    refine h_take 18 rfl (by kernel_rfl) (by kernel_rfl) (by kernel_rfl) hSr17 (fun wS hSS => by ( exact (x_addw rfl rfl))) ?_
    refine h_take 22 rfl (by kernel_rfl) (by kernel_rfl) (by kernel_rfl) hSr17 (fun wS hSS => by ( exact (x_addw rfl rfl))) ?_
    refine h_take 26 rfl (by kernel_rfl) (by kernel_rfl) (by kernel_rfl) hSr17 (fun wS hSS => by ( exact (x_addw rfl rfl))) ?_
    refine h_take 27 rfl (by kernel_rfl) (by kernel_rfl) (by kernel_rfl) hSr17 (fun wS hSS => by ( exact (x_assign (by conv => lhs; whnf)))) ?_
    refine h_done (by kernel_rfl) ?_
    refine t_n (c_seq (r_plain ?_))
    refine p1 (x_move (by conv => lhs; whnf)) ?_
    refine o_call Tryz.func162 fn162 fb162 (sha_rotate _ 2 _ (by decide) (by decide)) rfl ?_
    rintro v23 w23 ⟨rfl, hE23⟩
    have hX := hX.ext hE23
    have hB2 := hB2.ext hE23
    have hB3 := hB3.ext hE23
    have hB4 := hB4.ext hE23
    have hB5 := hB5.ext hE23
    have hWL4 := hWL4.ext hE23
    refine p1 (x_move (by conv => lhs; whnf)) ?_
    refine o_call Tryz.func162 fn162 fb162 (sha_rotate _ 13 _ (by decide) (by decide)) rfl ?_
    rintro v24 w24 ⟨rfl, hE24⟩
    have hX := hX.ext hE24
    have hB2 := hB2.ext hE24
    have hB3 := hB3.ext hE24
    have hB4 := hB4.ext hE24
    have hB5 := hB5.ext hE24
    have hWL4 := hWL4.ext hE24
    refine p1 (x_xor rfl rfl) ?_
    refine p1 (x_move (by conv => lhs; whnf)) ?_
    refine o_call Tryz.func162 fn162 fb162 (sha_rotate _ 22 _ (by decide) (by decide)) rfl ?_
    rintro v25 w25 ⟨rfl, hE25⟩
    have hX := hX.ext hE25
    have hB2 := hB2.ext hE25
    have hB3 := hB3.ext hE25
    have hB4 := hB4.ext hE25
    have hB5 := hB5.ext hE25
    have hWL4 := hWL4.ext hE25
    refine p1 (x_xor rfl rfl) ?_
    refine p1 (x_move (by conv => lhs; whnf)) ?_
    refine p1 (x_move (by conv => lhs; whnf)) ?_
    refine p1 (x_and rfl rfl) ?_
    refine p1 (x_move (by conv => lhs; whnf)) ?_
    refine p1 (x_move (by conv => lhs; whnf)) ?_
    refine p1 (x_and rfl rfl) ?_
    refine p1 (x_xor rfl rfl) ?_
    refine p1 (x_move (by conv => lhs; whnf)) ?_
    refine p1 (x_move (by conv => lhs; whnf)) ?_
    refine p1 (x_and rfl rfl) ?_
    refine p1 (x_xor rfl rfl) ?_
    refine p1 (x_addw rfl rfl) ?_
    refine p1 (x_assign (by conv => lhs; whnf)) ?_
    refine r_nil (t_n (r_plain ?_))
    refine p1 (x_move (by conv => lhs; whnf)) ?_
    refine p1 (x_move (by conv => lhs; whnf)) ?_
    refine p1 (x_move (by conv => lhs; whnf)) ?_
    refine p1 (x_move (by conv => lhs; whnf)) ?_
    refine p1 (x_move (by conv => lhs; whnf)) ?_
    refine p1 (x_addw rfl rfl) ?_
    refine p1 (x_move (by conv => lhs; whnf)) ?_
    refine p1 (x_move (by conv => lhs; whnf)) ?_
    refine p1 (x_move (by conv => lhs; whnf)) ?_
    refine p1 (x_move (by conv => lhs; whnf)) ?_
    refine p1 (x_move (by conv => lhs; whnf)) ?_
    refine p1 (x_addw rfl rfl) ?_
    refine p1 (x_assign (by conv => lhs; whnf)) ?_
    refine p1 (x_assign (by conv => lhs; whnf)) ?_
    refine p1 (x_assign (by conv => lhs; whnf)) ?_
    refine p1 (x_assign (by conv => lhs; whnf)) ?_
    refine p1 (x_assign (by conv => lhs; whnf)) ?_
    refine p1 (x_assign (by conv => lhs; whnf)) ?_
    refine p1 (x_assign (by conv => lhs; whnf)) ?_
    refine p1 (x_assign (by conv => lhs; whnf)) ?_
    refine r_nil (b_n (t_n (r_plain ?_)))
    refine p1 (x_add rfl rfl (fits_i64 (by omega) (by omega))) ?_
    refine p1 (x_move (by conv => lhs; whnf)) ?_
    refine r_nil ?_
    refine t_n (At.mk (i + 1) (by repeat (first | exact Agr.refl _ _ | exact Agr.hav _ _ _ | refine Agr.upd rfl ?_ | refine Agr.updR rfl ?_ | refine Agr.updL ?_ _ rfl | refine Agr.hav' rfl ?_)) ⟨rfl, rfl, rfl, rfl, rfl, rfl, rfl, rfl, rfl, trivial⟩ ?_)
    exact ⟨⟨hWL4, (by omega)⟩, by first | (dsimp only; omega) | ((show _ < _); omega)⟩
   ·try simp only [dA, dB, dC, dD, dE, dF, dG, Int.not_lt, Int.not_le] at hc128
    have h64 : i = 64 := by omega
    subst h64
    refine c_exit (t_e (t_e (b_hit (t_n (c_seq (c_seq (r_plain ?_)))))))
    refine p1 (x_move (by conv => lhs; whnf)) ?_
    refine p1 (x_move (by conv => lhs; whnf)) ?_
    refine p1 (x_move (by conv => lhs; whnf)) ?_
    refine p1 (x_move (by conv => lhs; whnf)) ?_
    refine p1 (x_move (by conv => lhs; whnf)) ?_
    refine p1 (x_move (by conv => lhs; whnf)) ?_
    refine p1 (x_move (by conv => lhs; whnf)) ?_
    refine p1 (x_move (by conv => lhs; whnf)) ?_
    refine p1 (x_build8 (runW WW s 64) rfl) ?_
    refine p1 (x_move (by conv => lhs; whnf)) ?_
    refine r_nil (t_n (c_block ?_))
    obtain ⟨X, hXX⟩ : ∃ X, X = runW WW s 64 := ⟨_, rfl⟩
    rw [← hXX]
    refine c_loop (ι := Nat) [21, 22, 199, 200, 201, 202, 203, 204, 205, 206, 207, 208, 209] (fun j => [(199, .int .i64 (j : Int))]) (fun j w' => Ext w w' ∧ (j ≤ 8 ∧ Blk w' g2 (wds (addW X.l s.l j)) 175 ∧ Blk w' g4 (wds (List.replicate 8 0)) 175)) (fun j => 8 - j) (0) ⟨rfl, trivial⟩ ⟨hX, ⟨by omega, hB2, hB4⟩⟩ ?_
    rintro j GL6 w26 ⟨hE26, hj, hB2, hB4⟩
    have hX := hE26
    refine c_seq (r_plain ?_)
    refine p1 (x_lss rfl rfl) ?_
    refine r_nil (t_n (c_seq ?_))
    first | refine c_dec rfl (fun hc200 => ?_) (fun hc200 => ?_) | refine c_if rfl (fun hc200 => ?_) (fun hc200 => ?_)
    ·try simp only [dA, dB, dC, dD, dE, dF, dG, Int.not_lt, Int.not_le] at hc200
     refine c_skip (t_n (c_seq (c_block (c_seq (r_plain ?_)))))
     refine p1 (x_move (by conv => lhs; whnf)) ?_
     refine p1 (x_ixval u175 sz174 (by kernel_rfl) rfl rfl (by omega) (wds_get (by rw [W8.len]; omega))) ?_
     refine p1 (x_assign (by conv => lhs; whnf)) ?_
     refine p1 (x_assign (by conv => lhs; whnf)) ?_
     refine r_nil (t_n (r_plain ?_))
     refine p1 (x_move (by conv => lhs; whnf)) ?_
     refine p1 (x_ixa0 u175 sz174 rfl rfl (by omega)) ?_
     refine p1 (x_load1 un174 rfl (hB2.cell (wds_get (by rw [addW_len, W8.len]; omega)))) ?_
     refine p1 (x_move (by conv => lhs; whnf)) ?_
     refine p1 (x_addw rfl rfl) ?_
     refine p1 (x_ixa0 u175 sz174 rfl rfl (by omega)) ?_
     refine o_store1 rfl (by conv => lhs; whnf) rfl rfl sz174 hB2 (by rw [wds_size, addW_len, W8.len]; omega) ?_
     intro w27 hP27
     have hX := hX.put hP27 (by omega)
     have hB2 := hP27.blk
     rw [wds_set] at hB2
     have hB4 := hP27.keep hB4 (by omega)
     refine r_nil (b_n (t_n (r_plain ?_)))
     refine p1 (x_add rfl rfl (fits_i64 (by omega) (by omega))) ?_
     refine p1 (x_move (by conv => lhs; whnf)) ?_
     refine r_nil ?_
     refine t_n (At.mk (j + 1) (by repeat (first | exact Agr.refl _ _ | exact Agr.hav _ _ _ | refine Agr.upd rfl ?_ | refine Agr.updR rfl ?_ | refine Agr.updL ?_ _ rfl | refine Agr.hav' rfl ?_)) ⟨rfl, trivial⟩ ?_)
     exact ⟨⟨hX, ⟨by omega, hB2, hB4⟩⟩, by first | (dsimp only; omega) | ((show _ < _); omega)⟩
    ·try simp only [dA, dB, dC, dD, dE, dF, dG, Int.not_lt, Int.not_le] at hc200
     have h8 : j = 8 := by omega
     subst h8
     rw [addW_8] at hB2
     refine c_exit (t_e (t_e (b_hit (t_n (c_seq (r_plain ?_))))))
     refine p1 (x_loadB ua175 rfl hB2 (by rw [wds_size]; exact sz175)) ?_
     refine o_storeAll rfl (by conv => lhs; whnf) (wds_one _) (by rw [wds_size]; exact sz175) hB4 (by rfl) ?_
     intro w28 hP28
     have hX := hX.put hP28 (by omega)
     have hB2 := hP28.keep hB2 (by omega)
     have hB4 := hP28.blk
     refine r_nil (t_n (c_ret ?_))
     refine end1c rfl ua175 rfl hB4 (by rw [wds_size]; exact sz175) ?_
     exact ⟨by rw [hXX, hWW]; rfl, hX⟩
end Go.Proofs.Eng
end
section
set_option maxRecDepth 100000
set_option maxHeartbeats 4000000
namespace Go.Proofs.Eng
open Go.RowKit
open Extern.Stop (cell)
theorem nb104 : Instr.fill (fun i => ([(0, 8), (8, 64), (72, 1), (73, 1)] : List (Nat × Nat))[i]?) (Value.agg #[.int .u32 0, .int .u32 0, .int .u32 0, .int .u32 0, .int .u32 0, .int .u32 0, .int .u32 0, .int .u32 0, .int .u8 0, .int .u8 0, .int .u8 0, .int .u8 0, .int .u8 0, .int .u8 0, .int .u8 0, .int .u8 0, .int .u8 0, .int .u8 0, .int .u8 0, .int .u8 0, .int .u8 0, .int .u8 0, .int .u8 0, .int .u8 0, .int .u8 0, .int .u8 0, .int .u8 0, .int .u8 0, .int .u8 0, .int .u8 0, .int .u8 0, .int .u8 0, .int .u8 0, .int .u8 0, .int .u8 0, .int .u8 0, .int .u8 0, .int .u8 0, .int .u8 0, .int .u8 0, .int .u8 0, .int .u8 0, .int .u8 0, .int .u8 0, .int .u8 0, .int .u8 0, .int .u8 0, .int .u8 0, .int .u8 0, .int .u8 0, .int .u8 0, .int .u8 0, .int .u8 0, .int .u8 0, .int .u8 0, .int .u8 0, .int .u8 0, .int .u8 0, .int .u8 0, .int .u8 0, .int .u8 0, .int .u8 0, .int .u8 0, .int .u8 0, .int .u8 0, .int .u8 0, .int .u8 0, .int .u8 0, .int .u8 0, .int .u8 0, .int .u8 0, .int .u8 0, .int .i64 0, .int .i64 0]).cells [(0, .agg (wds s0W.l))] = some (hst s0W (List.replicate 64 0) 0 0) := by kernel_rfl
theorem sha_New (w : World) (hbt : Bt w) :
    Ret Tryz.prog 81 [] w (fun v w' => (∃ g, v = .pointer (some ⟨g, 0, none⟩) ∧ g = w.heap.size ∧ Hs w' g []) ∧ Ext w w') := by
 have hX := Ext.refl w
 refine enter 4 _ Tryz.func81 rfl rfl (Nat.le_of_ble_eq_true rfl) rfl ?_
 refine c_seq (r_plain ?_)
 refine p1 (x_assign (by conv => lhs; whnf)) ?_
 refine r_nil (t_n (c_seq (r_plain ?_)))
 refine p1 (x_loadN ua175 rfl (by rw [List.length_map]; exact sz175) (hbt.ext hX).range) ?_
 refine p1 (x_build (ps := [(0, .agg (wds s0W.l))]) (cs := hst s0W (List.replicate 64 0) 0 0) pl178 rfl nb104) ?_
 refine o_boxA (by conv => lhs; whnf) ?_
 intro w1 g3 hN3
 have hE1 := hN3.ext
 have hX := hX.ext hE1
 have hB3 := hN3.blk
 refine p1 (x_assign (by conv => lhs; whnf)) ?_
 refine r_nil (t_n (c_ret ?_))
 refine end1 rfl (by conv => lhs; whnf) ?_
 exact ⟨⟨g3, rfl, hN3.g_eq, s0W, _, 0, HsP.new _ (by simp), hB3⟩, hX⟩
theorem sha_Write (all xs : List UInt8) (e : TypeId) (B g : Nat) (p : Option Addr) (n c : Nat) (w : World) (hs : Hs w g all) (hl : Sl kByte e B w p n c xs) (he : e ≠ 178) (hBg : B ≤ g) (hn : all.length + n ≤ 100000000000000) (hrt : Rt w) (h4 : 1 < g) :
    Ret Tryz.prog 82 [.pointer (some ⟨g, 0, none⟩), .slice p n c] w (fun v w' => Hs w' g (all ++ xs) ∧ But g 178 w w') := by
 obtain ⟨s, wt, k, hp, hH⟩ := hs
 have hE : ∀ u ∈ e :: kByte.E, u ≠ 178 := by intro u hu; simp [kByte, Kind.pure] at hu; exact hu ▸ he
 have hlen := hl.len
 have hlcap := hl.cap
 have hlfit := hl.fit
 have hX := But.refl g 178 w
 refine enter 60 _ Tryz.func82 rfl rfl (Nat.le_of_ble_eq_true rfl) rfl ?_
 refine c_seq (c_seq (r_plain ?_))
 refine p1 (x_move (by conv => lhs; whnf)) ?_
 refine p1 (x_eql_ptrnil u132 rfl rfl) ?_
 refine r_nil (t_n ?_)
 refine c_f (rfl) ?_
 refine c_skip (t_n (c_seq (r_plain ?_)))
 refine p1 (x_move (by conv => lhs; whnf)) ?_
 refine p1 (x_nilCheck rfl) ?_
 refine p1 (x_fieldAddr fo178_3 sz3 rfl) ?_
 refine p1 (x_load1 un3 rfl (hH.cell (hst_n hp.wl))) ?_
 refine p1 (x_move (by conv => lhs; whnf)) ?_
 refine p1 (x_len_slice u23 rfl) ?_
 refine p1 ((x_add rfl rfl (fits_i64 (by omega) (by omega))).cast (congrArg _ (by omega : ((all.length : Nat) : Int) + (n : Int) = ((all.length + n : Nat) : Int)))) ?_
 refine p1 (x_nilCheck rfl) ?_
 refine p1 (x_fieldAddr fo178_3 sz3 rfl) ?_
 refine o_store1 rfl (by conv => lhs; whnf) rfl rfl sz3 hH (by rw [hst_size hp.wl]; omega) ?_
 intro w1 hP1
 have hX := hX.trans (But.ofPut hP1)
 have hH := hP1.blk
 rw [hst_setn hp.wl] at hH
 refine r_nil (t_n (c_block ?_))
 refine c_loop (ι := Option Addr × Nat × Nat × List UInt8 × List UInt8 × W8 × List UInt8 × Nat) [1, 4, 16, 17, 18, 19, 20, 21, 22, 23, 24, 25, 26, 27, 28, 29, 30, 31, 32, 33, 34, 35, 36, 37, 38, 39, 40, 41, 42, 43, 44, 45, 46, 47, 48, 49, 50, 51, 52, 53, 54, 55, 56, 57, 58, 59] (fun (q, r, d, rest, done, s, wt, k) => [(1, .slice q r d)]) (fun (q, r, d, rest, done, s, wt, k) w' => But g 178 w w' ∧ (HsP s wt k done ∧ Blk w' g (hst s wt k (all.length + n)) 178 ∧ Sl kByte e B w' q r d rest ∧ done ++ rest = all ++ xs)) (fun (q, r, d, rest, done, s, wt, k) => r) ((p, n, c, xs, all, s, wt, k)) ⟨rfl, trivial⟩ ⟨hX, ⟨hp, hH, hl.but hX hBg hE, rfl⟩⟩ ?_
 rintro ⟨q, r, d, rest, done, s, wt, k⟩ GL0 w2 ⟨hE2, hp, hH, hS, hD⟩
 have hX := hE2
 have hwl := hp.wl
 have hklt := hp.lt
 have hrl := hS.len
 have hrfit := hS.fit
 have hrcap := hS.cap
 refine c_seq (c_seq (r_plain ?_))
 refine p1 (x_move (by conv => lhs; whnf)) ?_
 refine p1 (x_len_slice u23 rfl) ?_
 refine p1 (x_gtr rfl rfl) ?_
 refine r_nil (t_n ?_)
 first | refine c_dec rfl (fun hc18 => ?_) (fun hc18 => ?_) | refine c_if rfl (fun hc18 => ?_) (fun hc18 => ?_)
 ·try simp only [dA, dB, dC, dD, dE, dF, dG, Int.not_lt, Int.not_le] at hc18
  refine c_skip (t_n (c_block (c_seq ?_)))
  refine r_tail 9 mixed (by kernel_rfl) ?_
  intro w3 hE3
  have hX := hX.ext hE3
  have hH := hH.ext hE3
  have hS := hS.ext hE3
  refine s1 (x_move (by conv => lhs; whnf)) ?_
  refine s1 (x_nilCheck rfl) ?_
  refine s1 (x_fieldAddr fo178_1 sz176 rfl) ?_
  refine s1 (x_move (by conv => lhs; whnf)) ?_
  refine s1 (x_nilCheck rfl) ?_
  refine s1 (x_fieldAddr fo178_2 sz3 rfl) ?_
  refine s1 (x_load1 un3 rfl (hH.cell (hst_k hwl))) ?_
  refine s1 (x_slice_arr_l u176 sz5 rfl rfl (by omega)) ?_
  refine s1 (x_move (by conv => lhs; whnf)) ?_
  refine s_nil ?_
  refine o_copyB u23 sz5 rfl rfl hH (by rw [hst_size hwl]; omega) hS (by omega) ?_
  intro w4 hP4
  have hX := hX.trans (But.ofPut hP4)
  have hS := hS.but (But.ofPut hP4) hBg hE
  have hH := hP4.blk
  rw [hst_copy hwl rest k _ (by omega) (by omega)] at hH
  obtain ⟨j, hjj⟩ : ∃ j, j = min r (64 - k) := ⟨_, rfl⟩
  rw [← hjj] at hH ⊢
  obtain ⟨wt2, hwt2⟩ : ∃ x, x = wt.take k ++ rest.take j ++ wt.drop (k + j) := ⟨_, rfl⟩
  have hwl2 : wt2.length = 64 := by rw [hwt2]; simp; omega
  rw [← hwt2] at hH
  refine p1 (x_assign (by conv => lhs; whnf)) ?_
  refine r_nil (t_n (c_seq (r_plain ?_)))
  refine p1 (x_move (by conv => lhs; whnf)) ?_
  refine p1 (x_nilCheck rfl) ?_
  refine p1 (x_fieldAddr fo178_2 sz3 rfl) ?_
  refine p1 (x_load1 un3 rfl (hH.cell (hst_k hwl2))) ?_
  refine p1 (x_move (by conv => lhs; whnf)) ?_
  refine p1 ((x_add rfl rfl (fits_i64 (by omega) (by omega))).cast (congrArg _ (by omega : ((k : Nat) : Int) + ((j : Nat) : Int) = ((k + j : Nat) : Int)))) ?_
  refine p1 (x_nilCheck rfl) ?_
  refine p1 (x_fieldAddr fo178_2 sz3 rfl) ?_
  refine o_store1 rfl (by conv => lhs; whnf) rfl rfl sz3 hH (by rw [hst_size hwl2]; omega) ?_
  intro w5 hP5
  have hX := hX.trans (But.ofPut hP5)
  have hH := hP5.blk
  rw [hst_setk hwl2] at hH
  have hS := hS.but (But.ofPut hP5) hBg hE
  refine r_nil (t_n (c_seq (r_plain ?_)))
  refine p1 (x_move (by conv => lhs; whnf)) ?_
  refine p1 (x_move (by conv => lhs; whnf)) ?_
  refine p1 (x_slice_lN u23 sz5 rfl rfl (by omega)) ?_
  refine p1 (x_assign (by conv => lhs; whnf)) ?_
  refine r_nil (t_n (c_seq (r_plain ?_)))
  refine p1 (x_move (by conv => lhs; whnf)) ?_
  refine p1 (x_nilCheck rfl) ?_
  refine p1 (x_fieldAddr fo178_2 sz3 rfl) ?_
  refine p1 (x_load1 un3 rfl (hH.cell (hst_k hwl2))) ?_
  refine p1 (x_eql rfl rfl) ?_
  refine r_nil (t_n ?_)
  first | refine c_dec rfl (fun hc44 => ?_) (fun hc44 => ?_) | refine c_if rfl (fun hc44 => ?_) (fun hc44 => ?_)
  ·try simp only [dA, dB, dC, dD, dE, dF, dG, Int.not_lt, Int.not_le] at hc44
   have hkj : k + j = 64 := by omega
   have hp2 := hp.full rest (j := j) (by omega) hkj
   rw [← hwt2] at hp2
   refine c_seq ?_
   refine r_held (fun _ w2 => RwB w2 g wt2) mixed ?_
   intro w6 hE6
   have hX := hX.ext hE6
   have hH := hH.ext hE6
   have hS := hS.ext hE6
   have hSr7 : (fun _ w2 => RwB w2 g wt2) w6 w6 := hst_range_w hH
   have hRw : RwB _ g wt2 := hst_range_w hH
   refine h_take 0 rfl (by kernel_rfl) (by kernel_rfl) (by kernel_rfl) hSr7 (fun wS hSS => by ( exact (x_move (by conv => lhs; whnf)))) ?_
   refine h_take 1 rfl (by kernel_rfl) (by kernel_rfl) (by kernel_rfl) hSr7 (fun wS hSS => by ( exact (x_move (by conv => lhs; whnf)))) ?_
   refine h_take 2 rfl (by kernel_rfl) (by kernel_rfl) (by kernel_rfl) hSr7 (fun wS hSS => by ( exact (x_nilCheck rfl))) ?_
   refine h_take 3 rfl (by kernel_rfl) (by kernel_rfl) (by kernel_rfl) hSr7 (fun wS hSS => by ( exact (x_fieldAddr fo178_0 sz175 rfl))) ?_
   refine h_take 5 rfl (by kernel_rfl) (by kernel_rfl) (by kernel_rfl) hSr7 (fun wS hSS => by ( exact (x_move (by conv => lhs; whnf)))) ?_
   refine h_take 6 rfl (by kernel_rfl) (by kernel_rfl) (by kernel_rfl) hSr7 (fun wS hSS => by ( exact (x_nilCheck rfl))) ?_
   refine h_take 7 rfl (by kernel_rfl) (by kernel_rfl) (by kernel_rfl) hSr7 (fun wS hSS => by ( exact (x_fieldAddr fo178_1 sz176 rfl))) ?_
   refine h_take 8 rfl (by kernel_rfl) (by kernel_rfl) (by kernel_rfl) hSr7 (fun wS hSS => by (have hRw := hSS; exact (x_loadN ua176 rfl (by rw [List.length_map, hwl2]; exact sz176) hRw))) ?_
   refine h_one 4 _ rfl (by kernel_rfl) (hop_of_list (fun Q4 hQ4 => ?_))
   refine p1 (x_loadN ua175 rfl (by rw [List.length_map]; exact sz175) (hst_range_s hH)) ?_
   refine hop_end hQ4 ⟨hSr7, ?_⟩
   refine h_one 9 _ rfl (by kernel_rfl) (hop_of_list (fun Q9 hQ9 => ?_))
   refine o_call Tryz.func126 fn126 fb126 (sha_mix s wt2 _ hwl2 (hrt.but hX h4)) rfl ?_
   rintro v7 w7 ⟨rfl, hE7⟩
   have hX := hX.ext hE7
   have hH := hH.ext hE7
   have hS := hS.ext hE7
   have hSr7 := hSr7.ext hE7
   have hRw := hRw.ext hE7
   refine hop_end hQ9 ⟨hSr7, ?_⟩
   refine h_take 10 rfl (by kernel_rfl) (by kernel_rfl) (by kernel_rfl) hSr7 (fun wS hSS => by ( exact (x_nilCheck rfl))) ?_
   refine h_take 11 rfl (by kernel_rfl) (by kernel_rfl) (by kernel_rfl) hSr7 (fun wS hSS => by ( exact (x_fieldAddr fo178_0 sz175 rfl))) ?_
   refine h_one 12 _ rfl (by kernel_rfl) (hop_of_list (fun Q12 hQ12 => ?_))
   refine o_storeN rfl rfl (wds_one _) (by rw [wds_size]; exact sz175) hH (by rw [hst_size hwl2, wds_size, W8.len]; omega) ?_
   intro w8 hP8
   have hX := hX.trans (But.ofPut hP8)
   have hH := hP8.blk
   rw [hst_sets] at hH
   have hS := hS.but (But.ofPut hP8) hBg hE
   have hSr7 := hst_range_w hH
   refine hop_end hQ12 ⟨hSr7, ?_⟩
   refine h_done (by kernel_rfl) ?_
   refine t_n (r_plain ?_)
   refine p1 (x_move (by conv => lhs; whnf)) ?_
   refine p1 (x_nilCheck rfl) ?_
   refine p1 (x_fieldAddr fo178_2 sz3 rfl) ?_
   refine o_store1 rfl (by conv => lhs; whnf) rfl rfl sz3 hH (by rw [hst_size hwl2]; omega) ?_
   intro w9 hP9
   have hX := hX.trans (But.ofPut hP9)
   have hH := hP9.blk
   rw [show (Value.int .i64 0) = .int .i64 ((0 : Nat) : Int) from rfl, hst_setk hwl2] at hH
   have hS := hS.but (But.ofPut hP9) hBg hE
   refine r_nil (b_n ?_)
   first
     | exact t_n (At.mk ((_, r - j, _, rest.drop j, done ++ rest.take j, mixF s wt2, wt2, 0)) (by repeat (first | exact Agr.refl _ _ | exact Agr.hav _ _ _ | refine Agr.upd rfl ?_ | refine Agr.updR rfl ?_ | refine Agr.updL ?_ _ rfl | refine Agr.hav' rfl ?_)) ⟨rfl, trivial⟩ ⟨⟨hX, ⟨hp2, hH, hS.dropI j (by omega), by rw [List.append_assoc, List.take_append_drop]; exact hD⟩⟩, by first | (dsimp only; omega) | ((show _ < _); omega)⟩)
     | exact t_n (At.mk ((_, r - j, _, rest.drop j, done ++ rest.take j, s, wt2, k + j)) (by repeat (first | exact Agr.refl _ _ | exact Agr.hav _ _ _ | refine Agr.upd rfl ?_ | refine Agr.updR rfl ?_ | refine Agr.updL ?_ _ rfl | refine Agr.hav' rfl ?_)) ⟨rfl, trivial⟩ ⟨⟨hX, ⟨hp2, hH, hS.dropI j (by omega), by rw [List.append_assoc, List.take_append_drop]; exact hD⟩⟩, by first | (dsimp only; omega) | ((show _ < _); omega)⟩)
  ·try simp only [dA, dB, dC, dD, dE, dF, dG, Int.not_lt, Int.not_le] at hc44
   have hkj : k + j < 64 := by omega
   have hp2 := hp.part rest (j := j) (by omega) hkj
   rw [← hwt2] at hp2
   refine c_skip (b_n ?_)
   first
     | exact t_n (At.mk ((_, r - j, _, rest.drop j, done ++ rest.take j, mixF s wt2, wt2, 0)) (by repeat (first | exact Agr.refl _ _ | exact Agr.hav _ _ _ | refine Agr.upd rfl ?_ | refine Agr.updR rfl ?_ | refine Agr.updL ?_ _ rfl | refine Agr.hav' rfl ?_)) ⟨rfl, trivial⟩ ⟨⟨hX, ⟨hp2, hH, hS.dropI j (by omega), by rw [List.append_assoc, List.take_append_drop]; exact hD⟩⟩, by first | (dsimp only; omega) | ((show _ < _); omega)⟩)
     | exact t_n (At.mk ((_, r - j, _, rest.drop j, done ++ rest.take j, s, wt2, k + j)) (by repeat (first | exact Agr.refl _ _ | exact Agr.hav _ _ _ | refine Agr.upd rfl ?_ | refine Agr.updR rfl ?_ | refine Agr.updL ?_ _ rfl | refine Agr.hav' rfl ?_)) ⟨rfl, trivial⟩ ⟨⟨hX, ⟨hp2, hH, hS.dropI j (by omega), by rw [List.append_assoc, List.take_append_drop]; exact hD⟩⟩, by first | (dsimp only; omega) | ((show _ < _); omega)⟩)
 ·try simp only [dA, dB, dC, dD, dE, dF, dG, Int.not_lt, Int.not_le] at hc18
  have hr0 : rest = [] := List.length_eq_zero_iff.1 (by omega)
  rw [hr0, List.append_nil] at hD
  refine c_exit (t_e (t_e (b_hit ?_)))
  refine end0n rfl ?_
  exact ⟨⟨s, wt, k, hD ▸ hp, by rw [List.length_append, hl.len]; exact hH⟩, hX⟩
theorem sha_HSum (all : List UInt8) (g0 : Nat) (w : World) (hs : Hs w g0 all) (hn : all.length ≤ 10000000000000) (hrt : Rt w) (h4 : 1 < w.heap.size) :
    Ret Tryz.prog 83 [.pointer (some ⟨g0, 0, none⟩)] w (fun v w' => v = .agg (hv (shaF all)) ∧ Ext w w') := by
 obtain ⟨s0, wt0, k0, hp0, hH⟩ := hs
 have hX := Ext.refl w
 refine enter 62 _ Tryz.func83 rfl rfl (Nat.le_of_ble_eq_true rfl) rfl ?_
 refine c_seq (r_plain ?_)
 refine o_alloc zr64 ?_
 intro w1 g2 hN2
 have hE1 := hN2.ext
 have hX := hX.ext hE1
 have hH := hH.ext hE1
 have hB2 := hN2.blk
 refine r_nil (t_n (c_seq (c_seq (r_plain ?_))))
 have hB2 : Blk _ g2 (bcs (List.replicate 32 0)) 64 := hB2
 refine p1 (x_move (by conv => lhs; whnf)) ?_
 refine p1 (x_eql_ptrnil u132 rfl rfl) ?_
 refine r_nil (t_n ?_)
 refine c_f (rfl) ?_
 refine c_skip (t_n (c_seq (r_plain ?_)))
 refine p1 (x_move (by conv => lhs; whnf)) ?_
 refine p1 (x_nilCheck rfl) ?_
 refine p1 (x_loadB ua178 rfl hH (by rw [hst_size hp0.wl]; exact sz178)) ?_
 have sX := hX.size
 have l2 := hB2.lt
 have lH := hH.lt
 refine o_alloc zr178 ?_
 intro w2 g3 hN3
 have hE2 := hN3.ext
 have hX := hX.ext hE2
 have hH := hH.ext hE2
 have hB2 := hB2.ext hE2
 have hB3 := hN3.blk
 have e3 := hN3.g_eq
 have hg3 : w.heap.size ≤ g3 := by omega
 have h23 : g2 < g3 := by omega
 refine o_storeAll rfl (by conv => lhs; whnf) hst_one (by rw [hst_size hp0.wl]; exact sz178) hB3 (by rw [hst_size hp0.wl]; rfl) ?_
 intro w3 hP3
 have hX := hX.put hP3 (by omega)
 have hH := hP3.keep hH (by omega)
 have hB2 := hP3.keep hB2 (by omega)
 have hB3 := hP3.blk
 refine r_nil (t_n (c_seq (r_plain ?_)))
 refine p1 (x_move (by conv => lhs; whnf)) ?_
 refine p1 (x_nilCheck rfl) ?_
 refine p1 (x_fieldAddr fo178_3 sz3 rfl) ?_
 refine p1 (x_load1 un3 rfl (hH.cell (hst_n hp0.wl))) ?_
 refine p1 (x_convf u180 us3 rfl (fits_u64 (by omega) (by omega))) ?_
 refine p1 ((x_shl rfl rfl (by omega)).cast (congrArg _ (shl3 (by omega)))) ?_
 refine p1 (x_assign (by conv => lhs; whnf)) ?_
 refine r_nil (t_n (c_seq (r_plain ?_)))
 refine o_buildSlice u23 inf5 rfl (by decide) (fun base hb => fill_one (by rfl) base hb) ?_
 intro w4 g21 hN21
 have hE4 := hN21.ext
 have hX := hX.ext hE4
 have hH := hH.ext hE4
 have hB2 := hB2.ext hE4
 have hB3 := hB3.ext hE4
 have hJ := one_made (b := 128) hN21 (B0 := 0) (Nat.zero_le _)
 have hHs : Hs _ g3 all := ⟨s0, wt0, k0, hp0, hB3⟩
 refine o_call Tryz.func82 fn82 fb82 (sha_Write (all) ([128]) 5 0 g3 _ _ _ _ hHs hJ.sl (by decide) (Nat.zero_le _) (by simp [be8_len]; omega) (hrt.ext hX) (by omega)) rfl ?_
 rintro v5 w5 ⟨hHs, hM5⟩
 have hX := hM5.extTo hX hg3
 have hB2 := hB2.but hM5 (.inl (by omega))
 skip
 refine r_nil (t_n (c_seq (c_block ?_)))
 refine c_loop (ι := Nat) [23, 24, 25, 26, 27] (fun j => []) (fun j w' => Ext w w' ∧ (j ≤ padZ all.length ∧ Blk w' g2 (bcs (List.replicate 32 0)) 64 ∧ Hs w' g3 (all ++ [128] ++ List.replicate j 0))) (fun j => padZ all.length - j) (0) trivial ⟨hX, ⟨by omega, hB2, by rw [List.replicate_zero, List.append_nil]; exact hHs⟩⟩ ?_
 rintro j GL0 w6 ⟨hE6, hj, hB2, hHs⟩
 have hX := hE6
 have hHs0 := hHs
 obtain ⟨s1, wt1, k1, hp1, hB3⟩ := hHs0
 have hk1 := hp1.kk
 have hl1 : (all ++ [128] ++ List.replicate j 0).length = all.length + 1 + j := by simp; omega
 rw [hl1] at hk1
 have hpm := padZ_mod all.length
 have hpz := padZ_le all.length
 refine c_seq (c_seq (r_plain ?_))
 refine p1 (x_fieldAddr fo178_2 sz3 rfl) ?_
 refine p1 (x_load1 un3 rfl (hB3.cell (hst_k hp1.wl))) ?_
 refine p1 (x_neq rfl rfl) ?_
 refine r_nil (t_n ?_)
 first | refine c_dec rfl (fun hc25 => ?_) (fun hc25 => ?_) | refine c_if rfl (fun hc25 => ?_) (fun hc25 => ?_)
 ·try simp only [dA, dB, dC, dD, dE, dF, dG, Int.not_lt, Int.not_le] at hc25
  have hjlt : j < padZ all.length := by omega
  refine c_skip (t_n (c_block (r_plain ?_)))
  refine o_buildSlice u23 inf5 rfl (by decide) (fun base hb => fill_one (by rfl) base hb) ?_
  intro w7 g26 hN26
  have hE7 := hN26.ext
  have hX := hX.ext hE7
  have hB2 := hB2.ext hE7
  have hHs := hHs.ext hE7
  have hJ := one_made (b := 0) hN26 (B0 := 0) (Nat.zero_le _)
  refine o_call Tryz.func82 fn82 fb82 (sha_Write (all ++ [128] ++ List.replicate j 0) ([0]) 5 0 g3 _ _ _ _ hHs hJ.sl (by decide) (Nat.zero_le _) (by simp [be8_len]; omega) (hrt.ext hX) (by omega)) rfl ?_
  rintro v8 w8 ⟨hHs, hM8⟩
  have hX := hM8.extTo hX hg3
  have hB2 := hB2.but hM8 (.inl (by omega))
  rw [List.append_assoc, ← List.replicate_succ'] at hHs
  refine r_nil (b_n ?_)
  refine t_n (At.mk (j + 1) (by repeat (first | exact Agr.refl _ _ | exact Agr.hav _ _ _ | refine Agr.upd rfl ?_ | refine Agr.updR rfl ?_ | refine Agr.updL ?_ _ rfl | refine Agr.hav' rfl ?_)) trivial ?_)
  exact ⟨⟨hX, ⟨by omega, hB2, hHs⟩⟩, by first | (dsimp only; omega) | ((show _ < _); omega)⟩
 ·try simp only [dA, dB, dC, dD, dE, dF, dG, Int.not_lt, Int.not_le] at hc25
  have hje : j = padZ all.length := Classical.byContradiction fun h => padZ_lt (n := all.length) (j := j) (by omega) (by omega)
  subst hje
  refine c_exit (t_e (t_e (b_hit (t_n (c_seq (r_plain ?_))))))
  have l3 := hHs.lt
  have sX8 := hX.size
  refine o_alloc zr181 ?_
  intro w9 g5 hN5
  have hE9 := hN5.ext
  have hX := hX.ext hE9
  have hB2 := hB2.ext hE9
  have hHs := hHs.ext hE9
  have hB5 := hN5.blk
  refine r_nil (t_n (c_seq (c_seq (r_plain ?_))))
  have e5 := hN5.g_eq
  have h35 : g3 < g5 := by omega
  have hB5 : Blk _ g5 (bcs (List.replicate 8 0)) 181 := hB5
  refine p1 (x_move (by conv => lhs; whnf)) ?_
  refine r_nil (t_n (c_block ?_))
  refine c_loop (ι := Nat) [6, 28, 29, 30, 31, 32, 33, 34, 35, 36, 37, 38, 39, 40] (fun i => [(28, .int .i64 (i : Int))]) (fun i w' => Ext w w' ∧ (i ≤ 8 ∧ Blk w' g2 (bcs (List.replicate 32 0)) 64 ∧ Hs w' g3 (all ++ [128] ++ List.replicate (padZ all.length) 0) ∧ Blk w' g5 (bcs (setB (beB all.length) (List.replicate 8 0) i)) 181)) (fun i => 8 - i) (0) ⟨rfl, trivial⟩ ⟨hX, ⟨by omega, hB2, hHs, hB5⟩⟩ ?_
  rintro i GL2 w10 ⟨hE10, hi, hB2, hHs, hB5⟩
  have hX := hE10
  refine c_seq (r_plain ?_)
  refine p1 (x_lss rfl rfl) ?_
  refine r_nil (t_n (c_seq ?_))
  first | refine c_dec rfl (fun hc29 => ?_) (fun hc29 => ?_) | refine c_if rfl (fun hc29 => ?_) (fun hc29 => ?_)
  ·try simp only [dA, dB, dC, dD, dE, dF, dG, Int.not_lt, Int.not_le] at hc29
   refine c_skip (t_n (c_seq (c_block (c_seq (r_plain ?_)))))
   refine p1 (x_move (by conv => lhs; whnf)) ?_
   refine p1 (x_assign (by conv => lhs; whnf)) ?_
   refine r_nil (t_n (r_plain ?_))
   refine p1 (x_move (by conv => lhs; whnf)) ?_
   refine p1 (x_move (by conv => lhs; whnf)) ?_
   refine p1 (x_move (by conv => lhs; whnf)) ?_
   refine p1 (x_mul rfl rfl (fits_i64 (by omega) (by omega))) ?_
   refine p1 (x_sub rfl rfl (fits_i64 (by omega) (by omega))) ?_
   refine p1 (x_convf u86 us3 rfl (fits_u64 (by omega) (by omega))) ?_
   refine p1 (x_shr rfl rfl (by omega)) ?_
   refine p1 ((x_conv u5 us180 rfl).cast (congrArg _ (wrapI _))) ?_
   refine p1 (x_ixa0 u181 sz5 rfl rfl (by omega)) ?_
   refine o_store1 rfl (by conv => lhs; whnf) rfl rfl sz5 hB5 (by rw [bcs_size, setB_len, List.length_replicate]; omega) ?_
   intro w11 hP11
   have hX := hX.put hP11 (by omega)
   have hB2 := hP11.keep hB2 (by omega)
   have hHs := hHs.keep hP11 (by omega)
   have hB5 := hP11.blk
   rw [bcs_set] at hB5
   refine r_nil (b_n (t_n (r_plain ?_)))
   refine p1 (x_add rfl rfl (fits_i64 (by omega) (by omega))) ?_
   refine p1 (x_move (by conv => lhs; whnf)) ?_
   refine r_nil ?_
   refine t_n (At.mk (i + 1) (by repeat (first | exact Agr.refl _ _ | exact Agr.hav _ _ _ | refine Agr.upd rfl ?_ | refine Agr.updR rfl ?_ | refine Agr.updL ?_ _ rfl | refine Agr.hav' rfl ?_)) ⟨rfl, trivial⟩ ?_)
   exact ⟨⟨hX, ⟨by omega, hB2, hHs, hB5⟩⟩, by first | (dsimp only; omega) | ((show _ < _); omega)⟩
  ·try simp only [dA, dB, dC, dD, dE, dF, dG, Int.not_lt, Int.not_le] at hc29
   have h8 : i = 8 := by omega
   subst h8
   rw [setB_eq _ _ 8 (by simp), List.drop_of_length_le (by simp), List.append_nil] at hB5
   have hB5 : Blk _ g5 (bcs (be8 all.length)) 181 := hB5
   refine c_exit (t_e (t_e (b_hit (t_n (c_seq (r_plain ?_))))))
   refine p1 (x_slice_arr u181 sz5 rfl) ?_
   refine o_call Tryz.func82 fn82 fb82 (sha_Write (all ++ [128] ++ List.replicate (padZ all.length) 0) (be8 all.length) 181 0 g3 _ _ _ _ hHs (sl_bcs hB5 (be8_len _) (by decide)) (by decide) (Nat.zero_le _) (by simp [be8_len]; omega) (hrt.ext hX) (by omega)) rfl ?_
   rintro v12 w12 ⟨hHs, hM12⟩
   have hX := hM12.extTo hX hg3
   have hB2 := hB2.but hM12 (.inl (by omega))
   have hHs : Hs _ g3 (padF all) := hHs
   have l3b := hHs.lt
   refine r_nil (t_n (c_seq (r_plain ?_)))
   refine o_alloc zr64 ?_
   intro w13 g7 hN7
   have hE13 := hN7.ext
   have hX := hX.ext hE13
   have hB2 := hB2.ext hE13
   have hHs := hHs.ext hE13
   have hB7 := hN7.blk
   refine r_nil (t_n (c_seq (c_seq (r_plain ?_))))
   have sX9 := hX.size
   have e7 := hN7.g_eq
   have h37 : g3 < g7 := by omega
   have hB7 : Blk _ g7 (bcs (List.replicate 32 0)) 64 := hB7
   obtain ⟨sF, wF, kF, hpF, hB3⟩ := hHs
   have hwF := hpF.wl
   refine p1 (x_move (by conv => lhs; whnf)) ?_
   refine r_nil (t_n (c_block ?_))
   refine c_loop (ι := Nat) [8, 43, 44, 45, 46, 47, 48, 49, 50, 51, 52, 53, 54, 55, 56, 57, 58, 59, 60] (fun i => [(43, .int .i64 (i : Int))]) (fun i w' => Ext w w' ∧ (i ≤ 32 ∧ Blk w' g2 (bcs (List.replicate 32 0)) 64 ∧ Blk w' g3 (hst sF wF kF (padF all).length) 178 ∧ Blk w' g7 (bcs (setB (ouB sF) (List.replicate 32 0) i)) 64)) (fun i => 32 - i) (0) ⟨rfl, trivial⟩ ⟨hX, ⟨by omega, hB2, hB3, hB7⟩⟩ ?_
   rintro i GL4 w14 ⟨hE14, hi, hB2, hB3, hB7⟩
   have hX := hE14
   refine c_seq (r_plain ?_)
   refine p1 (x_lss rfl rfl) ?_
   refine r_nil (t_n (c_seq ?_))
   first | refine c_dec rfl (fun hc44 => ?_) (fun hc44 => ?_) | refine c_if rfl (fun hc44 => ?_) (fun hc44 => ?_)
   ·try simp only [dA, dB, dC, dD, dE, dF, dG, Int.not_lt, Int.not_le] at hc44
    refine c_skip (t_n (c_seq (c_block (c_seq (r_plain ?_)))))
    refine p1 (x_move (by conv => lhs; whnf)) ?_
    refine p1 (x_assign (by conv => lhs; whnf)) ?_
    refine r_nil (t_n (r_plain ?_))
    refine p1 (x_move (by conv => lhs; whnf)) ?_
    refine p1 (x_move (by conv => lhs; whnf)) ?_
    refine p1 ((x_quo rfl rfl (by omega) (by omega) (fits_i64 (by omega) (by omega))).cast (congrArg _ (by omega : ((i : Nat) : Int) / 4 = ((i / 4 : Nat) : Int)))) ?_
    refine p1 (x_fieldAddr fo178_0 sz175 rfl) ?_
    refine p1 (x_ixa0 (i := i / 4) u175 sz174 rfl rfl (by omega)) ?_
    refine p1 (x_load1 un174 rfl (hB3.cell (hst_s (by omega)))) ?_
    refine p1 (x_move (by conv => lhs; whnf)) ?_
    refine p1 ((x_rem rfl rfl (by omega) (by omega)).cast (congrArg _ (by omega : ((i : Nat) : Int) % 4 = ((i % 4 : Nat) : Int)))) ?_
    refine p1 (x_mul rfl rfl (fits_i64 (by omega) (by omega))) ?_
    refine p1 (x_sub rfl rfl (fits_i64 (by omega) (by omega))) ?_
    refine p1 (x_convf u86 us3 rfl (fits_u64 (by omega) (by omega))) ?_
    refine p1 (x_shr rfl rfl (by omega)) ?_
    refine p1 ((x_conv u5 us174 rfl).cast (congrArg _ (wrapI _))) ?_
    refine p1 (x_ixa0 u64 sz5 rfl rfl (by omega)) ?_
    refine o_store1 rfl (by conv => lhs; whnf) rfl rfl sz5 hB7 (by rw [bcs_size, setB_len, List.length_replicate]; omega) ?_
    intro w15 hP15
    have hX := hX.put hP15 (by omega)
    have hB2 := hP15.keep hB2 (by omega)
    have hB3 := hP15.keep hB3 (by omega)
    have hB7 := hP15.blk
    rw [bcs_set] at hB7
    refine r_nil (b_n (t_n (r_plain ?_)))
    refine p1 (x_add rfl rfl (fits_i64 (by omega) (by omega))) ?_
    refine p1 (x_move (by conv => lhs; whnf)) ?_
    refine r_nil ?_
    refine t_n (At.mk (i + 1) (by repeat (first | exact Agr.refl _ _ | exact Agr.hav _ _ _ | refine Agr.upd rfl ?_ | refine Agr.updR rfl ?_ | refine Agr.updL ?_ _ rfl | refine Agr.hav' rfl ?_)) ⟨rfl, trivial⟩ ?_)
    exact ⟨⟨hX, ⟨by omega, hB2, hB3, hB7⟩⟩, by first | (dsimp only; omega) | ((show _ < _); omega)⟩
   ·try simp only [dA, dB, dC, dD, dE, dF, dG, Int.not_lt, Int.not_le] at hc44
    have h32 : i = 32 := by omega
    subst h32
    rw [setB_eq _ _ 32 (by simp), List.drop_of_length_le (by simp), List.append_nil] at hB7
    have hB7 : Blk _ g7 (hv (outH sF)) 64 := hB7
    refine c_exit (t_e (t_e (b_hit (t_n (c_seq (r_plain ?_))))))
    refine p1 (x_loadB ua64 rfl hB7 (hv_sz sz64 _)) ?_
    refine o_storeAll rfl rfl (kHash_one _) (hv_sz sz64 _) hB2 (by rw [hv_size]; simp [bcs_size]) ?_
    intro w16 hP16
    have hX := hX.put hP16 (by have e2 := hN2.g_eq; omega)
    have hB2 := hP16.blk
    have hB3 := hP16.keep hB3 (by omega)
    have hB7 := hP16.keep hB7 (by omega)
    refine r_nil (t_n (c_ret ?_))
    refine end1c rfl ua64 rfl hB2 (hv_sz sz64 _) ?_
    exact ⟨by rw [hpF.st]; rfl, hX⟩
theorem sha_Sum (xs : List UInt8) (B : Nat) (p : Option Addr) (n c : Nat) (w : World) (hl : Sl kByte 5 B w p n c xs) (hn : n ≤ 10000000000000) (hBw : B ≤ w.heap.size) (hrt : Rt w) (hbt : Bt w) (h4 : 1 < w.heap.size) :
    Ret Tryz.prog 34 [.slice p n c] w (fun v w' => v = .agg (hv (shaF xs)) ∧ Ext w w') := by
 have hX := Ext.refl w
 refine enter 10 _ Tryz.func34 rfl rfl (Nat.le_of_ble_eq_true rfl) rfl ?_
 refine c_seq (r_plain ?_)
 refine o_alloc zr64 ?_
 intro w1 g2 hN2
 have hE1 := hN2.ext
 have hX := hX.ext hE1
 have hB2 := hN2.blk
 refine r_nil (t_n (c_seq (r_plain ?_)))
 have l2 := hB2.lt
 have sX := hX.size
 refine o_call Tryz.func81 fn81 fb81 (sha_New _ (hbt.ext hX)) rfl ?_
 rintro v2 w2 ⟨⟨gh, rfl, hgh, hHs⟩, hE2⟩
 have hX := hX.ext hE2
 have hB2 := hB2.ext hE2
 refine p1 (x_assign (by conv => lhs; whnf)) ?_
 refine r_nil (t_n (c_seq (r_plain ?_)))
 refine p1 (x_move (by conv => lhs; whnf)) ?_
 refine p1 (x_move (by conv => lhs; whnf)) ?_
 refine o_call Tryz.func82 fn82 fb82 (sha_Write [] xs 5 B gh _ _ _ _ hHs (hl.ext hX) (by decide) (by omega) (by simp; omega) (hrt.ext hX) (by omega)) rfl ?_
 rintro v3 w3 ⟨hHs, hM3⟩
 have hX := hM3.extTo hX (by omega)
 have hB2 := hB2.but hM3 (.inl (by omega))
 rw [List.nil_append] at hHs
 refine r_nil (t_n (c_seq (r_plain ?_)))
 refine p1 (x_move (by conv => lhs; whnf)) ?_
 refine o_call Tryz.func83 fn83 fb83 (sha_HSum xs gh _ hHs (by have := hl.len; omega) (hrt.ext hX) (by have := hX.size; omega)) rfl ?_
 rintro v4 w4 ⟨rfl, hE4⟩
 have hX := hX.ext hE4
 have hB2 := hB2.ext hE4
 have hHs := hHs.ext hE4
 refine o_storeAll rfl rfl (kHash_one _) (hv_sz sz64 _) hB2 (hv_size _) ?_
 intro w5 hP5
 have hX := hX.put hP5 (by have e2 := hN2.g_eq; omega)
 have hB2 := hP5.blk
 have hHs := hHs.keep hP5 (by omega)
 refine r_nil (t_n (c_ret ?_))
 refine end1c rfl ua64 rfl hB2 (hv_sz sz64 _) ?_
 exact ⟨rfl, hX⟩
end Go.Proofs.Eng
end
section
set_option maxRecDepth 100000
set_option maxHeartbeats 4000000
namespace Go.Proofs.Eng
open Go.RowKit
open Extern.Stop (cell)
theorem fb47 : Tryz.f47.body.isNone = false := by kernel_rfl
theorem fb51 : Tryz.f51.body.isNone = false := by kernel_rfl
theorem fn47 : (Tryz.f47.name == "runtime.NumGoroutine") = false := by kernel_rfl
theorem fn51 : (Tryz.f51.name == "runtime.NumGoroutine") = false := by kernel_rfl
theorem fo91_1 : fieldOf Tryz.prog 91 1 = some (3, 1) := by kernel_rfl
theorem un30 : (Tryz.prog.underlying 30).map TypeDesc.isRow = some false := by kernel_rfl
end Go.Proofs.Eng
end
section
set_option maxRecDepth 100000
set_option maxHeartbeats 4000000
namespace Go.Proofs.Eng
open Go.RowKit
open Extern.Stop (cell)
theorem open_1 (gd : Nat) (S : Nat → Prop) (D : DS) (w : World) (hD : Dsk S w gd D) (hok : DOk D) (hst : D.steps < 4611686018427380000) (hle : D.left ≤ 9223372036854775807) (hnm : ∀ x ∈ D.l, namedD x.1 = true) (hS : ∀ k, S k → 6 ≤ k) (hg : Gt w) (b0 : Nat) (hb0 : Blk w b0 #[.pointer (some ⟨gd, 0, none⟩)] 34) :
    Ret Tryz.prog 46 [.pointer (some ⟨b0, 0, none⟩)] w (fun v w' => v = .int .i64 (cleanD D (toStr [])).2 ∧ Dsk (grow S w w') w' gd (cleanD D (toStr [])).1 ∧ ModS S ED w w') := by
 have hX := Ext.refl w
 refine enter 4 _ Tryz.func46 rfl rfl (Nat.le_of_ble_eq_true rfl) rfl ?_
 refine c_seq (r_plain ?_)
 refine p1 (x_assign (by conv => lhs; whnf)) ?_
 refine r_nil (t_n (c_seq (r_plain ?_)))
 refine p1 (x_load1 un34 rfl (hb0.cell (rfl))) ?_
 have hXs := hX.size
 refine o_call Tryz.func47 fn47 fb47 (chunks_clean gd S D _ hD hok hst hle hnm hS hg (toStr [])) rfl ?_
 rintro v1 w1 ⟨rfl, hD2, hM2⟩
 refine p1 (x_assign (by conv => lhs; whnf)) ?_
 refine r_nil (t_n (c_ret ?_))
 refine end1 rfl (by conv => lhs; whnf) ?_
 exact ⟨rfl, hD2.wide hXs, (ModS.ofExt hX).trans hM2 (fun _ _ h => h)⟩
theorem open_2 (gd : Nat) (S : Nat → Prop) (D : DS) (w : World) (hD : Dsk S w gd D) (hok : DOk D) (hst : D.steps < 4611686018427380000) (hle : D.left ≤ 9223372036854775807) (hnm : ∀ x ∈ D.l, namedD x.1 = true) (hS : ∀ k, S k → 6 ≤ k) (hg : Gt w) (b0 b1 gs : Nat) (cs : Array Value) (hb0 : Blk w b0 #[.pointer (some ⟨gd, 0, none⟩)] 34) (hb1 : Blk w b1 #[.pointer (some ⟨gs, 0, none⟩)] 30) (hs : Blk w gs cs 91) (hs1 : cs[1]? = some (.int .i64 1)) :
    Ret Tryz.prog 48 [.pointer (some ⟨b0, 0, none⟩), .pointer (some ⟨b1, 0, none⟩)] w (fun v w' => v = .int .i64 (createD D (nSeg 1)).2 ∧ Dsk (grow S w w') w' gd (createD D (nSeg 1)).1 ∧ ModS S ED w w') := by
 have hX := Ext.refl w
 refine enter 10 _ Tryz.func48 rfl rfl (Nat.le_of_ble_eq_true rfl) rfl ?_
 refine c_seq (r_plain ?_)
 refine p1 (x_assign (by conv => lhs; whnf)) ?_
 refine r_nil (t_n (c_seq ?_))
 refine r_held (fun w1 w2 => ModS S ED w1 w2) mixed ?_
 intro w1 hE1
 have hX := hX.ext hE1
 have hD := hD.ext hE1
 have hb0 := hb0.ext hE1
 have hb1 := hb1.ext hE1
 have hs := hs.ext hE1
 have hSr1 : (fun w1 w2 => ModS S ED w1 w2) w1 w1 := ModS.refl S ED _
 refine h_take 0 rfl (by kernel_rfl) (by kernel_rfl) (by kernel_rfl) hSr1 (fun wS hSS => by (have hb0 := hb0.modS hSS (.inr (by decide)); have hb1 := hb1.modS hSS (.inr (by decide)); have hs := hs.modS hSS (.inr (by decide)); exact (x_load1 un34 rfl (hb0.cell (rfl))))) ?_
 refine h_take 1 rfl (by kernel_rfl) (by kernel_rfl) (by kernel_rfl) hSr1 (fun wS hSS => by (have hb0 := hb0.modS hSS (.inr (by decide)); have hb1 := hb1.modS hSS (.inr (by decide)); have hs := hs.modS hSS (.inr (by decide)); exact (x_load1 un30 rfl (hb1.cell (rfl))))) ?_
 refine h_take 2 rfl (by kernel_rfl) (by kernel_rfl) (by kernel_rfl) hSr1 (fun wS hSS => by ( exact (x_nilCheck rfl))) ?_
 refine h_take 3 rfl (by kernel_rfl) (by kernel_rfl) (by kernel_rfl) hSr1 (fun wS hSS => by ( exact (x_fieldAddr fo91_1 sz3 rfl))) ?_
 refine h_take 4 rfl (by kernel_rfl) (by kernel_rfl) (by kernel_rfl) hSr1 (fun wS hSS => by (have hb0 := hb0.modS hSS (.inr (by decide)); have hb1 := hb1.modS hSS (.inr (by decide)); have hs := hs.modS hSS (.inr (by decide)); exact (x_load1 un3 rfl (hs.cell (hs1))))) ?_
 refine h_one 5 _ rfl (by kernel_rfl) (hop_of_list (fun Q5 hQ5 => ?_))
 refine o_call Tryz.func49 fn49 fb49 (segment_Name 1 _ (hg.ext hX).l) rfl ?_
 rintro v2 w2 ⟨rfl, hE2⟩
 have hX := hX.ext hE2
 have hD := hD.ext hE2
 have hb0 := hb0.ext hE2
 have hb1 := hb1.ext hE2
 have hs := hs.ext hE2
 have hSr1 := hSr1.ext hE2
 refine hop_end hQ5 ⟨hSr1, ?_⟩
 refine h_one 6 _ rfl (by kernel_rfl) (hop_of_list (fun Q6 hQ6 => ?_))
 have hXs := hX.size
 refine o_call Tryz.func18 fn18 fb18 (disk_Create gd S D _ hD hok (by omega) hle (nSeg 1) (by decide)) rfl ?_
 rintro v3 w3 ⟨rfl, hD2, hM2⟩
 have hSr1 := hSr1.trans hM2 (fun _ _ h => h)
 refine hop_end hQ6 ⟨hSr1, ?_⟩
 refine h_take 7 rfl (by kernel_rfl) (by kernel_rfl) (by kernel_rfl) hSr1 (fun wS hSS => by ( exact (x_assign (by conv => lhs; whnf)))) ?_
 refine h_done (by kernel_rfl) ?_
 refine t_n (c_ret ?_)
 refine end1 rfl (by conv => lhs; whnf) ?_
 exact ⟨rfl, hD2.wide hXs, (ModS.ofExt hX).trans hM2 (fun _ _ h => h)⟩
theorem open_3 (gd : Nat) (S : Nat → Prop) (D : DS) (w : World) (hD : Dsk S w gd D) (hok : DOk D) (hst : D.steps < 4611686018427380000) (hle : D.left ≤ 9223372036854775807) (hnm : ∀ x ∈ D.l, namedD x.1 = true) (hS : ∀ k, S k → 6 ≤ k) (hg : Gt w) (b0 b1 gs : Nat) (cs : Array Value) (hb0 : Blk w b0 #[.pointer (some ⟨gd, 0, none⟩)] 34) (hb1 : Blk w b1 #[.pointer (some ⟨gs, 0, none⟩)] 30) (hs : Blk w gs cs 91) (hs1 : cs[1]? = some (.int .i64 1)) :
    Ret Tryz.prog 50 [.pointer (some ⟨b0, 0, none⟩), .pointer (some ⟨b1, 0, none⟩)] w (fun v w' => v = .int .i64 (writeM D ⟨1, 0, []⟩).2 ∧ Dsk (grow S w w') w' gd (writeM D ⟨1, 0, []⟩).1 ∧ ModS S ED w w') := by
 have hX := Ext.refl w
 refine enter 10 _ Tryz.func50 rfl rfl (Nat.le_of_ble_eq_true rfl) rfl ?_
 refine c_seq (r_plain ?_)
 refine p1 (x_assign (by conv => lhs; whnf)) ?_
 refine r_nil (t_n (c_seq ?_))
 refine r_tail 6 mixed (by kernel_rfl) ?_
 intro w1 hE1
 have hX := hX.ext hE1
 have hD := hD.ext hE1
 have hb0 := hb0.ext hE1
 have hb1 := hb1.ext hE1
 have hs := hs.ext hE1
 refine s1 (x_load1 un34 rfl (hb0.cell (rfl))) ?_
 refine s1 (x_load1 un30 rfl (hb1.cell (rfl))) ?_
 refine s1 (x_nilCheck rfl) ?_
 refine s1 (x_fieldAddr fo91_1 sz3 rfl) ?_
 refine s1 (x_load1 un3 rfl (hs.cell (hs1))) ?_
 refine s1 (x_build1of3 pl99 rfl rfl) ?_
 refine s_nil ?_
 have hXs := hX.size
 refine o_call Tryz.func51 fn51 fb51 (chunks_write gd S D _ hD hok hst hle hnm 1 0 [] 0 0 none 0 0 (Sl.nil _ _ _ _ _ _ (by omega)) (hg.ext hX).l.q) rfl ?_
 rintro v2 w2 ⟨rfl, hD2, hM2⟩
 refine p1 (x_assign (by conv => lhs; whnf)) ?_
 refine r_nil (t_n (c_ret ?_))
 refine end1 rfl (by conv => lhs; whnf) ?_
 exact ⟨rfl, hD2.wide hXs, (ModS.ofExt hX).trans hM2 (fun _ _ h => h)⟩
end Go.Proofs.Eng
end
section
set_option maxRecDepth 100000
set_option maxHeartbeats 4000000
namespace Go.Proofs.Eng
open Go.RowKit
open Extern.Stop (cell)
theorem fb34 : Tryz.f34.body.isNone = false := by kernel_rfl
theorem fb37 : Tryz.f37.body.isNone = false := by kernel_rfl
theorem fb38 : Tryz.f38.body.isNone = false := by kernel_rfl
theorem fb93 : Tryz.f93.body.isNone = false := by kernel_rfl
theorem fb94 : Tryz.f94.body.isNone = false := by kernel_rfl
theorem fn34 : (Tryz.f34.name == "runtime.NumGoroutine") = false := by kernel_rfl
theorem fn37 : (Tryz.f37.name == "runtime.NumGoroutine") = false := by kernel_rfl
theorem fn38 : (Tryz.f38.name == "runtime.NumGoroutine") = false := by kernel_rfl
theorem fn93 : (Tryz.f93.name == "runtime.NumGoroutine") = false := by kernel_rfl
theorem fn94 : (Tryz.f94.name == "runtime.NumGoroutine") = false := by kernel_rfl
theorem fo91_0 : fieldOf Tryz.prog 91 0 = some (34, 0) := by kernel_rfl
theorem fo91_2 : fieldOf Tryz.prog 91 2 = some (3, 2) := by kernel_rfl
theorem fo91_3 : fieldOf Tryz.prog 91 3 = some (23, 3) := by kernel_rfl
theorem fo91_4 : fieldOf Tryz.prog 91 4 = some (88, 4) := by kernel_rfl
theorem sz34 : (Tryz.prog.info? 34).map (·.size) = some 1 := by kernel_rfl
theorem sz88 : (Tryz.prog.info? 88).map (·.size) = some 1 := by kernel_rfl
theorem u88 : Tryz.prog.underlying 88 = some (.map 64 23) := by kernel_rfl
theorem un88 : (Tryz.prog.underlying 88).map TypeDesc.isRow = some false := by kernel_rfl
end Go.Proofs.Eng
end
section
set_option maxRecDepth 100000
set_option maxHeartbeats 4000000
namespace Go.Proofs.Eng
open Go.RowKit
open Extern.Stop (cell)
theorem store_load (gd : Nat) (S : Nat → Prop) (D : DS) (w : World) (hD : Dsk S w gd D) (hok : DOk D) (hst : D.steps < 4611686018427370000) (hle : D.left ≤ 9223372036854775807) (hnm : ∀ x ∈ D.l, namedD x.1 = true) (hS : ∀ k, S k → 6 ≤ k) (hg : Gt w) (hSb : ∀ j, S j → j < w.heap.size) (g r : Nat) (hb : Blk w g #[.pointer (some ⟨gd, 0, none⟩), .int .i64 1, .int .i64 0, .slice none 0 0, .map (some r), .pointer none, .bool false] 91) (hM : Mp kkHash vCh 0 0 w r (fun _ => none)) (hrS : ¬ S r) (hg6 : 6 ≤ g) (hr6 : 6 ≤ r) (raw : By) (e B : Nat) (p : Option Addr) (n c : Nat) (hl : Sl kByte 5 B w p n c raw) :
    Ret Tryz.prog 44 [.pointer (some ⟨g, 0, none⟩), .slice p n c] w (fun v w' => v = .int .i64 (loadC D raw).2 ∧ ((loadC D raw).2 = 0 → Cst (grow (fun j => S j ∨ j = g ∨ j = r) w w') w' g gd (loadC D raw).1) ∧ Dsk (grow S w w') w' gd (loadC D raw).1.D ∧ ModS (fun j => S j ∨ j = g ∨ j = r) EC w w') := by
 have hgs := hg.size
 have hbl := hb.lt
 have hGd : Good D D.steps := ⟨hok, Nat.le_refl _, hle, hnm⟩
 have hX := ModS.refl (fun j => S j ∨ j = g ∨ j = r) EC w
 refine enter 113 _ Tryz.func44 rfl rfl (Nat.le_of_ble_eq_true rfl) rfl ?_
 refine c_seq (r_plain ?_)
 refine p1 (x_assign (by conv => lhs; whnf)) ?_
 refine r_nil (t_n (c_seq (r_plain ?_)))
 refine p1 (x_move (by conv => lhs; whnf)) ?_
 refine o_call Tryz.func93 fn93 fb93 (manifest_Get raw _ _ _ _ _ hl hg.l.q) rfl ?_
 rintro v1 w1 ⟨⟨seg, size, qi, mi, ci, e0, rfl, hdis⟩, hE1⟩
 have hX := hX.ext hE1
 have hD := hD.ext hE1
 have hb := hb.ext hE1
 have hM := hM.ext hE1
 have hg := hg.ext hE1
 have hIx : ∀ w2, Ext w1 w2 → e0 = 0 → ∃ M : Mf, ManOf raw M ∧ seg = (M.seg : Int) ∧ size = (M.size : Int) ∧ FB (nS S) w2 qi mi ci M.index := fun w2 hx he => by
   obtain ⟨_, M, h1, h2, h3, h4⟩ := hdis.resolve_right (fun h => by omega)
   exact ⟨M, h1, h2, h3, (FB.ofOwn h4 (fun k _ hk hs => by have := hSb k hs; omega)).ext hx⟩
 have hIn : e0 ≠ 0 → ¬ ∃ M, ManOf raw M := fun he => (hdis.resolve_left (fun h => he h.1)).2
 have hG := Ext.refl w1
 refine p1 (x_move (by conv => lhs; whnf)) ?_
 refine p1 (x_extract rfl rfl) ?_
 refine p1 (x_extract rfl rfl) ?_
 have hz5 := hX.size
 refine o_alloc zr99 ?_
 intro w2 g5 hN5
 have hE2 := hN5.ext
 have hX := hX.ext hE2
 have hD := hD.ext hE2
 have hb := hb.ext hE2
 have hM := hM.ext hE2
 have hg := hg.ext hE2
 have hG := hG.ext hE2
 have hB5 := hN5.blk
 have hq5 := hN5.g_eq
 refine o_storeAll rfl (by conv => lhs; whnf) (by simp [Value.oneCell']) (by exact sz99) hB5 (by rfl) ?_
 intro w3 hP3
 have hX := hX.new hP3 (by omega)
 have hD := hD.modT (hP3.mod 0 (Nat.zero_le _)) (by decide)
 have hb := hP3.keep hb (by omega)
 have hM := hM.mod (hP3.mod 0 (Nat.zero_le _)) (Nat.zero_le _) (by decide)
 have hg := hg.put hP3 (by omega)
 have hG := hG.put hP3 (by omega)
 have hB5 := hP3.blk
 refine p1 (x_assign (by conv => lhs; whnf)) ?_
 refine r_nil (t_n (c_seq (c_seq (r_plain ?_))))
 refine p1 (x_move (by conv => lhs; whnf)) ?_
 refine p1 (x_neq rfl rfl) ?_
 refine r_nil (t_n ?_)
 first | refine c_dec rfl (fun hc20 => ?_) (fun hc20 => ?_) | refine c_if rfl (fun hc20 => ?_) (fun hc20 => ?_)
 ·try simp only [dA, dB, dC, dD, dE, dF, dG, Int.not_lt, Int.not_le] at hc20
  have hp : loadC D raw = _ := loadC_no (hIn hc20)
  refine c_seq (r_plain ?_)
  refine p1 (x_assign (by conv => lhs; whnf)) ?_
  refine r_nil (t_n (c_ret (t_r ?_)))
  refine end1 rfl (by conv => lhs; whnf) ?_
  first
    | (rw [hp]; exact ⟨rfl, fun h => absurd (show (50 : Int) = 0 from h) (by decide), hD.mono (fun j hj h => .inl h), hX⟩)
    | (rw [hlp, hlr]; exact ⟨rfl, fun h => absurd h hc105, hCX.d.mono (into1 hz20), hX⟩)
    | (rw [hlp, hlr]; exact ⟨rfl, fun _ => hCZ.fin.mono (into1 hXs2), hDZ.mono (into1 hXs2), hX⟩)
    | (rw [hlp, hlr]; exact ⟨rfl, fun _ => hCZ.fin.mono (into2 hz20 hXs2), hDZ.mono (into2 hz20 hXs2), hX⟩)
 ·try simp only [dA, dB, dC, dD, dE, dF, dG, Int.not_lt, Int.not_le] at hc20
  have he0 : e0 = 0 := by omega
  obtain ⟨M, hMO, rfl, rfl, hI⟩ := hIx _ hG he0
  have hlm := loadC_man (D := D) hMO
  have hlo := hMO.1.lo
  have hhi := hMO.1.hi
  have hsz := hMO.1.sz
  refine c_skip (t_n (c_seq (r_plain ?_)))
  refine p1 (x_fieldAddr fo99_0 sz3 rfl) ?_
  refine p1 (x_load1 un3 rfl (hB5.cell (rfl))) ?_
  refine o_call Tryz.func49 fn49 fb49 (segment_Name (M.seg : Int) _ hg.l) rfl ?_
  rintro v4 w4 ⟨rfl, hE4⟩
  have hX := hX.ext hE4
  have hD := hD.ext hE4
  have hb := hb.ext hE4
  have hM := hM.ext hE4
  have hg := hg.ext hE4
  have hG := hG.ext hE4
  have hB5 := hB5.ext hE4
  have hI := hI.ext hE4
  refine p1 (x_assign (by conv => lhs; whnf)) ?_
  refine r_nil (t_n (c_seq (r_plain ?_)))
  refine p1 (x_move (by conv => lhs; whnf)) ?_
  refine p1 (x_nilCheck rfl) ?_
  refine p1 (x_fieldAddr fo91_0 sz34 rfl) ?_
  refine p1 (x_load1 un34 rfl (hb.cell (rfl))) ?_
  refine p1 (x_move (by conv => lhs; whnf)) ?_
  refine o_call Tryz.func37 fn37 fb37 (disk_Read gd S D _ hD hok (nSeg M.seg) (nSeg_size M.seg)) rfl ?_
  rintro v5 w5 ⟨⟨qb, nb, cb, rfl, hO⟩, hE5⟩
  have hX := hX.ext hE5
  have hD := hD.ext hE5
  have hb := hb.ext hE5
  have hM := hM.ext hE5
  have hg := hg.ext hE5
  have hB5 := hB5.ext hE5
  have hI := hI.ext hE5
  have hO := hO.lower (Nat.zero_le _)
  have hOl := hO.len
  have hOc := hO.sl.cap
  have hOf := hO.sl.fit
  refine p1 (x_move (by conv => lhs; whnf)) ?_
  refine p1 (x_extract rfl rfl) ?_
  refine p1 (x_extract rfl rfl) ?_
  refine p1 (x_assign (by conv => lhs; whnf)) ?_
  refine p1 (x_assign (by conv => lhs; whnf)) ?_
  refine r_nil (t_n (c_seq (c_seq ?_)))
  have hWr6 := Ext.refl w5
  refine c_cut (ι := Unit) [33, 34, 35, 36, 37, 38, 39, 40, 41] (fun _ => [(41, .bool (decide ((readD D (nSeg M.seg)).2 ≠ 0 ∨ (readD D (nSeg M.seg)).1.length < M.size)))]) (fun _ w' => Ext w5 w') ?_ ?_
  ·skip
   refine r_plain ?_
   refine p1 (x_move (by conv => lhs; whnf)) ?_
   refine p1 (x_neq rfl rfl) ?_
   refine p1b (x_move (by conv => lhs; whnf)) (fun hb6_2 => ?_) (fun hb6_2 => ?_)
   ·try simp only [dA, dB, dC, dD, dE, dF, dG, Int.not_lt, Int.not_le] at hb6_2
    refine Eng.g0 35 rfl (by first | exact .inl rfl | exact .inr rfl) ?_
    refine Eng.g0 35 rfl (by first | exact .inl rfl | exact .inr rfl) ?_
    refine Eng.g0 35 rfl (by first | exact .inl rfl | exact .inr rfl) ?_
    refine Eng.g0 35 rfl (by first | exact .inl rfl | exact .inr rfl) ?_
    refine Eng.g0 35 rfl (by first | exact .inl rfl | exact .inr rfl) ?_
    refine p1 (x_pick_t rfl (by conv => lhs; whnf)) ?_
    refine r_nil ?_
    refine t_n (At.mk () (by repeat (first | exact Agr.refl _ _ | exact Agr.hav _ _ _ | refine Agr.upd rfl ?_ | refine Agr.updR rfl ?_ | refine Agr.updL ?_ _ rfl | refine Agr.hav' rfl ?_)) ⟨congrArg Value.bool (by first | rfl | exact (decide_eq_true (by omega)).symm | exact (decide_eq_false (by omega)).symm | exact decide_eq_decide.2 (by omega) | (simp_all; done) | grind), trivial⟩ hWr6)
   ·try simp only [dA, dB, dC, dD, dE, dF, dG, Int.not_lt, Int.not_le] at hb6_2
    refine Eng.g1 35 rfl rfl (x_move (by conv => lhs; whnf)) ?_
    refine Eng.g1 35 rfl rfl (x_len_slice u23 rfl) ?_
    refine Eng.g1 35 rfl rfl (x_fieldAddr fo99_1 sz3 rfl) ?_
    refine Eng.g1 35 rfl rfl (x_load1 un3 rfl (hB5.cell (rfl))) ?_
    refine Eng.g1 35 rfl rfl (x_lss rfl rfl) ?_
    refine p1 (x_pick_f rfl (by conv => lhs; whnf)) ?_
    refine r_nil ?_
    refine t_n (At.mk () (by repeat (first | exact Agr.refl _ _ | exact Agr.hav _ _ _ | refine Agr.upd rfl ?_ | refine Agr.updR rfl ?_ | refine Agr.updL ?_ _ rfl | refine Agr.hav' rfl ?_)) ⟨congrArg Value.bool (by first | rfl | exact (decide_eq_true (by omega)).symm | exact (decide_eq_false (by omega)).symm | exact decide_eq_decide.2 (by omega) | (simp_all; done) | grind), trivial⟩ hWr6)
  ·rintro _ Gr6 w6 hE6
   have hX := hX.ext hE6
   have hD := hD.ext hE6
   have hb := hb.ext hE6
   have hM := hM.ext hE6
   have hg := hg.ext hE6
   have hB5 := hB5.ext hE6
   have hI := hI.ext hE6
   have hO := hO.ext hE6
   refine t_n ?_
   first | refine c_dec rfl (fun hc41 => ?_) (fun hc41 => ?_) | refine c_if rfl (fun hc41 => ?_) (fun hc41 => ?_)
   ·try simp only [dA, dB, dC, dD, dE, dF, dG, Int.not_lt, Int.not_le] at hc41
    have hp : loadC D raw = (loadS D M, 50) := by rw [hlm, if_pos (hc41.elim .inl (fun h => .inr (.inl h)))]
    refine c_seq (r_plain ?_)
    refine p1 (x_assign (by conv => lhs; whnf)) ?_
    refine r_nil (t_n (c_ret (t_r ?_)))
    refine end1 rfl (by conv => lhs; whnf) ?_
    first
      | (rw [hp]; exact ⟨rfl, fun h => absurd (show (50 : Int) = 0 from h) (by decide), hD.mono (fun j hj h => .inl h), hX⟩)
      | (rw [hlp, hlr]; exact ⟨rfl, fun h => absurd h hc105, hCX.d.mono (into1 hz20), hX⟩)
      | (rw [hlp, hlr]; exact ⟨rfl, fun _ => hCZ.fin.mono (into1 hXs2), hDZ.mono (into1 hXs2), hX⟩)
      | (rw [hlp, hlr]; exact ⟨rfl, fun _ => hCZ.fin.mono (into2 hz20 hXs2), hDZ.mono (into2 hz20 hXs2), hX⟩)
   ·try simp only [dA, dB, dC, dD, dE, dF, dG, Int.not_lt, Int.not_le] at hc41
    refine c_skip (t_n (c_seq (r_plain ?_)))
    refine p1 (x_move (by conv => lhs; whnf)) ?_
    refine p1 (x_fieldAddr fo99_1 sz3 rfl) ?_
    refine p1 (x_load1 un3 rfl (hB5.cell (rfl))) ?_
    refine p1 (x_slice_hN u23 sz5 rfl rfl (by omega)) ?_
    obtain ⟨BL, hBL⟩ : ∃ b, b = w6.heap.size := ⟨_, rfl⟩
    obtain ⟨LL, hLL⟩ : ∃ l, l = (getSg ((readD D (nSeg M.seg)).1.take M.size)).1 := ⟨_, rfl⟩
    refine o_call Tryz.func38 fn38 fb38 (segment_Get ((readD D (nSeg M.seg)).1.take M.size) _ _ _ _ _ (hO.sl.take M.size (by omega)) hg.l.q (Nat.zero_le _) (by omega)) rfl ?_
    rintro v7 w7 ⟨⟨ql, ml, cl, rfl, hLs⟩, hE7⟩
    have hX := hX.ext hE7
    have hD := hD.ext hE7
    have hb := hb.ext hE7
    have hM := hM.ext hE7
    have hg := hg.ext hE7
    have hB5 := hB5.ext hE7
    have hI := hI.ext hE7
    have hO := hO.ext hE7
    rw [← hBL, ← hLL] at hLs
    have hLl := hLs.len
    have hLc := hLs.sl.cap
    have hLf := hLs.sl.fit
    refine p1 (x_move (by conv => lhs; whnf)) ?_
    refine p1 (x_extract rfl rfl) ?_
    refine p1 (x_extract rfl rfl) ?_
    refine p1 (x_assign (by conv => lhs; whnf)) ?_
    refine p1 (x_assign (by conv => lhs; whnf)) ?_
    refine r_nil (t_n (c_seq (c_seq (r_plain ?_))))
    refine p1 (x_move (by conv => lhs; whnf)) ?_
    refine p1 (x_neq rfl rfl) ?_
    refine r_nil (t_n ?_)
    first | refine c_dec rfl (fun hc51 => ?_) (fun hc51 => ?_) | refine c_if rfl (fun hc51 => ?_) (fun hc51 => ?_)
    ·try simp only [dA, dB, dC, dD, dE, dF, dG, Int.not_lt, Int.not_le] at hc51
     have hp : loadC D raw = (loadS D M, 50) := by rw [hlm, if_pos (.inr (.inr hc51))]
     refine c_seq (r_plain ?_)
     refine p1 (x_assign (by conv => lhs; whnf)) ?_
     refine r_nil (t_n (c_ret (t_r ?_)))
     refine end1 rfl (by conv => lhs; whnf) ?_
     first
       | (rw [hp]; exact ⟨rfl, fun h => absurd (show (50 : Int) = 0 from h) (by decide), hD.mono (fun j hj h => .inl h), hX⟩)
       | (rw [hlp, hlr]; exact ⟨rfl, fun h => absurd h hc105, hCX.d.mono (into1 hz20), hX⟩)
       | (rw [hlp, hlr]; exact ⟨rfl, fun _ => hCZ.fin.mono (into1 hXs2), hDZ.mono (into1 hXs2), hX⟩)
       | (rw [hlp, hlr]; exact ⟨rfl, fun _ => hCZ.fin.mono (into2 hz20 hXs2), hDZ.mono (into2 hz20 hXs2), hX⟩)
    ·try simp only [dA, dB, dC, dD, dE, dF, dG, Int.not_lt, Int.not_le] at hc51
     have hlp := hlm.trans (if_neg (by rintro (h | h | h) <;> omega))
     have hlc : ∀ i, (LL.getD i []).length ≤ 16777216 := fun i => by
       rw [hLL]
       have h1 := getSg_le ((readD D (nSeg M.seg)).1.take M.size) i
       omega
     refine c_skip (t_n (c_seq (c_seq (r_plain ?_))))
     refine p1 (x_move (by conv => lhs; whnf)) ?_
     refine p1 (x_len_slice u22 rfl) ?_
     refine p1 (x_move (by conv => lhs; whnf)) ?_
     refine r_nil (t_n (c_block ?_))
     refine c_loop (ι := Nat) [11, 12, 54, 55, 56, 57, 58, 59, 60, 61, 62, 63, 64, 65, 66, 67, 68, 69, 70, 71, 72, 73, 74, 75] (fun k => [(54, .int .i64 (k : Int))]) (fun k w' => ModS (fun j => S j ∨ j = g ∨ j = r) EC w w' ∧ (k ≤ ml ∧ Dsk S w' gd D ∧ Blk w' g #[.pointer (some ⟨gd, 0, none⟩), .int .i64 1, .int .i64 0, .slice none 0 0, .map (some r), .pointer none, .bool false] 91 ∧ (∃ μ, Mp kkHash vCh 0 0 w' r μ ∧ Chs S w' μ (LL.take k)) ∧ Gt w' ∧ FB (nS S) w' qi mi ci M.index ∧ Own kByte 5 0 0 w' qb nb cb (readD D (nSeg M.seg)).1 ∧ Blk w' g5 #[.int .i64 (M.seg : Int), .int .i64 (M.size : Int), .slice qi mi ci] 99 ∧ Own (kOb BL) 23 0 BL w' ql ml cl LL)) (fun k => ml - k) (0) ⟨rfl, trivial⟩ ⟨hX, Nat.zero_le _, hD, hb, ⟨_, hM, by rw [List.take_zero]; exact Chs.none_ S _⟩, hg, hI, hO, hB5, hLs⟩ ?_
     rintro k GL0 w8 ⟨hE8, hk, hD, hb, ⟨μ, hM, hC⟩, hg, hI, hO, hB5, hLs⟩
     have hX := hE8
     refine c_seq (r_plain ?_)
     refine p1 (x_lss rfl rfl) ?_
     refine r_nil (t_n (c_seq ?_))
     first | refine c_dec rfl (fun hc55 => ?_) (fun hc55 => ?_) | refine c_if rfl (fun hc55 => ?_) (fun hc55 => ?_)
     ·try simp only [dA, dB, dC, dD, dE, dF, dG, Int.not_lt, Int.not_le] at hc55
      refine c_skip (t_n (c_seq (c_block (c_seq ?_))))
      obtain ⟨qk, mk, ck, hck, hrow⟩ := hLs.sl.obAt k (by omega)
      have hlek := hlc k
      have hrl := hrow.len
      refine r_plain ?_
      refine p1 (x_ixs0 (i := k) u22 sz23 rfl rfl (hLs.sl.adr kOb_pos (by omega)) (by omega)) ?_
      refine p1 (x_load1 un23 rfl hck) ?_
      refine p1 (x_assign (by conv => lhs; whnf)) ?_
      refine r_nil (t_n (c_seq (r_plain ?_)))
      refine p1 (x_move (by conv => lhs; whnf)) ?_
      refine o_call Tryz.func34 fn34 fb34 (sha_Sum (LL.getD k []) _ _ _ _ _ hrow.sl (by omega) (Nat.zero_le _) hg.r hg.b (by have := hg.size; omega)) rfl ?_
      rintro v9 w9 ⟨rfl, hE9⟩
      have hX := hX.ext hE9
      have hD := hD.ext hE9
      have hb := hb.ext hE9
      have hM := hM.ext hE9
      have hC := hC.ext hE9
      have hg := hg.ext hE9
      have hI := hI.ext hE9
      have hO := hO.ext hE9
      have hB5 := hB5.ext hE9
      have hLs := hLs.ext hE9
      have hrow := hrow.ext hE9
      have hz12 := hX.size
      have hl12_5 := hB5.lt
      refine o_alloc zr64 ?_
      intro w10 g12 hN12
      have hE10 := hN12.ext
      have hX := hX.ext hE10
      have hD := hD.ext hE10
      have hb := hb.ext hE10
      have hM := hM.ext hE10
      have hC := hC.ext hE10
      have hg := hg.ext hE10
      have hI := hI.ext hE10
      have hO := hO.ext hE10
      have hB5 := hB5.ext hE10
      have hLs := hLs.ext hE10
      have hrow := hrow.ext hE10
      have hB12 := hN12.blk
      have hq12 := hN12.g_eq
      refine o_storeAll rfl rfl (kHash_one _) (hv_sz sz64 _) hB12 (hv_size _) ?_
      intro w11 hP11
      have hX := hX.new hP11 (by omega)
      have hD := hD.modT (hP11.mod 0 (Nat.zero_le _)) (by decide)
      have hb := hP11.keep hb (by omega)
      have hM := hM.mod (hP11.mod 0 (Nat.zero_le _)) (Nat.zero_le _) (by decide)
      have hC := hC.mod (hP11.mod 0 (Nat.zero_le _)) (Nat.zero_le _) (by decide)
      have hg := hg.put hP11 (by omega)
      have hI := hI.mod (hP11.mod 0 (Nat.zero_le _)) (Nat.zero_le _) (by decide)
      have hO := hO.mod (hP11.mod 0 (Nat.zero_le _)) (Nat.zero_le _) (by decide)
      have hB5 := hP11.keep hB5 (by omega)
      have hLs := hLs.mod (hP11.mod 0 (Nat.zero_le _)) (Nat.zero_le _) (by simp [kOb])
      have hrow := hrow.mod (hP11.mod 0 (Nat.zero_le _)) (Nat.zero_le _) (by decide)
      have hB12 := hP11.blk
      refine r_nil (t_n (c_seq ?_))
      refine r_still mixed (by kernel_rfl) ?_
      intro w12 hE12
      have hX := hX.ext hE12
      have hD := hD.ext hE12
      have hb := hb.ext hE12
      have hM := hM.ext hE12
      have hC := hC.ext hE12
      have hg := hg.ext hE12
      have hI := hI.ext hE12
      have hO := hO.ext hE12
      have hB5 := hB5.ext hE12
      have hLs := hLs.ext hE12
      have hrow := hrow.ext hE12
      have hB12 := hB12.ext hE12
      refine s1 (x_move (by conv => lhs; whnf)) ?_
      refine s1 (x_nilCheck rfl) ?_
      refine s1 (x_fieldAddr fo91_4 sz88 rfl) ?_
      refine s1 (x_load1 un88 rfl (hb.cell (rfl))) ?_
      refine s1 (x_loadB ua64 rfl hB12 (hv_sz sz64 _)) ?_
      obtain ⟨⟨p0, n0, c0⟩, hr0⟩ : ∃ x : R3, x = (μ (shaF (LL.getD k []))).getD r30 := ⟨_, rfl⟩
      obtain ⟨hC0a, hC0b⟩ := hC.get (shaF (LL.getD k []))
      rw [← hr0] at hC0a hC0b
      simp only at hC0a hC0b
      refine s1 (((lookC u88 zr23 (keyOk_hash u64 u5 sz5) hM (shaF (LL.getD k [])) rfl rfl)).cast (by rw [← hr0]; rfl : r3V _ = Value.slice p0 n0 c0)) ?_
      refine s1 (x_eql_slnil u23 rfl rfl) ?_
      refine s_nil (t_n ?_)
      first | refine c_dec rfl (fun hc66 => ?_) (fun hc66 => ?_) | refine c_if rfl (fun hc66 => ?_) (fun hc66 => ?_)
      ·try simp only [dA, dB, dC, dD, dE, dF, dG, Int.not_lt, Int.not_le] at hc66
       refine r_held (fun w1 w2 => ModS (fun j => j = r) [tMap] w1 w2) mixed ?_
       intro w13 hE13
       have hX := hX.ext hE13
       have hD := hD.ext hE13
       have hb := hb.ext hE13
       have hM := hM.ext hE13
       have hC := hC.ext hE13
       have hg := hg.ext hE13
       have hI := hI.ext hE13
       have hO := hO.ext hE13
       have hB5 := hB5.ext hE13
       have hLs := hLs.ext hE13
       have hrow := hrow.ext hE13
       have hB12 := hB12.ext hE13
       have hSr16 : (fun w1 w2 => ModS (fun j => j = r) [tMap] w1 w2) w13 w13 := ModS.refl _ _ _
       refine h_take 0 rfl (by kernel_rfl) (by kernel_rfl) (by kernel_rfl) hSr16 (fun wS hSS => by ( exact (x_move (by conv => lhs; whnf)))) ?_
       refine h_take 1 rfl (by kernel_rfl) (by kernel_rfl) (by kernel_rfl) hSr16 (fun wS hSS => by ( exact (x_nilCheck rfl))) ?_
       refine h_take 2 rfl (by kernel_rfl) (by kernel_rfl) (by kernel_rfl) hSr16 (fun wS hSS => by ( exact (x_fieldAddr fo91_4 sz88 rfl))) ?_
       refine h_take 3 rfl (by kernel_rfl) (by kernel_rfl) (by kernel_rfl) hSr16 (fun wS hSS => by (have hb := hb.modS hSS (.inr (by decide)); have hB12 := hB12.modS hSS (.inr (by decide)); exact (x_load1 un88 rfl (hb.cell (rfl))))) ?_
       refine h_take 4 rfl (by kernel_rfl) (by kernel_rfl) (by kernel_rfl) hSr16 (fun wS hSS => by (have hb := hb.modS hSS (.inr (by decide)); have hB12 := hB12.modS hSS (.inr (by decide)); exact (x_loadB ua64 rfl hB12 (hv_sz sz64 _)))) ?_
       refine h_take 6 rfl (by kernel_rfl) (by kernel_rfl) (by kernel_rfl) hSr16 (fun wS hSS => by ( exact (x_move (by conv => lhs; whnf)))) ?_
       refine h_one 5 _ rfl (by kernel_rfl) (hop_of_list (fun Q5 hQ5 => ?_))
       have hXz := hX.size
       have hSq := hSr16
       refine o_buildSlice u23 inf5 rfl (by decide) (fun base hb => by have h0 : base = #[] := Array.eq_empty_of_size_eq_zero (by simpa using hb); subst h0; rfl) ?_
       intro wJ g72 hN72
       have hE72 := hN72.ext
       have hSr16 := hSr16.ext hE72
       have hJ : Own kByte 5 0 w13.heap.size wJ (some ⟨g72, 0, none⟩) 0 0 [] := own_lit (B0 := w13.heap.size) ([] : List UInt8) hN72 (Nat.le_refl _) (by simp)
       refine hop_end hQ5 ⟨hSr16, ?_⟩
       refine h_one 7 _ rfl (by kernel_rfl) (hop_of_list (fun Q7 hQ7 => ?_))
       have hrl := hrow.sl.len
       refine o_append1 (d := kByte) (LL.getD k []) u23 inf5 rfl kByte_pos rfl rfl hJ (src_pure u23 (hrow.sl.ext hE72) (by decide)) hrl (byte_all _ _ _) rfl (by omega) (by omega) hE72.size (Nat.zero_le _) (by decide) ?_
       intro p74 c74 w14 hA hM14 hp74 hon74
       rw [List.nil_append] at hA
       have hE14 : Ext w13 w14 := hE72.mod hM14 (Nat.le_refl _)
       have hpn : p74 ≠ none := by rcases hp74 with h | ⟨g, h, _⟩ <;> rw [h] <;> simp
       have hSr16 := hSq
       have hX := hX.ext hE14
       have hD := hD.ext hE14
       have hb := hb.ext hE14
       have hM := hM.ext hE14
       have hC := hC.ext hE14
       have hg := hg.ext hE14
       have hI := hI.ext hE14
       have hO := hO.ext hE14
       have hB5 := hB5.ext hE14
       have hLs := hLs.ext hE14
       have hrow := hrow.ext hE14
       have hB12 := hB12.ext hE14
       have hSr16 := hSr16.ext hE14
       refine hop_end hQ7 ⟨hSr16, ?_⟩
       refine h_one 8 _ rfl (by kernel_rfl) (hop_of_list (fun Q8 hQ8 => ?_))
       have hMt15 := hM.tyOf
       refine o_update1 (a := (shaF (LL.getD k []))) (b := (p74, 0 + mk, c74)) u88 (keyOk_hash u64 u5 sz5) rfl rfl rfl hM rfl (Nat.zero_le _) (by decide) ?_
       intro w15 hM hMm15 hne15
       have hO115 := One.ofMod hMm15 hMt15 hne15
       have hSr16 := hSr16.trans hO115.mods (fun _ _ h => h)
       have hFA := FB.ofOwn (S := nS S) hA (fun j _ hj hs => by have := hSb j hs; have := hXz; omega)
       have hX := hX.one hO115 ⟨.inl (.inr (.inr rfl)), by decide⟩
       have hD := hD.oneF hO115 hrS (by decide)
       have hb := hb.one hO115 (by decide)
       have hC := hC.one hO115 (by decide)
       have hg := hg.one hO115 hr6
       have hI := hI.one hO115 (by decide)
       have hO := hO.mod (hO115.mod (Nat.zero_le _)) (Nat.zero_le _) (by decide)
       have hB5 := hB5.one hO115 (by decide)
       have hLs := hLs.mod (hO115.mod (Nat.zero_le _)) (Nat.zero_le _) (by show tMap ∉ [23, 5]; decide)
       have hFA := hFA.one hO115 (by decide)
       have hCn := hC.put (hC0a.1 hc66) (p74, 0 + mk, c74) hpn hFA
       rw [← take_snoc (by omega)] at hCn
       refine hop_end hQ8 ⟨hSr16, ?_⟩
       refine h_done (by kernel_rfl) ?_
       refine b_n (t_n (r_plain ?_))
       refine p1 (x_add rfl rfl (fits_i64 (by omega) (by omega))) ?_
       refine p1 (x_move (by conv => lhs; whnf)) ?_
       refine r_nil ?_
       refine t_n (At.mk (k + 1) (by repeat (first | exact Agr.refl _ _ | exact Agr.hav _ _ _ | refine Agr.upd rfl ?_ | refine Agr.updR rfl ?_ | refine Agr.updL ?_ _ rfl | refine Agr.hav' rfl ?_)) ⟨rfl, trivial⟩ ?_)
       exact ⟨⟨hX, by omega, hD, hb, ⟨_, hM, hCn⟩, hg, hI, hO, hB5, hLs⟩, by first | (dsimp only; omega) | ((show _ < _); omega)⟩
      ·try simp only [dA, dB, dC, dD, dE, dF, dG, Int.not_lt, Int.not_le] at hc66
       have hCn := hC.dup (c := LL.getD k []) (fun e => hc66 (hC0a.2 e))
       rw [← take_snoc (by omega)] at hCn
       refine c_skip (b_n (t_n (r_plain ?_)))
       refine p1 (x_add rfl rfl (fits_i64 (by omega) (by omega))) ?_
       refine p1 (x_move (by conv => lhs; whnf)) ?_
       refine r_nil ?_
       refine t_n (At.mk (k + 1) (by repeat (first | exact Agr.refl _ _ | exact Agr.hav _ _ _ | refine Agr.upd rfl ?_ | refine Agr.updR rfl ?_ | refine Agr.updL ?_ _ rfl | refine Agr.hav' rfl ?_)) ⟨rfl, trivial⟩ ?_)
       exact ⟨⟨hX, by omega, hD, hb, ⟨_, hM, hCn⟩, hg, hI, hO, hB5, hLs⟩, by first | (dsimp only; omega) | ((show _ < _); omega)⟩
     ·try simp only [dA, dB, dC, dD, dE, dF, dG, Int.not_lt, Int.not_le] at hc55
      have hkk : LL.take k = LL := List.take_of_length_le (by omega)
      rw [hkk] at hC
      refine c_exit (t_e (t_e (b_hit (t_n (c_seq ?_)))))
      refine r_held (fun _ w2 => Blk w2 g5 #[.int .i64 (M.seg : Int), .int .i64 (M.size : Int), .slice qi mi ci] 99) mixed ?_
      intro w16 hE16
      have hX := hX.ext hE16
      have hD := hD.ext hE16
      have hb := hb.ext hE16
      have hM := hM.ext hE16
      have hC := hC.ext hE16
      have hg := hg.ext hE16
      have hI := hI.ext hE16
      have hO := hO.ext hE16
      have hB5 := hB5.ext hE16
      have hLs := hLs.ext hE16
      have hSr18 : (fun _ w2 => Blk w2 g5 #[.int .i64 (M.seg : Int), .int .i64 (M.size : Int), .slice qi mi ci] 99) w16 w16 := hB5
      refine h_take 0 rfl (by kernel_rfl) (by kernel_rfl) (by kernel_rfl) hSr18 (fun wS hSS => by ( exact (x_move (by conv => lhs; whnf)))) ?_
      refine h_take 1 rfl (by kernel_rfl) (by kernel_rfl) (by kernel_rfl) hSr18 (fun wS hSS => by ( exact (x_move (by conv => lhs; whnf)))) ?_
      refine h_take 2 rfl (by kernel_rfl) (by kernel_rfl) (by kernel_rfl) hSr18 (fun wS hSS => by ( exact (x_move (by conv => lhs; whnf)))) ?_
      refine h_take 3 rfl (by kernel_rfl) (by kernel_rfl) (by kernel_rfl) hSr18 (fun wS hSS => by ( exact (x_fieldAddr fo99_0 sz3 rfl))) ?_
      refine h_take 4 rfl (by kernel_rfl) (by kernel_rfl) (by kernel_rfl) hSr18 (fun wS hSS => by (have hB5 := hSS; exact (x_load1 un3 rfl (hB5.cell (rfl))))) ?_
      refine h_take 5 rfl (by kernel_rfl) (by kernel_rfl) (by kernel_rfl) hSr18 (fun wS hSS => by ( exact (x_fieldAddr fo99_1 sz3 rfl))) ?_
      refine h_take 6 rfl (by kernel_rfl) (by kernel_rfl) (by kernel_rfl) hSr18 (fun wS hSS => by (have hB5 := hSS; exact (x_load1 un3 rfl (hB5.cell (rfl))))) ?_
      refine h_take 7 rfl (by kernel_rfl) (by kernel_rfl) (by kernel_rfl) hSr18 (fun wS hSS => by ( exact (x_fieldAddr fo99_2 sz23 rfl))) ?_
      refine h_take 8 rfl (by kernel_rfl) (by kernel_rfl) (by kernel_rfl) hSr18 (fun wS hSS => by (have hB5 := hSS; exact (x_load1 un23 rfl (hB5.cell (rfl))))) ?_
      refine h_take 9 rfl (by kernel_rfl) (by kernel_rfl) (by kernel_rfl) hSr18 (fun wS hSS => by ( exact (x_nilCheck rfl))) ?_
      refine h_take 10 rfl (by kernel_rfl) (by kernel_rfl) (by kernel_rfl) hSr18 (fun wS hSS => by ( exact (x_fieldAddr fo91_1 sz3 rfl))) ?_
      refine h_one 11 _ rfl (by kernel_rfl) (hop_of_list (fun Q11 hQ11 => ?_))
      refine o_store1 rfl (by conv => lhs; whnf) rfl rfl sz3 hb (by first | exact Nat.zero_lt_one | simp) ?_
      intro w17 hP17
      have hX := hX.put hP17 (⟨.inl (.inr (.inl rfl)), by decide⟩)
      have hD := hD.modT (hP17.mod 0 (Nat.zero_le _)) (by decide)
      have hb := hP17.blk
      try simp only [List.setIfInBounds_toArray, List.set_cons_zero, List.set_cons_succ] at hb
      have hM := hM.mod (hP17.mod 0 (Nat.zero_le _)) (Nat.zero_le _) (by decide)
      have hC := hC.mod (hP17.mod 0 (Nat.zero_le _)) (Nat.zero_le _) (by decide)
      have hg := hg.put hP17 (by omega)
      have hI := hI.mod (hP17.mod 0 (Nat.zero_le _)) (Nat.zero_le _) (by decide)
      have hO := hO.mod (hP17.mod 0 (Nat.zero_le _)) (Nat.zero_le _) (by decide)
      have hB5 := hP17.keep hB5 (by omega)
      have hLs := hLs.mod (hP17.mod 0 (Nat.zero_le _)) (Nat.zero_le _) (by simp [kOb])
      have hSr18 := hP17.keep hSr18 (by omega)
      refine hop_end hQ11 ⟨hSr18, ?_⟩
      refine h_take 12 rfl (by kernel_rfl) (by kernel_rfl) (by kernel_rfl) hSr18 (fun wS hSS => by ( exact (x_nilCheck rfl))) ?_
      refine h_take 13 rfl (by kernel_rfl) (by kernel_rfl) (by kernel_rfl) hSr18 (fun wS hSS => by ( exact (x_fieldAddr fo91_2 sz3 rfl))) ?_
      refine h_one 14 _ rfl (by kernel_rfl) (hop_of_list (fun Q14 hQ14 => ?_))
      refine o_store1 rfl (by conv => lhs; whnf) rfl rfl sz3 hb (by first | exact Nat.zero_lt_one | simp) ?_
      intro w18 hP18
      have hX := hX.put hP18 (⟨.inl (.inr (.inl rfl)), by decide⟩)
      have hD := hD.modT (hP18.mod 0 (Nat.zero_le _)) (by decide)
      have hb := hP18.blk
      try simp only [List.setIfInBounds_toArray, List.set_cons_zero, List.set_cons_succ] at hb
      have hM := hM.mod (hP18.mod 0 (Nat.zero_le _)) (Nat.zero_le _) (by decide)
      have hC := hC.mod (hP18.mod 0 (Nat.zero_le _)) (Nat.zero_le _) (by decide)
      have hg := hg.put hP18 (by omega)
      have hI := hI.mod (hP18.mod 0 (Nat.zero_le _)) (Nat.zero_le _) (by decide)
      have hO := hO.mod (hP18.mod 0 (Nat.zero_le _)) (Nat.zero_le _) (by decide)
      have hB5 := hP18.keep hB5 (by omega)
      have hLs := hLs.mod (hP18.mod 0 (Nat.zero_le _)) (Nat.zero_le _) (by simp [kOb])
      have hSr18 := hP18.keep hSr18 (by omega)
      refine hop_end hQ14 ⟨hSr18, ?_⟩
      refine h_take 15 rfl (by kernel_rfl) (by kernel_rfl) (by kernel_rfl) hSr18 (fun wS hSS => by ( exact (x_nilCheck rfl))) ?_
      refine h_take 16 rfl (by kernel_rfl) (by kernel_rfl) (by kernel_rfl) hSr18 (fun wS hSS => by ( exact (x_fieldAddr fo91_3 sz23 rfl))) ?_
      refine h_one 17 _ rfl (by kernel_rfl) (hop_of_list (fun Q17 hQ17 => ?_))
      refine o_store1 rfl (by conv => lhs; whnf) rfl rfl sz23 hb (by first | exact Nat.zero_lt_one | simp) ?_
      intro w19 hP19
      have hX := hX.put hP19 (⟨.inl (.inr (.inl rfl)), by decide⟩)
      have hD := hD.modT (hP19.mod 0 (Nat.zero_le _)) (by decide)
      have hb := hP19.blk
      try simp only [List.setIfInBounds_toArray, List.set_cons_zero, List.set_cons_succ] at hb
      have hM := hM.mod (hP19.mod 0 (Nat.zero_le _)) (Nat.zero_le _) (by decide)
      have hC := hC.mod (hP19.mod 0 (Nat.zero_le _)) (Nat.zero_le _) (by decide)
      have hg := hg.put hP19 (by omega)
      have hI := hI.mod (hP19.mod 0 (Nat.zero_le _)) (Nat.zero_le _) (by decide)
      have hO := hO.mod (hP19.mod 0 (Nat.zero_le _)) (Nat.zero_le _) (by decide)
      have hB5 := hP19.keep hB5 (by omega)
      have hLs := hLs.mod (hP19.mod 0 (Nat.zero_le _)) (Nat.zero_le _) (by simp [kOb])
      have hSr18 := hP19.keep hSr18 (by omega)
      have hCX : CstX (fun j => S j ∨ j = g ∨ j = r) S _ g gd r μ qi mi ci none (loadS D M) := ⟨fun k h => .inl h, hD, hb, hM, by show Chs S _ μ (getSg _).1; rw [← hLL]; exact hC, hI, .inr (.inl rfl), .inr (.inr rfl), hrS, rfl⟩
      refine hop_end hQ17 ⟨hSr18, ?_⟩
      refine h_done (by kernel_rfl) ?_
      refine t_n (c_seq (c_seq (r_plain ?_)))
      refine p1 (x_move (by conv => lhs; whnf)) ?_
      refine p1 (x_len_slice u23 rfl) ?_
      refine p1 (x_fieldAddr fo99_1 sz3 rfl) ?_
      refine p1 (x_load1 un3 rfl (hB5.cell (rfl))) ?_
      refine p1 (x_gtr rfl rfl) ?_
      refine r_nil (t_n ?_)
      first | refine c_dec rfl (fun hc95 => ?_) (fun hc95 => ?_) | refine c_if rfl (fun hc95 => ?_) (fun hc95 => ?_)
      ·try simp only [dA, dB, dC, dD, dE, dF, dG, Int.not_lt, Int.not_le] at hc95
       refine c_seq ?_
       refine r_tail 7 mixed (by kernel_rfl) ?_
       intro w20 hE20
       have hX := hX.ext hE20
       have hD := hD.ext hE20
       have hb := hb.ext hE20
       have hM := hM.ext hE20
       have hC := hC.ext hE20
       have hg := hg.ext hE20
       have hI := hI.ext hE20
       have hO := hO.ext hE20
       have hB5 := hB5.ext hE20
       have hLs := hLs.ext hE20
       have hCX := hCX.ext hE20
       refine s1 (x_move (by conv => lhs; whnf)) ?_
       refine s1 (x_nilCheck rfl) ?_
       refine s1 (x_fieldAddr fo91_0 sz34 rfl) ?_
       refine s1 (x_load1 un34 rfl (hb.cell (rfl))) ?_
       refine s1 (x_move (by conv => lhs; whnf)) ?_
       refine s1 (x_fieldAddr fo99_1 sz3 rfl) ?_
       refine s1 (x_load1 un3 rfl (hB5.cell (rfl))) ?_
       refine s_nil ?_
       have hXs := hX.size
       refine o_call Tryz.func94 fn94 fb94 (disk_Cut gd S D _ hCX.d hok (by omega) hle (nSeg M.seg) (nSeg_size _) (M.size : Int) (by omega) (by omega)) rfl ?_
       rintro v21 w21 ⟨rfl, hD2, hM2⟩
       have hz20 := hX.size
       have hCX := hCX.turn hM2 hD2
       have hX := hX.trans (hM2.wideE fun k h => .inl h) (fun _ _ h => h)
       have hg := hg.modS hM2 hS
       have hGd := good_cut hGd (nSeg M.seg) (M.size : Int)
       have hXs3 := hX.size
       have hmc := hM2.size
       have hb := hCX.b
       refine p1 (x_assign (by conv => lhs; whnf)) ?_
       refine r_nil (t_n (c_seq (r_plain ?_)))
       refine p1 (x_move (by conv => lhs; whnf)) ?_
       refine p1 (x_neq rfl rfl) ?_
       refine r_nil (t_n ?_)
       first | refine c_dec rfl (fun hc105 => ?_) (fun hc105 => ?_) | refine c_if rfl (fun hc105 => ?_) (fun hc105 => ?_)
       ·try simp only [dA, dB, dC, dD, dE, dF, dG, Int.not_lt, Int.not_le] at hc105
        have hlr : loadR D M = cutD D (nSeg M.seg) M.size := by unfold loadR; rw [if_pos (by omega), andD, if_neg hc105]
        refine c_seq (r_plain ?_)
        refine p1 (x_move (by conv => lhs; whnf)) ?_
        refine p1 (x_assign (by conv => lhs; whnf)) ?_
        refine r_nil (t_n (c_ret (t_r ?_)))
        refine end1 rfl (by conv => lhs; whnf) ?_
        first
          | (rw [hp]; exact ⟨rfl, fun h => absurd (show (50 : Int) = 0 from h) (by decide), hD.mono (fun j hj h => .inl h), hX⟩)
          | (rw [hlp, hlr]; exact ⟨rfl, fun h => absurd h hc105, hCX.d.mono (into1 hz20), hX⟩)
          | (rw [hlp, hlr]; exact ⟨rfl, fun _ => hCZ.fin.mono (into1 hXs2), hDZ.mono (into1 hXs2), hX⟩)
          | (rw [hlp, hlr]; exact ⟨rfl, fun _ => hCZ.fin.mono (into2 hz20 hXs2), hDZ.mono (into2 hz20 hXs2), hX⟩)
       ·try simp only [dA, dB, dC, dD, dE, dF, dG, Int.not_lt, Int.not_le] at hc105
        have hlr : loadR D M = cleanD (cutD D (nSeg M.seg) M.size).1 (nSeg M.seg) := by unfold loadR; rw [if_pos (by omega), andD, if_pos (by omega)]
        refine c_skip (t_n (c_seq (r_plain ?_)))
        refine p1 (x_move (by conv => lhs; whnf)) ?_
        refine p1 (x_nilCheck rfl) ?_
        refine p1 (x_fieldAddr fo91_0 sz34 rfl) ?_
        refine p1 (x_load1 un34 rfl (hb.cell (rfl))) ?_
        refine p1 (x_move (by conv => lhs; whnf)) ?_
        have hXs2 := hX.size
        refine o_call Tryz.func47 fn47 fb47 (chunks_clean gd _ _ _ hCX.d hGd.ok (Nat.lt_of_le_of_lt hGd.steps (by omega)) hGd.left hGd.names (by first | exact hS | exact far_grow hS (by omega)) hg (nSeg M.seg)) rfl ?_
        rintro v22 w22 ⟨rfl, hDZ, hMZ⟩
        have hCZ := hCX.turn hMZ hDZ
        have hX := hX.trans (hMZ.wideE fun k h => h) (by first | exact fun j _ h => .inl h | exact fun j hj h => h.elim .inl (fun q => absurd q.1 (by omega)))
        refine p1 (x_assign (by conv => lhs; whnf)) ?_
        refine r_nil (t_n (c_ret ?_))
        refine end1 rfl (by conv => lhs; whnf) ?_
        first
          | (rw [hp]; exact ⟨rfl, fun h => absurd (show (50 : Int) = 0 from h) (by decide), hD.mono (fun j hj h => .inl h), hX⟩)
          | (rw [hlp, hlr]; exact ⟨rfl, fun h => absurd h hc105, hCX.d.mono (into1 hz20), hX⟩)
          | (rw [hlp, hlr]; exact ⟨rfl, fun _ => hCZ.fin.mono (into1 hXs2), hDZ.mono (into1 hXs2), hX⟩)
          | (rw [hlp, hlr]; exact ⟨rfl, fun _ => hCZ.fin.mono (into2 hz20 hXs2), hDZ.mono (into2 hz20 hXs2), hX⟩)
      ·try simp only [dA, dB, dC, dD, dE, dF, dG, Int.not_lt, Int.not_le] at hc95
       have hlr : loadR D M = cleanD D (nSeg M.seg) := by unfold loadR; rw [if_neg (by omega)]; rfl
       refine c_skip (t_n (c_seq (r_plain ?_)))
       refine p1 (x_move (by conv => lhs; whnf)) ?_
       refine p1 (x_nilCheck rfl) ?_
       refine p1 (x_fieldAddr fo91_0 sz34 rfl) ?_
       refine p1 (x_load1 un34 rfl (hb.cell (rfl))) ?_
       refine p1 (x_move (by conv => lhs; whnf)) ?_
       have hXs2 := hX.size
       refine o_call Tryz.func47 fn47 fb47 (chunks_clean gd _ _ _ hCX.d hGd.ok (Nat.lt_of_le_of_lt hGd.steps (by omega)) hGd.left hGd.names (by first | exact hS | exact far_grow hS (by omega)) hg (nSeg M.seg)) rfl ?_
       rintro v23 w23 ⟨rfl, hDZ, hMZ⟩
       have hCZ := hCX.turn hMZ hDZ
       have hX := hX.trans (hMZ.wideE fun k h => h) (by first | exact fun j _ h => .inl h | exact fun j hj h => h.elim .inl (fun q => absurd q.1 (by omega)))
       refine p1 (x_assign (by conv => lhs; whnf)) ?_
       refine r_nil (t_n (c_ret ?_))
       refine end1 rfl (by conv => lhs; whnf) ?_
       first
         | (rw [hp]; exact ⟨rfl, fun h => absurd (show (50 : Int) = 0 from h) (by decide), hD.mono (fun j hj h => .inl h), hX⟩)
         | (rw [hlp, hlr]; exact ⟨rfl, fun h => absurd h hc105, hCX.d.mono (into1 hz20), hX⟩)
         | (rw [hlp, hlr]; exact ⟨rfl, fun _ => hCZ.fin.mono (into1 hXs2), hDZ.mono (into1 hXs2), hX⟩)
         | (rw [hlp, hlr]; exact ⟨rfl, fun _ => hCZ.fin.mono (into2 hz20 hXs2), hDZ.mono (into2 hz20 hXs2), hX⟩)
end Go.Proofs.Eng
end
section
set_option maxRecDepth 100000
set_option maxHeartbeats 4000000
namespace Go.Proofs.Eng
open Go.RowKit
open Extern.Stop (cell)
theorem fb44 : Tryz.f44.body.isNone = false := by kernel_rfl
theorem fb46 : Tryz.f46.body.isNone = false := by kernel_rfl
theorem fb48 : Tryz.f48.body.isNone = false := by kernel_rfl
theorem fb50 : Tryz.f50.body.isNone = false := by kernel_rfl
theorem fn44 : (Tryz.f44.name == "runtime.NumGoroutine") = false := by kernel_rfl
theorem fn46 : (Tryz.f46.name == "runtime.NumGoroutine") = false := by kernel_rfl
theorem fn48 : (Tryz.f48.name == "runtime.NumGoroutine") = false := by kernel_rfl
theorem fn50 : (Tryz.f50.name == "runtime.NumGoroutine") = false := by kernel_rfl
theorem pl91 : placed Tryz.prog 91 = some (.agg #[.pointer none, .int .i64 0, .int .i64 0, .slice none 0 0, .map none, .pointer none, .bool false], [(0, 1), (1, 1), (2, 1), (3, 1), (4, 1), (5, 1), (6, 1)]) := by kernel_rfl
theorem sz30 : (Tryz.prog.info? 30).map (·.size) = some 1 := by kernel_rfl
theorem zr30 : (Tryz.prog.info? 30).map (·.zero) = some (some (.pointer none)) := by kernel_rfl
end Go.Proofs.Eng
end
