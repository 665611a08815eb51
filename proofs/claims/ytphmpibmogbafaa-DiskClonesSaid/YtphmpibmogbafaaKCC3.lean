import Derived.Test.YtphmpibmogbafaaKCC2
/- Merged: K5 T5 K6 T6 K7 PF T7 K8 T8 K9 T9 KA PH T10 KB QC T11 KC PW QW KD QR T12 KE QX T13 -/
section
set_option linter.unusedVariables false
set_option linter.unusedSimpArgs false
set_option maxRecDepth 100000
set_option maxHeartbeats 4000000
namespace Go.Proofs.Eng
open Go.RowKit
open Extern.Stop (cell)
theorem disk_Start (g : Nat) (S : Nat → Prop) (D : DS) (w : World) (hD : Dsk S w g D) (hok : DOk D) (st : List UInt8) (p : Option Addr) (n c : Nat) (hst : Out S w p n c st) :
    Ret Try.prog 26 [.pointer (some ⟨g, 0, none⟩), .slice p n c] w (fun v w' => Dsk (grow S w w') w' g (startD D st) ∧ ModS S ED w w') := by
  obtain ⟨r, μ, hB, hM, hSg, hSr, hF⟩ := hD.ex
  have hW1 := Nat.le_refl w.heap.size
  have hX := ModS.refl S ED w
  refine enter 124 _ Try.func26 rfl rfl (Nat.le_of_ble_eq_true rfl) rfl ?_
  refine c_seq ?_
  refine c_seq ?_
  refine r_plain ?_
  refine p1 (x_move (by conv => lhs; whnf)) ?_
  refine p1 ((x_eql_ptrnil u23 rfl rfl).cast (congrArg _ (decide_eq_false (by simp)))) ?_
  refine r_nil ?_
  refine t_n ?_
  refine c_f rfl ?_
  refine c_skip ?_
  refine t_n ?_
  refine c_seq ?_
  refine r_plain ?_
  refine p1 (x_move (by conv => lhs; whnf)) ?_
  refine p1 (x_nilCheck rfl) ?_
  refine p1 (x_fieldAddr fo66_1 sz3 rfl) ?_
  refine o_store1 rfl (by conv => lhs; whnf) rfl rfl sz3 hB (by simp) ?_
  intro w1 hP1
  have hX := hX.put hP1 (⟨.inl hSg, by decide⟩)
  have hB := hP1.blk
  simp only [List.setIfInBounds_toArray, List.set_cons_zero, List.set_cons_succ] at hB
  have hM := hM.mod (hP1.mod 0 (Nat.zero_le _)) (Nat.zero_le _) (by decide)
  have hF := hF.one hP1.one (by decide)
  refine r_nil ?_
  refine t_n ?_
  refine c_seq ?_
  refine c_seq ?_
  refine r_plain ?_
  refine p1 (x_move (by conv => lhs; whnf)) ?_
  refine o_call Try.func28 fn28 fb28 (disk_ListU g r S _ _ _ _ _ _ D.l μ _ hB hM hF hok.rise hok.few) rfl ?_
  rintro v2 w2 ⟨⟨qn, cn, rfl, hN⟩, hE2⟩
  have hX := hX.ext hE2
  have hB := hB.ext hE2
  have hM := hM.ext hE2
  have hF := hF.ext hE2
  have hN := hN.sl
  refine p1 (x_len_slice u51 rfl) ?_
  refine p1 (x_move (by conv => lhs; whnf)) ?_
  refine r_nil ?_
  refine t_n ?_
  refine c_block ?_
  have hfew := hok.few
  have hroom := hok.room
  have hmost := hok.most
  have hn1 := hst.cap
  have hn2 := hst.fit
  refine c_loop (ι := Nat × (ByteArray → Option Raw) × Option Addr × Nat × Nat) [1, 5, 6, 7, 8, 9, 10, 11, 20, 21, 22, 23, 24, 25, 26, 27, 28, 29, 30, 31, 32, 33, 34, 35, 36, 37, 38, 39, 40, 41, 42, 43, 44, 45, 46, 47, 48, 49, 50, 51, 52, 53, 54, 55, 56, 57, 58, 59, 60, 61, 62, 63, 64, 65, 66, 67, 68, 69, 70, 71, 72, 73, 74, 75, 76, 77, 78, 79, 80, 81, 82, 83, 84, 85, 86, 87, 88, 89, 90, 91, 92, 93, 94, 95, 96, 97, 98, 99, 100, 101, 102, 103, 104, 105, 106, 107, 108, 109, 110, 111, 112, 113, 114] (fun (k, μ1, pst, nst, cst) => [(1, .slice pst nst cst), (20, .int .i64 (k : Int))]) (fun (k, μ1, pst, nst, cst) w' => ModS S ED w w' ∧ (k ≤ D.l.length ∧ Blk w' g #[.int .i64 (D.most : Int), .int .i64 ((usedL (wakeL (D.l.take k) st).1 : Nat) : Int), .map (some r), .int .i64 (D.steps : Int), .int .i64 D.left, .bool D.done, .bool D.down] tDisk ∧ Mp kkStr vFile 0 0 w' r μ1 ∧ Fls (fun j => S j ∨ w.heap.size ≤ j) w' μ1 (midL D.l k st) ∧ Sl kStr 9 0 w' qn D.l.length cn (D.l.map (·.1)) ∧ Out S w pst nst cst (wakeL (D.l.take k) st).2)) (fun (k, μ1, pst, nst, cst) => D.l.length - k) ((0, μ, p, n, c)) ⟨rfl, rfl, trivial⟩ ⟨hX, ⟨Nat.zero_le _, hB, hM, hF.mono (fun _ _ h => .inl h), hN, hst⟩⟩ ?_
  rintro ⟨k, μ1, pst, nst, cst⟩ GL0 w3 ⟨hE3, hk, hB, hM, hF, hN, hst1⟩
  have hX := hE3
  refine c_seq ?_
  refine r_plain ?_
  refine p1 (x_lss rfl rfl) ?_
  refine r_nil ?_
  refine t_n ?_
  refine c_seq ?_
  first | refine c_dec rfl (fun hc21 => ?_) (fun hc21 => ?_) | refine c_if rfl (fun hc21 => ?_) (fun hc21 => ?_)
  · try simp only [decide_eq_true_eq, decide_eq_false_iff_not, Bool.not_eq_true, Bool.not_eq_false, Bool.not_eq_eq_eq_not, Bool.not_true, Bool.not_false, Int.not_lt, Int.not_le] at hc21
    refine c_skip ?_
    refine t_n ?_
    refine c_seq ?_
    refine c_block ?_
    refine c_seq ?_
    refine r_plain ?_
    refine p1 (x_ixs0 u51 sz9 rfl rfl (hN.adr kStr_pos (by omega)) (by omega)) ?_
    obtain ⟨xf, hx⟩ : ∃ x, D.l.getD k default = x := ⟨_, rfl⟩
    have hkl : k < D.l.length := by omega
    have hnm : (D.l.map (·.1)).getD k ByteArray.empty = xf.1 := by rw [← hx, List.getD_eq_getElem?_getD, List.getElem?_map, List.getD_eq_getElem?_getD, List.getElem?_eq_getElem hkl]; rfl
    have hxm : xf ∈ D.l := by rw [← hx, List.getD_eq_getElem?_getD, List.getElem?_eq_getElem hkl]; exact List.getElem_mem _
    have hsafe := hok.safe xf hxm
    obtain ⟨hmid, hasc, hins, hst2, hus⟩ := mid_step hkl st xf hx hok.rise
    have hxu : xf.2.1.length ≤ usedL D.l := by have := getF_le hok xf.1; have e := asc_of_memA hok.rise hxm; unfold getF ascF at this; rw [e] at this; exact this.1
    refine p1 ((x_load1 un9 rfl (hN.strAt _ (by omega))).cast (by rw [hnm])) ?_
    refine p1 (x_assign (by conv => lhs; whnf)) ?_
    refine r_nil ?_
    refine t_n ?_
    refine c_seq ?_
    refine r_plain ?_
    refine p1 (x_move (by conv => lhs; whnf)) ?_
    refine p1 (x_nilCheck rfl) ?_
    refine p1 (x_fieldAddr fo66_2 sz64 rfl) ?_
    refine p1 (x_load1 un64 rfl (hB.cell (rfl))) ?_
    refine p1 (x_move (by conv => lhs; whnf)) ?_
    obtain ⟨⟨p0, n0, c0, s0⟩, hr0⟩ : ∃ x : Raw, x = (μ1 xf.1).getD raw0 := ⟨_, rfl⟩
    obtain ⟨hF0, hs0⟩ := hF.get xf.1
    rw [← hr0] at hF0 hs0
    simp only at hF0 hs0
    rw [hasc] at hF0 hs0
    simp only [Option.getD_some] at hF0 hs0
    subst hs0
    have hlen0 := hF0.len
    have hcap0 := hF0.cap
    refine p1 (((lookF u64 zr76 (keyOk_str u9) hM xf.1 rfl rfl).1).cast (by rw [← hr0]; rfl : _ = Value.agg #[.slice p0 n0 c0, .int .i64 (xf.2.2 : Int)])) ?_
    have hXs := hX.size
    refine o_alloc zr76 ?_
    intro w4 g6 hN6
    have hE4 := hN6.ext
    have hX := hX.ext hE4
    have hB := hB.ext hE4
    have hM := hM.ext hE4
    have hF := hF.ext hE4
    have hN := hN.ext hE4
    have hB6 := hN6.blk
    have hF0 := hF0.ext hN6.ext
    refine o_storeAll rfl (by conv => lhs; whnf) (by simp [Value.oneCell']) (by exact sz76) hB6 (by rfl) ?_
    intro w5 hP5
    have hX := hX.put hP5 (⟨.inr (by rw [hN6.g_eq]; exact hXs), by decide⟩)
    have hB := hB.one hP5.one (by decide)
    have hM := hM.mod (hP5.mod 0 (Nat.zero_le _)) (Nat.zero_le _) (by decide)
    have hF := hF.one hP5.one (by decide)
    have hN := hN.oneT hP5.one (by decide)
    have hB6 := hP5.blk
    refine r_nil ?_
    refine t_n ?_
    refine c_seq ?_
    refine r_plain ?_
    have hF0 := (hF.get xf.1).1
    rw [hasc, ← hr0] at hF0
    simp only [Option.getD_some] at hF0
    refine p1 (x_fieldAddr fo76_0 sz31 rfl) ?_
    refine p1 (x_load1 un31 rfl (hB6.cell (rfl))) ?_
    refine p1 (x_fieldAddr fo76_1 sz3 rfl) ?_
    refine p1 (x_load1 un3 rfl (hB6.cell (rfl))) ?_
    refine p1 (x_slice_hN u31 sz5 rfl rfl (by omega)) ?_
    obtain ⟨B0, hB0⟩ : ∃ B0, B0 = w5.heap.size := ⟨_, rfl⟩
    have hBp := hB
    have hMp := hM
    have hFp := hF
    have hNp := hN
    have hB0s : w.heap.size ≤ B0 := by rw [hB0]; exact hX.size
    have hlo : ∀ j, p0 = some ⟨j, 0, none⟩ → j < B0 := fun j hj => by rw [hB0]; exact (hF0.inS hj).2
    refine o_call Try.func43 fn43 fb43 (slices_Clone_byte _ _ _ _ _ _ _ (hF0.take xf.2.2 (by omega)).sl (by omega)) rfl ?_
    rintro v6 w6 ⟨⟨qk, ck, rfl, hO⟩, hE6⟩
    have hX := hX.ext hE6
    have hB := hB.ext hE6
    have hM := hM.ext hE6
    have hF := hF.ext hE6
    have hN := hN.ext hE6
    have hB6 := hB6.ext hE6
    rw [← hB0] at hO
    have hK := FB.ofOwn (S := fun j => B0 ≤ j) hO (fun _ _ h => h)
    have hMC := Mod.ofExt (B := B0) (t := 5) hE6
    have hF0 := hF0.ext hE6
    refine p1 (x_assign (by conv => lhs; whnf)) ?_
    refine r_nil ?_
    refine t_n ?_
    refine c_seq ?_
    refine r_plain ?_
    refine p1 (x_move (by conv => lhs; whnf)) ?_
    refine p1 (x_len_slice u31 rfl) ?_
    refine p1 (x_assign (by conv => lhs; whnf)) ?_
    refine r_nil ?_
    refine t_n ?_
    refine c_seq ?_
    refine c_seq ?_
    refine r_plain ?_
    refine p1 (x_fieldAddr fo76_1 sz3 rfl) ?_
    refine p1 (x_load1 un3 rfl (hB6.cell (rfl))) ?_
    refine p1 (x_assign (by conv => lhs; whnf)) ?_
    refine r_nil ?_
    refine t_n ?_
    refine c_block ?_
    refine c_loop (ι := Nat × Nat × Nat × List UInt8 × Option Addr × Nat × List UInt8 × Option Addr × Nat × Nat) [1, 7, 8, 9, 10, 11, 40, 41, 42, 43, 44, 45, 46, 47, 48, 49, 50, 51, 52, 53, 54, 55, 56, 57, 58, 59, 60, 61, 62, 63, 64, 65, 66, 67, 68, 69, 70, 71, 72, 73, 74, 75, 76, 77, 78, 79, 80, 81, 82, 83, 84, 85, 86, 87, 88, 89, 90, 91, 92, 93, 94, 95] (fun (fu, a, m, kept, qk, ck, st1, pst, nst, cst) => [(1, .slice pst nst cst), (7, .slice qk a ck), (8, .int .i64 (m : Int)), (9, .int .i64 (a : Int))]) (fun (fu, a, m, kept, qk, ck, st1, pst, nst, cst) w' => ModS S ED w w' ∧ (Mod B0 5 w5 w' ∧ FB (fun j => B0 ≤ j) w' qk a ck kept ∧ Blk w' g6 #[.slice p0 n0 c0, .int .i64 (xf.2.2 : Int)] 76 ∧ FB (fun j => S j ∨ w.heap.size ≤ j) w' p0 n0 c0 xf.2.1 ∧ a ≤ xf.2.1.length ∧ m ≤ a ∧ xf.2.1.length - a < fu ∧ pieces xf.2.1 fu a m kept st1 = wakeR xf.2 (wakeL (D.l.take k) st).2 ∧ Out S w pst nst cst st1)) (fun (fu, a, m, kept, qk, ck, st1, pst, nst, cst) => xf.2.1.length - a) ((xf.2.1.length + 1, xf.2.2, xf.2.2, xf.2.1.take xf.2.2, qk, ck, (wakeL (D.l.take k) st).2, pst, nst, cst)) ⟨rfl, rfl, rfl, rfl, trivial⟩ ⟨hX, ⟨hMC, hK, hB6, hF0, hsafe, Nat.le_refl _, by omega, rfl, hst1⟩⟩ ?_
    rintro ⟨fu, a, m, kept, qk, ck, st1, pst, nst, cst⟩ GL2 w7 ⟨hE7, hMC, hK, hB6, hF0, ha, hm, hfu, hpe, hst1⟩
    have hX := hE7
    have hsl := hst1.len
    have hsc := hst1.cap
    have hsf := hst1.fit
    have hkl2 := hK.len
    have hkc := hK.cap
    refine c_seq ?_
    refine c_seq ?_
    refine r_plain ?_
    refine p1 (x_move (by conv => lhs; whnf)) ?_
    refine p1 (x_fieldAddr fo76_0 sz31 rfl) ?_
    refine p1 (x_load1 un31 rfl (hB6.cell (rfl))) ?_
    refine p1 (x_len_slice u31 rfl) ?_
    refine p1 (x_lss rfl rfl) ?_
    refine r_nil ?_
    refine t_n ?_
    first | refine c_dec rfl (fun hc44 => ?_) (fun hc44 => ?_) | refine c_if rfl (fun hc44 => ?_) (fun hc44 => ?_)
    · try simp only [decide_eq_true_eq, decide_eq_false_iff_not, Bool.not_eq_true, Bool.not_eq_false, Bool.not_eq_eq_eq_not, Bool.not_true, Bool.not_false, Int.not_lt, Int.not_le] at hc44
      have hlt : a < xf.2.1.length := by omega
      obtain ⟨hE1_, hE2_⟩ := pieceE_gt hlt
      obtain ⟨fu2, hfu2, hpe2⟩ := pieces_step (n := m) (kept := kept) (st := st1) hlt hfu
      refine c_skip ?_
      refine t_n ?_
      refine c_block ?_
      refine c_seq ?_
      refine r_plain ?_
      refine p1 (x_move (by conv => lhs; whnf)) ?_
      refine p1 (x_move (by conv => lhs; whnf)) ?_
      refine p1 (x_rem rfl rfl (by omega) (by omega)) ?_
      refine p1 (x_sub rfl rfl (fits_i64 (by omega) (by omega))) ?_
      refine p1 (x_add rfl rfl (fits_i64 (by omega) (by omega))) ?_
      refine p1 (x_fieldAddr fo76_0 sz31 rfl) ?_
      refine p1 (x_load1 un31 rfl (hB6.cell (rfl))) ?_
      refine p1 (x_len_slice u31 rfl) ?_
      refine p1 ((x_min rfl rfl).cast (congrArg (Value.int .i64) (by unfold pieceE; split <;> omega : _ = ((pieceE xf.2.1 a : Nat) : Int)))) ?_
      refine p1 (x_assign (by conv => lhs; whnf)) ?_
      refine r_nil ?_
      refine t_n ?_
      refine c_seq ?_
      refine r_plain ?_
      refine p1 (x_assign (by conv => lhs; whnf)) ?_
      refine r_nil ?_
      refine t_n ?_
      refine c_seq ?_
      refine c_seq ?_
      refine r_plain ?_
      refine p1 (x_move (by conv => lhs; whnf)) ?_
      refine p1 (x_len_slice u31 rfl) ?_
      refine p1 (x_gtr rfl rfl) ?_
      refine r_nil ?_
      refine t_n ?_
      first | refine c_dec rfl (fun hc56 => ?_) (fun hc56 => ?_) | refine c_if rfl (fun hc56 => ?_) (fun hc56 => ?_)
      · try simp only [decide_eq_true_eq, decide_eq_false_iff_not, Bool.not_eq_true, Bool.not_eq_false, Bool.not_eq_eq_eq_not, Bool.not_true, Bool.not_false, Int.not_lt, Int.not_le] at hc56
        obtain ⟨sb, st3, hs1⟩ : ∃ s t, st1 = s :: t := by cases st1 with | nil => exact absurd hsl (by simp only [List.length_nil]; omega) | cons s t => exact ⟨s, t, rfl⟩
        have hs8 := sb.toNat_lt
        have hsB := (hst1.modS hX).sl
        have htl := hst1.tail (by omega)
        have hby : ((st1.getD (0 : Int).toNat 0).toNat : Int) = (sb.toNat : Int) := by rw [hs1]; rfl
        refine c_seq ?_
        refine r_plain ?_
        refine p1 (x_move (by conv => lhs; whnf)) ?_
        refine p1 (x_ixs u31 sz5 rfl rfl (hsB.adr kByte_pos (by omega)) (by omega) (by omega)) ?_
        refine p1 ((x_load1 un5 rfl (hsB.byteAtI 0 (by omega) (by omega))).cast (congrArg (Value.int .u8) hby)) ?_
        refine p1 (x_convf u3 us5 rfl (fits_i64 (by omega) (by omega))) ?_
        refine p1 (x_move (by conv => lhs; whnf)) ?_
        refine p1 (x_move (by conv => lhs; whnf)) ?_
        refine p1 (x_sub rfl rfl (fits_i64 (by omega) (by omega))) ?_
        refine p1 (x_add rfl rfl (fits_i64 (by omega) (by omega))) ?_
        refine p1 ((x_rem rfl rfl (by omega) (by omega)).cast (congrArg (Value.int .i64) (by rw [show (pieceE xf.2.1 a : Int) - (a : Int) + 1 = ((pieceE xf.2.1 a - a + 1 : Nat) : Int) from by omega, ← Int.natCast_emod] : _ = ((sb.toNat % (pieceE xf.2.1 a - a + 1) : Nat) : Int)))) ?_
        refine p1 (x_assign (by conv => lhs; whnf)) ?_
        refine r_nil ?_
        refine t_n ?_
        refine c_seq ?_
        refine c_seq ?_
        refine r_plain ?_
        refine p1 (x_move (by conv => lhs; whnf)) ?_
        refine p1 (x_ixs u31 sz5 rfl rfl (hsB.adr kByte_pos (by omega)) (by omega) (by omega)) ?_
        refine p1 ((x_load1 un5 rfl (hsB.byteAtI 0 (by omega) (by omega))).cast (congrArg (Value.int .u8) hby)) ?_
        refine p1 (x_eql rfl rfl) ?_
        refine r_nil ?_
        refine t_n ?_
        first | refine c_dec rfl (fun hc69 => ?_) (fun hc69 => ?_) | refine c_if rfl (fun hc69 => ?_) (fun hc69 => ?_)
        · try simp only [decide_eq_true_eq, decide_eq_false_iff_not, Bool.not_eq_true, Bool.not_eq_false, Bool.not_eq_eq_eq_not, Bool.not_true, Bool.not_false, Int.not_lt, Int.not_le] at hc69
          have hpt : pieceT xf.2.1 a st1 = pieceE xf.2.1 a - a := by rw [hs1]; exact if_pos (UInt8.toNat_inj.1 (show sb.toNat = 255 by omega))
          refine r_plain ?_
          refine p1 (x_move (by conv => lhs; whnf)) ?_
          refine p1 (x_move (by conv => lhs; whnf)) ?_
          refine p1 ((x_sub rfl rfl (fits_i64 (by omega) (by omega))).cast (congrArg (Value.int .i64) (by omega : _ = ((pieceE xf.2.1 a - a : Nat) : Int)))) ?_
          refine p1 (x_assign (by conv => lhs; whnf)) ?_
          refine r_nil ?_
          refine t_n ?_
          refine r_plain ?_
          refine p1 (x_move (by conv => lhs; whnf)) ?_
          refine p1 (x_slice_l u31 sz5 rfl rfl (by omega) (by omega)) ?_
          refine p1 (x_assign (by conv => lhs; whnf)) ?_
          refine r_nil ?_
          refine t_n ?_
          refine c_seq ?_
          have hTle := pieceT_le xf.2.1 a st1
          refine r_plain ?_
          refine p1 (x_move (by conv => lhs; whnf)) ?_
          refine p1 (x_fieldAddr fo76_0 sz31 rfl) ?_
          refine p1 (x_load1 un31 rfl (hB6.cell (rfl))) ?_
          refine p1 (x_move (by conv => lhs; whnf)) ?_
          refine p1 (x_move (by conv => lhs; whnf)) ?_
          refine p1 (x_move (by conv => lhs; whnf)) ?_
          refine p1 ((x_add rfl rfl (fits_i64 (by omega) (by omega))).cast (congrArg (Value.int .i64) (by rw [hpt]; omega : _ = ((a + pieceT xf.2.1 a st1 : Nat) : Int)))) ?_
          refine p1 ((x_slice_lh u31 sz5 rfl rfl rfl (by omega) (by omega) (by omega)).cast (by simp only [Int.toNat_natCast, Nat.add_sub_cancel_left] : _ = Value.slice (adw p0 c0 a 1) (pieceT xf.2.1 a st1) (c0 - a))) ?_
          have hsrc : Sl kByte 5 0 w7 (adw p0 c0 a 1) (pieceT xf.2.1 a st1) (c0 - a) ((xf.2.1.drop a).take (pieceT xf.2.1 a st1)) := (hF0.sl.dropI a (by omega)).take _ (by omega)
          have hBX : ∀ j, B0 ≤ j → w.heap.size ≤ j := fun j h => Nat.le_trans hB0s h
          have hBc := hMC.size
          refine o_appendF ((xf.2.1.drop a).take (pieceT xf.2.1 a st1)) u31 inf5 rfl rfl hK (by rw [← flat_single]; exact src_pure u31 hsrc (by decide)) hsrc.len (by omega) ?_
          intro pz cz w8 hK1 hpp hO2 hKo
          have hMa : Mod B0 5 w7 w8 := hO2.mod hK
          have hMC := hMC.trans hMa
          have hX := hX.mod hMa hB0s
          have hB6 := hB6.mod hMa (by decide)
          have hF0 := hF0.modB hMa hlo
          have hK := hK1.mono (S' := fun j => B0 ≤ j) (fun _ _ h => h.elim id fun h => Nat.le_trans (by rw [hB0]; exact hBc) h)
          skip
          refine p1 (x_assign (by conv => lhs; whnf)) ?_
          refine r_nil ?_
          refine t_n ?_
          refine c_seq ?_
          refine c_seq ?_
          refine r_plain ?_
          refine p1 (x_move (by conv => lhs; whnf)) ?_
          refine p1 (x_gtr rfl rfl) ?_
          refine r_nil ?_
          refine t_n ?_
          first | refine c_dec rfl (fun hc85 => ?_) (fun hc85 => ?_) | refine c_if rfl (fun hc85 => ?_) (fun hc85 => ?_)
          · try simp only [decide_eq_true_eq, decide_eq_false_iff_not, Bool.not_eq_true, Bool.not_eq_false, Bool.not_eq_eq_eq_not, Bool.not_true, Bool.not_false, Int.not_lt, Int.not_le] at hc85
            have hif : (if 0 < pieceT xf.2.1 a st1 then a + pieceT xf.2.1 a st1 else m) = a + pieceT xf.2.1 a st1 := if_pos (by rw [hpt]; omega)
            refine r_plain ?_
            refine p1 (x_move (by conv => lhs; whnf)) ?_
            refine p1 (x_move (by conv => lhs; whnf)) ?_
            refine p1 ((x_add rfl rfl (fits_i64 (by omega) (by omega))).cast (congrArg (Value.int .i64) (by rw [hpt]; omega : _ = ((a + pieceT xf.2.1 a st1 : Nat) : Int)))) ?_
            refine p1 (x_assign (by conv => lhs; whnf)) ?_
            refine r_nil ?_
            refine t_n ?_
            refine c_seq ?_
            refine r_plain ?_
            refine p1 (x_move (by conv => lhs; whnf)) ?_
            refine p1 (x_move (by conv => lhs; whnf)) ?_
            refine p1 (x_move (by conv => lhs; whnf)) ?_
            refine p1 (x_len_slice u31 rfl) ?_
            refine p1 ((x_sub rfl rfl (fits_i64 (by omega) (by omega))).cast (congrArg (Value.int .i64) (by omega : _ = ((pieceE xf.2.1 a - (a + pieceT xf.2.1 a st1) : Nat) : Int)))) ?_
            have hBc := hMC.size
            refine o_appendZ u31 u3 inf5 rfl rfl hK (by omega) ?_
            intro pz2 cz2 w9 hK1 hpp2 hO3 hKo2
            have hMa : Mod B0 5 w8 w9 := hO3.mod hK
            have hMC := hMC.trans hMa
            have hX := hX.mod hMa hB0s
            have hB6 := hB6.mod hMa (by decide)
            have hF0 := hF0.modB hMa hlo
            have hK := hK1.mono (S' := fun j => B0 ≤ j) (fun _ _ h => h.elim id fun h => Nat.le_trans (by rw [hB0]; exact hBc) h)
            have hsz : a + pieceT xf.2.1 a st1 + (pieceE xf.2.1 a - (a + pieceT xf.2.1 a st1)) = pieceE xf.2.1 a := by omega
            rw [hsz] at hK
            refine Lst.cast (congrArg (fun z => fr _ (upd _ _ (Value.slice pz2 z cz2))) hsz.symm) ?_
            refine p1 (x_assign (by conv => lhs; whnf)) ?_
            refine r_nil ?_
            refine t_n ?_
            refine r_plain ?_
            refine p1 (x_move (by conv => lhs; whnf)) ?_
            refine p1 (x_assign (by conv => lhs; whnf)) ?_
            refine r_nil ?_
            refine b_n ?_
            rw [hpe2, hif] at hpe
            first
              | exact t_n (At.mk ((fu2, pieceE xf.2.1 a, a + pieceT xf.2.1 a st1, _, pz2, cz2, st1.tail, adw pst cst 1 1, nst - 1, cst - 1)) (by repeat (first | exact Agr.refl _ _ | exact Agr.hav _ _ _ | refine Agr.upd rfl ?_ | refine Agr.updR rfl ?_ | refine Agr.updL ?_ _ rfl | refine Agr.hav' rfl ?_)) ⟨rfl, rfl, rfl, rfl, trivial⟩ ⟨⟨hX, ⟨hMC, hK, hB6, hF0, hE2_, by omega, hfu2, hpe, htl⟩⟩, by first | (dsimp only; omega) | ((show _ < _); omega)⟩)
              | exact t_n (At.mk ((fu2, pieceE xf.2.1 a, a + pieceT xf.2.1 a st1, _, pz2, cz2, st1.tail, pst, nst, cst)) (by repeat (first | exact Agr.refl _ _ | exact Agr.hav _ _ _ | refine Agr.upd rfl ?_ | refine Agr.updR rfl ?_ | refine Agr.updL ?_ _ rfl | refine Agr.hav' rfl ?_)) ⟨rfl, rfl, rfl, rfl, trivial⟩ ⟨⟨hX, ⟨hMC, hK, hB6, hF0, hE2_, by omega, hfu2, hpe, by rw [htl]; exact hst1⟩⟩, by first | (dsimp only; omega) | ((show _ < _); omega)⟩)
              | exact t_n (At.mk ((fu2, pieceE xf.2.1 a, m, _, pz2, cz2, st1.tail, adw pst cst 1 1, nst - 1, cst - 1)) (by repeat (first | exact Agr.refl _ _ | exact Agr.hav _ _ _ | refine Agr.upd rfl ?_ | refine Agr.updR rfl ?_ | refine Agr.updL ?_ _ rfl | refine Agr.hav' rfl ?_)) ⟨rfl, rfl, rfl, rfl, trivial⟩ ⟨⟨hX, ⟨hMC, hK, hB6, hF0, hE2_, by omega, hfu2, hpe, htl⟩⟩, by first | (dsimp only; omega) | ((show _ < _); omega)⟩)
              | exact t_n (At.mk ((fu2, pieceE xf.2.1 a, m, _, pz2, cz2, st1.tail, pst, nst, cst)) (by repeat (first | exact Agr.refl _ _ | exact Agr.hav _ _ _ | refine Agr.upd rfl ?_ | refine Agr.updR rfl ?_ | refine Agr.updL ?_ _ rfl | refine Agr.hav' rfl ?_)) ⟨rfl, rfl, rfl, rfl, trivial⟩ ⟨⟨hX, ⟨hMC, hK, hB6, hF0, hE2_, by omega, hfu2, hpe, by rw [htl]; exact hst1⟩⟩, by first | (dsimp only; omega) | ((show _ < _); omega)⟩)
          · try simp only [decide_eq_true_eq, decide_eq_false_iff_not, Bool.not_eq_true, Bool.not_eq_false, Bool.not_eq_eq_eq_not, Bool.not_true, Bool.not_false, Int.not_lt, Int.not_le] at hc85
            have hif : (if 0 < pieceT xf.2.1 a st1 then a + pieceT xf.2.1 a st1 else m) = m := if_neg (by rw [hpt]; omega)
            refine c_skip ?_
            refine t_n ?_
            refine c_seq ?_
            refine r_plain ?_
            refine p1 (x_move (by conv => lhs; whnf)) ?_
            refine p1 (x_move (by conv => lhs; whnf)) ?_
            refine p1 (x_move (by conv => lhs; whnf)) ?_
            refine p1 (x_len_slice u31 rfl) ?_
            refine p1 ((x_sub rfl rfl (fits_i64 (by omega) (by omega))).cast (congrArg (Value.int .i64) (by omega : _ = ((pieceE xf.2.1 a - (a + pieceT xf.2.1 a st1) : Nat) : Int)))) ?_
            have hBc := hMC.size
            refine o_appendZ u31 u3 inf5 rfl rfl hK (by omega) ?_
            intro pz2 cz2 w10 hK1 hpp2 hO3 hKo2
            have hMa : Mod B0 5 w8 w10 := hO3.mod hK
            have hMC := hMC.trans hMa
            have hX := hX.mod hMa hB0s
            have hB6 := hB6.mod hMa (by decide)
            have hF0 := hF0.modB hMa hlo
            have hK := hK1.mono (S' := fun j => B0 ≤ j) (fun _ _ h => h.elim id fun h => Nat.le_trans (by rw [hB0]; exact hBc) h)
            have hsz : a + pieceT xf.2.1 a st1 + (pieceE xf.2.1 a - (a + pieceT xf.2.1 a st1)) = pieceE xf.2.1 a := by omega
            rw [hsz] at hK
            refine Lst.cast (congrArg (fun z => fr _ (upd _ _ (Value.slice pz2 z cz2))) hsz.symm) ?_
            refine p1 (x_assign (by conv => lhs; whnf)) ?_
            refine r_nil ?_
            refine t_n ?_
            refine r_plain ?_
            refine p1 (x_move (by conv => lhs; whnf)) ?_
            refine p1 (x_assign (by conv => lhs; whnf)) ?_
            refine r_nil ?_
            refine b_n ?_
            rw [hpe2, hif] at hpe
            first
              | exact t_n (At.mk ((fu2, pieceE xf.2.1 a, a + pieceT xf.2.1 a st1, _, pz2, cz2, st1.tail, adw pst cst 1 1, nst - 1, cst - 1)) (by repeat (first | exact Agr.refl _ _ | exact Agr.hav _ _ _ | refine Agr.upd rfl ?_ | refine Agr.updR rfl ?_ | refine Agr.updL ?_ _ rfl | refine Agr.hav' rfl ?_)) ⟨rfl, rfl, rfl, rfl, trivial⟩ ⟨⟨hX, ⟨hMC, hK, hB6, hF0, hE2_, by omega, hfu2, hpe, htl⟩⟩, by first | (dsimp only; omega) | ((show _ < _); omega)⟩)
              | exact t_n (At.mk ((fu2, pieceE xf.2.1 a, a + pieceT xf.2.1 a st1, _, pz2, cz2, st1.tail, pst, nst, cst)) (by repeat (first | exact Agr.refl _ _ | exact Agr.hav _ _ _ | refine Agr.upd rfl ?_ | refine Agr.updR rfl ?_ | refine Agr.updL ?_ _ rfl | refine Agr.hav' rfl ?_)) ⟨rfl, rfl, rfl, rfl, trivial⟩ ⟨⟨hX, ⟨hMC, hK, hB6, hF0, hE2_, by omega, hfu2, hpe, by rw [htl]; exact hst1⟩⟩, by first | (dsimp only; omega) | ((show _ < _); omega)⟩)
              | exact t_n (At.mk ((fu2, pieceE xf.2.1 a, m, _, pz2, cz2, st1.tail, adw pst cst 1 1, nst - 1, cst - 1)) (by repeat (first | exact Agr.refl _ _ | exact Agr.hav _ _ _ | refine Agr.upd rfl ?_ | refine Agr.updR rfl ?_ | refine Agr.updL ?_ _ rfl | refine Agr.hav' rfl ?_)) ⟨rfl, rfl, rfl, rfl, trivial⟩ ⟨⟨hX, ⟨hMC, hK, hB6, hF0, hE2_, by omega, hfu2, hpe, htl⟩⟩, by first | (dsimp only; omega) | ((show _ < _); omega)⟩)
              | exact t_n (At.mk ((fu2, pieceE xf.2.1 a, m, _, pz2, cz2, st1.tail, pst, nst, cst)) (by repeat (first | exact Agr.refl _ _ | exact Agr.hav _ _ _ | refine Agr.upd rfl ?_ | refine Agr.updR rfl ?_ | refine Agr.updL ?_ _ rfl | refine Agr.hav' rfl ?_)) ⟨rfl, rfl, rfl, rfl, trivial⟩ ⟨⟨hX, ⟨hMC, hK, hB6, hF0, hE2_, by omega, hfu2, hpe, by rw [htl]; exact hst1⟩⟩, by first | (dsimp only; omega) | ((show _ < _); omega)⟩)
        · try simp only [decide_eq_true_eq, decide_eq_false_iff_not, Bool.not_eq_true, Bool.not_eq_false, Bool.not_eq_eq_eq_not, Bool.not_true, Bool.not_false, Int.not_lt, Int.not_le] at hc69
          have hpt : pieceT xf.2.1 a st1 = sb.toNat % (pieceE xf.2.1 a - a + 1) := by rw [hs1]; exact if_neg (fun e => hc69 (by rw [e]; rfl))
          refine c_skip ?_
          refine t_n ?_
          refine r_plain ?_
          refine p1 (x_move (by conv => lhs; whnf)) ?_
          refine p1 (x_slice_l u31 sz5 rfl rfl (by omega) (by omega)) ?_
          refine p1 (x_assign (by conv => lhs; whnf)) ?_
          refine r_nil ?_
          refine t_n ?_
          refine c_seq ?_
          have hTle := pieceT_le xf.2.1 a st1
          refine r_plain ?_
          refine p1 (x_move (by conv => lhs; whnf)) ?_
          refine p1 (x_fieldAddr fo76_0 sz31 rfl) ?_
          refine p1 (x_load1 un31 rfl (hB6.cell (rfl))) ?_
          refine p1 (x_move (by conv => lhs; whnf)) ?_
          refine p1 (x_move (by conv => lhs; whnf)) ?_
          refine p1 (x_move (by conv => lhs; whnf)) ?_
          refine p1 ((x_add rfl rfl (fits_i64 (by omega) (by omega))).cast (congrArg (Value.int .i64) (by rw [hpt]; omega : _ = ((a + pieceT xf.2.1 a st1 : Nat) : Int)))) ?_
          refine p1 ((x_slice_lh u31 sz5 rfl rfl rfl (by omega) (by omega) (by omega)).cast (by simp only [Int.toNat_natCast, Nat.add_sub_cancel_left] : _ = Value.slice (adw p0 c0 a 1) (pieceT xf.2.1 a st1) (c0 - a))) ?_
          have hsrc : Sl kByte 5 0 w7 (adw p0 c0 a 1) (pieceT xf.2.1 a st1) (c0 - a) ((xf.2.1.drop a).take (pieceT xf.2.1 a st1)) := (hF0.sl.dropI a (by omega)).take _ (by omega)
          have hBX : ∀ j, B0 ≤ j → w.heap.size ≤ j := fun j h => Nat.le_trans hB0s h
          have hBc := hMC.size
          refine o_appendF ((xf.2.1.drop a).take (pieceT xf.2.1 a st1)) u31 inf5 rfl rfl hK (by rw [← flat_single]; exact src_pure u31 hsrc (by decide)) hsrc.len (by omega) ?_
          intro pz cz w11 hK1 hpp hO2 hKo
          have hMa : Mod B0 5 w7 w11 := hO2.mod hK
          have hMC := hMC.trans hMa
          have hX := hX.mod hMa hB0s
          have hB6 := hB6.mod hMa (by decide)
          have hF0 := hF0.modB hMa hlo
          have hK := hK1.mono (S' := fun j => B0 ≤ j) (fun _ _ h => h.elim id fun h => Nat.le_trans (by rw [hB0]; exact hBc) h)
          skip
          refine p1 (x_assign (by conv => lhs; whnf)) ?_
          refine r_nil ?_
          refine t_n ?_
          refine c_seq ?_
          refine c_seq ?_
          refine r_plain ?_
          refine p1 (x_move (by conv => lhs; whnf)) ?_
          refine p1 (x_gtr rfl rfl) ?_
          refine r_nil ?_
          refine t_n ?_
          first | refine c_dec rfl (fun hc85 => ?_) (fun hc85 => ?_) | refine c_if rfl (fun hc85 => ?_) (fun hc85 => ?_)
          · try simp only [decide_eq_true_eq, decide_eq_false_iff_not, Bool.not_eq_true, Bool.not_eq_false, Bool.not_eq_eq_eq_not, Bool.not_true, Bool.not_false, Int.not_lt, Int.not_le] at hc85
            have hif : (if 0 < pieceT xf.2.1 a st1 then a + pieceT xf.2.1 a st1 else m) = a + pieceT xf.2.1 a st1 := if_pos (by rw [hpt]; omega)
            refine r_plain ?_
            refine p1 (x_move (by conv => lhs; whnf)) ?_
            refine p1 (x_move (by conv => lhs; whnf)) ?_
            refine p1 ((x_add rfl rfl (fits_i64 (by omega) (by omega))).cast (congrArg (Value.int .i64) (by rw [hpt]; omega : _ = ((a + pieceT xf.2.1 a st1 : Nat) : Int)))) ?_
            refine p1 (x_assign (by conv => lhs; whnf)) ?_
            refine r_nil ?_
            refine t_n ?_
            refine c_seq ?_
            refine r_plain ?_
            refine p1 (x_move (by conv => lhs; whnf)) ?_
            refine p1 (x_move (by conv => lhs; whnf)) ?_
            refine p1 (x_move (by conv => lhs; whnf)) ?_
            refine p1 (x_len_slice u31 rfl) ?_
            refine p1 ((x_sub rfl rfl (fits_i64 (by omega) (by omega))).cast (congrArg (Value.int .i64) (by omega : _ = ((pieceE xf.2.1 a - (a + pieceT xf.2.1 a st1) : Nat) : Int)))) ?_
            have hBc := hMC.size
            refine o_appendZ u31 u3 inf5 rfl rfl hK (by omega) ?_
            intro pz2 cz2 w12 hK1 hpp2 hO3 hKo2
            have hMa : Mod B0 5 w11 w12 := hO3.mod hK
            have hMC := hMC.trans hMa
            have hX := hX.mod hMa hB0s
            have hB6 := hB6.mod hMa (by decide)
            have hF0 := hF0.modB hMa hlo
            have hK := hK1.mono (S' := fun j => B0 ≤ j) (fun _ _ h => h.elim id fun h => Nat.le_trans (by rw [hB0]; exact hBc) h)
            have hsz : a + pieceT xf.2.1 a st1 + (pieceE xf.2.1 a - (a + pieceT xf.2.1 a st1)) = pieceE xf.2.1 a := by omega
            rw [hsz] at hK
            refine Lst.cast (congrArg (fun z => fr _ (upd _ _ (Value.slice pz2 z cz2))) hsz.symm) ?_
            refine p1 (x_assign (by conv => lhs; whnf)) ?_
            refine r_nil ?_
            refine t_n ?_
            refine r_plain ?_
            refine p1 (x_move (by conv => lhs; whnf)) ?_
            refine p1 (x_assign (by conv => lhs; whnf)) ?_
            refine r_nil ?_
            refine b_n ?_
            rw [hpe2, hif] at hpe
            first
              | exact t_n (At.mk ((fu2, pieceE xf.2.1 a, a + pieceT xf.2.1 a st1, _, pz2, cz2, st1.tail, adw pst cst 1 1, nst - 1, cst - 1)) (by repeat (first | exact Agr.refl _ _ | exact Agr.hav _ _ _ | refine Agr.upd rfl ?_ | refine Agr.updR rfl ?_ | refine Agr.updL ?_ _ rfl | refine Agr.hav' rfl ?_)) ⟨rfl, rfl, rfl, rfl, trivial⟩ ⟨⟨hX, ⟨hMC, hK, hB6, hF0, hE2_, by omega, hfu2, hpe, htl⟩⟩, by first | (dsimp only; omega) | ((show _ < _); omega)⟩)
              | exact t_n (At.mk ((fu2, pieceE xf.2.1 a, a + pieceT xf.2.1 a st1, _, pz2, cz2, st1.tail, pst, nst, cst)) (by repeat (first | exact Agr.refl _ _ | exact Agr.hav _ _ _ | refine Agr.upd rfl ?_ | refine Agr.updR rfl ?_ | refine Agr.updL ?_ _ rfl | refine Agr.hav' rfl ?_)) ⟨rfl, rfl, rfl, rfl, trivial⟩ ⟨⟨hX, ⟨hMC, hK, hB6, hF0, hE2_, by omega, hfu2, hpe, by rw [htl]; exact hst1⟩⟩, by first | (dsimp only; omega) | ((show _ < _); omega)⟩)
              | exact t_n (At.mk ((fu2, pieceE xf.2.1 a, m, _, pz2, cz2, st1.tail, adw pst cst 1 1, nst - 1, cst - 1)) (by repeat (first | exact Agr.refl _ _ | exact Agr.hav _ _ _ | refine Agr.upd rfl ?_ | refine Agr.updR rfl ?_ | refine Agr.updL ?_ _ rfl | refine Agr.hav' rfl ?_)) ⟨rfl, rfl, rfl, rfl, trivial⟩ ⟨⟨hX, ⟨hMC, hK, hB6, hF0, hE2_, by omega, hfu2, hpe, htl⟩⟩, by first | (dsimp only; omega) | ((show _ < _); omega)⟩)
              | exact t_n (At.mk ((fu2, pieceE xf.2.1 a, m, _, pz2, cz2, st1.tail, pst, nst, cst)) (by repeat (first | exact Agr.refl _ _ | exact Agr.hav _ _ _ | refine Agr.upd rfl ?_ | refine Agr.updR rfl ?_ | refine Agr.updL ?_ _ rfl | refine Agr.hav' rfl ?_)) ⟨rfl, rfl, rfl, rfl, trivial⟩ ⟨⟨hX, ⟨hMC, hK, hB6, hF0, hE2_, by omega, hfu2, hpe, by rw [htl]; exact hst1⟩⟩, by first | (dsimp only; omega) | ((show _ < _); omega)⟩)
          · try simp only [decide_eq_true_eq, decide_eq_false_iff_not, Bool.not_eq_true, Bool.not_eq_false, Bool.not_eq_eq_eq_not, Bool.not_true, Bool.not_false, Int.not_lt, Int.not_le] at hc85
            have hif : (if 0 < pieceT xf.2.1 a st1 then a + pieceT xf.2.1 a st1 else m) = m := if_neg (by rw [hpt]; omega)
            refine c_skip ?_
            refine t_n ?_
            refine c_seq ?_
            refine r_plain ?_
            refine p1 (x_move (by conv => lhs; whnf)) ?_
            refine p1 (x_move (by conv => lhs; whnf)) ?_
            refine p1 (x_move (by conv => lhs; whnf)) ?_
            refine p1 (x_len_slice u31 rfl) ?_
            refine p1 ((x_sub rfl rfl (fits_i64 (by omega) (by omega))).cast (congrArg (Value.int .i64) (by omega : _ = ((pieceE xf.2.1 a - (a + pieceT xf.2.1 a st1) : Nat) : Int)))) ?_
            have hBc := hMC.size
            refine o_appendZ u31 u3 inf5 rfl rfl hK (by omega) ?_
            intro pz2 cz2 w13 hK1 hpp2 hO3 hKo2
            have hMa : Mod B0 5 w11 w13 := hO3.mod hK
            have hMC := hMC.trans hMa
            have hX := hX.mod hMa hB0s
            have hB6 := hB6.mod hMa (by decide)
            have hF0 := hF0.modB hMa hlo
            have hK := hK1.mono (S' := fun j => B0 ≤ j) (fun _ _ h => h.elim id fun h => Nat.le_trans (by rw [hB0]; exact hBc) h)
            have hsz : a + pieceT xf.2.1 a st1 + (pieceE xf.2.1 a - (a + pieceT xf.2.1 a st1)) = pieceE xf.2.1 a := by omega
            rw [hsz] at hK
            refine Lst.cast (congrArg (fun z => fr _ (upd _ _ (Value.slice pz2 z cz2))) hsz.symm) ?_
            refine p1 (x_assign (by conv => lhs; whnf)) ?_
            refine r_nil ?_
            refine t_n ?_
            refine r_plain ?_
            refine p1 (x_move (by conv => lhs; whnf)) ?_
            refine p1 (x_assign (by conv => lhs; whnf)) ?_
            refine r_nil ?_
            refine b_n ?_
            rw [hpe2, hif] at hpe
            first
              | exact t_n (At.mk ((fu2, pieceE xf.2.1 a, a + pieceT xf.2.1 a st1, _, pz2, cz2, st1.tail, adw pst cst 1 1, nst - 1, cst - 1)) (by repeat (first | exact Agr.refl _ _ | exact Agr.hav _ _ _ | refine Agr.upd rfl ?_ | refine Agr.updR rfl ?_ | refine Agr.updL ?_ _ rfl | refine Agr.hav' rfl ?_)) ⟨rfl, rfl, rfl, rfl, trivial⟩ ⟨⟨hX, ⟨hMC, hK, hB6, hF0, hE2_, by omega, hfu2, hpe, htl⟩⟩, by first | (dsimp only; omega) | ((show _ < _); omega)⟩)
              | exact t_n (At.mk ((fu2, pieceE xf.2.1 a, a + pieceT xf.2.1 a st1, _, pz2, cz2, st1.tail, pst, nst, cst)) (by repeat (first | exact Agr.refl _ _ | exact Agr.hav _ _ _ | refine Agr.upd rfl ?_ | refine Agr.updR rfl ?_ | refine Agr.updL ?_ _ rfl | refine Agr.hav' rfl ?_)) ⟨rfl, rfl, rfl, rfl, trivial⟩ ⟨⟨hX, ⟨hMC, hK, hB6, hF0, hE2_, by omega, hfu2, hpe, by rw [htl]; exact hst1⟩⟩, by first | (dsimp only; omega) | ((show _ < _); omega)⟩)
              | exact t_n (At.mk ((fu2, pieceE xf.2.1 a, m, _, pz2, cz2, st1.tail, adw pst cst 1 1, nst - 1, cst - 1)) (by repeat (first | exact Agr.refl _ _ | exact Agr.hav _ _ _ | refine Agr.upd rfl ?_ | refine Agr.updR rfl ?_ | refine Agr.updL ?_ _ rfl | refine Agr.hav' rfl ?_)) ⟨rfl, rfl, rfl, rfl, trivial⟩ ⟨⟨hX, ⟨hMC, hK, hB6, hF0, hE2_, by omega, hfu2, hpe, htl⟩⟩, by first | (dsimp only; omega) | ((show _ < _); omega)⟩)
              | exact t_n (At.mk ((fu2, pieceE xf.2.1 a, m, _, pz2, cz2, st1.tail, pst, nst, cst)) (by repeat (first | exact Agr.refl _ _ | exact Agr.hav _ _ _ | refine Agr.upd rfl ?_ | refine Agr.updR rfl ?_ | refine Agr.updL ?_ _ rfl | refine Agr.hav' rfl ?_)) ⟨rfl, rfl, rfl, rfl, trivial⟩ ⟨⟨hX, ⟨hMC, hK, hB6, hF0, hE2_, by omega, hfu2, hpe, by rw [htl]; exact hst1⟩⟩, by first | (dsimp only; omega) | ((show _ < _); omega)⟩)
      · try simp only [decide_eq_true_eq, decide_eq_false_iff_not, Bool.not_eq_true, Bool.not_eq_false, Bool.not_eq_eq_eq_not, Bool.not_true, Bool.not_false, Int.not_lt, Int.not_le] at hc56
        have hs0 : st1 = [] := List.eq_nil_of_length_eq_zero (by omega)
        have hpt : pieceT xf.2.1 a st1 = 0 := by rw [hs0]; rfl
        have htl : st1.tail = st1 := by rw [hs0]; rfl
        refine c_skip ?_
        refine t_n ?_
        refine c_seq ?_
        have hTle := pieceT_le xf.2.1 a st1
        refine r_plain ?_
        refine p1 (x_move (by conv => lhs; whnf)) ?_
        refine p1 (x_fieldAddr fo76_0 sz31 rfl) ?_
        refine p1 (x_load1 un31 rfl (hB6.cell (rfl))) ?_
        refine p1 (x_move (by conv => lhs; whnf)) ?_
        refine p1 (x_move (by conv => lhs; whnf)) ?_
        refine p1 (x_move (by conv => lhs; whnf)) ?_
        refine p1 ((x_add rfl rfl (fits_i64 (by omega) (by omega))).cast (congrArg (Value.int .i64) (by rw [hpt]; omega : _ = ((a + pieceT xf.2.1 a st1 : Nat) : Int)))) ?_
        refine p1 ((x_slice_lh u31 sz5 rfl rfl rfl (by omega) (by omega) (by omega)).cast (by simp only [Int.toNat_natCast, Nat.add_sub_cancel_left] : _ = Value.slice (adw p0 c0 a 1) (pieceT xf.2.1 a st1) (c0 - a))) ?_
        have hsrc : Sl kByte 5 0 w7 (adw p0 c0 a 1) (pieceT xf.2.1 a st1) (c0 - a) ((xf.2.1.drop a).take (pieceT xf.2.1 a st1)) := (hF0.sl.dropI a (by omega)).take _ (by omega)
        have hBX : ∀ j, B0 ≤ j → w.heap.size ≤ j := fun j h => Nat.le_trans hB0s h
        have hBc := hMC.size
        refine o_appendF ((xf.2.1.drop a).take (pieceT xf.2.1 a st1)) u31 inf5 rfl rfl hK (by rw [← flat_single]; exact src_pure u31 hsrc (by decide)) hsrc.len (by omega) ?_
        intro pz cz w14 hK1 hpp hO2 hKo
        have hMa : Mod B0 5 w7 w14 := hO2.mod hK
        have hMC := hMC.trans hMa
        have hX := hX.mod hMa hB0s
        have hB6 := hB6.mod hMa (by decide)
        have hF0 := hF0.modB hMa hlo
        have hK := hK1.mono (S' := fun j => B0 ≤ j) (fun _ _ h => h.elim id fun h => Nat.le_trans (by rw [hB0]; exact hBc) h)
        skip
        refine p1 (x_assign (by conv => lhs; whnf)) ?_
        refine r_nil ?_
        refine t_n ?_
        refine c_seq ?_
        refine c_seq ?_
        refine r_plain ?_
        refine p1 (x_move (by conv => lhs; whnf)) ?_
        refine p1 (x_gtr rfl rfl) ?_
        refine r_nil ?_
        refine t_n ?_
        first | refine c_dec rfl (fun hc85 => ?_) (fun hc85 => ?_) | refine c_if rfl (fun hc85 => ?_) (fun hc85 => ?_)
        · try simp only [decide_eq_true_eq, decide_eq_false_iff_not, Bool.not_eq_true, Bool.not_eq_false, Bool.not_eq_eq_eq_not, Bool.not_true, Bool.not_false, Int.not_lt, Int.not_le] at hc85
          have hif : (if 0 < pieceT xf.2.1 a st1 then a + pieceT xf.2.1 a st1 else m) = a + pieceT xf.2.1 a st1 := if_pos (by rw [hpt]; omega)
          refine r_plain ?_
          refine p1 (x_move (by conv => lhs; whnf)) ?_
          refine p1 (x_move (by conv => lhs; whnf)) ?_
          refine p1 ((x_add rfl rfl (fits_i64 (by omega) (by omega))).cast (congrArg (Value.int .i64) (by rw [hpt]; omega : _ = ((a + pieceT xf.2.1 a st1 : Nat) : Int)))) ?_
          refine p1 (x_assign (by conv => lhs; whnf)) ?_
          refine r_nil ?_
          refine t_n ?_
          refine c_seq ?_
          refine r_plain ?_
          refine p1 (x_move (by conv => lhs; whnf)) ?_
          refine p1 (x_move (by conv => lhs; whnf)) ?_
          refine p1 (x_move (by conv => lhs; whnf)) ?_
          refine p1 (x_len_slice u31 rfl) ?_
          refine p1 ((x_sub rfl rfl (fits_i64 (by omega) (by omega))).cast (congrArg (Value.int .i64) (by omega : _ = ((pieceE xf.2.1 a - (a + pieceT xf.2.1 a st1) : Nat) : Int)))) ?_
          have hBc := hMC.size
          refine o_appendZ u31 u3 inf5 rfl rfl hK (by omega) ?_
          intro pz2 cz2 w15 hK1 hpp2 hO3 hKo2
          have hMa : Mod B0 5 w14 w15 := hO3.mod hK
          have hMC := hMC.trans hMa
          have hX := hX.mod hMa hB0s
          have hB6 := hB6.mod hMa (by decide)
          have hF0 := hF0.modB hMa hlo
          have hK := hK1.mono (S' := fun j => B0 ≤ j) (fun _ _ h => h.elim id fun h => Nat.le_trans (by rw [hB0]; exact hBc) h)
          have hsz : a + pieceT xf.2.1 a st1 + (pieceE xf.2.1 a - (a + pieceT xf.2.1 a st1)) = pieceE xf.2.1 a := by omega
          rw [hsz] at hK
          refine Lst.cast (congrArg (fun z => fr _ (upd _ _ (Value.slice pz2 z cz2))) hsz.symm) ?_
          refine p1 (x_assign (by conv => lhs; whnf)) ?_
          refine r_nil ?_
          refine t_n ?_
          refine r_plain ?_
          refine p1 (x_move (by conv => lhs; whnf)) ?_
          refine p1 (x_assign (by conv => lhs; whnf)) ?_
          refine r_nil ?_
          refine b_n ?_
          rw [hpe2, hif] at hpe
          first
            | exact t_n (At.mk ((fu2, pieceE xf.2.1 a, a + pieceT xf.2.1 a st1, _, pz2, cz2, st1.tail, adw pst cst 1 1, nst - 1, cst - 1)) (by repeat (first | exact Agr.refl _ _ | exact Agr.hav _ _ _ | refine Agr.upd rfl ?_ | refine Agr.updR rfl ?_ | refine Agr.updL ?_ _ rfl | refine Agr.hav' rfl ?_)) ⟨rfl, rfl, rfl, rfl, trivial⟩ ⟨⟨hX, ⟨hMC, hK, hB6, hF0, hE2_, by omega, hfu2, hpe, htl⟩⟩, by first | (dsimp only; omega) | ((show _ < _); omega)⟩)
            | exact t_n (At.mk ((fu2, pieceE xf.2.1 a, a + pieceT xf.2.1 a st1, _, pz2, cz2, st1.tail, pst, nst, cst)) (by repeat (first | exact Agr.refl _ _ | exact Agr.hav _ _ _ | refine Agr.upd rfl ?_ | refine Agr.updR rfl ?_ | refine Agr.updL ?_ _ rfl | refine Agr.hav' rfl ?_)) ⟨rfl, rfl, rfl, rfl, trivial⟩ ⟨⟨hX, ⟨hMC, hK, hB6, hF0, hE2_, by omega, hfu2, hpe, by rw [htl]; exact hst1⟩⟩, by first | (dsimp only; omega) | ((show _ < _); omega)⟩)
            | exact t_n (At.mk ((fu2, pieceE xf.2.1 a, m, _, pz2, cz2, st1.tail, adw pst cst 1 1, nst - 1, cst - 1)) (by repeat (first | exact Agr.refl _ _ | exact Agr.hav _ _ _ | refine Agr.upd rfl ?_ | refine Agr.updR rfl ?_ | refine Agr.updL ?_ _ rfl | refine Agr.hav' rfl ?_)) ⟨rfl, rfl, rfl, rfl, trivial⟩ ⟨⟨hX, ⟨hMC, hK, hB6, hF0, hE2_, by omega, hfu2, hpe, htl⟩⟩, by first | (dsimp only; omega) | ((show _ < _); omega)⟩)
            | exact t_n (At.mk ((fu2, pieceE xf.2.1 a, m, _, pz2, cz2, st1.tail, pst, nst, cst)) (by repeat (first | exact Agr.refl _ _ | exact Agr.hav _ _ _ | refine Agr.upd rfl ?_ | refine Agr.updR rfl ?_ | refine Agr.updL ?_ _ rfl | refine Agr.hav' rfl ?_)) ⟨rfl, rfl, rfl, rfl, trivial⟩ ⟨⟨hX, ⟨hMC, hK, hB6, hF0, hE2_, by omega, hfu2, hpe, by rw [htl]; exact hst1⟩⟩, by first | (dsimp only; omega) | ((show _ < _); omega)⟩)
        · try simp only [decide_eq_true_eq, decide_eq_false_iff_not, Bool.not_eq_true, Bool.not_eq_false, Bool.not_eq_eq_eq_not, Bool.not_true, Bool.not_false, Int.not_lt, Int.not_le] at hc85
          have hif : (if 0 < pieceT xf.2.1 a st1 then a + pieceT xf.2.1 a st1 else m) = m := if_neg (by rw [hpt]; omega)
          refine c_skip ?_
          refine t_n ?_
          refine c_seq ?_
          refine r_plain ?_
          refine p1 (x_move (by conv => lhs; whnf)) ?_
          refine p1 (x_move (by conv => lhs; whnf)) ?_
          refine p1 (x_move (by conv => lhs; whnf)) ?_
          refine p1 (x_len_slice u31 rfl) ?_
          refine p1 ((x_sub rfl rfl (fits_i64 (by omega) (by omega))).cast (congrArg (Value.int .i64) (by omega : _ = ((pieceE xf.2.1 a - (a + pieceT xf.2.1 a st1) : Nat) : Int)))) ?_
          have hBc := hMC.size
          refine o_appendZ u31 u3 inf5 rfl rfl hK (by omega) ?_
          intro pz2 cz2 w16 hK1 hpp2 hO3 hKo2
          have hMa : Mod B0 5 w14 w16 := hO3.mod hK
          have hMC := hMC.trans hMa
          have hX := hX.mod hMa hB0s
          have hB6 := hB6.mod hMa (by decide)
          have hF0 := hF0.modB hMa hlo
          have hK := hK1.mono (S' := fun j => B0 ≤ j) (fun _ _ h => h.elim id fun h => Nat.le_trans (by rw [hB0]; exact hBc) h)
          have hsz : a + pieceT xf.2.1 a st1 + (pieceE xf.2.1 a - (a + pieceT xf.2.1 a st1)) = pieceE xf.2.1 a := by omega
          rw [hsz] at hK
          refine Lst.cast (congrArg (fun z => fr _ (upd _ _ (Value.slice pz2 z cz2))) hsz.symm) ?_
          refine p1 (x_assign (by conv => lhs; whnf)) ?_
          refine r_nil ?_
          refine t_n ?_
          refine r_plain ?_
          refine p1 (x_move (by conv => lhs; whnf)) ?_
          refine p1 (x_assign (by conv => lhs; whnf)) ?_
          refine r_nil ?_
          refine b_n ?_
          rw [hpe2, hif] at hpe
          first
            | exact t_n (At.mk ((fu2, pieceE xf.2.1 a, a + pieceT xf.2.1 a st1, _, pz2, cz2, st1.tail, adw pst cst 1 1, nst - 1, cst - 1)) (by repeat (first | exact Agr.refl _ _ | exact Agr.hav _ _ _ | refine Agr.upd rfl ?_ | refine Agr.updR rfl ?_ | refine Agr.updL ?_ _ rfl | refine Agr.hav' rfl ?_)) ⟨rfl, rfl, rfl, rfl, trivial⟩ ⟨⟨hX, ⟨hMC, hK, hB6, hF0, hE2_, by omega, hfu2, hpe, htl⟩⟩, by first | (dsimp only; omega) | ((show _ < _); omega)⟩)
            | exact t_n (At.mk ((fu2, pieceE xf.2.1 a, a + pieceT xf.2.1 a st1, _, pz2, cz2, st1.tail, pst, nst, cst)) (by repeat (first | exact Agr.refl _ _ | exact Agr.hav _ _ _ | refine Agr.upd rfl ?_ | refine Agr.updR rfl ?_ | refine Agr.updL ?_ _ rfl | refine Agr.hav' rfl ?_)) ⟨rfl, rfl, rfl, rfl, trivial⟩ ⟨⟨hX, ⟨hMC, hK, hB6, hF0, hE2_, by omega, hfu2, hpe, by rw [htl]; exact hst1⟩⟩, by first | (dsimp only; omega) | ((show _ < _); omega)⟩)
            | exact t_n (At.mk ((fu2, pieceE xf.2.1 a, m, _, pz2, cz2, st1.tail, adw pst cst 1 1, nst - 1, cst - 1)) (by repeat (first | exact Agr.refl _ _ | exact Agr.hav _ _ _ | refine Agr.upd rfl ?_ | refine Agr.updR rfl ?_ | refine Agr.updL ?_ _ rfl | refine Agr.hav' rfl ?_)) ⟨rfl, rfl, rfl, rfl, trivial⟩ ⟨⟨hX, ⟨hMC, hK, hB6, hF0, hE2_, by omega, hfu2, hpe, htl⟩⟩, by first | (dsimp only; omega) | ((show _ < _); omega)⟩)
            | exact t_n (At.mk ((fu2, pieceE xf.2.1 a, m, _, pz2, cz2, st1.tail, pst, nst, cst)) (by repeat (first | exact Agr.refl _ _ | exact Agr.hav _ _ _ | refine Agr.upd rfl ?_ | refine Agr.updR rfl ?_ | refine Agr.updL ?_ _ rfl | refine Agr.hav' rfl ?_)) ⟨rfl, rfl, rfl, rfl, trivial⟩ ⟨⟨hX, ⟨hMC, hK, hB6, hF0, hE2_, by omega, hfu2, hpe, by rw [htl]; exact hst1⟩⟩, by first | (dsimp only; omega) | ((show _ < _); omega)⟩)
    · try simp only [decide_eq_true_eq, decide_eq_false_iff_not, Bool.not_eq_true, Bool.not_eq_false, Bool.not_eq_eq_eq_not, Bool.not_true, Bool.not_false, Int.not_lt, Int.not_le] at hc44
      have hnlt : ¬ a < xf.2.1.length := by omega
      rw [pieces_end hnlt] at hpe
      have hw1 : wakeF xf.2 (wakeL (D.l.take k) st).2 = (kept.take m, m) := by unfold wakeF; rw [← hpe]
      have hw2 : (wakeR xf.2 (wakeL (D.l.take k) st).2).2.2 = st1 := by rw [← hpe]
      rw [hw2] at hst2
      rw [hw1] at hins hus
      refine c_exit ?_
      refine t_e ?_
      refine t_e ?_
      refine b_hit ?_
      refine t_n ?_
      refine c_seq ?_
      refine r_tail 10 mixed (by kernel_rfl) ?_
      intro w17 hE17
      have hX := hX.ext hE17
      have hMC := hMC.ext hE17
      have hK := hK.ext hE17
      have hB6 := hB6.ext hE17
      have hF0 := hF0.ext hE17
      refine s1 (x_move (by conv => lhs; whnf)) ?_
      refine s1 (x_nilCheck rfl) ?_
      refine s1 (x_fieldAddr fo66_2 sz64 rfl) ?_
      refine s1 (x_load1 un64 rfl ((hBp.mod hMC (by decide)).cell rfl)) ?_
      refine s1 (x_move (by conv => lhs; whnf)) ?_
      refine s1 (x_move (by conv => lhs; whnf)) ?_
      refine s1 (x_move (by conv => lhs; whnf)) ?_
      refine s1 (x_slice_hN u31 sz5 rfl rfl (by omega)) ?_
      refine s1 (x_move (by conv => lhs; whnf)) ?_
      refine s1 (x_build2 pl76 (by conv => lhs; whnf) (by conv => lhs; whnf) rfl rfl) ?_
      refine s_nil ?_
      have hB := hBp.mod hMC (by decide)
      have hM := hMp.mod hMC (Nat.zero_le _) (by decide)
      have hF := hFp.modB hMC (by rw [hB0]; exact Nat.le_refl _)
      have hN := hNp.mod hMC (Nat.zero_le _) (by decide)
      have hap := apart_new hFp (hK.take m (by omega)) (B := B0) (fun _ h => h) (by rw [hB0]; exact Nat.le_refl _)
      have hKm := (hK.take m (by omega)).mono (S' := (fun j => S j ∨ w.heap.size ≤ j)) (fun _ _ h => .inr (Nat.le_trans hB0s h))
      have hMt18 := hM.tyOf
      refine o_update1 (a := xf.1) (b := (qk, m, ck, m)) u64 (keyOk_str u9) rfl rfl rfl hM rfl (Nat.zero_le _) (by decide) ?_
      intro w18 hM hMm18 hne18
      have hO18 := One.ofMod hMm18 hMt18 hne18
      have hX := hX.one hO18 ⟨.inl hSr, by decide⟩
      have hB := hB.one hO18 (by decide)
      have hF := hF.one hO18 (by decide)
      have hN := hN.oneT hO18 (by decide)
      have hKm := hKm.one hO18 (by decide)
      have hF := hF.put (rise_names hok.rise (mid_names D.l k st)) xf.1 (qk, m, ck, m) (kept.take m, m) rfl hKm (fun k' y _ hy => hap k' y hy)
      rw [hins] at hF
      refine r_nil ?_
      refine t_n ?_
      refine r_plain ?_
      refine p1 (x_move (by conv => lhs; whnf)) ?_
      refine p1 (x_nilCheck rfl) ?_
      refine p1 (x_fieldAddr fo66_1 sz3 rfl) ?_
      refine p1 (x_load1 un3 rfl (hB.cell (rfl))) ?_
      refine p1 (x_move (by conv => lhs; whnf)) ?_
      have hul := (wakeL_used (l := D.l.take k) (fun y hy => hok.safe y (List.mem_of_mem_take hy)) st).1
      have hul2 := usedL_take D.l k
      refine p1 ((x_add rfl rfl (fits_i64 (by omega) (by omega))).cast (congrArg (Value.int .i64) (by rw [hus]; simp only [List.length_take]; omega : _ = ((usedL (wakeL (D.l.take (k + 1)) st).1 : Nat) : Int)))) ?_
      refine p1 (x_nilCheck rfl) ?_
      refine p1 (x_fieldAddr fo66_1 sz3 rfl) ?_
      refine o_store1 rfl (by conv => lhs; whnf) rfl rfl sz3 hB (by simp) ?_
      intro w19 hP19
      have hX := hX.put hP19 (⟨.inl hSg, by decide⟩)
      have hM := hM.mod (hP19.mod 0 (Nat.zero_le _)) (Nat.zero_le _) (by decide)
      have hF := hF.one hP19.one (by decide)
      have hB := hP19.blk
      simp only [List.setIfInBounds_toArray, List.set_cons_zero, List.set_cons_succ] at hB
      have hN := hN.oneT hP19.one (by decide)
      refine r_nil ?_
      refine b_n ?_
      refine t_n ?_
      refine r_plain ?_
      refine p1 (x_add rfl rfl (fits_i64 (by omega) (by omega))) ?_
      refine p1 (x_move (by conv => lhs; whnf)) ?_
      refine r_nil ?_
      refine t_n (At.mk ((k + 1, mset μ1 xf.1 (some (qk, m, ck, m)), pst, nst, cst)) (by repeat (first | exact Agr.refl _ _ | exact Agr.hav _ _ _ | refine Agr.upd rfl ?_ | refine Agr.updR rfl ?_ | refine Agr.updL ?_ _ rfl | refine Agr.hav' rfl ?_)) ⟨rfl, rfl, trivial⟩ ?_)
      exact ⟨⟨hX, ⟨by omega, hB, hM, hF, hN, by rw [hst2]; exact hst1⟩⟩, by show D.l.length - (k + 1) < D.l.length - k; omega⟩
  · try simp only [decide_eq_true_eq, decide_eq_false_iff_not, Bool.not_eq_true, Bool.not_eq_false, Bool.not_eq_eq_eq_not, Bool.not_true, Bool.not_false, Int.not_lt, Int.not_le] at hc21
    have hke : D.l.length ≤ k := by omega
    rw [mid_end hke] at hF
    rw [List.take_of_length_le hke] at hB
    refine c_exit ?_
    refine t_e ?_
    refine t_e ?_
    refine b_hit ?_
    refine t_n ?_
    refine r_plain ?_
    refine p1 (x_move (by conv => lhs; whnf)) ?_
    refine p1 (x_move (by conv => lhs; whnf)) ?_
    refine p1 (x_move (by conv => lhs; whnf)) ?_
    refine p1 (x_nilCheck rfl) ?_
    refine p1 (x_fieldAddr fo66_6 sz4 rfl) ?_
    refine o_store1 rfl (by conv => lhs; whnf) rfl rfl sz4 hB (by simp) ?_
    intro w20 hP20
    have hX := hX.put hP20 (⟨.inl hSg, by decide⟩)
    have hB := hP20.blk
    simp only [List.setIfInBounds_toArray, List.set_cons_zero, List.set_cons_succ] at hB
    have hM := hM.mod (hP20.mod 0 (Nat.zero_le _)) (Nat.zero_le _) (by decide)
    have hF := hF.one hP20.one (by decide)
    have hN := hN.oneT hP20.one (by decide)
    refine p1 (x_nilCheck rfl) ?_
    refine p1 (x_fieldAddr fo66_4 sz3 rfl) ?_
    refine o_store1 rfl (by conv => lhs; whnf) rfl rfl sz3 hB (by simp) ?_
    intro w21 hP21
    have hX := hX.put hP21 (⟨.inl hSg, by decide⟩)
    have hB := hP21.blk
    simp only [List.setIfInBounds_toArray, List.set_cons_zero, List.set_cons_succ] at hB
    have hM := hM.mod (hP21.mod 0 (Nat.zero_le _)) (Nat.zero_le _) (by decide)
    have hF := hF.one hP21.one (by decide)
    have hN := hN.oneT hP21.one (by decide)
    refine p1 (x_nilCheck rfl) ?_
    refine p1 (x_fieldAddr fo66_5 sz4 rfl) ?_
    refine o_store1 rfl (by conv => lhs; whnf) rfl rfl sz4 hB (by simp) ?_
    intro w22 hP22
    have hX := hX.put hP22 (⟨.inl hSg, by decide⟩)
    have hB := hP22.blk
    simp only [List.setIfInBounds_toArray, List.set_cons_zero, List.set_cons_succ] at hB
    have hM := hM.mod (hP22.mod 0 (Nat.zero_le _)) (Nat.zero_le _) (by decide)
    have hF := hF.one hP22.one (by decide)
    have hN := hN.oneT hP22.one (by decide)
    refine r_nil ?_
    refine end0n rfl ?_
    first
      | exact ⟨Dsk.of (D := startD D st) hB hM hSg (.inl hSr) hF (fun _ _ h => h), hX⟩
end Go.Proofs.Eng
end
section
set_option linter.unusedVariables false
set_option linter.unusedSimpArgs false
set_option maxRecDepth 100000
set_option maxHeartbeats 4000000
namespace Go.Proofs.Eng
open Go.RowKit
open Extern.Stop (cell)
theorem fb11 : Try.f11.body.isNone = false := by kernel_rfl
theorem fb14 : Try.f14.body.isNone = false := by kernel_rfl
theorem fb17 : Try.f17.body.isNone = false := by kernel_rfl
theorem fb19 : Try.f19.body.isNone = false := by kernel_rfl
theorem fb22 : Try.f22.body.isNone = false := by kernel_rfl
theorem fb23 : Try.f23.body.isNone = false := by kernel_rfl
theorem fb26 : Try.f26.body.isNone = false := by kernel_rfl
theorem fn11 : (Try.f11.name == "runtime.NumGoroutine") = false := by kernel_rfl
theorem fn14 : (Try.f14.name == "runtime.NumGoroutine") = false := by kernel_rfl
theorem fn17 : (Try.f17.name == "runtime.NumGoroutine") = false := by kernel_rfl
theorem fn19 : (Try.f19.name == "runtime.NumGoroutine") = false := by kernel_rfl
theorem fn22 : (Try.f22.name == "runtime.NumGoroutine") = false := by kernel_rfl
theorem fn23 : (Try.f23.name == "runtime.NumGoroutine") = false := by kernel_rfl
theorem fn26 : (Try.f26.name == "runtime.NumGoroutine") = false := by kernel_rfl
theorem u5 : Try.prog.underlying 5 = some (.int .u8) := by kernel_rfl
end Go.Proofs.Eng
end
section
set_option linter.unusedVariables false
set_option linter.unusedSimpArgs false
set_option maxRecDepth 100000
set_option maxHeartbeats 4000000
namespace Go.Proofs.Eng
open Go.RowKit
open Extern.Stop (cell)
theorem disk_awake (w : World) :
    Ret Try.prog 16 [] w (fun v w' => v = .bool true ∧ Ext w w') := by
  have hX := Ext.refl w
  refine enter 66 _ Try.func16 rfl rfl (Nat.le_of_ble_eq_true rfl) rfl ?_
  refine c_seq ?_
  refine r_plain ?_
  refine p1 (x_assign (by conv => lhs; whnf)) ?_
  refine r_nil ?_
  refine t_n ?_
  refine c_seq ?_
  refine r_plain ?_
  have hXs1 := hX.size
  refine o_call Try.func11 fn11 fb11 (disk_New 9 _) rfl ?_
  rintro v1 w1 ⟨⟨g, rfl, hD0⟩, hE1⟩
  have hX := hX.ext hE1
  have hD : Dsk (since w) w1 g (newD 9) := hD0.all (fun _ h => h.elim) hXs1
  skip
  refine p1 (x_assign (by conv => lhs; whnf)) ?_
  refine r_nil ?_
  refine t_n ?_
  refine c_seq ?_
  refine c_seq ?_
  refine r_plain ?_
  refine p1 (x_move (by conv => lhs; whnf)) ?_
  rw [aw0] at hD
  have hXs2 := hX.size
  refine o_call Try.func17 fn17 fb17 (Ret.known (disk_Create g (since w) (aw 0 []) _ hD (newD_ok 9) (by decide) (by decide) kA (by decide)) (by rw [aw1] : _ = Value.int .i64 0)) rfl ?_
  rintro v2 w2 ⟨rfl, hD2, hM2⟩
  rw [aw1] at hD2
  have hD : Dsk (since w) w2 g (aw 1 [(kA, ([], 0))]) := hD2.all (since_le w) hXs2
  have hX := hX.modS hM2 (since_le w)
  skip
  refine p1 ((x_neq rfl rfl).cast (congrArg _ (decide_eq_false (by decide)))) ?_
  refine p1 (x_move (by conv => lhs; whnf)) ?_
  refine g1 8 rfl rfl (x_move (by conv => lhs; whnf)) ?_
  have hDp := hD
  have hXp := hX
  obtain ⟨B10, hB10⟩ : ∃ B, B = w2.heap.size := ⟨_, rfl⟩
  refine g_drop 8 rfl rfl ?_
  refine o_buildSlice u31 inf5 rfl (by decide) (fun base hb => fill_kn [.int .u8 120, .int .u8 121] (by intro v hv'; simp only [List.mem_cons, List.not_mem_nil, or_false] at hv'; rcases hv' with rfl | rfl <;> rfl) base hb) ?_
  intro w3 g10 hN10
  have hE3 := hN10.ext
  have hX := hX.ext hE3
  have hD := hD.ext hE3
  have hJ10 : Own kByte 5 0 0 w3 (some ⟨g10, 0, none⟩) 2 2 [120, 121] := own_lit [120, 121] hN10 (Nat.zero_le _) (by simp)
  have hM10 : Mod B10 5 _ w3 := Mod.ofExt hE3
  refine g_drop 8 rfl rfl ?_
  refine o_convBB u31 u5 rfl hN10.blk ?_
  intro w4 hO4 hR4
  have hM10 := hM10.trans (hO4.mod (B := B10) (by rw [hB10, hN10.g_eq]; exact Nat.le_refl _))
  have hD := hDp.modB hM10 (by rw [hB10]; exact Nat.le_refl _)
  have hX := hXp.mod hM10 (by rw [hB10]; exact hXp.size)
  have hs10 := slx hJ10.sl hR4
  skip
  refine g_drop 8 rfl rfl ?_
  have hXs5 := hX.size
  refine o_call Try.func19 fn19 fb19 (Ret.known (disk_Append g (since w) (aw 1 [(kA, ([], 0))]) _ hD (aw_ok (by decide) (by decide)) (by decide) (by decide) kA (by decide) _ _ _ _ _ [120, 121] hs10) (by rw [aw2] : _ = Value.int .i64 0)) rfl ?_
  rintro v5 w5 ⟨rfl, hD2, hM2⟩
  rw [aw2] at hD2
  have hD : Dsk (since w) w5 g (aw 2 [(kA, ([120, 121], 0))]) := hD2.all (since_le w) hXs5
  have hX := hX.modS hM2 (since_le w)
  skip
  refine g1 8 rfl rfl ((x_neq rfl rfl).cast (congrArg _ (decide_eq_false (by decide)))) ?_
  refine p1 (x_pick_f rfl (by conv => lhs; whnf)) ?_
  refine p1 (x_move (by conv => lhs; whnf)) ?_
  refine g1 15 rfl rfl (x_move (by conv => lhs; whnf)) ?_
  refine g_drop 15 rfl rfl ?_
  have hXs6 := hX.size
  refine o_call Try.func23 fn23 fb23 (Ret.known (disk_Sync g (since w) (aw 2 [(kA, ([120, 121], 0))]) _ hD (aw_ok (by decide) (by decide)) (by decide) (by decide) kA (by decide)) (by rw [aw3] : _ = Value.int .i64 0)) rfl ?_
  rintro v6 w6 ⟨rfl, hD2, hM2⟩
  rw [aw3] at hD2
  have hD : Dsk (since w) w6 g (aw 3 [(kA, ([120, 121], 2))]) := hD2.all (since_le w) hXs6
  have hX := hX.modS hM2 (since_le w)
  skip
  refine g1 15 rfl rfl ((x_neq rfl rfl).cast (congrArg _ (decide_eq_false (by decide)))) ?_
  refine p1 (x_pick_f rfl (by conv => lhs; whnf)) ?_
  refine p1 (x_move (by conv => lhs; whnf)) ?_
  refine g1 20 rfl rfl (x_move (by conv => lhs; whnf)) ?_
  have hDp := hD
  have hXp := hX
  obtain ⟨B22, hB22⟩ : ∃ B, B = w6.heap.size := ⟨_, rfl⟩
  refine g_drop 20 rfl rfl ?_
  refine o_buildSlice u31 inf5 rfl (by decide) (fun base hb => fill_one (by rfl) base hb) ?_
  intro w7 g22 hN22
  have hE7 := hN22.ext
  have hX := hX.ext hE7
  have hD := hD.ext hE7
  have hJ22 : Own kByte 5 0 0 w7 (some ⟨g22, 0, none⟩) 1 1 [122] := own_lit [122] hN22 (Nat.zero_le _) (by simp)
  have hM22 : Mod B22 5 _ w7 := Mod.ofExt hE7
  refine g_drop 20 rfl rfl ?_
  refine o_convBB u31 u5 rfl hN22.blk ?_
  intro w8 hO8 hR8
  have hM22 := hM22.trans (hO8.mod (B := B22) (by rw [hB22, hN22.g_eq]; exact Nat.le_refl _))
  have hD := hDp.modB hM22 (by rw [hB22]; exact Nat.le_refl _)
  have hX := hXp.mod hM22 (by rw [hB22]; exact hXp.size)
  have hs22 := slx hJ22.sl hR8
  skip
  refine g_drop 20 rfl rfl ?_
  have hXs9 := hX.size
  refine o_call Try.func19 fn19 fb19 (Ret.known (disk_Append g (since w) (aw 3 [(kA, ([120, 121], 2))]) _ hD (aw_ok (by decide) (by decide)) (by decide) (by decide) kA (by decide) _ _ _ _ _ [122] hs22) (by rw [aw4] : _ = Value.int .i64 0)) rfl ?_
  rintro v9 w9 ⟨rfl, hD2, hM2⟩
  rw [aw4] at hD2
  have hD : Dsk (since w) w9 g (aw 4 [(kA, ([120, 121, 122], 2))]) := hD2.all (since_le w) hXs9
  have hX := hX.modS hM2 (since_le w)
  skip
  refine g1 20 rfl rfl ((x_neq rfl rfl).cast (congrArg _ (decide_eq_false (by decide)))) ?_
  refine p1 (x_pick_f rfl (by conv => lhs; whnf)) ?_
  refine r_nil ?_
  refine t_n ?_
  refine c_f (rfl) ?_
  refine c_skip ?_
  refine t_n ?_
  refine c_seq ?_
  refine r_plain ?_
  refine p1 (x_move (by conv => lhs; whnf)) ?_
  have hXs10 := hX.size
  refine o_call Try.func26 fn26 fb26 (disk_Start g (since w) (aw 4 [(kA, ([120, 121, 122], 2))]) _ hD (aw_ok (by decide) (by decide)) [] none 0 0 (Out.nil _ _)) rfl ?_
  rintro v10 w10 ⟨hD2, hM2⟩
  rw [aw5] at hD2
  have hD : Dsk (since w) w10 g (aw 4 [(kA, ([120, 121], 2))]) := hD2.all (since_le w) hXs10
  have hX := hX.modS hM2 (since_le w)
  skip
  refine r_nil ?_
  refine t_n ?_
  refine c_seq ?_
  refine r_plain ?_
  refine p1 (x_move (by conv => lhs; whnf)) ?_
  refine o_call Try.func14 fn14 fb14 (disk_Read g (since w) (aw 4 [(kA, ([120, 121], 2))]) _ hD (aw_ok (by decide) (by decide)) kA (by decide)) rfl ?_
  rintro v11 w11 ⟨⟨q9, n9, c9, rfl, hO⟩, hE11⟩
  have hX := hX.ext hE11
  have hD := hD.ext hE11
  rw [aw6] at hO
  refine p1 (x_move (by conv => lhs; whnf)) ?_
  refine p1 (x_extract rfl rfl) ?_
  refine p1 (x_extract rfl rfl) ?_
  refine p1 (x_assign (by conv => lhs; whnf)) ?_
  refine p1 (x_assign (by conv => lhs; whnf)) ?_
  refine r_nil ?_
  refine t_n ?_
  refine c_seq ?_
  refine r_plain ?_
  refine p1 (x_move (by conv => lhs; whnf)) ?_
  refine p1 (x_bytes_str u31 u5 u9 rfl hO.sl) ?_
  refine p1 ((x_eql_str rfl rfl).cast (congrArg _ (decide_eq_true (by rfl)))) ?_
  refine p1 (x_move (by conv => lhs; whnf)) ?_
  refine g1 37 rfl rfl (x_move (by conv => lhs; whnf)) ?_
  refine g1 37 rfl rfl ((x_eql rfl rfl).cast (congrArg _ (decide_eq_true (by rw [aw6])))) ?_
  refine p1 (x_pick_t rfl (by conv => lhs; whnf)) ?_
  refine p1 (x_move (by conv => lhs; whnf)) ?_
  refine g1 41 rfl rfl (x_move (by conv => lhs; whnf)) ?_
  refine g_drop 41 rfl rfl ?_
  refine o_call Try.func22 fn22 fb22 (disk_Steps g (since w) (aw 4 [(kA, ([120, 121], 2))]) _ hD) rfl ?_
  rintro v12 w12 ⟨rfl, hE12⟩
  have hX := hX.ext hE12
  have hD := hD.ext hE12
  have hO := hO.ext hE12
  refine g1 41 rfl rfl ((x_eql rfl rfl).cast (congrArg _ (decide_eq_true (by rfl)))) ?_
  refine p1 (x_pick_t rfl (by conv => lhs; whnf)) ?_
  refine p1 (x_move (by conv => lhs; whnf)) ?_
  refine p1 (x_pick_t rfl (by conv => lhs; whnf)) ?_
  refine p1 (x_move (by conv => lhs; whnf)) ?_
  refine p1 (x_pick_t rfl (by conv => lhs; whnf)) ?_
  refine p1 (x_move (by conv => lhs; whnf)) ?_
  refine p1 (x_pick_t rfl (by conv => lhs; whnf)) ?_
  refine p1 (x_move (by conv => lhs; whnf)) ?_
  refine p1 (x_pick_t rfl (by conv => lhs; whnf)) ?_
  refine p1 (x_move (by conv => lhs; whnf)) ?_
  refine p1 (x_pick_t rfl (by conv => lhs; whnf)) ?_
  refine p1 (x_move (by conv => lhs; whnf)) ?_
  refine p1 (x_pick_t rfl (by conv => lhs; whnf)) ?_
  refine p1 (x_move (by conv => lhs; whnf)) ?_
  refine p1 (x_pick_t rfl (by conv => lhs; whnf)) ?_
  refine p1 (x_move (by conv => lhs; whnf)) ?_
  refine p1 (x_pick_t rfl (by conv => lhs; whnf)) ?_
  refine p1 (x_move (by conv => lhs; whnf)) ?_
  refine p1 (x_pick_t rfl (by conv => lhs; whnf)) ?_
  refine p1 (x_move (by conv => lhs; whnf)) ?_
  refine p1 (x_pick_t rfl (by conv => lhs; whnf)) ?_
  refine p1 (x_assign (by conv => lhs; whnf)) ?_
  refine r_nil ?_
  refine t_n ?_
  refine c_ret ?_
  refine end1 rfl (by conv => lhs; whnf) ?_
  exact ⟨rfl, hX⟩
end Go.Proofs.Eng
end
section
set_option linter.unusedVariables false
set_option linter.unusedSimpArgs false
set_option maxRecDepth 100000
set_option maxHeartbeats 4000000
namespace Go.Proofs.Eng
open Go.RowKit
open Extern.Stop (cell)
theorem fb16 : Try.f16.body.isNone = false := by kernel_rfl
theorem fb18 : Try.f18.body.isNone = false := by kernel_rfl
theorem fb20 : Try.f20.body.isNone = false := by kernel_rfl
theorem fb21 : Try.f21.body.isNone = false := by kernel_rfl
theorem fb24 : Try.f24.body.isNone = false := by kernel_rfl
theorem fb25 : Try.f25.body.isNone = false := by kernel_rfl
theorem fb29 : Try.f29.body.isNone = false := by kernel_rfl
theorem fb32 : Try.f32.body.isNone = false := by kernel_rfl
theorem fn16 : (Try.f16.name == "runtime.NumGoroutine") = false := by kernel_rfl
theorem fn18 : (Try.f18.name == "runtime.NumGoroutine") = false := by kernel_rfl
theorem fn20 : (Try.f20.name == "runtime.NumGoroutine") = false := by kernel_rfl
theorem fn21 : (Try.f21.name == "runtime.NumGoroutine") = false := by kernel_rfl
theorem fn24 : (Try.f24.name == "runtime.NumGoroutine") = false := by kernel_rfl
theorem fn25 : (Try.f25.name == "runtime.NumGoroutine") = false := by kernel_rfl
theorem fn29 : (Try.f29.name == "runtime.NumGoroutine") = false := by kernel_rfl
theorem fn32 : (Try.f32.name == "runtime.NumGoroutine") = false := by kernel_rfl
end Go.Proofs.Eng
end
section
set_option linter.unusedVariables false
set_option linter.unusedSimpArgs false
set_option maxRecDepth 100000
set_option maxHeartbeats 4000000
namespace Go.Proofs.Eng
open Go.RowKit
open Extern.Stop (cell)
theorem look_nil (p : Option Addr) (n c : Nat) (w : World) :
    Ret Try.prog 41 [.pointer none, .slice p n c] w (fun v w' => v = .int .i64 1 ∧ Ext w w') := by
  have hX := Ext.refl w
  refine enter 23 _ Try.func41 rfl rfl (Nat.le_of_ble_eq_true rfl) rfl ?_
  refine c_seq ?_
  refine r_plain ?_
  refine p1 (x_assign (by conv => lhs; whnf)) ?_
  refine r_nil ?_
  refine t_n ?_
  refine c_seq ?_
  refine c_seq ?_
  refine r_plain ?_
  refine p1 (x_move (by conv => lhs; whnf)) ?_
  refine p1 ((x_eql_ptrnil u23 rfl rfl).cast (congrArg _ (decide_eq_true (by simp)))) ?_
  refine r_nil ?_
  refine t_n ?_
  refine c_t rfl ?_
  refine c_seq ?_
  refine r_plain ?_
  refine p1 (x_assign (by conv => lhs; whnf)) ?_
  refine r_nil ?_
  refine t_n ?_
  refine c_ret ?_
  refine t_r ?_
  refine end1 rfl (by conv => lhs; whnf) ?_
  exact ⟨rfl, hX⟩
theorem append_nil (k : ByteArray) (p : Option Addr) (n c : Nat) (w : World) :
    Ret Try.prog 19 [.pointer none, .string k, .slice p n c] w (fun v w' => v = .int .i64 1 ∧ Ext w w') := by
  have hX := Ext.refl w
  refine enter 37 _ Try.func19 rfl rfl (Nat.le_of_ble_eq_true rfl) rfl ?_
  refine c_seq ?_
  refine r_plain ?_
  refine o_box1 (by conv => lhs; whnf) rfl ?_
  intro w1 g3 hN3
  have hE1 := hN3.ext
  have hX := hX.ext hE1
  have hB3 := hN3.blk
  refine o_box1 (by conv => lhs; whnf) rfl ?_
  intro w2 g4 hN4
  have hE2 := hN4.ext
  have hX := hX.ext hE2
  have hB3 := hB3.ext hE2
  have hB4 := hN4.blk
  refine o_box1 (by conv => lhs; whnf) rfl ?_
  intro w3 g5 hN5
  have hE3 := hN5.ext
  have hX := hX.ext hE3
  have hB3 := hB3.ext hE3
  have hB4 := hB4.ext hE3
  have hB5 := hN5.blk
  refine p1 (x_assign (by conv => lhs; whnf)) ?_
  refine r_nil ?_
  refine t_n ?_
  refine c_seq ?_
  refine c_seq ?_
  refine r_plain ?_
  refine p1 (x_load1 un23 rfl (hB3.cell (rfl))) ?_
  refine p1 (x_load1 un9 rfl (hB4.cell (rfl))) ?_
  refine o_buildSlice u51 inf9 rfl (by decide) (fun base hb => fill_one (by rfl) base hb) ?_
  intro w4 g10 hN10
  have hE4 := hN10.ext
  have hX := hX.ext hE4
  have hB3 := hB3.ext hE4
  have hB4 := hB4.ext hE4
  have hB5 := hB5.ext hE4
  refine o_call Try.func41 fn41 fb41 (look_nil _ _ _ _) rfl ?_
  rintro v5 w5 ⟨rfl, hE5⟩
  have hX := hX.ext hE5
  have hB3 := hB3.ext hE5
  have hB4 := hB4.ext hE5
  have hB5 := hB5.ext hE5
  refine p1 (x_assign (by conv => lhs; whnf)) ?_
  refine r_nil ?_
  refine t_n ?_
  refine c_block ?_
  refine c_seq ?_
  refine r_plain ?_
  refine p1 (x_move (by conv => lhs; whnf)) ?_
  refine p1 ((x_neq rfl rfl).cast (congrArg _ (decide_eq_true (by decide)))) ?_
  refine p1 (x_assign (by conv => lhs; whnf)) ?_
  refine r_nil ?_
  refine t_n ?_
  refine c_t rfl ?_
  refine c_seq ?_
  refine r_plain ?_
  refine p1 (x_move (by conv => lhs; whnf)) ?_
  refine p1 (x_assign (by conv => lhs; whnf)) ?_
  refine r_nil ?_
  refine t_n ?_
  refine c_ret ?_
  refine b_r ?_
  refine t_r ?_
  refine end1 rfl (by conv => lhs; whnf) ?_
  exact ⟨rfl, hX⟩
end Go.Proofs.Eng
end
section
set_option linter.unusedVariables false
set_option linter.unusedSimpArgs false
namespace Go.Proofs.Eng
open Go.RowKit
def d1 : DS := { most := 1048576, l := [(kA, ([], 0))], steps := 1, left := -1, done := false, down := false }
end Go.Proofs.Eng
end
section
set_option linter.unusedVariables false
set_option linter.unusedSimpArgs false
set_option maxRecDepth 100000
set_option maxHeartbeats 4000000
namespace Go.Proofs.Eng
open Go.RowKit
open Extern.Stop (cell)
theorem u4 : Try.prog.underlying 4 = some (.bool) := by kernel_rfl
end Go.Proofs.Eng
end
section
set_option linter.unusedVariables false
set_option linter.unusedSimpArgs false
set_option maxRecDepth 100000
set_option maxHeartbeats 4000000
namespace Go.Proofs.Eng
open Go.RowKit
open Extern.Stop (cell)
end Go.Proofs.Eng
end
section
set_option linter.unusedVariables false
set_option linter.unusedSimpArgs false
set_option maxRecDepth 100000
set_option maxHeartbeats 4000000
namespace Go.Proofs.Eng
open Go.RowKit
open Extern.Stop (cell)
theorem fo33_0 : fieldOf Try.prog 33 0 = some (5, 0) := by kernel_rfl
theorem fo33_1 : fieldOf Try.prog 33 1 = some (9, 1) := by kernel_rfl
theorem fo33_2 : fieldOf Try.prog 33 2 = some (9, 2) := by kernel_rfl
theorem fo33_3 : fieldOf Try.prog 33 3 = some (31, 3) := by kernel_rfl
theorem fo33_4 : fieldOf Try.prog 33 4 = some (3, 4) := by kernel_rfl
theorem fo33_5 : fieldOf Try.prog 33 5 = some (4, 5) := by kernel_rfl
theorem sz33 : (Try.prog.info? 33).map (·.size) = some 6 := by kernel_rfl
theorem u22 : Try.prog.underlying 22 = some (.slice 33) := by kernel_rfl
theorem ua33 : (Try.prog.underlying 33).map TypeDesc.isRow = some true := by kernel_rfl
end Go.Proofs.Eng
end
section
set_option linter.unusedVariables false
set_option linter.unusedSimpArgs false
set_option maxRecDepth 100000
set_option maxHeartbeats 4000000
namespace Go.Proofs.Eng
open Go.RowKit
open Extern.Stop (cell)
end Go.Proofs.Eng
end
section
set_option linter.unusedVariables false
set_option linter.unusedSimpArgs false
set_option maxRecDepth 100000
set_option maxHeartbeats 4000000
namespace Go.Proofs.Eng
open Go.RowKit
open Extern.Stop (cell)
end Go.Proofs.Eng
end
section
set_option linter.unusedVariables false
set_option linter.unusedSimpArgs false
set_option maxRecDepth 100000
set_option maxHeartbeats 4000000
namespace Go.Proofs.Eng
open Go.RowKit
open Extern.Stop (cell)
end Go.Proofs.Eng
end
section
set_option linter.unusedVariables false
set_option linter.unusedSimpArgs false
namespace Go.Proofs.Eng
open Go.RowKit
end Go.Proofs.Eng
end
section
set_option linter.unusedVariables false
set_option linter.unusedSimpArgs false
set_option maxRecDepth 100000
set_option maxHeartbeats 4000000
namespace Go.Proofs.Eng
open Go.RowKit
open Extern.Stop (cell)
end Go.Proofs.Eng
end
section
set_option linter.unusedVariables false
set_option linter.unusedSimpArgs false
set_option maxRecDepth 100000
set_option maxHeartbeats 4000000
namespace Go.Proofs.Eng
open Go.RowKit
open Extern.Stop (cell)
end Go.Proofs.Eng
end
section
set_option linter.unusedVariables false
set_option linter.unusedSimpArgs false
namespace Go.Proofs.Eng
open Go.RowKit
open Extern.Stop (cell)
/-! ### a disk's copy, as far as it has come -/
structure Cop (S : Nat → Prop) (w : World) (ν : ByteArray → Option Raw) (vs : List ByteArray) (l : List Fl) : Prop where
  has : ∀ k ∈ vs, ν k ≠ none
  yes : ∀ k y, ν k = some y → k ∈ vs ∧ ∃ f, ascA l k = some f ∧ y.2.2.2 = f.2 ∧ FB S w y.1 y.2.1 y.2.2.1 f.1
  ap : ∀ k k' y y', k ≠ k' → ν k = some y → ν k' = some y' → Apart y.1 y'.1
namespace Cop
variable {S : Nat → Prop} {w w' : World} {ν : ByteArray → Option Raw} {vs : List ByteArray} {l : List Fl} {t : TypeId} {r : Nat}
theorem none (S : Nat → Prop) (w : World) (l : List Fl) : Cop S w (fun _ => Option.none) [] l := ⟨fun _ h => (by cases h), fun _ _ h => (by cases h), fun _ _ _ _ _ h => (by cases h)⟩
theorem keep (h : Cop S w ν vs l) (hk : ∀ k x, ν k = some x → ∀ xs, FB S w x.1 x.2.1 x.2.2.1 xs → FB S w' x.1 x.2.1 x.2.2.1 xs) : Cop S w' ν vs l :=
  ⟨h.has, fun k x hx => by obtain ⟨h0, f, h1, h2, h3⟩ := h.yes k x hx; exact ⟨h0, f, h1, h2, hk k x hx _ h3⟩, h.ap⟩
theorem ext (h : Cop S w ν vs l) (x : Ext w w') : Cop S w' ν vs l := h.keep fun _ _ _ _ hf => hf.ext x
theorem one (h : Cop S w ν vs l) (m : One t r w w') (ht : t ≠ 5) : Cop S w' ν vs l := h.keep fun _ _ _ _ hf => hf.one m ht
theorem modT (h : Cop S w ν vs l) {B : Nat} (m : Mod B t w w') (ht : t ≠ 5) : Cop S w' ν vs l := h.keep fun _ _ _ _ hf => hf.modT m ht
theorem put (h : Cop S w ν vs l) {a : ByteArray} (ha : a ∉ vs) {x : Raw} {f : Fb} (hf : ascA l a = some f) (hs : x.2.2.2 = f.2) (hF : FB S w x.1 x.2.1 x.2.2.1 f.1) (hap : ∀ k y, ν k = some y → Apart x.1 y.1) : Cop S w (mset ν a (some x)) (vs ++ [a]) l := by
  refine ⟨fun k hk => ?_, fun k y hy => ?_, fun k k' y y' hne hy hy' => ?_⟩
  · unfold mset
    split
    · simp
    · rename_i e
      rcases List.mem_append.1 hk with hk | hk
      · exact h.has k hk
      · simp only [List.mem_singleton] at hk; exact absurd hk e
  · unfold mset at hy
    split at hy
    · rename_i e
      injection hy with hy; subst hy e
      exact ⟨by simp, f, hf, hs, hF⟩
    · obtain ⟨h0, h1⟩ := h.yes k y hy
      exact ⟨by simp [h0], h1⟩
  · unfold mset at hy hy'
    split at hy <;> split at hy'
    · rename_i e e'; exact absurd (e.trans e'.symm) hne
    · injection hy with hy; subst hy; exact hap k' y' hy'
    · injection hy' with hy'; subst hy'; exact (hap k y hy).symm
    · exact h.ap k k' y y' hne hy hy'
theorem apart (h : Cop S w ν vs l) {S2 : Nat → Prop} {w2 : World} {q : Option Addr} {n c : Nat} {xs : List UInt8} (hq : FB S2 w2 q n c xs) (hS : ∀ j, S2 j → w.heap.size ≤ j) : ∀ k y, ν k = some y → Apart q y.1 := fun k y hy => by
  obtain ⟨_, f, _, _, h3⟩ := h.yes k y hy
  rcases hq.ok with ⟨h1, _⟩ | ⟨g, cur, h1, h2, _⟩
  · exact .inl h1
  · refine .inr (.inr fun e => ?_)
    rw [h1] at e
    have := (h3.inS e.symm).2
    have := hS g h2
    omega
theorem fls (h : Cop S w ν vs l) (hall : ∀ z, z ∈ vs ↔ z ∈ l.map (·.1)) : Fls S w ν l :=
  ⟨fun k hk => Classical.byContradiction fun e => h.has k ((hall k).2 (asc_someA.1 e)) hk, fun k x hx => (h.yes k x hx).2, h.ap⟩
end Cop
end Go.Proofs.Eng
end
section
set_option linter.unusedVariables false
set_option linter.unusedSimpArgs false
set_option maxRecDepth 100000
set_option maxHeartbeats 4000000
namespace Go.Proofs.Eng
open Go.RowKit
open Extern.Stop (cell)
theorem sz66 : (Try.prog.info? 66).map (·.size) = some 7 := by kernel_rfl
theorem ua66 : (Try.prog.underlying 66).map TypeDesc.isRow = some true := by kernel_rfl
theorem zr66 : (Try.prog.info? 66).map (·.zero) = some (some (.agg #[.int .i64 0, .int .i64 0, .map none, .int .i64 0, .int .i64 0, .bool false, .bool false])) := by kernel_rfl
end Go.Proofs.Eng
end
section
set_option linter.unusedVariables false
set_option linter.unusedSimpArgs false
set_option maxRecDepth 100000
set_option maxHeartbeats 4000000
namespace Go.Proofs.Eng
open Go.RowKit
open Extern.Stop (cell)
theorem disk_Clone (g : Nat) (S : Nat → Prop) (D : DS) (w : World) (hD : Dsk S w g D) (hok : DOk D) :
    Ret Try.prog 32 [.pointer (some ⟨g, 0, none⟩)] w (fun v w' => (∃ g2, v = .pointer (some ⟨g2, 0, none⟩) ∧ Dsk (since w) w' g2 D) ∧ Ext w w') := by
  obtain ⟨r, μ, hB, hM, hSg, hSr, hF⟩ := hD.ex
  have hXs0 := Nat.le_refl w.heap.size
  have hX := Ext.refl w
  refine enter 37 _ Try.func32 rfl rfl (Nat.le_of_ble_eq_true rfl) rfl ?_
  refine c_seq ?_
  refine r_plain ?_
  refine p1 (x_assign (by conv => lhs; whnf)) ?_
  refine r_nil ?_
  refine t_n ?_
  refine c_seq ?_
  refine c_seq ?_
  refine r_plain ?_
  refine p1 (x_move (by conv => lhs; whnf)) ?_
  refine p1 ((x_eql_ptrnil u23 rfl rfl).cast (congrArg _ (decide_eq_false (by simp)))) ?_
  refine r_nil ?_
  refine t_n ?_
  refine c_f rfl ?_
  refine c_skip ?_
  refine t_n ?_
  refine c_seq ?_
  refine r_plain ?_
  refine p1 (x_move (by conv => lhs; whnf)) ?_
  refine p1 (x_nilCheck rfl) ?_
  refine p1 (x_loadB ua66 rfl hB (by exact sz66)) ?_
  have hgl := hB.lt
  have hrl := hM.lt
  have hXs := hX.size
  refine o_alloc zr66 ?_
  intro w1 g3 hN3
  have hE1 := hN3.ext
  have hX := hX.ext hE1
  have hB := hB.ext hE1
  have hM := hM.ext hE1
  have hF := hF.ext hE1
  have hB3 := hN3.blk
  have hg3 := hN3.g_eq
  have hnn : ∀ j, j < w1.heap.size → True := fun _ _ => trivial
  refine o_storeAll rfl (by conv => lhs; whnf) (by simp [Value.oneCell']) (by exact sz66) hB3 (by rfl) ?_
  intro w2 hP2
  have hX := hX.put hP2 (by rw [hN3.g_eq]; exact hXs)
  have hB := hP2.keep hB (by omega)
  have hM := hM.mod (hP2.mod 0 (Nat.zero_le _)) (Nat.zero_le _) (by decide)
  have hF := hF.one hP2.one (by decide)
  have hB3 := hP2.blk
  refine r_nil ?_
  refine t_n ?_
  refine c_seq ?_
  have hfew := hok.few
  refine r_plain ?_
  refine p1 (x_move (by conv => lhs; whnf)) ?_
  refine p1 (x_nilCheck rfl) ?_
  refine p1 (x_fieldAddr fo66_2 sz64 rfl) ?_
  refine p1 (x_load1 un64 rfl (hB.cell (rfl))) ?_
  refine p1 (x_len_mapF u64 hM hF hok.rise rfl) ?_
  have hXs := hX.size
  refine o_makeMap (κ := ByteArray) (ν := Raw) u64 rfl ?_
  intro w3 g16 hE3 hK16
  have hX := hX.ext hE3
  have hB := hB.ext hE3
  have hM := hM.ext hE3
  have hF := hF.ext hE3
  have hB3 := hB3.ext hE3
  have hM2 := hK16 kkStr vFile 0 w.heap.size (hXs)
  refine p1 (x_fieldAddr fo66_2 sz64 rfl) ?_
  skip
  refine o_store1 rfl (by conv => lhs; whnf) rfl rfl sz64 hB3 (by simp) ?_
  intro w4 hP4
  have hX := hX.put hP4 (by rw [hg3]; exact hXs0)
  have hB := hP4.keep hB (by omega)
  have hM := hM.mod (hP4.mod 0 (Nat.zero_le _)) (Nat.zero_le _) (by decide)
  have hF := hF.one hP4.one (by decide)
  have hB3 := hP4.blk
  simp only [List.setIfInBounds_toArray, List.set_cons_zero, List.set_cons_succ] at hB3
  have hM2 := hM2.mod (hP4.mod 0 (Nat.zero_le _)) (Nat.zero_le _) (by decide)
  refine r_nil ?_
  refine t_n ?_
  refine c_seq ?_
  refine c_seq ?_
  refine r_plain ?_
  refine p1 (x_move (by conv => lhs; whnf)) ?_
  refine p1 (x_nilCheck rfl) ?_
  refine p1 (x_fieldAddr fo66_2 sz64 rfl) ?_
  refine p1 (x_load1 un64 rfl (hB.cell (rfl))) ?_
  have hM2p := hM2
  have hXs := hX.size
  refine o_range u64 rfl hM ?_
  intro w5 it22 hE5 hit22 hK22
  have hX := hX.ext hE5
  have hB := hB.ext hE5
  have hM := hM.ext hE5
  have hF := hF.ext hE5
  have hB3 := hB3.ext hE5
  have hM2 := hM2.ext hE5
  have hR := hK22 w.heap.size (hXs)
  have hgi : g16 < it22 := by rw [hit22]; exact hM2p.lt
  refine r_nil ?_
  refine t_n ?_
  refine c_block ?_
  have hks : ∀ vs : List ByteArray, vs.Nodup → (∀ z ∈ vs, μ z ≠ none) → vs.length ≤ D.l.length := fun vs h1 h2 => by have := nodup_leN h1 (ks := D.l.map (·.1)) (fun z hz => asc_someA.1 (fun e => h2 z hz ((hF.iff z).2 e))); rwa [List.length_map] at this
  have hroom := hok.room
  have hmost := hok.most
  refine c_loop (ι := List ByteArray × (ByteArray → Option Raw)) [4, 5, 23, 24, 25, 26, 27, 28, 29, 30, 31, 32, 33, 34, 35, 36] (fun (vs, ν) => []) (fun (vs, ν) w' => Ext w w' ∧ (Rg kkStr vFile 0 w.heap.size w' r it22 μ vs ∧ Mp kkStr vFile 0 w.heap.size w' g16 ν ∧ Cop (since w) w' ν vs D.l ∧ Fls S w' μ D.l ∧ Blk w' g #[.int .i64 (D.most : Int), .int .i64 ((usedL D.l : Nat) : Int), .map (some r), .int .i64 (D.steps : Int), .int .i64 D.left, .bool D.done, .bool D.down] tDisk ∧ Blk w' g3 #[.int .i64 (D.most : Int), .int .i64 ((usedL D.l : Nat) : Int), .map (some g16), .int .i64 (D.steps : Int), .int .i64 D.left, .bool D.done, .bool D.down] tDisk)) (fun (vs, ν) => D.l.length - vs.length) (([], fun _ => none)) trivial ⟨hX, ⟨hR, hM2, Cop.none _ _ _, hF, hB, hB3⟩⟩ ?_
  rintro ⟨vs, ν⟩ GL0 w6 ⟨hE6, hR, hM2, hC, hF, hB, hB3⟩
  have hX := hE6
  have hvl := hks vs hR.nd hR.sub
  refine c_seq ?_
  refine r_plain ?_
  refine o_next rfl hR (Nat.zero_le _) (by decide) (fun hdone23 => ?_) (fun w7 a23 b23 v23 hna23 hmu23 hR hM7 => ?_)
  · skip
    refine p1 (x_extract rfl rfl) ?_
    refine r_nil ?_
    refine t_n ?_
    refine c_seq ?_
    refine c_f rfl ?_
    have hall : ∀ z, z ∈ vs ↔ z ∈ D.l.map (·.1) := fun z => ⟨fun hz => asc_someA.1 fun e => hR.sub z hz ((hF.iff z).2 e), fun hz => hdone23 z fun e => asc_someA.2 hz ((hF.iff z).1 e)⟩
    refine c_exit ?_
    refine t_e ?_
    refine t_e ?_
    refine b_hit ?_
    refine t_n ?_
    refine c_seq ?_
    refine r_plain ?_
    refine p1 (x_assign (by conv => lhs; whnf)) ?_
    refine r_nil ?_
    refine t_n ?_
    refine c_ret ?_
    refine end1 rfl (by conv => lhs; whnf) ?_
    exact ⟨⟨g3, rfl, ⟨g16, ν, hB3, hM2.lower (Nat.zero_le _), by show w.heap.size ≤ g3; omega, hM2.low, hC.fls hall⟩⟩, hX⟩
  · skip
    have hX := hX.mod hM7 (Nat.le_refl _)
    have hM2 := hM2.mod hM7 (Nat.zero_le _) (by decide)
    have hC := hC.modT hM7 (by decide)
    have hF := hF.modT hM7 (by decide)
    have hB := hB.mod hM7 (by decide)
    have hB3 := hB3.mod hM7 (by decide)
    have hvl2 := hks _ hR.nd hR.sub
    simp only [List.length_append, List.length_cons, List.length_nil] at hvl2
    refine p1 (x_extract rfl rfl) ?_
    refine r_nil ?_
    refine t_n ?_
    refine c_seq ?_
    refine c_t rfl ?_
    refine c_skip ?_
    refine t_n ?_
    refine c_block ?_
    refine c_seq ?_
    refine r_plain ?_
    obtain ⟨⟨p0, n0, c0, s0⟩, v25, hb25, hv25, hen25⟩ := hR.entry
    have hv25 : v25 = rawV (p0, n0, c0, s0) := hv25
    subst hv25
    obtain ⟨f, hf1, hf2, hF0⟩ := hF.yes _ _ hb25
    simp only at hf2 hF0
    have hgl2 := getF_le hok a23
    have hgf : getF D a23 = f := by unfold getF ascF; rw [hf1]; rfl
    rw [hgf] at hgl2
    have hgl2 := hgl2.1
    have hlen0 := hF0.len
    refine p1 ((hen25 rfl).cast (rfl : _ = Value.tuple #[.string a23, .agg #[.slice p0 n0 c0, .int .i64 (s0 : Int)]])) ?_
    refine p1 (x_extract rfl rfl) ?_
    refine p1 (x_extract rfl rfl) ?_
    have hXs7 := hX.size
    refine o_alloc zr76 ?_
    intro w8 g5 hN5
    have hE8 := hN5.ext
    have hX := hX.ext hE8
    have hM2 := hM2.ext hE8
    have hC := hC.ext hE8
    have hF := hF.ext hE8
    have hB := hB.ext hE8
    have hB3 := hB3.ext hE8
    have hR := hR.ext hE8
    have hB5 := hN5.blk
    refine p1 (x_assign (by conv => lhs; whnf)) ?_
    refine o_storeAll rfl (by conv => lhs; whnf) (by simp [Value.oneCell']) (by exact sz76) hB5 (by rfl) ?_
    intro w9 hP9
    have hX := hX.put hP9 (by rw [hN5.g_eq]; exact hXs7)
    have hM2 := hM2.mod (hP9.mod 0 (Nat.zero_le _)) (Nat.zero_le _) (by decide)
    have hC := hC.one hP9.one (by decide)
    have hF := hF.one hP9.one (by decide)
    have hB := hB.one hP9.one (by decide)
    have hB3 := hB3.one hP9.one (by decide)
    have hR := hR.mod (hP9.mod 0 (Nat.zero_le _)) (Nat.zero_le _) (by decide)
    have hB5 := hP9.blk
    refine r_nil ?_
    refine t_n ?_
    refine r_held (fun w1 w2 => Mod w.heap.size tMap w1 w2) mixed ?_
    intro w10 hE10
    have hX := hX.ext hE10
    have hM2 := hM2.ext hE10
    have hC := hC.ext hE10
    have hF := hF.ext hE10
    have hB := hB.ext hE10
    have hB3 := hB3.ext hE10
    have hR := hR.ext hE10
    have hB5 := hB5.ext hE10
    have hSr8 : (fun w1 w2 => Mod w.heap.size tMap w1 w2) w10 w10 := Mod.refl _ _ _
    refine h_take 0 rfl (by kernel_rfl) (by kernel_rfl) (by kernel_rfl) hSr8 (fun wS hSS => by ( exact (x_fieldAddr fo66_2 sz64 rfl))) ?_
    refine h_take 1 rfl (by kernel_rfl) (by kernel_rfl) (by kernel_rfl) hSr8 (fun wS hSS => by (have hB3 := hB3.mod hSS (by decide); have hB5 := hB5.mod hSS (by decide); exact (x_load1 un64 rfl (hB3.cell (rfl))))) ?_
    refine h_take 2 rfl (by kernel_rfl) (by kernel_rfl) (by kernel_rfl) hSr8 (fun wS hSS => by ( exact (x_move (by conv => lhs; whnf)))) ?_
    refine h_take 3 rfl (by kernel_rfl) (by kernel_rfl) (by kernel_rfl) hSr8 (fun wS hSS => by ( exact (x_fieldAddr fo76_0 sz31 rfl))) ?_
    refine h_take 4 rfl (by kernel_rfl) (by kernel_rfl) (by kernel_rfl) hSr8 (fun wS hSS => by (have hB3 := hB3.mod hSS (by decide); have hB5 := hB5.mod hSS (by decide); exact (x_load1 un31 rfl (hB5.cell (rfl))))) ?_
    refine h_take 6 rfl (by kernel_rfl) (by kernel_rfl) (by kernel_rfl) hSr8 (fun wS hSS => by ( exact (x_fieldAddr fo76_1 sz3 rfl))) ?_
    refine h_take 7 rfl (by kernel_rfl) (by kernel_rfl) (by kernel_rfl) hSr8 (fun wS hSS => by (have hB3 := hB3.mod hSS (by decide); have hB5 := hB5.mod hSS (by decide); exact (x_load1 un3 rfl (hB5.cell (rfl))))) ?_
    refine h_one 5 _ rfl (by kernel_rfl) (hop_of_list (fun Q5 hQ5 => ?_))
    have hF1 := (hF.yes _ _ hb25)
    obtain ⟨f2, hf3, _, hF1⟩ := hF1
    rw [hf1] at hf3
    injection hf3 with hf3
    subst hf3
    simp only at hF1
    have hXs8 := hX.size
    have hCp := hC
    refine o_call Try.func43 fn43 fb43 (slices_Clone_byte _ _ _ _ _ _ _ hF1.sl (by omega)) rfl ?_
    rintro v11 w11 ⟨⟨q33, c33, rfl, hO⟩, hE11⟩
    have hX := hX.ext hE11
    have hM2 := hM2.ext hE11
    have hC := hC.ext hE11
    have hF := hF.ext hE11
    have hB := hB.ext hE11
    have hB3 := hB3.ext hE11
    have hR := hR.ext hE11
    have hB5 := hB5.ext hE11
    have hSr8 := hSr8.ext hE11
    have hap := hCp.apart (FB.ofOwn (S := fun j => _ ≤ j) hO (fun _ _ h => h)) (fun _ h => h)
    have hK := FB.ofOwn (S := since w) hO (fun _ _ h => Nat.le_trans hXs8 h)
    refine hop_end hQ5 ⟨hSr8, ?_⟩
    refine h_take 8 rfl (by kernel_rfl) (by kernel_rfl) (by kernel_rfl) hSr8 (fun wS hSS => by ( exact (x_build2 pl76 (by conv => lhs; whnf) (by conv => lhs; whnf) rfl rfl))) ?_
    refine h_one 9 _ rfl (by kernel_rfl) (hop_of_list (fun Q9 hQ9 => ?_))
    have hMt12 := hM2.tyOf
    refine o_update1 (a := a23) (b := (q33, n0, c33, s0)) u64 (keyOk_str u9) rfl rfl rfl hM2 rfl (Nat.zero_le _) (by decide) ?_
    intro w12 hM2 hMm12 hne12
    have hO12 := One.ofMod hMm12 hMt12 hne12
    have hX := hX.mod hMm12 (Nat.le_refl _)
    have hSr8 := hSr8.trans hMm12
    have hB := hB.one hO12 (by decide)
    have hB3 := hB3.one hO12 (by decide)
    have hF := hF.one hO12 (by decide)
    have hlow := hM2.low
    have hR := hR.keep (fun hl => hO12.old r hl (by omega)) (fun hl => hO12.old it22 hl (by omega)) (fun k hk ho => ho.elim (fun h => by omega) fun ⟨u, hu, _⟩ => by simp [vFile] at hu)
    have hC := (hC.one hO12 (by decide)).put (x := (q33, n0, c33, s0)) hna23 hf1 hf2 (hK.one hO12 (by decide)) hap
    skip
    refine hop_end hQ9 ⟨hSr8, ?_⟩
    refine h_done (by kernel_rfl) ?_
    refine b_n ?_
    refine t_n (At.mk ((vs ++ [a23], mset ν a23 (some (q33, n0, c33, s0)))) (by repeat (first | exact Agr.refl _ _ | exact Agr.hav _ _ _ | refine Agr.upd rfl ?_ | refine Agr.updR rfl ?_ | refine Agr.updL ?_ _ rfl | refine Agr.hav' rfl ?_)) trivial ?_)
    exact ⟨⟨hX, ⟨hR, hM2, hC, hF, hB, hB3⟩⟩, by show D.l.length - (vs ++ [a23]).length < D.l.length - vs.length; simp only [List.length_append, List.length_cons, List.length_nil]; omega⟩
end Go.Proofs.Eng
end
section
set_option linter.unusedVariables false
set_option linter.unusedSimpArgs false
namespace Go.Proofs.Eng
open Go.RowKit
theorem usedL_step {l : List Fl} {k : Nat} (hk : k < l.length) : usedL (l.take (k + 1)) = usedL (l.take k) + (l.getD k default).2.1.length := by
  rw [List.take_add_one, List.getElem?_eq_getElem hk, usedL_append, List.getD_eq_getElem?_getD, List.getElem?_eq_getElem hk]
  simp [usedL]
end Go.Proofs.Eng
end
section
set_option linter.unusedVariables false
set_option linter.unusedSimpArgs false
namespace Go.Proofs.Eng
open Go.RowKit
open Extern.Stop (cell)
theorem Dsk.narrow {S : Nat → Prop} {w : World} {g : Nat} {D : DS} (h : Dsk S w g D) {B : Nat} (hB : w.heap.size ≤ B) : Dsk (fun j => S j ∧ j < B) w g D := h.mono fun k hk hs => ⟨hs, by omega⟩
theorem Out.move {S S' : Nat → Prop} {w : World} {p : Option Addr} {n c : Nat} {xs : List UInt8} (h : Out S w p n c xs) (ho : xs ≠ [] → ¬ S' (ab p)) : Out S' w p n c xs := ⟨h.len, h.cap, h.fit, h.row, ho⟩
end Go.Proofs.Eng
end
section
set_option linter.unusedVariables false
set_option linter.unusedSimpArgs false
set_option maxRecDepth 100000
set_option maxHeartbeats 4000000
namespace Go.Proofs.Eng
open Go.RowKit
open Extern.Stop (cell)
end Go.Proofs.Eng
end
section
set_option linter.unusedVariables false
set_option linter.unusedSimpArgs false
namespace Go.Proofs.Eng
open Go.RowKit
open Extern.Stop (cell)
/-! ### the disk of the reference -/
def encF (x : Fl) : List Value := [.string x.1, .string (toStr (x.2.1.take x.2.2)), .string (toStr (x.2.1.drop x.2.2))]
def kFl : Kind Fl := .pure 3 encF (fun _ => rfl) (fun x v hv => by simp [encF] at hv; rcases hv with rfl | rfl | rfl <;> rfl)
theorem kFl_pos : 0 < kFl.sz := by decide
theorem Sl.flRange {e : TypeId} {B : Nat} {w : World} {p : Option Addr} {n c : Nat} {l : List Fl} (h : Sl kFl e B w p n c l) (i : Nat) (hi : i < n) : w.rangeAt (ab p) (ao p + i * 3) (encF (l.getD i default)) := by
  obtain ⟨cs, hk, hr⟩ := h.get default i hi
  have : cs = encF (l.getD i default) := hk
  subst this
  exact hr
theorem Sl.flAt {e : TypeId} {B : Nat} {w : World} {p : Option Addr} {n c : Nat} {l : List Fl} (h : Sl kFl e B w p n c l) (i : Nat) (hi : i < n) (j : Nat) {v : Value} (hv : (encF (l.getD i default))[j]? = some v) : w.cell? ⟨ab p, ao p + i * 3 + j, none⟩ = some v := h.flRange i hi j v hv
theorem toStr_size (xs : List UInt8) : (toStr xs).size = xs.length := by unfold toStr; simp [ByteArray.size]
theorem toStr_append (xs ys : List UInt8) : toStr xs ++ toStr ys = toStr (xs ++ ys) := by
  apply ba_toList_inj
  rw [ByteArray.toList_eq, ByteArray.toList_eq]
  simp [toStr, ByteArray.data_append]
section
variable {P : Program} {N : Nat} {f : Nat → Value} {w : World} {dst : Option Nat} {T T' ty0 : TypeId} {pos : String} {aft : Array Edge} {gd : Option (Nat × Bool)} {x y : Operand}
theorem x_add_str {s t : ByteArray} (hx : ev N f x = .string s) (hy : ev N f y = .string t) (h : s.size + t.size ≤ 9223372036854775807) : Ex P w N f ⟨dst, .binOp .add T x y T', ty0, pos, aft, gd⟩ (.string (s ++ t)) :=
  ex_bin hx hy (guard_str s t) (by
    have h1 : ¬ (IntKind.i64.max < ((s.size + t.size : Nat) : Int)) := by show ¬ ((9223372036854775807 : Int) < _); omega
    simp only [binOp, Op.stringOp]
    rw [if_neg (by first | exact h1 | (intro h2; exact h1 h2))]
    rfl)
theorem x_slice_str_h (hT : P.underlying T = some .string) {xs : List UInt8} {k : IntKind} {b : Int} (hx : ev N f x = .string (toStr xs)) (hy : ev N f y = .int k b) (h0 : 0 ≤ b) (h1 : b ≤ (xs.length : Int)) :
    Ex P w N f ⟨dst, .slice T x none (some y) none, ty0, pos, aft, gd⟩ (.string (toStr (xs.take b.toNat))) := by
  have hs : (toStr xs).size = xs.length := toStr_size xs
  have e : (toStr xs).extract 0 b.toNat = toStr (xs.take b.toNat) := by
    apply ba_toList_inj
    rw [ByteArray.toList_eq, ByteArray.toList_eq]
    simp [toStr, ByteArray.data_extract]
  unfold Ex execOp
  simp only [Option.map, hx, hy]
  simp [Instr.sliceAt, Instr.slice, Sem.run_bind, run_underlying hT, Instr.sliceBounds, Instr.sliceBound, asIntOf, h0, hs, h1, e]
end
structure LfOk (D : DS) (lf : Int) : Prop where
  eq : 0 ≤ D.left → lf = D.left
  lo : -1 ≤ lf
  hi : lf ≤ 9223372036854775807
def RefV (w : World) (cs : Array Value) (D : DS) : Prop := ∃ p n c lf, cs = #[.int .i64 (D.most : Int), .slice p n c, .int .i64 (D.steps : Int), .bool (decide (0 ≤ D.left)), .int .i64 lf, .bool D.done, .bool D.down] ∧ Sl kFl 81 0 w p n c D.l ∧ LfOk D lf
theorem RefV.ext {w w' : World} {cs : Array Value} {D : DS} (h : RefV w cs D) (x : Ext w w') : RefV w' cs D := by
  obtain ⟨p, n, c, lf, h1, h2, h3⟩ := h
  exact ⟨p, n, c, lf, h1, h2.ext x, h3⟩
theorem RefV.modS {S : Nat → Prop} {w w' : World} {cs : Array Value} {D : DS} (h : RefV w cs D) (m : ModS S ED w w') : RefV w' cs D := by
  obtain ⟨p, n, c, lf, h1, h2, h3⟩ := h
  exact ⟨p, n, c, lf, h1, h2.modS m (fun _ _ => Nat.zero_le _) (by decide), h3⟩
theorem named_of {s : ByteArray} (h : ∀ i, i < s.size → 33 ≤ (btAt s i).toNat ∧ (btAt s i).toNat ≤ 126) : namedD s = decide (1 ≤ s.size ∧ s.size ≤ 32) := by
  unfold namedD
  have : (s.data.toList.all fun c => decide (33 ≤ c.toNat ∧ c.toNat ≤ 126)) = true := by
    rw [List.all_eq_true]
    intro c hc
    obtain ⟨i, hi, e⟩ := List.mem_iff_getElem.1 hc
    have := h i (by simpa using hi)
    rw [btAt, List.getD_eq_getElem?_getD, List.getElem?_eq_getElem hi, Option.getD_some, e] at this
    exact decide_eq_true this
  rw [this, Bool.and_true]
instance (l : List Fl) (i : Nat) (k : ByteArray) : Decidable (isAtA l i k) := by unfold isAtA; exact inferInstance
end Go.Proofs.Eng
end
section
set_option linter.unusedVariables false
set_option linter.unusedSimpArgs false
set_option maxRecDepth 100000
set_option maxHeartbeats 4000000
namespace Go.Proofs.Eng
open Go.RowKit
open Extern.Stop (cell)
theorem fb45 : Try.f45.body.isNone = false := by kernel_rfl
theorem fb61 : Try.f61.body.isNone = false := by kernel_rfl
theorem fn45 : (Try.f45.name == "runtime.NumGoroutine") = false := by kernel_rfl
theorem fn61 : (Try.f61.name == "runtime.NumGoroutine") = false := by kernel_rfl
theorem fo27_1 : fieldOf Try.prog 27 1 = some (25, 1) := by kernel_rfl
theorem fo27_2 : fieldOf Try.prog 27 2 = some (3, 2) := by kernel_rfl
theorem fo27_3 : fieldOf Try.prog 27 3 = some (4, 3) := by kernel_rfl
theorem fo27_4 : fieldOf Try.prog 27 4 = some (3, 4) := by kernel_rfl
theorem fo27_5 : fieldOf Try.prog 27 5 = some (4, 5) := by kernel_rfl
theorem fo27_6 : fieldOf Try.prog 27 6 = some (4, 6) := by kernel_rfl
theorem fo81_0 : fieldOf Try.prog 81 0 = some (9, 0) := by kernel_rfl
theorem fo81_1 : fieldOf Try.prog 81 1 = some (9, 1) := by kernel_rfl
theorem fo81_2 : fieldOf Try.prog 81 2 = some (9, 2) := by kernel_rfl
theorem inf81 : (Try.prog.info? 81).map (fun i => (i.zero, i.size, i.bytes)) = some (some (.agg #[.string ByteArray.empty, .string ByteArray.empty, .string ByteArray.empty]), 3, 48) := by kernel_rfl
theorem sz25 : (Try.prog.info? 25).map (·.size) = some 1 := by kernel_rfl
theorem sz27 : (Try.prog.info? 27).map (·.size) = some 7 := by kernel_rfl
theorem sz81 : (Try.prog.info? 81).map (·.size) = some 3 := by kernel_rfl
theorem u25 : Try.prog.underlying 25 = some (.slice 81) := by kernel_rfl
theorem ua27 : (Try.prog.underlying 27).map TypeDesc.isRow = some true := by kernel_rfl
theorem ua81 : (Try.prog.underlying 81).map TypeDesc.isRow = some true := by kernel_rfl
theorem un25 : (Try.prog.underlying 25).map TypeDesc.isRow = some false := by kernel_rfl
theorem zr27 : (Try.prog.info? 27).map (·.zero) = some (some (.agg #[.int .i64 0, .slice none 0 0, .int .i64 0, .bool false, .int .i64 0, .bool false, .bool false])) := by kernel_rfl
end Go.Proofs.Eng
end
section
set_option linter.unusedVariables false
set_option linter.unusedSimpArgs false
set_option maxRecDepth 100000
set_option maxHeartbeats 4000000
namespace Go.Proofs.Eng
open Go.RowKit
open Extern.Stop (cell)
theorem ref_Named (s : ByteArray) (w : World) (hs : s.size ≤ 9223372036854775807) :
    Ret Try.prog 61 [.string s] w (fun v w' => v = .bool (namedD s) ∧ Ext w w') := by
  have hX := Ext.refl w
  refine enter 28 _ Try.func61 rfl rfl (Nat.le_of_ble_eq_true rfl) rfl ?_
  refine c_seq ?_
  refine r_plain ?_
  refine p1 (x_assign (by conv => lhs; whnf)) ?_
  refine r_nil ?_
  refine t_n ?_
  refine c_seq ?_
  refine c_seq ?_
  refine r_plain ?_
  refine p1 (x_assign (by conv => lhs; whnf)) ?_
  refine r_nil ?_
  refine t_n ?_
  refine c_block ?_
  have hWL0 := Ext.refl w
  refine c_loop (ι := Nat) [2, 3, 4, 5, 6, 7, 8, 9, 10, 11, 12, 13, 14, 15, 16, 17, 18, 19] (fun k => [(3, .int .i64 (k : Int))]) (fun k w' => Ext w w' ∧ (k ≤ s.size ∧ ∀ i, i < k → 33 ≤ (btAt s i).toNat ∧ (btAt s i).toNat ≤ 126)) (fun k => s.size - k) (0) ⟨rfl, trivial⟩ ⟨Ext.refl _, ⟨by omega, fun i hi => by omega⟩⟩ ?_
  rintro k GL0 w1 ⟨hE1, hk, hL⟩
  have hX := hX.ext hE1
  have hWL0 := hE1
  refine c_seq ?_
  refine c_seq ?_
  refine r_plain ?_
  refine p1 (x_move (by conv => lhs; whnf)) ?_
  refine p1 (x_move (by conv => lhs; whnf)) ?_
  refine p1 (x_len_str u9 rfl) ?_
  refine p1 (x_lss rfl rfl) ?_
  refine r_nil ?_
  refine t_n ?_
  first | refine c_dec rfl (fun hc7 => ?_) (fun hc7 => ?_) | refine c_if rfl (fun hc7 => ?_) (fun hc7 => ?_)
  · try simp only [decide_eq_true_eq, decide_eq_false_iff_not, Bool.not_eq_true, Bool.not_eq_false, Bool.not_eq_eq_eq_not, Bool.not_true, Bool.not_false, Int.not_lt, Int.not_le] at hc7
    refine c_skip ?_
    refine t_n ?_
    refine c_seq ?_
    refine c_block ?_
    refine c_seq ?_
    have hWr4 := Ext.refl w1
    refine c_cut (ι := Unit) [10, 11, 12, 13, 14, 15, 16, 17, 18, 19] (fun _ => [(19, .bool (decide (((btAt s k).toNat : Int) < 33 ∨ 126 < ((btAt s k).toNat : Int))))]) (fun _ w' => Ext w1 w') ?_ ?_
    · skip
      refine r_plain ?_
      refine p1 (x_move (by conv => lhs; whnf)) ?_
      refine p1 (x_move (by conv => lhs; whnf)) ?_
      refine p1 (x_ixstr0 u9 rfl rfl (by omega)) ?_
      refine p1 (x_lss rfl rfl) ?_
      refine p1b (x_move (by conv => lhs; whnf)) (fun hb4_4 => ?_) (fun hb4_4 => ?_)
      · try simp only [decide_eq_true_eq, decide_eq_false_iff_not, Bool.not_eq_true, Bool.not_eq_false, Bool.not_eq_eq_eq_not, Bool.not_true, Bool.not_false, Int.not_lt, Int.not_le] at hb4_4
        refine g0 14 rfl (by first | exact .inl rfl | exact .inr rfl) ?_
        refine g0 14 rfl (by first | exact .inl rfl | exact .inr rfl) ?_
        refine g0 14 rfl (by first | exact .inl rfl | exact .inr rfl) ?_
        refine g0 14 rfl (by first | exact .inl rfl | exact .inr rfl) ?_
        refine p1 (x_pick_t rfl (by conv => lhs; whnf)) ?_
        refine r_nil ?_
        refine t_n (At.mk () (by repeat (first | exact Agr.refl _ _ | exact Agr.hav _ _ _ | refine Agr.upd rfl ?_ | refine Agr.updR rfl ?_ | refine Agr.updL ?_ _ rfl | refine Agr.hav' rfl ?_)) ⟨congrArg Value.bool (by first | rfl | exact (decide_eq_true (by omega)).symm | exact (decide_eq_false (by omega)).symm | exact decide_eq_decide.2 (by omega) | (simp_all; done) | grind), trivial⟩ hWr4)
      · try simp only [decide_eq_true_eq, decide_eq_false_iff_not, Bool.not_eq_true, Bool.not_eq_false, Bool.not_eq_eq_eq_not, Bool.not_true, Bool.not_false, Int.not_lt, Int.not_le] at hb4_4
        refine g1 14 rfl rfl (x_move (by conv => lhs; whnf)) ?_
        refine g1 14 rfl rfl (x_move (by conv => lhs; whnf)) ?_
        refine g1 14 rfl rfl (x_ixstr0 u9 rfl rfl (by omega)) ?_
        refine g1 14 rfl rfl (x_gtr rfl rfl) ?_
        refine p1 (x_pick_f rfl (by conv => lhs; whnf)) ?_
        refine r_nil ?_
        refine t_n (At.mk () (by repeat (first | exact Agr.refl _ _ | exact Agr.hav _ _ _ | refine Agr.upd rfl ?_ | refine Agr.updR rfl ?_ | refine Agr.updL ?_ _ rfl | refine Agr.hav' rfl ?_)) ⟨congrArg Value.bool (by first | rfl | exact (decide_eq_true (by omega)).symm | exact (decide_eq_false (by omega)).symm | exact decide_eq_decide.2 (by omega) | (simp_all; done) | grind), trivial⟩ hWr4)
    · rintro _ Gr4 w2 hE2
      have hX := hX.ext hE2
      have hWL0 := hWL0.ext hE2
      refine t_n ?_
      first | refine c_dec rfl (fun hc19 => ?_) (fun hc19 => ?_) | refine c_if rfl (fun hc19 => ?_) (fun hc19 => ?_)
      · try simp only [decide_eq_true_eq, decide_eq_false_iff_not, Bool.not_eq_true, Bool.not_eq_false, Bool.not_eq_eq_eq_not, Bool.not_true, Bool.not_false, Int.not_lt, Int.not_le] at hc19
        have hp : namedD s = false := named_not (i := k) (by omega) (by omega)
        refine c_seq ?_
        refine r_plain ?_
        refine p1 (x_assign (by conv => lhs; whnf)) ?_
        refine r_nil ?_
        refine t_n ?_
        refine c_ret ?_
        refine b_r ?_
        refine t_r ?_
        refine t_r ?_
        refine b_r ?_
        refine t_r ?_
        refine end1 rfl (by conv => lhs; whnf) ?_
        exact ⟨by rw [hp], hX⟩
      · try simp only [decide_eq_true_eq, decide_eq_false_iff_not, Bool.not_eq_true, Bool.not_eq_false, Bool.not_eq_eq_eq_not, Bool.not_true, Bool.not_false, Int.not_lt, Int.not_le] at hc19
        refine c_skip ?_
        refine b_n ?_
        refine t_n ?_
        refine r_plain ?_
        refine p1 (x_move (by conv => lhs; whnf)) ?_
        refine p1 (x_add rfl rfl (fits_i64 (by omega) (by omega))) ?_
        refine p1 (x_assign (by conv => lhs; whnf)) ?_
        refine r_nil ?_
        refine t_n (At.mk (k + 1) (by repeat (first | exact Agr.refl _ _ | exact Agr.hav _ _ _ | refine Agr.upd rfl ?_ | refine Agr.updR rfl ?_ | refine Agr.updL ?_ _ rfl | refine Agr.hav' rfl ?_)) ⟨rfl, trivial⟩ ?_)
        exact ⟨⟨hWL0, ⟨by omega, fun i hi => if h : i < k then hL i h else by rw [show i = k from by omega]; omega⟩⟩, by first | (dsimp only; omega) | ((show _ < _); omega)⟩
  · try simp only [decide_eq_true_eq, decide_eq_false_iff_not, Bool.not_eq_true, Bool.not_eq_false, Bool.not_eq_eq_eq_not, Bool.not_true, Bool.not_false, Int.not_lt, Int.not_le] at hc7
    have hp : namedD s = decide (1 ≤ s.size ∧ s.size ≤ 32) := named_of (fun i hi => hL i (by omega))
    refine c_exit ?_
    refine t_e ?_
    refine t_e ?_
    refine b_hit ?_
    refine t_n ?_
    refine c_seq ?_
    have hWr6 := Ext.refl w1
    refine c_cut (ι := Unit) [2, 20, 21, 22, 23, 24, 25, 26, 27] (fun _ => [(2, .bool (decide (1 ≤ s.size ∧ s.size ≤ 32)))]) (fun _ w' => Ext w1 w') ?_ ?_
    · skip
      refine r_plain ?_
      refine p1 (x_move (by conv => lhs; whnf)) ?_
      refine p1 (x_len_str u9 rfl) ?_
      refine p1 (x_geq rfl rfl) ?_
      refine p1b (x_move (by conv => lhs; whnf)) (fun hb6_3 => ?_) (fun hb6_3 => ?_)
      · try simp only [decide_eq_true_eq, decide_eq_false_iff_not, Bool.not_eq_true, Bool.not_eq_false, Bool.not_eq_eq_eq_not, Bool.not_true, Bool.not_false, Int.not_lt, Int.not_le] at hb6_3
        refine g1 23 rfl rfl (x_move (by conv => lhs; whnf)) ?_
        refine g1 23 rfl rfl (x_len_str u9 rfl) ?_
        refine g1 23 rfl rfl (x_leq rfl rfl) ?_
        refine p1 (x_pick_t rfl (by conv => lhs; whnf)) ?_
        refine p1 (x_assign (by conv => lhs; whnf)) ?_
        refine r_nil ?_
        refine t_n (At.mk () (by repeat (first | exact Agr.refl _ _ | exact Agr.hav _ _ _ | refine Agr.upd rfl ?_ | refine Agr.updR rfl ?_ | refine Agr.updL ?_ _ rfl | refine Agr.hav' rfl ?_)) ⟨congrArg Value.bool (by first | rfl | exact (decide_eq_true (by omega)).symm | exact (decide_eq_false (by omega)).symm | exact decide_eq_decide.2 (by omega) | (simp_all; done) | grind), trivial⟩ hWr6)
      · try simp only [decide_eq_true_eq, decide_eq_false_iff_not, Bool.not_eq_true, Bool.not_eq_false, Bool.not_eq_eq_eq_not, Bool.not_true, Bool.not_false, Int.not_lt, Int.not_le] at hb6_3
        refine g0 23 rfl (by first | exact .inl rfl | exact .inr rfl) ?_
        refine g0 23 rfl (by first | exact .inl rfl | exact .inr rfl) ?_
        refine g0 23 rfl (by first | exact .inl rfl | exact .inr rfl) ?_
        refine p1 (x_pick_f rfl (by conv => lhs; whnf)) ?_
        refine p1 (x_assign (by conv => lhs; whnf)) ?_
        refine r_nil ?_
        refine t_n (At.mk () (by repeat (first | exact Agr.refl _ _ | exact Agr.hav _ _ _ | refine Agr.upd rfl ?_ | refine Agr.updR rfl ?_ | refine Agr.updL ?_ _ rfl | refine Agr.hav' rfl ?_)) ⟨congrArg Value.bool (by first | rfl | exact (decide_eq_true (by omega)).symm | exact (decide_eq_false (by omega)).symm | exact decide_eq_decide.2 (by omega) | (simp_all; done) | grind), trivial⟩ hWr6)
    · rintro _ Gr6 w3 hE3
      have hX := hX.ext hE3
      refine t_n ?_
      refine c_ret ?_
      refine end1 rfl (by conv => lhs; whnf) ?_
      exact ⟨by rw [hp], hX⟩
theorem ref_first (a0 a2 a4 : Int) (b3 b5 b6 : Bool) (p : Option Addr) (n c : Nat) (D : DS) (hdn : D.down = b6) (ns : List ByteArray) (B : Nat) (q : Option Addr) (m c2 : Nat) (w : World) (hl : Sl kStr 9 B w q m c2 ns) (hs : ∀ s ∈ ns, s.size ≤ 9223372036854775807) :
    Ret Try.prog 44 [.agg #[.int .i64 a0, .slice p n c, .int .i64 a2, .bool b3, .int .i64 a4, .bool b5, .bool b6], .slice q m c2] w (fun v w' => v = .int .i64 (lookD D ns) ∧ Ext w w') := by
  have hX := Ext.refl w
  refine enter 20 _ Try.func44 rfl rfl (Nat.le_of_ble_eq_true rfl) rfl ?_
  refine c_seq ?_
  refine r_plain ?_
  refine o_boxA (by conv => lhs; whnf) ?_
  intro w1 g2 hN2
  have hE1 := hN2.ext
  have hX := hX.ext hE1
  have hB2 := hN2.blk
  refine p1 (x_assign (by conv => lhs; whnf)) ?_
  refine r_nil ?_
  refine t_n ?_
  refine c_seq ?_
  refine c_seq ?_
  refine r_plain ?_
  refine p1 (x_assign (by conv => lhs; whnf)) ?_
  refine r_nil ?_
  refine t_n ?_
  refine c_block ?_
  have hWL0 := Ext.refl w1
  have hlen := hl.len
  have hfit := hl.fit
  have hcap := hl.cap
  refine c_loop (ι := Nat) [4, 5, 6, 7, 8, 9, 10, 11, 12, 13, 14, 15, 16, 17] (fun k => [(5, .int .i64 (k : Int))]) (fun k w' => Ext w1 w' ∧ (k ≤ m ∧ ∀ i, i < k → namedD (ns.getD i ByteArray.empty) = true)) (fun k => m - k) (0) ⟨rfl, trivial⟩ ⟨Ext.refl _, ⟨by omega, fun i hi => by omega⟩⟩ ?_
  rintro k GL0 w2 ⟨hE2, hk, hL⟩
  have hX := hX.ext hE2
  have hB2 := hB2.ext hE2
  have hWL0 := hE2
  refine c_seq ?_
  refine c_seq ?_
  refine r_plain ?_
  refine p1 (x_move (by conv => lhs; whnf)) ?_
  refine p1 (x_move (by conv => lhs; whnf)) ?_
  refine p1 (x_len_slice u51 rfl) ?_
  refine p1 (x_lss rfl rfl) ?_
  refine r_nil ?_
  refine t_n ?_
  first | refine c_dec rfl (fun hc9 => ?_) (fun hc9 => ?_) | refine c_if rfl (fun hc9 => ?_) (fun hc9 => ?_)
  · try simp only [decide_eq_true_eq, decide_eq_false_iff_not, Bool.not_eq_true, Bool.not_eq_false, Bool.not_eq_eq_eq_not, Bool.not_true, Bool.not_false, Int.not_lt, Int.not_le] at hc9
    refine c_skip ?_
    refine t_n ?_
    refine c_seq ?_
    refine c_block ?_
    refine c_seq ?_
    refine r_plain ?_
    refine p1 (x_move (by conv => lhs; whnf)) ?_
    refine p1 (x_move (by conv => lhs; whnf)) ?_
    refine p1 (x_ixs0 u51 sz9 rfl rfl ((hl.ext hX).adr kStr_pos (by omega)) (by omega)) ?_
    refine p1 (x_load1 un9 rfl ((hl.ext hX).strAt _ (by omega))) ?_
    refine o_call Try.func61 fn61 fb61 (ref_Named _ _ (hs _ (mem_of_getD (z := ByteArray.empty) (i := k) (by omega) rfl))) rfl ?_
    rintro v3 w3 ⟨rfl, hE3⟩
    have hX := hX.ext hE3
    have hB2 := hB2.ext hE3
    have hWL0 := hWL0.ext hE3
    first | refine p1 (x_notd rfl) ?_ | refine p1 (x_not rfl) ?_
    refine r_nil ?_
    refine t_n ?_
    first | refine c_dec rfl (fun hc17 => ?_) (fun hc17 => ?_) | refine c_if rfl (fun hc17 => ?_) (fun hc17 => ?_)
    · try simp only [decide_eq_true_eq, decide_eq_false_iff_not, Bool.not_eq_true, Bool.not_eq_false, Bool.not_eq_eq_eq_not, Bool.not_true, Bool.not_false, Int.not_lt, Int.not_le] at hc17
      have hp : lookD D ns = 30 := by unfold lookD; rw [if_pos (not_all_getD (k := k) (by omega) (by simpa using hc17))]
      refine c_seq ?_
      refine r_plain ?_
      refine p1 (x_assign (by conv => lhs; whnf)) ?_
      refine r_nil ?_
      refine t_n ?_
      refine c_ret ?_
      refine b_r ?_
      refine t_r ?_
      refine t_r ?_
      refine b_r ?_
      refine t_r ?_
      refine end1 rfl (by conv => lhs; whnf) ?_
      exact ⟨by rw [hp], hX⟩
    · try simp only [decide_eq_true_eq, decide_eq_false_iff_not, Bool.not_eq_true, Bool.not_eq_false, Bool.not_eq_eq_eq_not, Bool.not_true, Bool.not_false, Int.not_lt, Int.not_le] at hc17
      have h1 : namedD (ns.getD k ByteArray.empty) = true := by simpa using hc17
      refine c_skip ?_
      refine b_n ?_
      refine t_n ?_
      refine r_plain ?_
      refine p1 (x_move (by conv => lhs; whnf)) ?_
      refine p1 (x_add rfl rfl (fits_i64 (by omega) (by omega))) ?_
      refine p1 (x_assign (by conv => lhs; whnf)) ?_
      refine r_nil ?_
      refine t_n (At.mk (k + 1) (by repeat (first | exact Agr.refl _ _ | exact Agr.hav _ _ _ | refine Agr.upd rfl ?_ | refine Agr.updR rfl ?_ | refine Agr.updL ?_ _ rfl | refine Agr.hav' rfl ?_)) ⟨rfl, trivial⟩ ?_)
      exact ⟨⟨hWL0, ⟨by omega, fun i hi => if h : i < k then hL i h else by rw [show i = k from by omega]; exact h1⟩⟩, by first | (dsimp only; omega) | ((show _ < _); omega)⟩
  · try simp only [decide_eq_true_eq, decide_eq_false_iff_not, Bool.not_eq_true, Bool.not_eq_false, Bool.not_eq_eq_eq_not, Bool.not_true, Bool.not_false, Int.not_lt, Int.not_le] at hc9
    have hall := all_take_getD hL (by omega)
    refine c_exit ?_
    refine t_e ?_
    refine t_e ?_
    refine b_hit ?_
    refine t_n ?_
    refine c_seq ?_
    refine c_seq ?_
    refine r_plain ?_
    refine p1 (x_fieldAddr fo27_6 sz4 rfl) ?_
    refine p1 (x_load1 un4 rfl (hB2.cell (rfl))) ?_
    refine r_nil ?_
    refine t_n ?_
    first | refine c_dec rfl (fun hc19 => ?_) (fun hc19 => ?_) | refine c_if rfl (fun hc19 => ?_) (fun hc19 => ?_)
    · try simp only [decide_eq_true_eq, decide_eq_false_iff_not, Bool.not_eq_true, Bool.not_eq_false, Bool.not_eq_eq_eq_not, Bool.not_true, Bool.not_false, Int.not_lt, Int.not_le] at hc19
      have hp : lookD D ns = 20 := by unfold lookD; rw [if_neg (by rw [hall]; simp), if_pos (by rw [hdn]; exact hc19)]
      refine c_seq ?_
      refine r_plain ?_
      refine p1 (x_assign (by conv => lhs; whnf)) ?_
      refine r_nil ?_
      refine t_n ?_
      refine c_ret ?_
      refine t_r ?_
      refine end1 rfl (by conv => lhs; whnf) ?_
      exact ⟨by rw [hp], hX⟩
    · try simp only [decide_eq_true_eq, decide_eq_false_iff_not, Bool.not_eq_true, Bool.not_eq_false, Bool.not_eq_eq_eq_not, Bool.not_true, Bool.not_false, Int.not_lt, Int.not_le] at hc19
      have hp : lookD D ns = 0 := by unfold lookD; rw [if_neg (by rw [hall]; simp), if_neg (by rw [hdn, hc19]; simp)]
      refine c_skip ?_
      refine t_n ?_
      refine c_seq ?_
      refine r_plain ?_
      refine p1 (x_assign (by conv => lhs; whnf)) ?_
      refine r_nil ?_
      refine t_n ?_
      refine c_ret ?_
      refine end1 rfl (by conv => lhs; whnf) ?_
      exact ⟨by rw [hp], hX⟩
theorem ref_place (a0 a2 a4 : Int) (b3 b5 b6 : Bool) (l : List Fl) (p : Option Addr) (n c : Nat) (w : World) (hl : Sl kFl 81 0 w p n c l) (k : ByteArray) (hn : n ≤ 100000) :
    Ret Try.prog 45 [.agg #[.int .i64 a0, .slice p n c, .int .i64 a2, .bool b3, .int .i64 a4, .bool b5, .bool b6], .string k] w (fun v w' => v = .tuple #[.int .i64 (plcA l k : Int), .bool (decide (isAtA l (plcA l k) k))] ∧ Ext w w') := by
  have hX := Ext.refl w
  refine enter 40 _ Try.func45 rfl rfl (Nat.le_of_ble_eq_true rfl) rfl ?_
  refine c_seq ?_
  refine r_plain ?_
  refine o_boxA (by conv => lhs; whnf) ?_
  intro w1 g2 hN2
  have hE1 := hN2.ext
  have hX := hX.ext hE1
  have hB2 := hN2.blk
  refine p1 (x_assign (by conv => lhs; whnf)) ?_
  refine p1 (x_assign (by conv => lhs; whnf)) ?_
  refine r_nil ?_
  refine t_n ?_
  refine c_seq ?_
  refine r_plain ?_
  refine p1 (x_assign (by conv => lhs; whnf)) ?_
  refine r_nil ?_
  refine t_n ?_
  refine c_seq ?_
  refine c_block ?_
  have hWL0 := Ext.refl w1
  have hlen := hl.len
  refine c_loop (ι := Nat) [6, 7, 8, 9, 10, 11, 12, 13, 14, 15, 16, 17, 18, 19, 20, 21, 22, 23] (fun i => [(6, .int .i64 (i : Int))]) (fun i w' => Ext w1 w' ∧ (i ≤ n ∧ ∀ j, j < i → lssB (l.getD j default).1 k = true)) (fun i => n - i) (0) ⟨rfl, trivial⟩ ⟨Ext.refl _, ⟨by omega, fun j hj => by omega⟩⟩ ?_
  rintro i GL0 w2 ⟨hE2, hi, hL⟩
  have hX := hX.ext hE2
  have hB2 := hB2.ext hE2
  have hWL0 := hE2
  refine c_seq ?_
  refine c_seq ?_
  refine r_plain ?_
  refine p1 (x_move (by conv => lhs; whnf)) ?_
  refine p1 (x_fieldAddr fo27_1 sz25 rfl) ?_
  refine p1 (x_load1 un25 rfl (hB2.cell (rfl))) ?_
  refine p1 (x_len_slice u25 rfl) ?_
  refine p1 (x_lss rfl rfl) ?_
  refine p1b (x_move (by conv => lhs; whnf)) (fun hb2_5 => ?_) (fun hb2_5 => ?_)
  · try simp only [decide_eq_true_eq, decide_eq_false_iff_not, Bool.not_eq_true, Bool.not_eq_false, Bool.not_eq_eq_eq_not, Bool.not_true, Bool.not_false, Int.not_lt, Int.not_le] at hb2_5
    refine g1 12 rfl rfl (x_fieldAddr fo27_1 sz25 rfl) ?_
    refine g1 12 rfl rfl (x_load1 un25 rfl (hB2.cell (rfl))) ?_
    refine g1 12 rfl rfl (x_move (by conv => lhs; whnf)) ?_
    refine g1 12 rfl rfl (x_ixs u25 sz81 rfl rfl ((hl.ext hX).adr kFl_pos (by omega)) (by omega) (by omega)) ?_
    refine g1 12 rfl rfl (x_fieldAddr fo81_0 sz9 rfl) ?_
    refine g1 12 rfl rfl (x_load1 un9 rfl ((hl.ext hX).flAt i (by omega) 0 rfl)) ?_
    refine g1 12 rfl rfl (x_move (by conv => lhs; whnf)) ?_
    refine g1 12 rfl rfl (x_lss_str rfl rfl) ?_
    refine p1 (x_pick_t rfl (by conv => lhs; whnf)) ?_
    refine r_nil ?_
    refine t_n ?_
    first | refine c_dec rfl (fun hc21 => ?_) (fun hc21 => ?_) | refine c_if rfl (fun hc21 => ?_) (fun hc21 => ?_)
    · try simp only [decide_eq_true_eq, decide_eq_false_iff_not, Bool.not_eq_true, Bool.not_eq_false, Bool.not_eq_eq_eq_not, Bool.not_true, Bool.not_false, Int.not_lt, Int.not_le] at hc21
      have h1 : lssB (l.getD i default).1 k = true := hc21
      refine c_skip ?_
      refine t_n ?_
      refine c_block ?_
      refine r_plain ?_
      refine p1 (x_move (by conv => lhs; whnf)) ?_
      refine p1 (x_add rfl rfl (fits_i64 (by omega) (by omega))) ?_
      refine p1 (x_assign (by conv => lhs; whnf)) ?_
      refine r_nil ?_
      refine b_n ?_
      refine t_n (At.mk (i + 1) (by repeat (first | exact Agr.refl _ _ | exact Agr.hav _ _ _ | refine Agr.upd rfl ?_ | refine Agr.updR rfl ?_ | refine Agr.updL ?_ _ rfl | refine Agr.hav' rfl ?_)) ⟨rfl, trivial⟩ ?_)
      exact ⟨⟨hWL0, ⟨by omega, fun j hj => if h : j < i then hL j h else by rw [show j = i from by omega]; exact h1⟩⟩, by first | (dsimp only; omega) | ((show _ < _); omega)⟩
    · try simp only [decide_eq_true_eq, decide_eq_false_iff_not, Bool.not_eq_true, Bool.not_eq_false, Bool.not_eq_eq_eq_not, Bool.not_true, Bool.not_false, Int.not_lt, Int.not_le] at hc21
      have hend : i < n → lssB (l.getD i default).1 k = false := fun h => by first | exact hc21 | (exfalso; omega)
      have hpl : plcA l k = i := plc_specA l k i (by omega) hL (fun h => hend (by omega))
      refine c_exit ?_
      refine t_e ?_
      refine t_e ?_
      refine b_hit ?_
      refine t_n ?_
      refine c_seq ?_
      refine r_still mixed (by kernel_rfl) ?_
      intro w3 hE3
      have hX := hX.ext hE3
      have hB2 := hB2.ext hE3
      refine s1 (x_move (by conv => lhs; whnf)) ?_
      refine s1 (x_move (by conv => lhs; whnf)) ?_
      refine s1 (x_fieldAddr fo27_1 sz25 rfl) ?_
      refine s1 (x_load1 un25 rfl (hB2.cell (rfl))) ?_
      refine s1 (x_len_slice u25 rfl) ?_
      refine s1 (x_lss rfl rfl) ?_
      refine s1b (x_move (by conv => lhs; whnf)) (fun hb4_6 => ?_) (fun hb4_6 => ?_)
      · try simp only [decide_eq_true_eq, decide_eq_false_iff_not, Bool.not_eq_true, Bool.not_eq_false, Bool.not_eq_eq_eq_not, Bool.not_true, Bool.not_false, Int.not_lt, Int.not_le] at hb4_6
        refine sg1 30 rfl rfl (x_fieldAddr fo27_1 sz25 rfl) ?_
        refine sg1 30 rfl rfl (x_load1 un25 rfl (hB2.cell (rfl))) ?_
        refine sg1 30 rfl rfl (x_move (by conv => lhs; whnf)) ?_
        refine sg1 30 rfl rfl (x_ixs u25 sz81 rfl rfl ((hl.ext hX).adr kFl_pos (by omega)) (by omega) (by omega)) ?_
        refine sg1 30 rfl rfl (x_fieldAddr fo81_0 sz9 rfl) ?_
        refine sg1 30 rfl rfl (x_load1 un9 rfl ((hl.ext hX).flAt i (by omega) 0 rfl)) ?_
        refine sg1 30 rfl rfl (x_move (by conv => lhs; whnf)) ?_
        refine sg1 30 rfl rfl (x_eql_str rfl rfl) ?_
        refine s1 (x_pick_t rfl (by conv => lhs; whnf)) ?_
        refine s1 (x_assign (by conv => lhs; whnf)) ?_
        refine s1 (x_assign (by conv => lhs; whnf)) ?_
        refine s_nil ?_
        refine t_n ?_
        refine c_ret ?_
        refine end2 rfl (by conv => lhs; whnf) (by conv => lhs; whnf) ?_
        first
          | exact ⟨by rw [hpl]; exact congrArg (fun b => Value.tuple #[.int .i64 (i : Int), .bool b]) (decide_eq_decide.2 ⟨fun h => ⟨by omega, h⟩, fun h => h.2⟩), hX⟩
          | exact ⟨by rw [hpl]; exact congrArg (fun b => Value.tuple #[.int .i64 (i : Int), .bool b]) (decide_eq_false (fun h => by have := h.1; omega)).symm, hX⟩
      · try simp only [decide_eq_true_eq, decide_eq_false_iff_not, Bool.not_eq_true, Bool.not_eq_false, Bool.not_eq_eq_eq_not, Bool.not_true, Bool.not_false, Int.not_lt, Int.not_le] at hb4_6
        refine sg0 30 rfl (by first | exact .inl rfl | exact .inr rfl) ?_
        refine sg0 30 rfl (by first | exact .inl rfl | exact .inr rfl) ?_
        refine sg0 30 rfl (by first | exact .inl rfl | exact .inr rfl) ?_
        refine sg0 30 rfl (by first | exact .inl rfl | exact .inr rfl) ?_
        refine sg0 30 rfl (by first | exact .inl rfl | exact .inr rfl) ?_
        refine sg0 30 rfl (by first | exact .inl rfl | exact .inr rfl) ?_
        refine sg0 30 rfl (by first | exact .inl rfl | exact .inr rfl) ?_
        refine sg0 30 rfl (by first | exact .inl rfl | exact .inr rfl) ?_
        refine s1 (x_pick_f rfl (by conv => lhs; whnf)) ?_
        refine s1 (x_assign (by conv => lhs; whnf)) ?_
        refine s1 (x_assign (by conv => lhs; whnf)) ?_
        refine s_nil ?_
        refine t_n ?_
        refine c_ret ?_
        refine end2 rfl (by conv => lhs; whnf) (by conv => lhs; whnf) ?_
        first
          | exact ⟨by rw [hpl]; exact congrArg (fun b => Value.tuple #[.int .i64 (i : Int), .bool b]) (decide_eq_decide.2 ⟨fun h => ⟨by omega, h⟩, fun h => h.2⟩), hX⟩
          | exact ⟨by rw [hpl]; exact congrArg (fun b => Value.tuple #[.int .i64 (i : Int), .bool b]) (decide_eq_false (fun h => by have := h.1; omega)).symm, hX⟩
  · try simp only [decide_eq_true_eq, decide_eq_false_iff_not, Bool.not_eq_true, Bool.not_eq_false, Bool.not_eq_eq_eq_not, Bool.not_true, Bool.not_false, Int.not_lt, Int.not_le] at hb2_5
    refine g0 12 rfl (by first | exact .inl rfl | exact .inr rfl) ?_
    refine g0 12 rfl (by first | exact .inl rfl | exact .inr rfl) ?_
    refine g0 12 rfl (by first | exact .inl rfl | exact .inr rfl) ?_
    refine g0 12 rfl (by first | exact .inl rfl | exact .inr rfl) ?_
    refine g0 12 rfl (by first | exact .inl rfl | exact .inr rfl) ?_
    refine g0 12 rfl (by first | exact .inl rfl | exact .inr rfl) ?_
    refine g0 12 rfl (by first | exact .inl rfl | exact .inr rfl) ?_
    refine g0 12 rfl (by first | exact .inl rfl | exact .inr rfl) ?_
    refine p1 (x_pick_f rfl (by conv => lhs; whnf)) ?_
    refine r_nil ?_
    refine t_n ?_
    refine c_f rfl ?_
    have hend : i < n → lssB (l.getD i default).1 k = false := fun h => by first | exact hc21 | (exfalso; omega)
    have hpl : plcA l k = i := plc_specA l k i (by omega) hL (fun h => hend (by omega))
    refine c_exit ?_
    refine t_e ?_
    refine t_e ?_
    refine b_hit ?_
    refine t_n ?_
    refine c_seq ?_
    refine r_still mixed (by kernel_rfl) ?_
    intro w4 hE4
    have hX := hX.ext hE4
    have hB2 := hB2.ext hE4
    refine s1 (x_move (by conv => lhs; whnf)) ?_
    refine s1 (x_move (by conv => lhs; whnf)) ?_
    refine s1 (x_fieldAddr fo27_1 sz25 rfl) ?_
    refine s1 (x_load1 un25 rfl (hB2.cell (rfl))) ?_
    refine s1 (x_len_slice u25 rfl) ?_
    refine s1 (x_lss rfl rfl) ?_
    refine s1b (x_move (by conv => lhs; whnf)) (fun hb4_6 => ?_) (fun hb4_6 => ?_)
    · try simp only [decide_eq_true_eq, decide_eq_false_iff_not, Bool.not_eq_true, Bool.not_eq_false, Bool.not_eq_eq_eq_not, Bool.not_true, Bool.not_false, Int.not_lt, Int.not_le] at hb4_6
      refine sg1 30 rfl rfl (x_fieldAddr fo27_1 sz25 rfl) ?_
      refine sg1 30 rfl rfl (x_load1 un25 rfl (hB2.cell (rfl))) ?_
      refine sg1 30 rfl rfl (x_move (by conv => lhs; whnf)) ?_
      refine sg1 30 rfl rfl (x_ixs u25 sz81 rfl rfl ((hl.ext hX).adr kFl_pos (by omega)) (by omega) (by omega)) ?_
      refine sg1 30 rfl rfl (x_fieldAddr fo81_0 sz9 rfl) ?_
      refine sg1 30 rfl rfl (x_load1 un9 rfl ((hl.ext hX).flAt i (by omega) 0 rfl)) ?_
      refine sg1 30 rfl rfl (x_move (by conv => lhs; whnf)) ?_
      refine sg1 30 rfl rfl (x_eql_str rfl rfl) ?_
      refine s1 (x_pick_t rfl (by conv => lhs; whnf)) ?_
      refine s1 (x_assign (by conv => lhs; whnf)) ?_
      refine s1 (x_assign (by conv => lhs; whnf)) ?_
      refine s_nil ?_
      refine t_n ?_
      refine c_ret ?_
      refine end2 rfl (by conv => lhs; whnf) (by conv => lhs; whnf) ?_
      first
        | exact ⟨by rw [hpl]; exact congrArg (fun b => Value.tuple #[.int .i64 (i : Int), .bool b]) (decide_eq_decide.2 ⟨fun h => ⟨by omega, h⟩, fun h => h.2⟩), hX⟩
        | exact ⟨by rw [hpl]; exact congrArg (fun b => Value.tuple #[.int .i64 (i : Int), .bool b]) (decide_eq_false (fun h => by have := h.1; omega)).symm, hX⟩
    · try simp only [decide_eq_true_eq, decide_eq_false_iff_not, Bool.not_eq_true, Bool.not_eq_false, Bool.not_eq_eq_eq_not, Bool.not_true, Bool.not_false, Int.not_lt, Int.not_le] at hb4_6
      refine sg0 30 rfl (by first | exact .inl rfl | exact .inr rfl) ?_
      refine sg0 30 rfl (by first | exact .inl rfl | exact .inr rfl) ?_
      refine sg0 30 rfl (by first | exact .inl rfl | exact .inr rfl) ?_
      refine sg0 30 rfl (by first | exact .inl rfl | exact .inr rfl) ?_
      refine sg0 30 rfl (by first | exact .inl rfl | exact .inr rfl) ?_
      refine sg0 30 rfl (by first | exact .inl rfl | exact .inr rfl) ?_
      refine sg0 30 rfl (by first | exact .inl rfl | exact .inr rfl) ?_
      refine sg0 30 rfl (by first | exact .inl rfl | exact .inr rfl) ?_
      refine s1 (x_pick_f rfl (by conv => lhs; whnf)) ?_
      refine s1 (x_assign (by conv => lhs; whnf)) ?_
      refine s1 (x_assign (by conv => lhs; whnf)) ?_
      refine s_nil ?_
      refine t_n ?_
      refine c_ret ?_
      refine end2 rfl (by conv => lhs; whnf) (by conv => lhs; whnf) ?_
      first
        | exact ⟨by rw [hpl]; exact congrArg (fun b => Value.tuple #[.int .i64 (i : Int), .bool b]) (decide_eq_decide.2 ⟨fun h => ⟨by omega, h⟩, fun h => h.2⟩), hX⟩
        | exact ⟨by rw [hpl]; exact congrArg (fun b => Value.tuple #[.int .i64 (i : Int), .bool b]) (decide_eq_false (fun h => by have := h.1; omega)).symm, hX⟩
theorem ref_Used (a0 a2 a4 : Int) (b3 b5 b6 : Bool) (l : List Fl) (p : Option Addr) (n c : Nat) (w : World) (hl : Sl kFl 81 0 w p n c l) (hn : n ≤ 100000) (hu : usedL l ≤ 16777216) :
    Ret Try.prog 54 [.agg #[.int .i64 a0, .slice p n c, .int .i64 a2, .bool b3, .int .i64 a4, .bool b5, .bool b6]] w (fun v w' => v = .int .i64 ((usedL l : Nat) : Int) ∧ Ext w w') := by
  have hX := Ext.refl w
  refine enter 30 _ Try.func54 rfl rfl (Nat.le_of_ble_eq_true rfl) rfl ?_
  refine c_seq ?_
  refine r_plain ?_
  refine o_boxA (by conv => lhs; whnf) ?_
  intro w1 g1 hN1
  have hE1 := hN1.ext
  have hX := hX.ext hE1
  have hB1 := hN1.blk
  refine p1 (x_assign (by conv => lhs; whnf)) ?_
  refine r_nil ?_
  refine t_n ?_
  refine c_seq ?_
  refine r_plain ?_
  refine p1 (x_assign (by conv => lhs; whnf)) ?_
  refine r_nil ?_
  refine t_n ?_
  refine c_seq ?_
  refine c_seq ?_
  refine r_plain ?_
  refine p1 (x_assign (by conv => lhs; whnf)) ?_
  refine r_nil ?_
  refine t_n ?_
  refine c_block ?_
  have hWL0 := Ext.refl w1
  have hlen := hl.len
  refine c_loop (ι := Nat) [3, 4, 5, 6, 7, 8, 9, 10, 11, 12, 13, 14, 15, 16, 17, 18, 19, 20, 21, 22, 23, 24, 25, 26, 27, 28] (fun i => [(3, .int .i64 ((usedL (l.take i) : Nat) : Int)), (4, .int .i64 (i : Int))]) (fun i w' => Ext w1 w' ∧ (i ≤ n)) (fun i => n - i) (0) ⟨rfl, rfl, trivial⟩ ⟨Ext.refl _, by omega⟩ ?_
  rintro i GL0 w2 ⟨hE2, hi⟩
  have hX := hX.ext hE2
  have hB1 := hB1.ext hE2
  have hWL0 := hE2
  refine c_seq ?_
  refine c_seq ?_
  refine r_plain ?_
  refine p1 (x_move (by conv => lhs; whnf)) ?_
  refine p1 (x_fieldAddr fo27_1 sz25 rfl) ?_
  refine p1 (x_load1 un25 rfl (hB1.cell (rfl))) ?_
  refine p1 (x_len_slice u25 rfl) ?_
  refine p1 (x_lss rfl rfl) ?_
  refine r_nil ?_
  refine t_n ?_
  first | refine c_dec rfl (fun hc9 => ?_) (fun hc9 => ?_) | refine c_if rfl (fun hc9 => ?_) (fun hc9 => ?_)
  · try simp only [decide_eq_true_eq, decide_eq_false_iff_not, Bool.not_eq_true, Bool.not_eq_false, Bool.not_eq_eq_eq_not, Bool.not_true, Bool.not_false, Int.not_lt, Int.not_le] at hc9
    refine c_skip ?_
    refine t_n ?_
    refine c_seq ?_
    refine c_block ?_
    have hstep := usedL_step (l := l) (k := i) (by omega)
    have htk := usedL_take l (i + 1)
    have hz1 := toStr_size ((l.getD i default).2.1.take (l.getD i default).2.2)
    have hz2 := toStr_size ((l.getD i default).2.1.drop (l.getD i default).2.2)
    rw [List.length_take] at hz1
    rw [List.length_drop] at hz2
    refine r_still mixed (by kernel_rfl) ?_
    intro w3 hE3
    have hX := hX.ext hE3
    have hB1 := hB1.ext hE3
    have hWL0 := hWL0.ext hE3
    refine s1 (x_move (by conv => lhs; whnf)) ?_
    refine s1 (x_fieldAddr fo27_1 sz25 rfl) ?_
    refine s1 (x_load1 un25 rfl (hB1.cell (rfl))) ?_
    refine s1 (x_move (by conv => lhs; whnf)) ?_
    refine s1 (x_ixs u25 sz81 rfl rfl ((hl.ext hX).adr kFl_pos (by omega)) (by omega) (by omega)) ?_
    refine s1 (x_fieldAddr fo81_1 sz9 rfl) ?_
    refine s1 (x_load1 un9 rfl ((hl.ext hX).flAt i (by omega) 1 rfl)) ?_
    refine s1 (x_len_str u9 rfl) ?_
    refine s1 (x_fieldAddr fo27_1 sz25 rfl) ?_
    refine s1 (x_load1 un25 rfl (hB1.cell (rfl))) ?_
    refine s1 (x_move (by conv => lhs; whnf)) ?_
    refine s1 (x_ixs u25 sz81 rfl rfl ((hl.ext hX).adr kFl_pos (by omega)) (by omega) (by omega)) ?_
    refine s1 (x_fieldAddr fo81_2 sz9 rfl) ?_
    refine s1 (x_load1 un9 rfl ((hl.ext hX).flAt i (by omega) 2 rfl)) ?_
    refine s1 (x_len_str u9 rfl) ?_
    refine s1 (x_add rfl rfl (fits_i64 (by omega) (by omega))) ?_
    refine s1 ((x_add rfl rfl (fits_i64 (by omega) (by omega))).cast (congrArg (Value.int .i64) (by omega : _ = ((usedL (l.take (i + 1)) : Nat) : Int)))) ?_
    refine s1 (x_assign (by conv => lhs; whnf)) ?_
    refine s_nil ?_
    refine b_n ?_
    refine t_n ?_
    refine r_plain ?_
    refine p1 (x_move (by conv => lhs; whnf)) ?_
    refine p1 (x_add rfl rfl (fits_i64 (by omega) (by omega))) ?_
    refine p1 (x_assign (by conv => lhs; whnf)) ?_
    refine r_nil ?_
    refine t_n (At.mk (i + 1) (by repeat (first | exact Agr.refl _ _ | exact Agr.hav _ _ _ | refine Agr.upd rfl ?_ | refine Agr.updR rfl ?_ | refine Agr.updL ?_ _ rfl | refine Agr.hav' rfl ?_)) ⟨rfl, rfl, trivial⟩ ?_)
    exact ⟨⟨hWL0, (by omega)⟩, by first | (dsimp only; omega) | ((show _ < _); omega)⟩
  · try simp only [decide_eq_true_eq, decide_eq_false_iff_not, Bool.not_eq_true, Bool.not_eq_false, Bool.not_eq_eq_eq_not, Bool.not_true, Bool.not_false, Int.not_lt, Int.not_le] at hc9
    have htt : l.take i = l := List.take_of_length_le (by omega)
    refine c_exit ?_
    refine t_e ?_
    refine t_e ?_
    refine b_hit ?_
    refine t_n ?_
    refine c_seq ?_
    refine r_plain ?_
    refine p1 (x_move (by conv => lhs; whnf)) ?_
    refine p1 (x_assign (by conv => lhs; whnf)) ?_
    refine r_nil ?_
    refine t_n ?_
    refine c_ret ?_
    refine end1 rfl (by conv => lhs; whnf) ?_
    exact ⟨by rw [htt], hX⟩
theorem ref_either (a0 a2 a4 a0x a2x a4x : Int) (b3 b5 b6 b3x b5x b6x : Bool) (p px : Option Addr) (n c nx cx : Nat) (w : World) :
    Ret Try.prog 58 [.agg #[.int .i64 a0, .slice p n c, .int .i64 a2, .bool b3, .int .i64 a4, .bool b5, .bool b6], .agg #[.int .i64 a0x, .slice px nx cx, .int .i64 a2x, .bool b3x, .int .i64 a4x, .bool b5x, .bool b6x]] w (fun v w' => v = (if b5 = true then .agg #[.int .i64 a0x, .slice px nx cx, .int .i64 a2x, .bool b3x, .int .i64 a4x, .bool b5x, .bool b6x] else .agg #[.int .i64 a0, .slice p n c, .int .i64 a2, .bool b3, .int .i64 a4, .bool b5, .bool b6]) ∧ Ext w w') := by
  have hX := Ext.refl w
  refine enter 9 _ Try.func58 rfl rfl (Nat.le_of_ble_eq_true rfl) rfl ?_
  refine c_seq ?_
  refine r_plain ?_
  refine o_boxA (by conv => lhs; whnf) ?_
  intro w1 g2 hN2
  have hE1 := hN2.ext
  have hX := hX.ext hE1
  have hB2 := hN2.blk
  refine o_boxA (by conv => lhs; whnf) ?_
  intro w2 g3 hN3
  have hE2 := hN3.ext
  have hX := hX.ext hE2
  have hB2 := hB2.ext hE2
  have hB3 := hN3.blk
  have hXs4 := hX.size
  have hlt2 := hB2.lt
  have hlt3 := hB3.lt
  refine o_alloc zr27 ?_
  intro w3 g4 hN4
  have hE3 := hN4.ext
  have hX := hX.ext hE3
  have hB2 := hB2.ext hE3
  have hB3 := hB3.ext hE3
  have hB4 := hN4.blk
  refine r_nil ?_
  refine t_n ?_
  refine c_seq ?_
  refine c_seq ?_
  have hq4 := hN4.g_eq
  refine r_plain ?_
  refine p1 (x_fieldAddr fo27_5 sz4 rfl) ?_
  refine p1 (x_load1 un4 rfl (hB2.cell (rfl))) ?_
  refine r_nil ?_
  refine t_n ?_
  first | refine c_dec rfl (fun hc6 => ?_) (fun hc6 => ?_) | refine c_if rfl (fun hc6 => ?_) (fun hc6 => ?_)
  · try simp only [decide_eq_true_eq, decide_eq_false_iff_not, Bool.not_eq_true, Bool.not_eq_false, Bool.not_eq_eq_eq_not, Bool.not_true, Bool.not_false, Int.not_lt, Int.not_le] at hc6
    have hq : b5 = true := hc6
    refine c_seq ?_
    refine r_plain ?_
    refine p1 (x_loadB ua27 rfl hB3 (by exact sz27)) ?_
    refine o_storeAll rfl (by conv => lhs; whnf) (by simp [Value.oneCell']) (by exact sz27) hB4 (by rfl) ?_
    intro w4 hP4
    have hX := hX.put hP4 (by rw [hN4.g_eq]; exact hXs4)
    have hB2 := hP4.keep hB2 (by omega)
    have hB3 := hP4.keep hB3 (by omega)
    have hB4 := hP4.blk
    refine r_nil ?_
    refine t_n ?_
    refine c_ret ?_
    refine t_r ?_
    refine end1c rfl ua27 rfl hB4 (by exact sz27) ?_
    first
      | exact ⟨(if_pos hq).symm, hX⟩
      | exact ⟨(if_neg hq).symm, hX⟩
  · try simp only [decide_eq_true_eq, decide_eq_false_iff_not, Bool.not_eq_true, Bool.not_eq_false, Bool.not_eq_eq_eq_not, Bool.not_true, Bool.not_false, Int.not_lt, Int.not_le] at hc6
    have hq : ¬ b5 = true := by simpa using hc6
    refine c_skip ?_
    refine t_n ?_
    refine c_seq ?_
    refine r_plain ?_
    refine p1 (x_loadB ua27 rfl hB2 (by exact sz27)) ?_
    refine o_storeAll rfl (by conv => lhs; whnf) (by simp [Value.oneCell']) (by exact sz27) hB4 (by rfl) ?_
    intro w5 hP5
    have hX := hX.put hP5 (by rw [hN4.g_eq]; exact hXs4)
    have hB2 := hP5.keep hB2 (by omega)
    have hB3 := hP5.keep hB3 (by omega)
    have hB4 := hP5.blk
    refine r_nil ?_
    refine t_n ?_
    refine c_ret ?_
    refine end1c rfl ua27 rfl hB4 (by exact sz27) ?_
    first
      | exact ⟨(if_pos hq).symm, hX⟩
      | exact ⟨(if_neg hq).symm, hX⟩
theorem ref_step (a0 a2 a4 a0x a2x a4x a0y a2y a4y : Int) (b3 b5 b6 b3x b5x b6x b3y b5y b6y : Bool) (p px py : Option Addr) (n c nx cx ny cy : Nat) (w : World) (h1 : -9223372036854775807 ≤ a4x) (h2 : a4x ≤ 9223372036854775807) (h3 : 0 ≤ a2x) (h4 : a2x < 9223372036854775807) :
    Ret Try.prog 57 [.agg #[.int .i64 a0, .slice p n c, .int .i64 a2, .bool b3, .int .i64 a4, .bool b5, .bool b6], .agg #[.int .i64 a0x, .slice px nx cx, .int .i64 a2x, .bool b3x, .int .i64 a4x, .bool b5x, .bool b6x], .agg #[.int .i64 a0y, .slice py ny cy, .int .i64 a2y, .bool b3y, .int .i64 a4y, .bool b5y, .bool b6y]] w (fun v w' => v = (if b3 = true ∧ a4 = 0 then .tuple #[.agg #[.int .i64 a0y, .slice py ny cy, .int .i64 a2y, .bool false, .int .i64 a4y, .bool b5y, .bool true], .int .i64 20] else .tuple #[.agg #[.int .i64 a0x, .slice px nx cx, .int .i64 (a2x + 1), .bool b3x, .int .i64 (if b3x = true then a4x - 1 else a4x), .bool b5x, .bool b6x], .int .i64 0]) ∧ Ext w w') := by
  have hX := Ext.refl w
  refine enter 29 _ Try.func57 rfl rfl (Nat.le_of_ble_eq_true rfl) rfl ?_
  refine c_seq ?_
  refine r_plain ?_
  have hXs3 := hX.size
  refine o_boxA (by conv => lhs; whnf) ?_
  intro w1 g3 hN3
  have hE1 := hN3.ext
  have hX := hX.ext hE1
  have hB3 := hN3.blk
  have hXs4 := hX.size
  have hlt3 := hB3.lt
  refine o_boxA (by conv => lhs; whnf) ?_
  intro w2 g4 hN4
  have hE2 := hN4.ext
  have hX := hX.ext hE2
  have hB3 := hB3.ext hE2
  have hB4 := hN4.blk
  have hXs5 := hX.size
  have hlt4 := hB4.lt
  have hlt3b := hB3.lt
  refine o_boxA (by conv => lhs; whnf) ?_
  intro w3 g5 hN5
  have hE3 := hN5.ext
  have hX := hX.ext hE3
  have hB3 := hB3.ext hE3
  have hB4 := hB4.ext hE3
  have hB5 := hN5.blk
  have hXs6 := hX.size
  have hlt5 := hB5.lt
  have hlt4c := hB4.lt
  have hlt3c := hB3.lt
  refine o_alloc zr27 ?_
  intro w4 g6 hN6
  have hE4 := hN6.ext
  have hX := hX.ext hE4
  have hB3 := hB3.ext hE4
  have hB4 := hB4.ext hE4
  have hB5 := hB5.ext hE4
  have hB6 := hN6.blk
  have hq4 := hN4.g_eq
  have hq5 := hN5.g_eq
  have hq6 := hN6.g_eq
  refine p1 (x_assign (by conv => lhs; whnf)) ?_
  refine r_nil ?_
  refine t_n ?_
  refine c_seq ?_
  refine c_seq ?_
  have hWr1 := Ext.refl w4
  refine c_cut (ι := Unit) [8, 9, 10, 11, 12, 13, 14] (fun _ => [(14, .bool (decide (b3 = true ∧ a4 = 0)))]) (fun _ w' => Ext w4 w') ?_ ?_
  · skip
    refine r_plain ?_
    refine p1 (x_fieldAddr fo27_3 sz4 rfl) ?_
    refine p1 (x_load1 un4 rfl (hB3.cell (rfl))) ?_
    refine p1b (x_move (by conv => lhs; whnf)) (fun hb1_2 => ?_) (fun hb1_2 => ?_)
    · try simp only [decide_eq_true_eq, decide_eq_false_iff_not, Bool.not_eq_true, Bool.not_eq_false, Bool.not_eq_eq_eq_not, Bool.not_true, Bool.not_false, Int.not_lt, Int.not_le] at hb1_2
      refine g1 10 rfl rfl (x_fieldAddr fo27_4 sz3 rfl) ?_
      refine g1 10 rfl rfl (x_load1 un3 rfl (hB3.cell (rfl))) ?_
      refine g1 10 rfl rfl (x_eql rfl rfl) ?_
      refine p1 (x_pick_t rfl (by conv => lhs; whnf)) ?_
      refine r_nil ?_
      refine t_n (At.mk () (by repeat (first | exact Agr.refl _ _ | exact Agr.hav _ _ _ | refine Agr.upd rfl ?_ | refine Agr.updR rfl ?_ | refine Agr.updL ?_ _ rfl | refine Agr.hav' rfl ?_)) ⟨congrArg Value.bool (by first | rfl | (simp_all; done) | grind), trivial⟩ hWr1)
    · try simp only [decide_eq_true_eq, decide_eq_false_iff_not, Bool.not_eq_true, Bool.not_eq_false, Bool.not_eq_eq_eq_not, Bool.not_true, Bool.not_false, Int.not_lt, Int.not_le] at hb1_2
      refine g0 10 rfl (by first | exact .inl rfl | exact .inr rfl) ?_
      refine g0 10 rfl (by first | exact .inl rfl | exact .inr rfl) ?_
      refine g0 10 rfl (by first | exact .inl rfl | exact .inr rfl) ?_
      refine p1 (x_pick_f rfl (by conv => lhs; whnf)) ?_
      refine r_nil ?_
      refine t_n (At.mk () (by repeat (first | exact Agr.refl _ _ | exact Agr.hav _ _ _ | refine Agr.upd rfl ?_ | refine Agr.updR rfl ?_ | refine Agr.updL ?_ _ rfl | refine Agr.hav' rfl ?_)) ⟨congrArg Value.bool (by first | rfl | (simp_all; done) | grind), trivial⟩ hWr1)
  · rintro _ Gr1 w5 hE5
    have hX := hX.ext hE5
    have hB3 := hB3.ext hE5
    have hB4 := hB4.ext hE5
    have hB5 := hB5.ext hE5
    have hB6 := hB6.ext hE5
    refine t_n ?_
    first | refine c_dec rfl (fun hc14 => ?_) (fun hc14 => ?_) | refine c_if rfl (fun hc14 => ?_) (fun hc14 => ?_)
    · try simp only [decide_eq_true_eq, decide_eq_false_iff_not, Bool.not_eq_true, Bool.not_eq_false, Bool.not_eq_eq_eq_not, Bool.not_true, Bool.not_false, Int.not_lt, Int.not_le] at hc14
      refine c_seq ?_
      refine r_plain ?_
      refine p1 (x_fieldAddr fo27_6 sz4 rfl) ?_
      refine o_store1 rfl (by conv => lhs; whnf) rfl rfl sz4 hB5 (by simp) ?_
      intro w6 hP6
      have hX := hX.put hP6 (by rw [hN5.g_eq]; exact hXs5)
      have hB3 := hP6.keep hB3 (by omega)
      have hB4 := hP6.keep hB4 (by omega)
      have hB5 := hP6.blk
      simp only [List.setIfInBounds_toArray, List.set_cons_zero, List.set_cons_succ] at hB5
      have hB6 := hP6.keep hB6 (by omega)
      refine r_nil ?_
      refine t_n ?_
      refine c_seq ?_
      refine r_plain ?_
      refine p1 (x_fieldAddr fo27_3 sz4 rfl) ?_
      refine o_store1 rfl (by conv => lhs; whnf) rfl rfl sz4 hB5 (by simp) ?_
      intro w7 hP7
      have hX := hX.put hP7 (by rw [hN5.g_eq]; exact hXs5)
      have hB3 := hP7.keep hB3 (by omega)
      have hB4 := hP7.keep hB4 (by omega)
      have hB5 := hP7.blk
      simp only [List.setIfInBounds_toArray, List.set_cons_zero, List.set_cons_succ] at hB5
      have hB6 := hP7.keep hB6 (by omega)
      refine r_nil ?_
      refine t_n ?_
      refine c_seq ?_
      refine r_plain ?_
      refine p1 (x_loadB ua27 rfl hB5 (by exact sz27)) ?_
      refine o_storeAll rfl (by conv => lhs; whnf) (by simp [Value.oneCell']) (by exact sz27) hB6 (by rfl) ?_
      intro w8 hP8
      have hX := hX.put hP8 (by rw [hN6.g_eq]; exact hXs6)
      have hB3 := hP8.keep hB3 (by omega)
      have hB4 := hP8.keep hB4 (by omega)
      have hB5 := hP8.keep hB5 (by omega)
      have hB6 := hP8.blk
      refine p1 (x_assign (by conv => lhs; whnf)) ?_
      refine r_nil ?_
      refine t_n ?_
      refine c_ret ?_
      refine t_r ?_
      refine end2c rfl ua27 rfl (by conv => lhs; whnf) hB6 (by exact sz27) ?_
      first
        | exact ⟨(if_pos hc14).symm, hX⟩
        | exact ⟨by rw [if_neg hc14, if_pos hq], hX⟩
        | exact ⟨by rw [if_neg hc14, if_neg hq], hX⟩
    · try simp only [decide_eq_true_eq, decide_eq_false_iff_not, Bool.not_eq_true, Bool.not_eq_false, Bool.not_eq_eq_eq_not, Bool.not_true, Bool.not_false, Int.not_lt, Int.not_le] at hc14
      refine c_skip ?_
      refine t_n ?_
      refine c_seq ?_
      refine c_seq ?_
      refine r_plain ?_
      refine p1 (x_fieldAddr fo27_3 sz4 rfl) ?_
      refine p1 (x_load1 un4 rfl (hB4.cell (rfl))) ?_
      refine r_nil ?_
      refine t_n ?_
      first | refine c_dec rfl (fun hc19 => ?_) (fun hc19 => ?_) | refine c_if rfl (fun hc19 => ?_) (fun hc19 => ?_)
      · try simp only [decide_eq_true_eq, decide_eq_false_iff_not, Bool.not_eq_true, Bool.not_eq_false, Bool.not_eq_eq_eq_not, Bool.not_true, Bool.not_false, Int.not_lt, Int.not_le] at hc19
        have hq : b3x = true := hc19
        refine r_plain ?_
        refine p1 (x_fieldAddr fo27_4 sz3 rfl) ?_
        refine p1 (x_load1 un3 rfl (hB4.cell (rfl))) ?_
        refine p1 (x_sub rfl rfl (fits_i64 (by omega) (by omega))) ?_
        refine p1 (x_fieldAddr fo27_4 sz3 rfl) ?_
        refine o_store1 rfl (by conv => lhs; whnf) rfl rfl sz3 hB4 (by simp) ?_
        intro w9 hP9
        have hX := hX.put hP9 (by rw [hN4.g_eq]; exact hXs4)
        have hB3 := hP9.keep hB3 (by omega)
        have hB4 := hP9.blk
        simp only [List.setIfInBounds_toArray, List.set_cons_zero, List.set_cons_succ] at hB4
        have hB5 := hP9.keep hB5 (by omega)
        have hB6 := hP9.keep hB6 (by omega)
        refine r_nil ?_
        refine t_n ?_
        refine c_seq ?_
        refine r_plain ?_
        refine p1 (x_fieldAddr fo27_2 sz3 rfl) ?_
        refine p1 (x_load1 un3 rfl (hB4.cell (rfl))) ?_
        refine p1 (x_add rfl rfl (fits_i64 (by omega) (by omega))) ?_
        refine p1 (x_fieldAddr fo27_2 sz3 rfl) ?_
        refine o_store1 rfl (by conv => lhs; whnf) rfl rfl sz3 hB4 (by simp) ?_
        intro w10 hP10
        have hX := hX.put hP10 (by rw [hN4.g_eq]; exact hXs4)
        have hB3 := hP10.keep hB3 (by omega)
        have hB4 := hP10.blk
        simp only [List.setIfInBounds_toArray, List.set_cons_zero, List.set_cons_succ] at hB4
        have hB5 := hP10.keep hB5 (by omega)
        have hB6 := hP10.keep hB6 (by omega)
        refine r_nil ?_
        refine t_n ?_
        refine c_seq ?_
        refine r_plain ?_
        refine p1 (x_loadB ua27 rfl hB4 (by exact sz27)) ?_
        refine o_storeAll rfl (by conv => lhs; whnf) (by simp [Value.oneCell']) (by exact sz27) hB6 (by rfl) ?_
        intro w11 hP11
        have hX := hX.put hP11 (by rw [hN6.g_eq]; exact hXs6)
        have hB3 := hP11.keep hB3 (by omega)
        have hB4 := hP11.keep hB4 (by omega)
        have hB5 := hP11.keep hB5 (by omega)
        have hB6 := hP11.blk
        refine p1 (x_assign (by conv => lhs; whnf)) ?_
        refine r_nil ?_
        refine t_n ?_
        refine c_ret ?_
        refine end2c rfl ua27 rfl (by conv => lhs; whnf) hB6 (by exact sz27) ?_
        first
          | exact ⟨(if_pos hc14).symm, hX⟩
          | exact ⟨by rw [if_neg hc14, if_pos hq], hX⟩
          | exact ⟨by rw [if_neg hc14, if_neg hq], hX⟩
      · try simp only [decide_eq_true_eq, decide_eq_false_iff_not, Bool.not_eq_true, Bool.not_eq_false, Bool.not_eq_eq_eq_not, Bool.not_true, Bool.not_false, Int.not_lt, Int.not_le] at hc19
        have hq : ¬ b3x = true := by simpa using hc19
        refine c_skip ?_
        refine t_n ?_
        refine c_seq ?_
        refine r_plain ?_
        refine p1 (x_fieldAddr fo27_2 sz3 rfl) ?_
        refine p1 (x_load1 un3 rfl (hB4.cell (rfl))) ?_
        refine p1 (x_add rfl rfl (fits_i64 (by omega) (by omega))) ?_
        refine p1 (x_fieldAddr fo27_2 sz3 rfl) ?_
        refine o_store1 rfl (by conv => lhs; whnf) rfl rfl sz3 hB4 (by simp) ?_
        intro w12 hP12
        have hX := hX.put hP12 (by rw [hN4.g_eq]; exact hXs4)
        have hB3 := hP12.keep hB3 (by omega)
        have hB4 := hP12.blk
        simp only [List.setIfInBounds_toArray, List.set_cons_zero, List.set_cons_succ] at hB4
        have hB5 := hP12.keep hB5 (by omega)
        have hB6 := hP12.keep hB6 (by omega)
        refine r_nil ?_
        refine t_n ?_
        refine c_seq ?_
        refine r_plain ?_
        refine p1 (x_loadB ua27 rfl hB4 (by exact sz27)) ?_
        refine o_storeAll rfl (by conv => lhs; whnf) (by simp [Value.oneCell']) (by exact sz27) hB6 (by rfl) ?_
        intro w13 hP13
        have hX := hX.put hP13 (by rw [hN6.g_eq]; exact hXs6)
        have hB3 := hP13.keep hB3 (by omega)
        have hB4 := hP13.keep hB4 (by omega)
        have hB5 := hP13.keep hB5 (by omega)
        have hB6 := hP13.blk
        refine p1 (x_assign (by conv => lhs; whnf)) ?_
        refine r_nil ?_
        refine t_n ?_
        refine c_ret ?_
        refine end2c rfl ua27 rfl (by conv => lhs; whnf) hB6 (by exact sz27) ?_
        first
          | exact ⟨(if_pos hc14).symm, hX⟩
          | exact ⟨by rw [if_neg hc14, if_pos hq], hX⟩
          | exact ⟨by rw [if_neg hc14, if_neg hq], hX⟩
theorem ref_with (a0 a2 a4 : Int) (b3 b5 b6 : Bool) (l : List Fl) (p : Option Addr) (n c : Nat) (w : World) (hl : Sl kFl 81 0 w p n c l) (hn : n ≤ 100000) (k : ByteArray) (a b : List UInt8) :
    Ret Try.prog 56 [.agg #[.int .i64 a0, .slice p n c, .int .i64 a2, .bool b3, .int .i64 a4, .bool b5, .bool b6], .agg #[.string k, .string (toStr a), .string (toStr b)]] w (fun v w' => (∃ p' n' c', v = .agg #[.int .i64 a0, .slice p' n' c', .int .i64 a2, .bool b3, .int .i64 a4, .bool b5, .bool b6] ∧ Sl kFl 81 0 w' p' n' c' (insA l k (some (a ++ b, a.length)))) ∧ Ext w w') := by
  have hX := Ext.refl w
  refine enter 35 _ Try.func56 rfl rfl (Nat.le_of_ble_eq_true rfl) rfl ?_
  refine c_seq ?_
  refine r_plain ?_
  have hXs2 := hX.size
  refine o_boxA (by conv => lhs; whnf) ?_
  intro w1 g2 hN2
  have hE1 := hN2.ext
  have hX := hX.ext hE1
  have hB2 := hN2.blk
  have hlt2 := hB2.lt
  refine o_boxA (by conv => lhs; whnf) ?_
  intro w2 g3 hN3
  have hE2 := hN3.ext
  have hX := hX.ext hE2
  have hB2 := hB2.ext hE2
  have hB3 := hN3.blk
  have hXs4 := hX.size
  have hlt3 := hB3.lt
  have hlt2b := hB2.lt
  refine o_alloc zr27 ?_
  intro w3 g4 hN4
  have hE3 := hN4.ext
  have hX := hX.ext hE3
  have hB2 := hB2.ext hE3
  have hB3 := hB3.ext hE3
  have hB4 := hN4.blk
  refine r_nil ?_
  refine t_n ?_
  refine c_seq ?_
  have hg4 := hN4.g_eq
  have hg3 := hN3.g_eq
  have hlen := hl.len
  have hcap := hl.cap
  have hple := plc_leA l k
  refine r_plain ?_
  refine p1 (x_loadB ua27 rfl hB2 (by exact sz27)) ?_
  refine p1 (x_fieldAddr fo81_0 sz9 rfl) ?_
  refine p1 (x_load1 un9 rfl (hB3.cell (rfl))) ?_
  refine o_call Try.func45 fn45 fb45 (ref_place a0 a2 a4 b3 b5 b6 l p n c _ (hl.ext hX) k hn) rfl ?_
  rintro v4 w4 ⟨rfl, hE4⟩
  have hX := hX.ext hE4
  have hB2 := hB2.ext hE4
  have hB3 := hB3.ext hE4
  have hB4 := hB4.ext hE4
  refine p1 (x_move (by conv => lhs; whnf)) ?_
  refine p1 (x_extract rfl rfl) ?_
  refine p1 (x_extract rfl rfl) ?_
  refine p1 (x_assign (by conv => lhs; whnf)) ?_
  refine p1 (x_assign (by conv => lhs; whnf)) ?_
  refine r_nil ?_
  refine t_n ?_
  refine c_seq ?_
  refine r_plain ?_
  refine p1 (x_assign (by conv => lhs; whnf)) ?_
  refine r_nil ?_
  refine t_n ?_
  refine c_seq ?_
  refine r_held (fun w1 w2 => Ext w1 w2) mixed ?_
  intro w5 hE5
  have hX := hX.ext hE5
  have hB2 := hB2.ext hE5
  have hB3 := hB3.ext hE5
  have hB4 := hB4.ext hE5
  have hSr3 : (fun w1 w2 => Ext w1 w2) w5 w5 := Ext.refl w5
  refine h_take 0 rfl (by kernel_rfl) (by kernel_rfl) (by kernel_rfl) hSr3 (fun wS hSS => by (have hX := hX.ext hSS; have hB2 := hB2.ext hSS; have hB3 := hB3.ext hSS; have hB4 := hB4.ext hSS; exact (x_move (by conv => lhs; whnf)))) ?_
  refine h_take 1 rfl (by kernel_rfl) (by kernel_rfl) (by kernel_rfl) hSr3 (fun wS hSS => by (have hX := hX.ext hSS; have hB2 := hB2.ext hSS; have hB3 := hB3.ext hSS; have hB4 := hB4.ext hSS; exact (x_fieldAddr fo27_1 sz25 rfl))) ?_
  refine h_take 2 rfl (by kernel_rfl) (by kernel_rfl) (by kernel_rfl) hSr3 (fun wS hSS => by (have hX := hX.ext hSS; have hB2 := hB2.ext hSS; have hB3 := hB3.ext hSS; have hB4 := hB4.ext hSS; exact (x_load1 un25 rfl (hB2.cell (rfl))))) ?_
  refine h_take 3 rfl (by kernel_rfl) (by kernel_rfl) (by kernel_rfl) hSr3 (fun wS hSS => by (have hX := hX.ext hSS; have hB2 := hB2.ext hSS; have hB3 := hB3.ext hSS; have hB4 := hB4.ext hSS; exact (x_move (by conv => lhs; whnf)))) ?_
  refine h_take 4 rfl (by kernel_rfl) (by kernel_rfl) (by kernel_rfl) hSr3 (fun wS hSS => by (have hX := hX.ext hSS; have hB2 := hB2.ext hSS; have hB3 := hB3.ext hSS; have hB4 := hB4.ext hSS; exact (x_slice_hN u25 sz81 rfl rfl (by omega)))) ?_
  refine h_take 6 rfl (by kernel_rfl) (by kernel_rfl) (by kernel_rfl) hSr3 (fun wS hSS => by (have hX := hX.ext hSS; have hB2 := hB2.ext hSS; have hB3 := hB3.ext hSS; have hB4 := hB4.ext hSS; exact (x_loadB ua81 rfl hB3 (by exact sz81)))) ?_
  refine h_two 5 7 _ _ rfl rfl (by kernel_rfl) (hop_of_list (fun Q5 hQ5 => ?_)) (hop_of_list (fun Q7 hQ7 => ?_))
  · skip
    obtain ⟨B5, hB5⟩ : ∃ B, B = w5.heap.size := ⟨_, rfl⟩
    have hs3 := Nat.le_trans hSr3.size (Nat.le_of_eq hB5.symm)
    have hq5 := Nat.le_trans hX.size (Nat.le_of_eq hB5.symm)
    have h35 := Nat.lt_of_lt_of_le hB3.lt (Nat.le_of_eq hB5.symm)
    have hOn : Own kFl 81 0 B5 w5 none 0 0 [] := Own.nil _ _ _ _ _
    have hl5 := (hl.ext hX).take (plcA l k) (by omega)
    refine o_append (d := kFl) (l.take (plcA l k)) u25 inf81 rfl kFl_pos rfl rfl hOn (src_pure u25 hl5 (by decide)) hl5.len (pure_all _ _ _) rfl (by omega) (by omega) (by omega) (by omega) (by decide) ?_
    intro p20 c20 w6 hO hM6
    have hE6 : Ext w5 w6 := (Ext.refl _).mod hM6 (by rw [hB5]; exact Nat.le_refl _)
    rw [List.nil_append] at hO
    have hG5 := hE6
    have hX := hX.ext hE6
    have hB2 := hB2.ext hE6
    have hB3 := hB3.ext hE6
    have hB4 := hB4.ext hE6
    have hSr3 := hSr3.ext hE6
    refine hop_end hQ5 ⟨hSr3, ?_⟩
    refine h_one 7 _ rfl (by kernel_rfl) (hop_of_list (fun Q7 hQ7 => ?_))
    refine o_buildSlice u25 inf81 rfl (by decide) (fun base hb => fill_kn [.agg #[.string k, .string (toStr a), .string (toStr b)]] (by intro v hv'; simp only [List.mem_singleton] at hv'; subst hv'; rfl) base hb) ?_
    intro w7 g22 hN22
    have hE7 := hN22.ext
    have hX := hX.ext hE7
    have hB2 := hB2.ext hE7
    have hB3 := hB3.ext hE7
    have hB4 := hB4.ext hE7
    have hSr3 := hSr3.ext hE7
    have hO := hO.ext hE7
    have hG5 := hG5.ext hE7
    have hJ : Own kFl 81 0 0 w7 (some ⟨g22, 0, none⟩) 1 1 [(k, (a ++ b, a.length))] := own_lit [(k, (a ++ b, a.length))] (by have h22 : New _ _ g22 #[Value.string k, Value.string (toStr a), Value.string (toStr b)] 81 := hN22; simpa [encF] using h22) (Nat.zero_le _) (by simp)
    refine hop_end hQ7 ⟨hSr3, ?_⟩
    refine h_one 8 _ rfl (by kernel_rfl) (hop_of_list (fun Q8 hQ8 => ?_))
    have hq8 := hX.size
    have hb8 := hG5.size
    rw [← hB5] at hb8
    refine o_append (d := kFl) ([(k, (a ++ b, a.length))]) u25 inf81 rfl kFl_pos rfl rfl hO (src_pure u25 hJ.sl (by decide)) rfl (pure_all _ _ _) (rfl) (by omega) (by omega) (by omega) (by omega) (by decide) ?_
    intro p23 c23 w8 hO hM8
    have hX := hX.mod hM8 (hq5)
    have hB2 := hB2.mod hM8 (by decide)
    have hB3 := hB3.modB hM8 (by omega)
    have hB4 := hB4.mod hM8 (by decide)
    have hSr3 := hSr3.mod hM8 hs3
    have hz8 := hM8.size
    refine hop_end hQ8 ⟨hSr3, ?_⟩
    refine h_take 9 rfl (by kernel_rfl) (by kernel_rfl) (by kernel_rfl) hSr3 (fun wS hSS => by ( exact (x_assign (by conv => lhs; whnf)))) ?_
    refine h_done (by kernel_rfl) ?_
    refine t_n ?_
    refine c_seq ?_
    refine c_seq ?_
    refine r_plain ?_
    refine p1 (x_move (by conv => lhs; whnf)) ?_
    refine r_nil ?_
    refine t_n ?_
    first | refine c_dec rfl (fun hc24 => ?_) (fun hc24 => ?_) | refine c_if rfl (fun hc24 => ?_) (fun hc24 => ?_)
    · try simp only [decide_eq_true_eq, decide_eq_false_iff_not, Bool.not_eq_true, Bool.not_eq_false, Bool.not_eq_eq_eq_not, Bool.not_true, Bool.not_false, Int.not_lt, Int.not_le] at hc24
      have hat : isAtA l (plcA l k) k := hc24
      have hat1 := hat.1
      obtain ⟨ys, hys⟩ : ∃ ys, ys = l.drop (plcA l k + 1) := ⟨_, rfl⟩
      have hsrc : ∀ wz, Ext w wz → Sl kFl 81 0 wz (adw p c (plcA l k + 1) 3) (n - (plcA l k + 1)) (c - (plcA l k + 1)) ys := fun wz hz => by rw [hys]; exact (hl.ext hz).dropI _ (by omega)
      have hins := ins_putA k (some (a ++ b, a.length)) 1 (.inl ⟨hat, rfl⟩)
      rw [← hys] at hins
      refine r_plain ?_
      refine p1 (x_move (by conv => lhs; whnf)) ?_
      refine p1 ((x_add rfl rfl (fits_i64 (by omega) (by omega))).cast (congrArg (Value.int .i64) (by omega : _ = ((plcA l k + 1 : Nat) : Int)))) ?_
      refine p1 (x_assign (by conv => lhs; whnf)) ?_
      refine r_nil ?_
      refine t_n ?_
      refine c_seq ?_
      refine r_plain ?_
      refine p1 (x_move (by conv => lhs; whnf)) ?_
      refine p1 (x_fieldAddr fo27_1 sz25 rfl) ?_
      refine p1 (x_load1 un25 rfl (hB2.cell (rfl))) ?_
      refine p1 (x_move (by conv => lhs; whnf)) ?_
      refine p1 (x_slice_lN u25 sz81 rfl rfl (by omega)) ?_
      have hq8 := hX.size
      refine o_append (d := kFl) (ys) u25 inf81 rfl kFl_pos rfl rfl hO (src_pure u25 (hsrc _ hX) (by decide)) (hsrc _ hX).len (pure_all _ _ _) (rfl) (by omega) (by omega) (by omega) (by omega) (by decide) ?_
      intro p32 c32 w9 hO hM9
      have hX := hX.mod hM9 (hq5)
      have hB2 := hB2.mod hM9 (by decide)
      have hB3 := hB3.modB hM9 (by omega)
      have hB4 := hB4.mod hM9 (by decide)
      refine p1 (x_fieldAddr fo27_1 sz25 rfl) ?_
      refine o_store1 rfl (by conv => lhs; whnf) rfl rfl sz25 hB2 (by simp) ?_
      intro w10 hP10
      have hX := hX.put hP10 (by rw [hN2.g_eq]; exact hXs2)
      have hB2 := hP10.blk
      simp only [List.setIfInBounds_toArray, List.set_cons_zero, List.set_cons_succ] at hB2
      have hB3 := hP10.keep hB3 (by omega)
      have hB4 := hP10.keep hB4 (by omega)
      have hO := hO.mod (hP10.mod 0 (Nat.zero_le _)) (Nat.zero_le _) (by decide)
      refine r_nil ?_
      refine t_n ?_
      refine c_seq ?_
      refine r_plain ?_
      refine p1 (x_loadB ua27 rfl hB2 (by exact sz27)) ?_
      refine o_storeAll rfl (by conv => lhs; whnf) (by simp [Value.oneCell']) (by exact sz27) hB4 (by rfl) ?_
      intro w11 hP11
      have hX := hX.put hP11 (by rw [hN4.g_eq]; exact hXs4)
      have hB2 := hP11.keep hB2 (by omega)
      have hB3 := hP11.keep hB3 (by omega)
      have hB4 := hP11.blk
      have hO := hO.mod (hP11.mod 0 (Nat.zero_le _)) (Nat.zero_le _) (by decide)
      refine r_nil ?_
      refine t_n ?_
      refine c_ret ?_
      refine end1c rfl ua27 rfl hB4 (by exact sz27) ?_
      exact ⟨⟨_, _, _, rfl, by rw [← hins]; exact hO.sl⟩, hX⟩
    · try simp only [decide_eq_true_eq, decide_eq_false_iff_not, Bool.not_eq_true, Bool.not_eq_false, Bool.not_eq_eq_eq_not, Bool.not_true, Bool.not_false, Int.not_lt, Int.not_le] at hc24
      have hna : ¬ isAtA l (plcA l k) k := hc24
      obtain ⟨ys, hys⟩ : ∃ ys, ys = l.drop (plcA l k + 0) := ⟨_, rfl⟩
      have hsrc : ∀ wz, Ext w wz → Sl kFl 81 0 wz (adw p c (plcA l k) 3) (n - plcA l k) (c - plcA l k) ys := fun wz hz => by rw [hys]; exact (hl.ext hz).dropI _ (by omega)
      have hins := ins_putA k (some (a ++ b, a.length)) 0 (.inr ⟨hna, rfl⟩)
      rw [← hys] at hins
      refine c_skip ?_
      refine t_n ?_
      refine c_seq ?_
      refine r_plain ?_
      refine p1 (x_move (by conv => lhs; whnf)) ?_
      refine p1 (x_fieldAddr fo27_1 sz25 rfl) ?_
      refine p1 (x_load1 un25 rfl (hB2.cell (rfl))) ?_
      refine p1 (x_move (by conv => lhs; whnf)) ?_
      refine p1 (x_slice_lN u25 sz81 rfl rfl (by omega)) ?_
      have hq8 := hX.size
      refine o_append (d := kFl) (ys) u25 inf81 rfl kFl_pos rfl rfl hO (src_pure u25 (hsrc _ hX) (by decide)) (hsrc _ hX).len (pure_all _ _ _) (rfl) (by omega) (by omega) (by omega) (by omega) (by decide) ?_
      intro p32 c32 w12 hO hM12
      have hX := hX.mod hM12 (hq5)
      have hB2 := hB2.mod hM12 (by decide)
      have hB3 := hB3.modB hM12 (by omega)
      have hB4 := hB4.mod hM12 (by decide)
      refine p1 (x_fieldAddr fo27_1 sz25 rfl) ?_
      refine o_store1 rfl (by conv => lhs; whnf) rfl rfl sz25 hB2 (by simp) ?_
      intro w13 hP13
      have hX := hX.put hP13 (by rw [hN2.g_eq]; exact hXs2)
      have hB2 := hP13.blk
      simp only [List.setIfInBounds_toArray, List.set_cons_zero, List.set_cons_succ] at hB2
      have hB3 := hP13.keep hB3 (by omega)
      have hB4 := hP13.keep hB4 (by omega)
      have hO := hO.mod (hP13.mod 0 (Nat.zero_le _)) (Nat.zero_le _) (by decide)
      refine r_nil ?_
      refine t_n ?_
      refine c_seq ?_
      refine r_plain ?_
      refine p1 (x_loadB ua27 rfl hB2 (by exact sz27)) ?_
      refine o_storeAll rfl (by conv => lhs; whnf) (by simp [Value.oneCell']) (by exact sz27) hB4 (by rfl) ?_
      intro w14 hP14
      have hX := hX.put hP14 (by rw [hN4.g_eq]; exact hXs4)
      have hB2 := hP14.keep hB2 (by omega)
      have hB3 := hP14.keep hB3 (by omega)
      have hB4 := hP14.blk
      have hO := hO.mod (hP14.mod 0 (Nat.zero_le _)) (Nat.zero_le _) (by decide)
      refine r_nil ?_
      refine t_n ?_
      refine c_ret ?_
      refine end1c rfl ua27 rfl hB4 (by exact sz27) ?_
      exact ⟨⟨_, _, _, rfl, by rw [← hins]; exact hO.sl⟩, hX⟩
  · skip
    refine o_buildSlice u25 inf81 rfl (by decide) (fun base hb => fill_kn [.agg #[.string k, .string (toStr a), .string (toStr b)]] (by intro v hv'; simp only [List.mem_singleton] at hv'; subst hv'; rfl) base hb) ?_
    intro w15 g22 hN22
    have hE15 := hN22.ext
    have hX := hX.ext hE15
    have hB2 := hB2.ext hE15
    have hB3 := hB3.ext hE15
    have hB4 := hB4.ext hE15
    have hSr3 := hSr3.ext hE15
    have hJ : Own kFl 81 0 0 w15 (some ⟨g22, 0, none⟩) 1 1 [(k, (a ++ b, a.length))] := own_lit [(k, (a ++ b, a.length))] (by have h22 : New _ _ g22 #[Value.string k, Value.string (toStr a), Value.string (toStr b)] 81 := hN22; simpa [encF] using h22) (Nat.zero_le _) (by simp)
    refine hop_end hQ7 ⟨hSr3, ?_⟩
    refine h_one 5 _ rfl (by kernel_rfl) (hop_of_list (fun Q5 hQ5 => ?_))
    obtain ⟨B5, hB5⟩ : ∃ B, B = w15.heap.size := ⟨_, rfl⟩
    have hs3 := Nat.le_trans hSr3.size (Nat.le_of_eq hB5.symm)
    have hq5 := Nat.le_trans hX.size (Nat.le_of_eq hB5.symm)
    have h35 := Nat.lt_of_lt_of_le hB3.lt (Nat.le_of_eq hB5.symm)
    have hOn : Own kFl 81 0 B5 w15 none 0 0 [] := Own.nil _ _ _ _ _
    have hl5 := (hl.ext hX).take (plcA l k) (by omega)
    refine o_append (d := kFl) (l.take (plcA l k)) u25 inf81 rfl kFl_pos rfl rfl hOn (src_pure u25 hl5 (by decide)) hl5.len (pure_all _ _ _) rfl (by omega) (by omega) (by omega) (by omega) (by decide) ?_
    intro p20 c20 w16 hO hM16
    have hE16 : Ext w15 w16 := (Ext.refl _).mod hM16 (by rw [hB5]; exact Nat.le_refl _)
    rw [List.nil_append] at hO
    have hG5 := hE16
    have hX := hX.ext hE16
    have hB2 := hB2.ext hE16
    have hB3 := hB3.ext hE16
    have hB4 := hB4.ext hE16
    have hSr3 := hSr3.ext hE16
    have hJ := hJ.ext hE16
    refine hop_end hQ5 ⟨hSr3, ?_⟩
    refine h_one 8 _ rfl (by kernel_rfl) (hop_of_list (fun Q8 hQ8 => ?_))
    have hq8 := hX.size
    have hb8 := hG5.size
    rw [← hB5] at hb8
    refine o_append (d := kFl) ([(k, (a ++ b, a.length))]) u25 inf81 rfl kFl_pos rfl rfl hO (src_pure u25 hJ.sl (by decide)) rfl (pure_all _ _ _) (rfl) (by omega) (by omega) (by omega) (by omega) (by decide) ?_
    intro p23 c23 w17 hO hM17
    have hX := hX.mod hM17 (hq5)
    have hB2 := hB2.mod hM17 (by decide)
    have hB3 := hB3.modB hM17 (by omega)
    have hB4 := hB4.mod hM17 (by decide)
    have hSr3 := hSr3.mod hM17 hs3
    have hz8 := hM17.size
    refine hop_end hQ8 ⟨hSr3, ?_⟩
    refine h_take 9 rfl (by kernel_rfl) (by kernel_rfl) (by kernel_rfl) hSr3 (fun wS hSS => by ( exact (x_assign (by conv => lhs; whnf)))) ?_
    refine h_done (by kernel_rfl) ?_
    refine t_n ?_
    refine c_seq ?_
    refine c_seq ?_
    refine r_plain ?_
    refine p1 (x_move (by conv => lhs; whnf)) ?_
    refine r_nil ?_
    refine t_n ?_
    first | refine c_dec rfl (fun hc24 => ?_) (fun hc24 => ?_) | refine c_if rfl (fun hc24 => ?_) (fun hc24 => ?_)
    · try simp only [decide_eq_true_eq, decide_eq_false_iff_not, Bool.not_eq_true, Bool.not_eq_false, Bool.not_eq_eq_eq_not, Bool.not_true, Bool.not_false, Int.not_lt, Int.not_le] at hc24
      have hat : isAtA l (plcA l k) k := hc24
      have hat1 := hat.1
      obtain ⟨ys, hys⟩ : ∃ ys, ys = l.drop (plcA l k + 1) := ⟨_, rfl⟩
      have hsrc : ∀ wz, Ext w wz → Sl kFl 81 0 wz (adw p c (plcA l k + 1) 3) (n - (plcA l k + 1)) (c - (plcA l k + 1)) ys := fun wz hz => by rw [hys]; exact (hl.ext hz).dropI _ (by omega)
      have hins := ins_putA k (some (a ++ b, a.length)) 1 (.inl ⟨hat, rfl⟩)
      rw [← hys] at hins
      refine r_plain ?_
      refine p1 (x_move (by conv => lhs; whnf)) ?_
      refine p1 ((x_add rfl rfl (fits_i64 (by omega) (by omega))).cast (congrArg (Value.int .i64) (by omega : _ = ((plcA l k + 1 : Nat) : Int)))) ?_
      refine p1 (x_assign (by conv => lhs; whnf)) ?_
      refine r_nil ?_
      refine t_n ?_
      refine c_seq ?_
      refine r_plain ?_
      refine p1 (x_move (by conv => lhs; whnf)) ?_
      refine p1 (x_fieldAddr fo27_1 sz25 rfl) ?_
      refine p1 (x_load1 un25 rfl (hB2.cell (rfl))) ?_
      refine p1 (x_move (by conv => lhs; whnf)) ?_
      refine p1 (x_slice_lN u25 sz81 rfl rfl (by omega)) ?_
      have hq8 := hX.size
      refine o_append (d := kFl) (ys) u25 inf81 rfl kFl_pos rfl rfl hO (src_pure u25 (hsrc _ hX) (by decide)) (hsrc _ hX).len (pure_all _ _ _) (rfl) (by omega) (by omega) (by omega) (by omega) (by decide) ?_
      intro p32 c32 w18 hO hM18
      have hX := hX.mod hM18 (hq5)
      have hB2 := hB2.mod hM18 (by decide)
      have hB3 := hB3.modB hM18 (by omega)
      have hB4 := hB4.mod hM18 (by decide)
      refine p1 (x_fieldAddr fo27_1 sz25 rfl) ?_
      refine o_store1 rfl (by conv => lhs; whnf) rfl rfl sz25 hB2 (by simp) ?_
      intro w19 hP19
      have hX := hX.put hP19 (by rw [hN2.g_eq]; exact hXs2)
      have hB2 := hP19.blk
      simp only [List.setIfInBounds_toArray, List.set_cons_zero, List.set_cons_succ] at hB2
      have hB3 := hP19.keep hB3 (by omega)
      have hB4 := hP19.keep hB4 (by omega)
      have hO := hO.mod (hP19.mod 0 (Nat.zero_le _)) (Nat.zero_le _) (by decide)
      refine r_nil ?_
      refine t_n ?_
      refine c_seq ?_
      refine r_plain ?_
      refine p1 (x_loadB ua27 rfl hB2 (by exact sz27)) ?_
      refine o_storeAll rfl (by conv => lhs; whnf) (by simp [Value.oneCell']) (by exact sz27) hB4 (by rfl) ?_
      intro w20 hP20
      have hX := hX.put hP20 (by rw [hN4.g_eq]; exact hXs4)
      have hB2 := hP20.keep hB2 (by omega)
      have hB3 := hP20.keep hB3 (by omega)
      have hB4 := hP20.blk
      have hO := hO.mod (hP20.mod 0 (Nat.zero_le _)) (Nat.zero_le _) (by decide)
      refine r_nil ?_
      refine t_n ?_
      refine c_ret ?_
      refine end1c rfl ua27 rfl hB4 (by exact sz27) ?_
      exact ⟨⟨_, _, _, rfl, by rw [← hins]; exact hO.sl⟩, hX⟩
    · try simp only [decide_eq_true_eq, decide_eq_false_iff_not, Bool.not_eq_true, Bool.not_eq_false, Bool.not_eq_eq_eq_not, Bool.not_true, Bool.not_false, Int.not_lt, Int.not_le] at hc24
      have hna : ¬ isAtA l (plcA l k) k := hc24
      obtain ⟨ys, hys⟩ : ∃ ys, ys = l.drop (plcA l k + 0) := ⟨_, rfl⟩
      have hsrc : ∀ wz, Ext w wz → Sl kFl 81 0 wz (adw p c (plcA l k) 3) (n - plcA l k) (c - plcA l k) ys := fun wz hz => by rw [hys]; exact (hl.ext hz).dropI _ (by omega)
      have hins := ins_putA k (some (a ++ b, a.length)) 0 (.inr ⟨hna, rfl⟩)
      rw [← hys] at hins
      refine c_skip ?_
      refine t_n ?_
      refine c_seq ?_
      refine r_plain ?_
      refine p1 (x_move (by conv => lhs; whnf)) ?_
      refine p1 (x_fieldAddr fo27_1 sz25 rfl) ?_
      refine p1 (x_load1 un25 rfl (hB2.cell (rfl))) ?_
      refine p1 (x_move (by conv => lhs; whnf)) ?_
      refine p1 (x_slice_lN u25 sz81 rfl rfl (by omega)) ?_
      have hq8 := hX.size
      refine o_append (d := kFl) (ys) u25 inf81 rfl kFl_pos rfl rfl hO (src_pure u25 (hsrc _ hX) (by decide)) (hsrc _ hX).len (pure_all _ _ _) (rfl) (by omega) (by omega) (by omega) (by omega) (by decide) ?_
      intro p32 c32 w21 hO hM21
      have hX := hX.mod hM21 (hq5)
      have hB2 := hB2.mod hM21 (by decide)
      have hB3 := hB3.modB hM21 (by omega)
      have hB4 := hB4.mod hM21 (by decide)
      refine p1 (x_fieldAddr fo27_1 sz25 rfl) ?_
      refine o_store1 rfl (by conv => lhs; whnf) rfl rfl sz25 hB2 (by simp) ?_
      intro w22 hP22
      have hX := hX.put hP22 (by rw [hN2.g_eq]; exact hXs2)
      have hB2 := hP22.blk
      simp only [List.setIfInBounds_toArray, List.set_cons_zero, List.set_cons_succ] at hB2
      have hB3 := hP22.keep hB3 (by omega)
      have hB4 := hP22.keep hB4 (by omega)
      have hO := hO.mod (hP22.mod 0 (Nat.zero_le _)) (Nat.zero_le _) (by decide)
      refine r_nil ?_
      refine t_n ?_
      refine c_seq ?_
      refine r_plain ?_
      refine p1 (x_loadB ua27 rfl hB2 (by exact sz27)) ?_
      refine o_storeAll rfl (by conv => lhs; whnf) (by simp [Value.oneCell']) (by exact sz27) hB4 (by rfl) ?_
      intro w23 hP23
      have hX := hX.put hP23 (by rw [hN4.g_eq]; exact hXs4)
      have hB2 := hP23.keep hB2 (by omega)
      have hB3 := hP23.keep hB3 (by omega)
      have hB4 := hP23.blk
      have hO := hO.mod (hP23.mod 0 (Nat.zero_le _)) (Nat.zero_le _) (by decide)
      refine r_nil ?_
      refine t_n ?_
      refine c_ret ?_
      refine end1c rfl ua27 rfl hB4 (by exact sz27) ?_
      exact ⟨⟨_, _, _, rfl, by rw [← hins]; exact hO.sl⟩, hX⟩
theorem ref_without (a0 a2 a4 : Int) (b3 b5 b6 : Bool) (l : List Fl) (p : Option Addr) (n c : Nat) (w : World) (hl : Sl kFl 81 0 w p n c l) (hn : n ≤ 100000) (hr : RiseNA l) (k : ByteArray) :
    Ret Try.prog 59 [.agg #[.int .i64 a0, .slice p n c, .int .i64 a2, .bool b3, .int .i64 a4, .bool b5, .bool b6], .string k] w (fun v w' => (∃ p' n' c', v = .agg #[.int .i64 a0, .slice p' n' c', .int .i64 a2, .bool b3, .int .i64 a4, .bool b5, .bool b6] ∧ Sl kFl 81 0 w' p' n' c' (insA l k none)) ∧ Ext w w') := by
  have hX := Ext.refl w
  refine enter 30 _ Try.func59 rfl rfl (Nat.le_of_ble_eq_true rfl) rfl ?_
  refine c_seq ?_
  refine r_plain ?_
  have hXs2 := hX.size
  refine o_boxA (by conv => lhs; whnf) ?_
  intro w1 g2 hN2
  have hE1 := hN2.ext
  have hX := hX.ext hE1
  have hB2 := hN2.blk
  have hXs4 := hX.size
  have hlt2 := hB2.lt
  refine o_alloc zr27 ?_
  intro w2 g4 hN4
  have hE2 := hN4.ext
  have hX := hX.ext hE2
  have hB2 := hB2.ext hE2
  have hB4 := hN4.blk
  refine r_nil ?_
  refine t_n ?_
  refine c_seq ?_
  have hg4 := hN4.g_eq
  have hlen := hl.len
  have hcap := hl.cap
  have hple := plc_leA l k
  refine r_plain ?_
  refine p1 (x_loadB ua27 rfl hB2 (by exact sz27)) ?_
  refine p1 (x_move (by conv => lhs; whnf)) ?_
  refine o_call Try.func45 fn45 fb45 (ref_place a0 a2 a4 b3 b5 b6 l p n c _ (hl.ext hX) k hn) rfl ?_
  rintro v3 w3 ⟨rfl, hE3⟩
  have hX := hX.ext hE3
  have hB2 := hB2.ext hE3
  have hB4 := hB4.ext hE3
  refine p1 (x_move (by conv => lhs; whnf)) ?_
  refine p1 (x_extract rfl rfl) ?_
  refine p1 (x_extract rfl rfl) ?_
  refine p1 (x_assign (by conv => lhs; whnf)) ?_
  refine p1 (x_assign (by conv => lhs; whnf)) ?_
  refine r_nil ?_
  refine t_n ?_
  refine c_seq ?_
  refine c_seq ?_
  refine r_plain ?_
  refine p1 (x_move (by conv => lhs; whnf)) ?_
  refine r_nil ?_
  refine t_n ?_
  first | refine c_dec rfl (fun hc14 => ?_) (fun hc14 => ?_) | refine c_if rfl (fun hc14 => ?_) (fun hc14 => ?_)
  · try simp only [decide_eq_true_eq, decide_eq_false_iff_not, Bool.not_eq_true, Bool.not_eq_false, Bool.not_eq_eq_eq_not, Bool.not_true, Bool.not_false, Int.not_lt, Int.not_le] at hc14
    have hat : isAtA l (plcA l k) k := hc14
    have hat1 := hat.1
    have hins := ins_putA k (none : Option Fb) 1 (.inl ⟨hat, rfl⟩)
    refine c_seq ?_
    refine r_plain ?_
    refine p1 (x_assign (by conv => lhs; whnf)) ?_
    refine r_nil ?_
    refine t_n ?_
    refine c_seq ?_
    refine r_plain ?_
    refine p1 (x_move (by conv => lhs; whnf)) ?_
    refine p1 (x_fieldAddr fo27_1 sz25 rfl) ?_
    refine p1 (x_load1 un25 rfl (hB2.cell (rfl))) ?_
    refine p1 (x_move (by conv => lhs; whnf)) ?_
    refine p1 (x_slice_hN u25 sz81 rfl rfl (by omega)) ?_
    have hq5 := hX.size
    have hO : Own kFl 81 0 w.heap.size w3 none 0 0 [] := Own.nil _ _ _ _ _
    refine o_append (d := kFl) (l.take (plcA l k)) u25 inf81 rfl kFl_pos rfl rfl hO (src_pure u25 ((hl.ext hX).take (plcA l k) (by omega)) (by decide)) ((hl.ext hX).take (plcA l k) (by omega)).len (pure_all _ _ _) (rfl) (by omega) (by omega) (by omega) (by omega) (by decide) ?_
    intro p20 c20 w4 hO hM4
    have hX := hX.mod hM4 (Nat.le_refl _)
    have hB2 := hB2.mod hM4 (by decide)
    have hB4 := hB4.mod hM4 (by decide)
    rw [List.nil_append] at hO
    refine p1 (x_assign (by conv => lhs; whnf)) ?_
    refine r_nil ?_
    refine t_n ?_
    refine r_plain ?_
    refine p1 (x_move (by conv => lhs; whnf)) ?_
    refine p1 (x_fieldAddr fo27_1 sz25 rfl) ?_
    refine p1 (x_load1 un25 rfl (hB2.cell (rfl))) ?_
    refine p1 (x_move (by conv => lhs; whnf)) ?_
    refine p1 ((x_add rfl rfl (fits_i64 (by omega) (by omega))).cast (congrArg (Value.int .i64) (by omega : _ = ((plcA l k + 1 : Nat) : Int)))) ?_
    refine p1 (x_slice_lN u25 sz81 rfl rfl (by omega)) ?_
    have hq8 := hX.size
    refine o_append (d := kFl) (l.drop (plcA l k + 1)) u25 inf81 rfl kFl_pos rfl rfl hO (src_pure u25 ((hl.ext hX).dropI (plcA l k + 1) (by omega)) (by decide)) ((hl.ext hX).dropI (plcA l k + 1) (by omega)).len (pure_all _ _ _) (rfl) (by omega) (by omega) (by omega) (by omega) (by decide) ?_
    intro p27 c27 w5 hO hM5
    have hX := hX.mod hM5 (Nat.le_refl _)
    have hB2 := hB2.mod hM5 (by decide)
    have hB4 := hB4.mod hM5 (by decide)
    refine p1 (x_fieldAddr fo27_1 sz25 rfl) ?_
    refine o_store1 rfl (by conv => lhs; whnf) rfl rfl sz25 hB2 (by simp) ?_
    intro w6 hP6
    have hX := hX.put hP6 (by rw [hN2.g_eq]; exact hXs2)
    have hB2 := hP6.blk
    simp only [List.setIfInBounds_toArray, List.set_cons_zero, List.set_cons_succ] at hB2
    have hB4 := hP6.keep hB4 (by omega)
    have hO := hO.mod (hP6.mod 0 (Nat.zero_le _)) (Nat.zero_le _) (by decide)
    refine r_nil ?_
    refine t_n ?_
    refine c_seq ?_
    refine r_plain ?_
    refine p1 (x_loadB ua27 rfl hB2 (by exact sz27)) ?_
    refine o_storeAll rfl (by conv => lhs; whnf) (by simp [Value.oneCell']) (by exact sz27) hB4 (by rfl) ?_
    intro w7 hP7
    have hX := hX.put hP7 (by rw [hN4.g_eq]; exact hXs4)
    have hB2 := hP7.keep hB2 (by omega)
    have hB4 := hP7.blk
    have hO := hO.mod (hP7.mod 0 (Nat.zero_le _)) (Nat.zero_le _) (by decide)
    refine r_nil ?_
    refine t_n ?_
    refine c_ret ?_
    refine end1c rfl ua27 rfl hB4 (by exact sz27) ?_
    first
      | exact ⟨⟨_, _, _, rfl, by rw [← hins]; simp only [put1A, List.append_nil]; exact hO.sl⟩, hX⟩
      | exact ⟨⟨p, n, c, rfl, by rw [hins2]; exact hl.ext hX⟩, hX⟩
  · try simp only [decide_eq_true_eq, decide_eq_false_iff_not, Bool.not_eq_true, Bool.not_eq_false, Bool.not_eq_eq_eq_not, Bool.not_true, Bool.not_false, Int.not_lt, Int.not_le] at hc14
    have hna : ¬ isAtA l (plcA l k) k := hc14
    have hins := ins_putA k (none : Option Fb) 0 (.inr ⟨hna, rfl⟩)
    have hins2 : insA l k none = l := by rw [← hins]; simp [put1A]
    refine c_skip ?_
    refine t_n ?_
    refine c_seq ?_
    refine r_plain ?_
    refine p1 (x_loadB ua27 rfl hB2 (by exact sz27)) ?_
    refine o_storeAll rfl (by conv => lhs; whnf) (by simp [Value.oneCell']) (by exact sz27) hB4 (by rfl) ?_
    intro w8 hP8
    have hX := hX.put hP8 (by rw [hN4.g_eq]; exact hXs4)
    have hB2 := hP8.keep hB2 (by omega)
    have hB4 := hP8.blk
    refine r_nil ?_
    refine t_n ?_
    refine c_ret ?_
    refine end1c rfl ua27 rfl hB4 (by exact sz27) ?_
    first
      | exact ⟨⟨_, _, _, rfl, by rw [← hins]; simp only [put1A, List.append_nil]; exact hO.sl⟩, hX⟩
      | exact ⟨⟨p, n, c, rfl, by rw [hins2]; exact hl.ext hX⟩, hX⟩
end Go.Proofs.Eng
end
section
set_option linter.unusedVariables false
set_option linter.unusedSimpArgs false
namespace Go.Proofs.Eng
open Go.RowKit
open Extern.Stop (cell)
/-! ### the reference's step; its files -/
theorem step_refV {D : DS} {act : List Fl} {fa al : Bool} {w : World} {p py : Option Addr} {n c ny cy : Nat} {lf : Int} (ha : Sl kFl 81 0 w p n c act) (hy : Sl kFl 81 0 w py ny cy (if (fa && (al || D.done)) = true then act else D.l)) (hlf : LfOk D lf) (hok : -1 ≤ D.left) :
    ∃ cs, (if decide (0 ≤ D.left) = true ∧ lf = 0 then Value.tuple #[.agg #[.int .i64 (D.most : Int), .slice py ny cy, .int .i64 (D.steps : Int), .bool false, .int .i64 lf, .bool D.done, .bool true], .int .i64 20] else .tuple #[.agg #[.int .i64 (D.most : Int), .slice p n c, .int .i64 ((D.steps : Int) + 1), .bool (decide (0 ≤ D.left)), .int .i64 (if decide (0 ≤ D.left) = true then lf - 1 else lf), .bool D.done, .bool D.down], .int .i64 0]) = .tuple #[.agg cs, .int .i64 (stepD D act fa al).2] ∧ RefV w cs (stepD D act fa al).1 := by
  obtain ⟨h1, h2, h3⟩ := hlf
  by_cases hl : D.left ≠ 0
  · rw [if_neg (fun h => by have h4 := of_decide_eq_true h.1; have := h1 h4; omega), stepD_go hl]
    refine ⟨_, rfl, p, n, c, (if decide (0 ≤ D.left) = true then lf - 1 else lf), ?_, ha, ?_⟩
    · have e : decide (0 ≤ D.left) = decide (0 ≤ max (-1) (D.left - 1)) := decide_eq_decide.2 (by omega)
      show (#[Value.int .i64 (D.most : Int), .slice p n c, .int .i64 ((D.steps : Int) + 1), .bool (decide (0 ≤ D.left)), _, _, _] : Array Value) = #[.int .i64 (D.most : Int), .slice p n c, .int .i64 ((D.steps + 1 : Nat) : Int), .bool (decide (0 ≤ max (-1) (D.left - 1))), _, _, _]
      rw [← e]; rfl
    · refine ⟨fun h => ?_, ?_, ?_⟩
      · have h : 0 ≤ max (-1) (D.left - 1) := h
        have h5 : 0 ≤ D.left := by omega
        rw [if_pos (decide_eq_true h5), h1 h5]
        show _ = max (-1) (D.left - 1)
        omega
      · split
        · rename_i h; have h6 : 0 ≤ D.left := of_decide_eq_true h; have h7 := h1 h6; rw [h7]; show (-1 : Int) ≤ _; omega
        · exact h2
      · split <;> omega
  · have h0 : D.left = 0 := by omega
    rw [if_pos ⟨decide_eq_true (by omega), by rw [h1 (by omega)]; exact h0⟩]
    unfold stepD
    rw [if_neg hl]
    exact ⟨_, rfl, py, ny, cy, lf, rfl, hy, ⟨fun h => by have h : (0 : Int) ≤ -1 := h; omega, h2, h3⟩⟩
theorem file_at {D : DS} (hok : DOk D) {k : ByteArray} (hat : isAtA D.l (plcA D.l k) k) : ∃ f, ascF D.l k = some f ∧ D.l.getD (plcA D.l k) default = (k, f) ∧ f.1.length ≤ usedL D.l ∧ f.2 ≤ f.1.length ∧ getF D k = f := by
  have h1 := asc_atA hok.rise hat
  have h2 : getF D k = (D.l.getD (plcA D.l k) default).2 := by unfold getF ascF; rw [h1]; rfl
  have h3 := getF_le hok k
  rw [h2] at h3
  exact ⟨_, h1, Prod.ext hat.2 rfl, h3.1, h3.2, h2⟩
theorem file_not {D : DS} (hok : DOk D) {k : ByteArray} (hat : ¬ isAtA D.l (plcA D.l k) k) : ascF D.l k = none := Classical.byContradiction fun h => hat ((isAt_iffA hok.rise k).2 h)
theorem ren_ref {l : List Fl} (hr : RiseNA l) {old now : ByteArray} {f : Fb} (hf : ascA l old = some f) : insA (insA l old none) now (some f) = renL l old now f := by
  have hr1 := rise_insA hr old (none : Option Fb)
  have hr2 := rise_insA hr1 now (some f)
  have key : ∀ m : List Fl, RiseNA m → (∀ z, ascA (insA (insA l old none) now (some f)) z = ascA m z) → insA (insA l old none) now (some f) = m := fun m hm h => riseN_extA hr2 hm fun x => by
    constructor
    · intro hx; have := asc_of_memA hr2 hx; rw [h] at this; exact asc_memA this
    · intro hx; have := asc_of_memA hm hx; rw [← h] at this; exact asc_memA this
  have hz : ∀ z, ascA (insA (insA l old none) now (some f)) z = if z = now then some f else if z = old then none else ascA l z := fun z => by
    rw [← asc_insA hr1]; unfold mset
    split
    · rfl
    · rw [← asc_insA hr]; rfl
  unfold renL
  by_cases e : old = now
  · rw [if_pos e]
    refine key _ hr fun z => ?_
    rw [hz]
    split
    · rename_i h; rw [h, ← e]; exact hf.symm
    · rename_i h; rw [if_neg (by rw [e]; exact h)]
  · rw [if_neg e]
    refine key _ (rise_insA (rise_insA hr _ _) _ _) fun z => ?_
    rw [hz, ← asc_insA (rise_insA hr _ _)]
    unfold mset
    by_cases h1 : z = now
    · rw [if_pos h1, if_neg (fun h => e (h.symm.trans h1)), ← asc_insA hr]; unfold mset; rw [if_pos h1]
    · rw [if_neg h1]
      by_cases h2 : z = old
      · rw [if_pos h2, if_pos h2]
      · rw [if_neg h2, if_neg h2, ← asc_insA hr]; unfold mset; rw [if_neg h1]
section
variable {P : Program} {N : Nat} {f : Nat → Value} {w : World} {dst : Option Nat} {T ty0 : TypeId} {pos : String} {aft : Array Edge} {gd : Option (Nat × Bool)}
theorem x_buildF1 {x : Operand} {z0 z1 z2 : Value} {s : ByteArray} (hP : placed P T = some (.agg #[z0, z1, z2], [(0, 1), (1, 1), (2, 1)])) (hx : ev N f x = .string s) : Ex P w N f ⟨dst, .build T #[(0, x)], ty0, pos, aft, gd⟩ (.agg #[.string s, z1, z2]) :=
  x_build (parts := [(0, x)]) (ps := [(0, .string s)]) hP (by rw [← hx]; rfl) (by show Instr.fill _ #[z0, z1, z2] _ = _; simp [Instr.fill, Value.cells] <;> rfl)
theorem x_buildF3 {x y z : Operand} {z0 z1 z2 : Value} {s t u : ByteArray} (hP : placed P T = some (.agg #[z0, z1, z2], [(0, 1), (1, 1), (2, 1)])) (hx : ev N f x = .string s) (hy : ev N f y = .string t) (hz : ev N f z = .string u) : Ex P w N f ⟨dst, .build T #[(0, x), (1, y), (2, z)], ty0, pos, aft, gd⟩ (.agg #[.string s, .string t, .string u]) :=
  x_build (parts := [(0, x), (1, y), (2, z)]) (ps := [(0, .string s), (1, .string t), (2, .string u)]) hP (by rw [← hx, ← hy, ← hz]; rfl) (by show Instr.fill _ #[z0, z1, z2] _ = _; simp [Instr.fill, Value.cells] <;> rfl)
theorem x_buildR1 {x : Operand} {z0 z1 z2 z3 z4 z5 z6 : Value} {i : Int} (hP : placed P T = some (.agg #[z0, z1, z2, z3, z4, z5, z6], [(0, 1), (1, 1), (2, 1), (3, 1), (4, 1), (5, 1), (6, 1)])) (hx : ev N f x = .int .i64 i) : Ex P w N f ⟨dst, .build T #[(0, x)], ty0, pos, aft, gd⟩ (.agg #[.int .i64 i, z1, z2, z3, z4, z5, z6]) :=
  x_build (parts := [(0, x)]) (ps := [(0, .int .i64 i)]) hP (by rw [← hx]; rfl) (by show Instr.fill _ #[z0, z1, z2, z3, z4, z5, z6] _ = _; simp [Instr.fill, Value.cells] <;> rfl)
end
section
variable {P : Program} {N : Nat} {f : Nat → Value} {w : World} {dst : Option Nat} {T ty0 : TypeId} {pos : String} {aft : Array Edge} {gd : Option (Nat × Bool)}
theorem x_buildR3 {x y z : Operand} {z0 z1 z2 z3 z4 z5 z6 : Value} {i j : Int} {p : Option Addr} {n c : Nat} (hP : placed P T = some (.agg #[z0, z1, z2, z3, z4, z5, z6], [(0, 1), (1, 1), (2, 1), (3, 1), (4, 1), (5, 1), (6, 1)])) (hx : ev N f x = .int .i64 i) (hy : ev N f y = .slice p n c) (hz : ev N f z = .int .i64 j) : Ex P w N f ⟨dst, .build T #[(0, x), (1, y), (2, z)], ty0, pos, aft, gd⟩ (.agg #[.int .i64 i, .slice p n c, .int .i64 j, z3, z4, z5, z6]) :=
  x_build (parts := [(0, x), (1, y), (2, z)]) (ps := [(0, .int .i64 i), (1, .slice p n c), (2, .int .i64 j)]) hP (by rw [← hx, ← hy, ← hz]; rfl) (by show Instr.fill _ #[z0, z1, z2, z3, z4, z5, z6] _ = _; simp [Instr.fill, Value.cells] <;> rfl)
end
theorem wake_snoc {l : List Fl} {i : Nat} (hi : i < l.length) (st : List UInt8) : (wakeL (l.take (i + 1)) st).1 = (wakeL (l.take i) st).1 ++ [((l.getD i default).1, wakeF (l.getD i default).2 (wakeL (l.take i) st).2)] ∧ (wakeL (l.take (i + 1)) st).2 = (wakeR (l.getD i default).2 (wakeL (l.take i) st).2).2.2 := by
  have ht : l.take (i + 1) = l.take i ++ [l.getD i default] := by rw [List.take_add_one, List.getD_eq_getElem?_getD, List.getElem?_eq_getElem hi]; rfl
  rw [ht, wakeL_snoc]
  exact ⟨rfl, rfl⟩
theorem enc_wake {x : Fl} (hx : x.2.2 ≤ x.2.1.length) (st : List UInt8) : encF (x.1, wakeF x.2 st) = [.string x.1, .string (toStr (wakeF x.2 st).1), .string (toStr [])] := by
  obtain ⟨h1, _⟩ := wakeF_len hx st
  unfold encF
  rw [← h1, List.take_length, List.drop_length]
end Go.Proofs.Eng
end
section
set_option linter.unusedVariables false
set_option linter.unusedSimpArgs false
set_option maxRecDepth 100000
set_option maxHeartbeats 4000000
namespace Go.Proofs.Eng
open Go.RowKit
open Extern.Stop (cell)
theorem fb44 : Try.f44.body.isNone = false := by kernel_rfl
theorem fb54 : Try.f54.body.isNone = false := by kernel_rfl
theorem fb56 : Try.f56.body.isNone = false := by kernel_rfl
theorem fb57 : Try.f57.body.isNone = false := by kernel_rfl
theorem fb58 : Try.f58.body.isNone = false := by kernel_rfl
theorem fb59 : Try.f59.body.isNone = false := by kernel_rfl
theorem fn44 : (Try.f44.name == "runtime.NumGoroutine") = false := by kernel_rfl
theorem fn54 : (Try.f54.name == "runtime.NumGoroutine") = false := by kernel_rfl
theorem fn56 : (Try.f56.name == "runtime.NumGoroutine") = false := by kernel_rfl
theorem fn57 : (Try.f57.name == "runtime.NumGoroutine") = false := by kernel_rfl
theorem fn58 : (Try.f58.name == "runtime.NumGoroutine") = false := by kernel_rfl
theorem fn59 : (Try.f59.name == "runtime.NumGoroutine") = false := by kernel_rfl
theorem fo27_0 : fieldOf Try.prog 27 0 = some (3, 0) := by kernel_rfl
theorem pl27 : placed Try.prog 27 = some (.agg #[.int .i64 0, .slice none 0 0, .int .i64 0, .bool false, .int .i64 0, .bool false, .bool false], [(0, 1), (1, 1), (2, 1), (3, 1), (4, 1), (5, 1), (6, 1)]) := by kernel_rfl
theorem pl81 : placed Try.prog 81 = some (.agg #[.string ByteArray.empty, .string ByteArray.empty, .string ByteArray.empty], [(0, 1), (1, 1), (2, 1)]) := by kernel_rfl
theorem zr81 : (Try.prog.info? 81).map (·.zero) = some (some (.agg #[.string ByteArray.empty, .string ByteArray.empty, .string ByteArray.empty])) := by kernel_rfl
end Go.Proofs.Eng
end
