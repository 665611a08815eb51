import Derived.Test.YtphmpibmogbafaaKU2
/- Merged: K8 T8 K9 T9 KA -/
section
set_option linter.unusedVariables false
set_option linter.unusedSimpArgs false
set_option maxRecDepth 100000
set_option maxHeartbeats 4000000
namespace Go.Proofs.Eng
open Go.RowKit
open Extern.Stop (cell)
end Go.Proofs.Eng
end
section
set_option linter.unusedVariables false
set_option linter.unusedSimpArgs false
set_option maxRecDepth 100000
set_option maxHeartbeats 4000000
namespace Go.Proofs.Eng
open Go.RowKit
open Extern.Stop (cell)
theorem fo33_0 : fieldOf Try.prog 33 0 = some (5, 0) := by kernel_rfl
theorem fo33_1 : fieldOf Try.prog 33 1 = some (9, 1) := by kernel_rfl
theorem fo33_2 : fieldOf Try.prog 33 2 = some (9, 2) := by kernel_rfl
theorem fo33_3 : fieldOf Try.prog 33 3 = some (31, 3) := by kernel_rfl
theorem fo33_4 : fieldOf Try.prog 33 4 = some (3, 4) := by kernel_rfl
theorem fo33_5 : fieldOf Try.prog 33 5 = some (4, 5) := by kernel_rfl
theorem sz33 : (Try.prog.info? 33).map (·.size) = some 6 := by kernel_rfl
theorem u22 : Try.prog.underlying 22 = some (.slice 33) := by kernel_rfl
theorem ua33 : (Try.prog.underlying 33).map TypeDesc.isRow = some true := by kernel_rfl
theorem zr33 : (Try.prog.info? 33).map (·.zero) = some (some (.agg #[.int .u8 0, .string ByteArray.empty, .string ByteArray.empty, .slice none 0 0, .int .i64 0, .bool false])) := by kernel_rfl
end Go.Proofs.Eng
end
section
set_option linter.unusedVariables false
set_option linter.unusedSimpArgs false
set_option maxRecDepth 100000
set_option maxHeartbeats 4000000
namespace Go.Proofs.Eng
open Go.RowKit
open Extern.Stop (cell)
theorem disk_played (most : Int) (acts : List DAct) (e B : Nat) (p : Option Addr) (n c : Nat) (w : World) (hA : Sl kDA e B w p n c acts) (hBB : B ≤ w.heap.size) (hs : n ≤ 4611686018427387000) :
    Ret Try.prog 27 [.int .i64 most, .slice p n c] w (fun v w' => (∃ g, v = .pointer (some ⟨g, 0, none⟩) ∧ Dsk (since w) w' g (playD (newD most) acts)) ∧ Ext w w') := by
  have hX := Ext.refl w
  refine enter 79 _ Try.func27 rfl rfl (Nat.le_of_ble_eq_true rfl) rfl ?_
  refine c_seq ?_
  refine r_plain ?_
  refine p1 (x_assign (by conv => lhs; whnf)) ?_
  refine r_nil ?_
  refine t_n ?_
  refine c_seq ?_
  refine r_plain ?_
  refine p1 (x_move (by conv => lhs; whnf)) ?_
  have hXs1 := hX.size
  refine o_call Try.func11 fn11 fb11 (disk_New most _) rfl ?_
  rintro v1 w1 ⟨⟨g, rfl, hD0⟩, hE1⟩
  have hX := hX.ext hE1
  have hD : Dsk (since w) w1 g (newD most) := hD0.all (fun _ h => h.elim) hXs1
  skip
  refine p1 (x_assign (by conv => lhs; whnf)) ?_
  refine r_nil ?_
  refine t_n ?_
  refine c_seq ?_
  refine c_seq ?_
  refine r_plain ?_
  refine p1 (x_assign (by conv => lhs; whnf)) ?_
  refine r_nil ?_
  refine t_n ?_
  refine c_block ?_
  refine c_loop (ι := Nat) [6, 7, 10, 11, 12, 13, 14, 15, 16, 17, 18, 19, 20, 21, 22, 23, 24, 25, 26, 27, 28, 29, 30, 31, 32, 33, 34, 35, 36, 37, 38, 39, 40, 41, 42, 43, 44, 45, 46, 47, 48, 49, 50, 51, 52, 53, 54, 55, 56, 57, 58, 59, 60, 61, 62, 63, 64, 65, 66, 67, 68, 69, 70, 71, 72, 73, 74, 75, 76, 77] (fun i => [(6, .int .i64 (i : Int))]) (fun i w' => Ext w w' ∧ (i ≤ n ∧ Dsk (since w) w' g (playD (newD most) (acts.take i)))) (fun i => n - i) (0) ⟨rfl, trivial⟩ ⟨hX, ⟨Nat.zero_le _, hD⟩⟩ ?_
  rintro i GL0 w2 ⟨hE2, hi, hD⟩
  have hX := hE2
  have hlen := hA.len
  have hG := good_play (most := most) (acts.take i) _ 0 (good_new most) (fun a ha => da_bound hA a (List.mem_of_mem_take ha))
  rw [Nat.zero_add, List.length_take] at hG
  have hGs := hG.steps
  have hGl := hG.left
  refine c_seq ?_
  refine c_seq ?_
  refine r_plain ?_
  refine p1 (x_move (by conv => lhs; whnf)) ?_
  refine p1 (x_move (by conv => lhs; whnf)) ?_
  refine p1 (x_len_slice u22 rfl) ?_
  refine p1 (x_lss rfl rfl) ?_
  refine r_nil ?_
  refine t_n ?_
  first | refine c_dec rfl (fun hc13 => ?_) (fun hc13 => ?_) | refine c_if rfl (fun hc13 => ?_) (fun hc13 => ?_)
  · try simp only [decide_eq_true_eq, decide_eq_false_iff_not, Bool.not_eq_true, Bool.not_eq_false, Bool.not_eq_eq_eq_not, Bool.not_true, Bool.not_false, Int.not_lt, Int.not_le] at hc13
    refine c_skip ?_
    refine t_n ?_
    refine c_seq ?_
    refine c_block ?_
    refine c_seq ?_
    refine r_plain ?_
    refine p1 (x_move (by conv => lhs; whnf)) ?_
    refine p1 (x_move (by conv => lhs; whnf)) ?_
    obtain ⟨q, m, c2, hr, hlo, hz1, hz2, hz3, hz4⟩ := (hA.ext hX).daAt i (by omega)
    obtain ⟨a, ha⟩ : ∃ a, acts.getD i default = a := ⟨_, rfl⟩
    rw [ha] at hr hlo hz1 hz2 hz3 hz4
    have ha8 := a.k.toNat_lt
    refine p1 (x_ixs u22 sz33 rfl rfl ((hA.ext hX).adr kDA_pos (by omega)) (by omega) (by omega)) ?_
    refine p1 (x_loadN ua33 rfl (by exact sz33) hr) ?_
    have hXs7 := hX.size
    obtain ⟨wr, hwr⟩ : ∃ x, x = w2 := ⟨_, rfl⟩
    refine o_alloc zr33 ?_
    intro w3 g7 hN7
    have hE3 := hN7.ext
    have hX := hX.ext hE3
    have hD := hD.ext hE3
    have hB7 := hN7.blk
    skip
    refine o_storeAll rfl (by conv => lhs; whnf) (by simp [Value.oneCell']) (by exact sz33) hB7 (by rfl) ?_
    intro w4 hP4
    have hX := hX.put hP4 (by rw [hN7.g_eq]; exact hXs7)
    have hD := hD.one hP4.one (by decide)
    have hB7 := hP4.blk
    have hPw : Ext _ w4 := (hN7.ext).put hP4 (by rw [hN7.g_eq]; exact Nat.le_refl _)
    refine r_nil ?_
    refine t_n ?_
    refine c_seq ?_
    refine r_plain ?_
    refine p1 (x_fieldAddr fo33_0 sz5 rfl) ?_
    refine p1 (x_load1 un5 rfl (hB7.cell (rfl))) ?_
    refine p1 (x_rem rfl rfl (by omega) (by omega)) ?_
    refine r_nil ?_
    refine t_n ?_
    refine c_block ?_
    refine c_seq ?_
    refine r_plain ?_
    refine p1 (x_eql rfl rfl) ?_
    refine p1 (x_assign (by conv => lhs; whnf)) ?_
    refine r_nil ?_
    refine t_n ?_
    first | refine c_dec rfl (fun hc27 => ?_) (fun hc27 => ?_) | refine c_if rfl (fun hc27 => ?_) (fun hc27 => ?_)
    · try simp only [decide_eq_true_eq, decide_eq_false_iff_not, Bool.not_eq_true, Bool.not_eq_false, Bool.not_eq_eq_eq_not, Bool.not_true, Bool.not_false, Int.not_lt, Int.not_le] at hc27
      refine r_plain ?_
      refine p1 (x_move (by conv => lhs; whnf)) ?_
      refine p1 (x_fieldAddr fo33_1 sz9 rfl) ?_
      refine p1 (x_load1 un9 rfl (hB7.cell (rfl))) ?_
      have hXs5 := hX.size
      refine o_call Try.func17 fn17 fb17 (disk_Create g (since w) _ _ hD hG.ok (by omega) (by omega) a.nm hz1) rfl ?_
      rintro v5 w5 ⟨rfl, hD2, hM2⟩
      have hD : Dsk (since w) w5 g (actD (playD (newD most) (acts.take i)) a).1 := by rw [act0 (by omega)]; exact hD2.all (since_le w) hXs5
      have hX := hX.modS hM2 (since_le w)
      skip
      refine r_nil ?_
      refine b_n ?_
      refine b_n ?_
      refine t_n ?_
      refine r_plain ?_
      refine p1 (x_move (by conv => lhs; whnf)) ?_
      refine p1 (x_add rfl rfl (fits_i64 (by omega) (by omega))) ?_
      refine p1 (x_assign (by conv => lhs; whnf)) ?_
      refine r_nil ?_
      refine t_n (At.mk (i + 1) (by repeat (first | exact Agr.refl _ _ | exact Agr.hav _ _ _ | refine Agr.upd rfl ?_ | refine Agr.updR rfl ?_ | refine Agr.updL ?_ _ rfl | refine Agr.hav' rfl ?_)) ⟨rfl, trivial⟩ ?_)
      exact ⟨⟨hX, ⟨by omega, by rw [take_da (by omega), ha, play_snoc]; exact hD⟩⟩, by first | (dsimp only; omega) | ((show _ < _); omega)⟩
    · try simp only [decide_eq_true_eq, decide_eq_false_iff_not, Bool.not_eq_true, Bool.not_eq_false, Bool.not_eq_eq_eq_not, Bool.not_true, Bool.not_false, Int.not_lt, Int.not_le] at hc27
      refine c_seq ?_
      refine c_seq ?_
      refine r_plain ?_
      refine p1 (x_eql rfl rfl) ?_
      refine p1 (x_assign (by conv => lhs; whnf)) ?_
      refine r_nil ?_
      refine t_n ?_
      first | refine c_dec rfl (fun hc33 => ?_) (fun hc33 => ?_) | refine c_if rfl (fun hc33 => ?_) (fun hc33 => ?_)
      · try simp only [decide_eq_true_eq, decide_eq_false_iff_not, Bool.not_eq_true, Bool.not_eq_false, Bool.not_eq_eq_eq_not, Bool.not_true, Bool.not_false, Int.not_lt, Int.not_le] at hc33
        refine c_skip ?_
        refine t_n ?_
        refine c_t (congrArg Value.bool (decide_eq_true (by omega))) ?_
        refine r_plain ?_
        refine p1 (x_move (by conv => lhs; whnf)) ?_
        refine p1 (x_fieldAddr fo33_1 sz9 rfl) ?_
        refine p1 (x_load1 un9 rfl (hB7.cell (rfl))) ?_
        refine p1 (x_fieldAddr fo33_3 sz31 rfl) ?_
        refine p1 (x_load1 un31 rfl (hB7.cell (rfl))) ?_
        have hlo2 := (hlo.sl 5).keep (hPw.same B [5])
        have hXs6 := hX.size
        refine o_call Try.func19 fn19 fb19 (disk_Append g (since w) _ _ hD hG.ok (by omega) (by omega) a.nm hz1 5 B q m c2 a.data hlo2) rfl ?_
        rintro v6 w6 ⟨rfl, hD2, hM2⟩
        have hD : Dsk (since w) w6 g (actD (playD (newD most) (acts.take i)) a).1 := by rw [act1 (by omega)]; exact hD2.all (since_le w) hXs6
        have hX := hX.modS hM2 (since_le w)
        skip
        refine r_nil ?_
        refine b_n ?_
        refine b_n ?_
        refine t_n ?_
        refine r_plain ?_
        refine p1 (x_move (by conv => lhs; whnf)) ?_
        refine p1 (x_add rfl rfl (fits_i64 (by omega) (by omega))) ?_
        refine p1 (x_assign (by conv => lhs; whnf)) ?_
        refine r_nil ?_
        refine t_n (At.mk (i + 1) (by repeat (first | exact Agr.refl _ _ | exact Agr.hav _ _ _ | refine Agr.upd rfl ?_ | refine Agr.updR rfl ?_ | refine Agr.updL ?_ _ rfl | refine Agr.hav' rfl ?_)) ⟨rfl, trivial⟩ ?_)
        exact ⟨⟨hX, ⟨by omega, by rw [take_da (by omega), ha, play_snoc]; exact hD⟩⟩, by first | (dsimp only; omega) | ((show _ < _); omega)⟩
      · try simp only [decide_eq_true_eq, decide_eq_false_iff_not, Bool.not_eq_true, Bool.not_eq_false, Bool.not_eq_eq_eq_not, Bool.not_true, Bool.not_false, Int.not_lt, Int.not_le] at hc33
        refine r_plain ?_
        refine p1 (x_eql rfl rfl) ?_
        refine p1 (x_assign (by conv => lhs; whnf)) ?_
        refine r_nil ?_
        refine t_n ?_
        first | refine c_dec rfl (fun hc33 => ?_) (fun hc33 => ?_) | refine c_if rfl (fun hc33 => ?_) (fun hc33 => ?_)
        · try simp only [decide_eq_true_eq, decide_eq_false_iff_not, Bool.not_eq_true, Bool.not_eq_false, Bool.not_eq_eq_eq_not, Bool.not_true, Bool.not_false, Int.not_lt, Int.not_le] at hc33
          refine r_plain ?_
          refine p1 (x_move (by conv => lhs; whnf)) ?_
          refine p1 (x_fieldAddr fo33_1 sz9 rfl) ?_
          refine p1 (x_load1 un9 rfl (hB7.cell (rfl))) ?_
          refine p1 (x_fieldAddr fo33_3 sz31 rfl) ?_
          refine p1 (x_load1 un31 rfl (hB7.cell (rfl))) ?_
          have hlo2 := (hlo.sl 5).keep (hPw.same B [5])
          have hXs7 := hX.size
          refine o_call Try.func19 fn19 fb19 (disk_Append g (since w) _ _ hD hG.ok (by omega) (by omega) a.nm hz1 5 B q m c2 a.data hlo2) rfl ?_
          rintro v7 w7 ⟨rfl, hD2, hM2⟩
          have hD : Dsk (since w) w7 g (actD (playD (newD most) (acts.take i)) a).1 := by rw [act1 (by omega)]; exact hD2.all (since_le w) hXs7
          have hX := hX.modS hM2 (since_le w)
          skip
          refine r_nil ?_
          refine b_n ?_
          refine b_n ?_
          refine t_n ?_
          refine r_plain ?_
          refine p1 (x_move (by conv => lhs; whnf)) ?_
          refine p1 (x_add rfl rfl (fits_i64 (by omega) (by omega))) ?_
          refine p1 (x_assign (by conv => lhs; whnf)) ?_
          refine r_nil ?_
          refine t_n (At.mk (i + 1) (by repeat (first | exact Agr.refl _ _ | exact Agr.hav _ _ _ | refine Agr.upd rfl ?_ | refine Agr.updR rfl ?_ | refine Agr.updL ?_ _ rfl | refine Agr.hav' rfl ?_)) ⟨rfl, trivial⟩ ?_)
          exact ⟨⟨hX, ⟨by omega, by rw [take_da (by omega), ha, play_snoc]; exact hD⟩⟩, by first | (dsimp only; omega) | ((show _ < _); omega)⟩
        · try simp only [decide_eq_true_eq, decide_eq_false_iff_not, Bool.not_eq_true, Bool.not_eq_false, Bool.not_eq_eq_eq_not, Bool.not_true, Bool.not_false, Int.not_lt, Int.not_le] at hc33
          refine c_seq ?_
          refine r_plain ?_
          refine p1 (x_eql rfl rfl) ?_
          refine p1 (x_assign (by conv => lhs; whnf)) ?_
          refine r_nil ?_
          refine t_n ?_
          first | refine c_dec rfl (fun hc42 => ?_) (fun hc42 => ?_) | refine c_if rfl (fun hc42 => ?_) (fun hc42 => ?_)
          · try simp only [decide_eq_true_eq, decide_eq_false_iff_not, Bool.not_eq_true, Bool.not_eq_false, Bool.not_eq_eq_eq_not, Bool.not_true, Bool.not_false, Int.not_lt, Int.not_le] at hc42
            refine r_plain ?_
            refine p1 (x_move (by conv => lhs; whnf)) ?_
            refine p1 (x_fieldAddr fo33_1 sz9 rfl) ?_
            refine p1 (x_load1 un9 rfl (hB7.cell (rfl))) ?_
            have hXs8 := hX.size
            refine o_call Try.func23 fn23 fb23 (disk_Sync g (since w) _ _ hD hG.ok (by omega) (by omega) a.nm hz1) rfl ?_
            rintro v8 w8 ⟨rfl, hD2, hM2⟩
            have hD : Dsk (since w) w8 g (actD (playD (newD most) (acts.take i)) a).1 := by rw [act3 (by omega)]; exact hD2.all (since_le w) hXs8
            have hX := hX.modS hM2 (since_le w)
            skip
            refine r_nil ?_
            refine b_n ?_
            refine b_n ?_
            refine t_n ?_
            refine r_plain ?_
            refine p1 (x_move (by conv => lhs; whnf)) ?_
            refine p1 (x_add rfl rfl (fits_i64 (by omega) (by omega))) ?_
            refine p1 (x_assign (by conv => lhs; whnf)) ?_
            refine r_nil ?_
            refine t_n (At.mk (i + 1) (by repeat (first | exact Agr.refl _ _ | exact Agr.hav _ _ _ | refine Agr.upd rfl ?_ | refine Agr.updR rfl ?_ | refine Agr.updL ?_ _ rfl | refine Agr.hav' rfl ?_)) ⟨rfl, trivial⟩ ?_)
            exact ⟨⟨hX, ⟨by omega, by rw [take_da (by omega), ha, play_snoc]; exact hD⟩⟩, by first | (dsimp only; omega) | ((show _ < _); omega)⟩
          · try simp only [decide_eq_true_eq, decide_eq_false_iff_not, Bool.not_eq_true, Bool.not_eq_false, Bool.not_eq_eq_eq_not, Bool.not_true, Bool.not_false, Int.not_lt, Int.not_le] at hc42
            refine c_seq ?_
            refine r_plain ?_
            refine p1 (x_eql rfl rfl) ?_
            refine p1 (x_assign (by conv => lhs; whnf)) ?_
            refine r_nil ?_
            refine t_n ?_
            first | refine c_dec rfl (fun hc48 => ?_) (fun hc48 => ?_) | refine c_if rfl (fun hc48 => ?_) (fun hc48 => ?_)
            · try simp only [decide_eq_true_eq, decide_eq_false_iff_not, Bool.not_eq_true, Bool.not_eq_false, Bool.not_eq_eq_eq_not, Bool.not_true, Bool.not_false, Int.not_lt, Int.not_le] at hc48
              refine r_plain ?_
              refine p1 (x_move (by conv => lhs; whnf)) ?_
              refine p1 (x_fieldAddr fo33_1 sz9 rfl) ?_
              refine p1 (x_load1 un9 rfl (hB7.cell (rfl))) ?_
              refine p1 (x_fieldAddr fo33_2 sz9 rfl) ?_
              refine p1 (x_load1 un9 rfl (hB7.cell (rfl))) ?_
              have hXs9 := hX.size
              refine o_call Try.func24 fn24 fb24 (disk_Rename g (since w) _ _ hD hG.ok (by omega) (by omega) a.nm a.now hz1 hz2) rfl ?_
              rintro v9 w9 ⟨rfl, hD2, hM2⟩
              have hD : Dsk (since w) w9 g (actD (playD (newD most) (acts.take i)) a).1 := by rw [act4 (by omega)]; exact hD2.all (since_le w) hXs9
              have hX := hX.modS hM2 (since_le w)
              skip
              refine r_nil ?_
              refine b_n ?_
              refine b_n ?_
              refine t_n ?_
              refine r_plain ?_
              refine p1 (x_move (by conv => lhs; whnf)) ?_
              refine p1 (x_add rfl rfl (fits_i64 (by omega) (by omega))) ?_
              refine p1 (x_assign (by conv => lhs; whnf)) ?_
              refine r_nil ?_
              refine t_n (At.mk (i + 1) (by repeat (first | exact Agr.refl _ _ | exact Agr.hav _ _ _ | refine Agr.upd rfl ?_ | refine Agr.updR rfl ?_ | refine Agr.updL ?_ _ rfl | refine Agr.hav' rfl ?_)) ⟨rfl, trivial⟩ ?_)
              exact ⟨⟨hX, ⟨by omega, by rw [take_da (by omega), ha, play_snoc]; exact hD⟩⟩, by first | (dsimp only; omega) | ((show _ < _); omega)⟩
            · try simp only [decide_eq_true_eq, decide_eq_false_iff_not, Bool.not_eq_true, Bool.not_eq_false, Bool.not_eq_eq_eq_not, Bool.not_true, Bool.not_false, Int.not_lt, Int.not_le] at hc48
              refine c_seq ?_
              refine r_plain ?_
              refine p1 (x_eql rfl rfl) ?_
              refine p1 (x_assign (by conv => lhs; whnf)) ?_
              refine r_nil ?_
              refine t_n ?_
              first | refine c_dec rfl (fun hc56 => ?_) (fun hc56 => ?_) | refine c_if rfl (fun hc56 => ?_) (fun hc56 => ?_)
              · try simp only [decide_eq_true_eq, decide_eq_false_iff_not, Bool.not_eq_true, Bool.not_eq_false, Bool.not_eq_eq_eq_not, Bool.not_true, Bool.not_false, Int.not_lt, Int.not_le] at hc56
                refine r_plain ?_
                refine p1 (x_move (by conv => lhs; whnf)) ?_
                refine p1 (x_fieldAddr fo33_1 sz9 rfl) ?_
                refine p1 (x_load1 un9 rfl (hB7.cell (rfl))) ?_
                have hXs10 := hX.size
                refine o_call Try.func20 fn20 fb20 (disk_Remove g (since w) _ _ hD hG.ok (by omega) (by omega) a.nm hz1) rfl ?_
                rintro v10 w10 ⟨rfl, hD2, hM2⟩
                have hD : Dsk (since w) w10 g (actD (playD (newD most) (acts.take i)) a).1 := by rw [act5 (by omega)]; exact hD2.all (since_le w) hXs10
                have hX := hX.modS hM2 (since_le w)
                skip
                refine r_nil ?_
                refine b_n ?_
                refine b_n ?_
                refine t_n ?_
                refine r_plain ?_
                refine p1 (x_move (by conv => lhs; whnf)) ?_
                refine p1 (x_add rfl rfl (fits_i64 (by omega) (by omega))) ?_
                refine p1 (x_assign (by conv => lhs; whnf)) ?_
                refine r_nil ?_
                refine t_n (At.mk (i + 1) (by repeat (first | exact Agr.refl _ _ | exact Agr.hav _ _ _ | refine Agr.upd rfl ?_ | refine Agr.updR rfl ?_ | refine Agr.updL ?_ _ rfl | refine Agr.hav' rfl ?_)) ⟨rfl, trivial⟩ ?_)
                exact ⟨⟨hX, ⟨by omega, by rw [take_da (by omega), ha, play_snoc]; exact hD⟩⟩, by first | (dsimp only; omega) | ((show _ < _); omega)⟩
              · try simp only [decide_eq_true_eq, decide_eq_false_iff_not, Bool.not_eq_true, Bool.not_eq_false, Bool.not_eq_eq_eq_not, Bool.not_true, Bool.not_false, Int.not_lt, Int.not_le] at hc56
                refine c_seq ?_
                refine r_plain ?_
                refine p1 (x_eql rfl rfl) ?_
                refine p1 (x_assign (by conv => lhs; whnf)) ?_
                refine r_nil ?_
                refine t_n ?_
                first | refine c_dec rfl (fun hc62 => ?_) (fun hc62 => ?_) | refine c_if rfl (fun hc62 => ?_) (fun hc62 => ?_)
                · try simp only [decide_eq_true_eq, decide_eq_false_iff_not, Bool.not_eq_true, Bool.not_eq_false, Bool.not_eq_eq_eq_not, Bool.not_true, Bool.not_false, Int.not_lt, Int.not_le] at hc62
                  refine r_plain ?_
                  refine p1 (x_move (by conv => lhs; whnf)) ?_
                  refine p1 (x_fieldAddr fo33_4 sz3 rfl) ?_
                  refine p1 (x_load1 un3 rfl (hB7.cell (rfl))) ?_
                  refine p1 (x_fieldAddr fo33_5 sz4 rfl) ?_
                  refine p1 (x_load1 un4 rfl (hB7.cell (rfl))) ?_
                  have hXs11 := hX.size
                  refine o_call Try.func18 fn18 fb18 (disk_Fail g (since w) _ _ hD hG.ok (by omega) (by omega) a.n hz3 hz4 a.done) rfl ?_
                  rintro v11 w11 ⟨rfl, hD2, hM2⟩
                  have hD : Dsk (since w) w11 g (actD (playD (newD most) (acts.take i)) a).1 := by rw [act6 (by omega)]; exact hD2.all (since_le w) hXs11
                  have hX := hX.modS hM2 (since_le w)
                  skip
                  refine r_nil ?_
                  refine b_n ?_
                  refine b_n ?_
                  refine t_n ?_
                  refine r_plain ?_
                  refine p1 (x_move (by conv => lhs; whnf)) ?_
                  refine p1 (x_add rfl rfl (fits_i64 (by omega) (by omega))) ?_
                  refine p1 (x_assign (by conv => lhs; whnf)) ?_
                  refine r_nil ?_
                  refine t_n (At.mk (i + 1) (by repeat (first | exact Agr.refl _ _ | exact Agr.hav _ _ _ | refine Agr.upd rfl ?_ | refine Agr.updR rfl ?_ | refine Agr.updL ?_ _ rfl | refine Agr.hav' rfl ?_)) ⟨rfl, trivial⟩ ?_)
                  exact ⟨⟨hX, ⟨by omega, by rw [take_da (by omega), ha, play_snoc]; exact hD⟩⟩, by first | (dsimp only; omega) | ((show _ < _); omega)⟩
                · try simp only [decide_eq_true_eq, decide_eq_false_iff_not, Bool.not_eq_true, Bool.not_eq_false, Bool.not_eq_eq_eq_not, Bool.not_true, Bool.not_false, Int.not_lt, Int.not_le] at hc62
                  refine c_seq ?_
                  refine r_plain ?_
                  refine p1 (x_eql rfl rfl) ?_
                  refine p1 (x_assign (by conv => lhs; whnf)) ?_
                  refine r_nil ?_
                  refine t_n ?_
                  first | refine c_dec rfl (fun hc70 => ?_) (fun hc70 => ?_) | refine c_if rfl (fun hc70 => ?_) (fun hc70 => ?_)
                  · try simp only [decide_eq_true_eq, decide_eq_false_iff_not, Bool.not_eq_true, Bool.not_eq_false, Bool.not_eq_eq_eq_not, Bool.not_true, Bool.not_false, Int.not_lt, Int.not_le] at hc70
                    refine r_plain ?_
                    refine p1 (x_move (by conv => lhs; whnf)) ?_
                    refine p1 (x_fieldAddr fo33_1 sz9 rfl) ?_
                    refine p1 (x_load1 un9 rfl (hB7.cell (rfl))) ?_
                    refine p1 (x_fieldAddr fo33_4 sz3 rfl) ?_
                    refine p1 (x_load1 un3 rfl (hB7.cell (rfl))) ?_
                    have hXs12 := hX.size
                    refine o_call Try.func25 fn25 fb25 (disk_Cut g (since w) _ _ hD hG.ok (by omega) (by omega) a.nm hz1 a.n hz3 hz4) rfl ?_
                    rintro v12 w12 ⟨rfl, hD2, hM2⟩
                    have hD : Dsk (since w) w12 g (actD (playD (newD most) (acts.take i)) a).1 := by rw [act8 (by omega)]; exact hD2.all (since_le w) hXs12
                    have hX := hX.modS hM2 (since_le w)
                    skip
                    refine r_nil ?_
                    refine b_n ?_
                    refine b_n ?_
                    refine t_n ?_
                    refine r_plain ?_
                    refine p1 (x_move (by conv => lhs; whnf)) ?_
                    refine p1 (x_add rfl rfl (fits_i64 (by omega) (by omega))) ?_
                    refine p1 (x_assign (by conv => lhs; whnf)) ?_
                    refine r_nil ?_
                    refine t_n (At.mk (i + 1) (by repeat (first | exact Agr.refl _ _ | exact Agr.hav _ _ _ | refine Agr.upd rfl ?_ | refine Agr.updR rfl ?_ | refine Agr.updL ?_ _ rfl | refine Agr.hav' rfl ?_)) ⟨rfl, trivial⟩ ?_)
                    exact ⟨⟨hX, ⟨by omega, by rw [take_da (by omega), ha, play_snoc]; exact hD⟩⟩, by first | (dsimp only; omega) | ((show _ < _); omega)⟩
                  · try simp only [decide_eq_true_eq, decide_eq_false_iff_not, Bool.not_eq_true, Bool.not_eq_false, Bool.not_eq_eq_eq_not, Bool.not_true, Bool.not_false, Int.not_lt, Int.not_le] at hc70
                    refine r_plain ?_
                    refine p1 (x_move (by conv => lhs; whnf)) ?_
                    refine p1 (x_fieldAddr fo33_3 sz31 rfl) ?_
                    refine p1 (x_load1 un31 rfl (hB7.cell (rfl))) ?_
                    have hlo2 := hlo.keep (hPw.same B [])
                    have hout := hlo2.out hBB
                    have hXs13 := hX.size
                    refine o_call Try.func26 fn26 fb26 (disk_Start g (since w) _ _ hD hG.ok a.data q m c2 hout) rfl ?_
                    rintro v13 w13 ⟨hD2, hM2⟩
                    have hD : Dsk (since w) w13 g (actD (playD (newD most) (acts.take i)) a).1 := by rw [act7 (by omega)]; exact hD2.all (since_le w) hXs13
                    have hX := hX.modS hM2 (since_le w)
                    skip
                    refine r_nil ?_
                    refine b_n ?_
                    refine b_n ?_
                    refine t_n ?_
                    refine r_plain ?_
                    refine p1 (x_move (by conv => lhs; whnf)) ?_
                    refine p1 (x_add rfl rfl (fits_i64 (by omega) (by omega))) ?_
                    refine p1 (x_assign (by conv => lhs; whnf)) ?_
                    refine r_nil ?_
                    refine t_n (At.mk (i + 1) (by repeat (first | exact Agr.refl _ _ | exact Agr.hav _ _ _ | refine Agr.upd rfl ?_ | refine Agr.updR rfl ?_ | refine Agr.updL ?_ _ rfl | refine Agr.hav' rfl ?_)) ⟨rfl, trivial⟩ ?_)
                    exact ⟨⟨hX, ⟨by omega, by rw [take_da (by omega), ha, play_snoc]; exact hD⟩⟩, by first | (dsimp only; omega) | ((show _ < _); omega)⟩
  · try simp only [decide_eq_true_eq, decide_eq_false_iff_not, Bool.not_eq_true, Bool.not_eq_false, Bool.not_eq_eq_eq_not, Bool.not_true, Bool.not_false, Int.not_lt, Int.not_le] at hc13
    have hin : acts.take i = acts := List.take_of_length_le (by omega)
    rw [hin] at hD
    refine c_exit ?_
    refine t_e ?_
    refine t_e ?_
    refine b_hit ?_
    refine t_n ?_
    refine c_seq ?_
    refine r_plain ?_
    refine p1 (x_move (by conv => lhs; whnf)) ?_
    refine p1 (x_assign (by conv => lhs; whnf)) ?_
    refine r_nil ?_
    refine t_n ?_
    refine c_ret ?_
    refine end1 rfl (by conv => lhs; whnf) ?_
    exact ⟨⟨g, rfl, hD⟩, hX⟩
end Go.Proofs.Eng
end
section
set_option linter.unusedVariables false
set_option linter.unusedSimpArgs false
set_option maxRecDepth 100000
set_option maxHeartbeats 4000000
namespace Go.Proofs.Eng
open Go.RowKit
open Extern.Stop (cell)
theorem fb27 : Try.f27.body.isNone = false := by kernel_rfl
theorem fn27 : (Try.f27.name == "runtime.NumGoroutine") = false := by kernel_rfl
theorem us55 : (Try.prog.underlying 55).isSome = true := by kernel_rfl
end Go.Proofs.Eng
end
section
set_option linter.unusedVariables false
set_option linter.unusedSimpArgs false
set_option maxRecDepth 100000
set_option maxHeartbeats 4000000
namespace Go.Proofs.Eng
open Go.RowKit
open Extern.Stop (cell)
theorem law_DiskFull (m : Nat) (hm : m ≤ 65535) (acts : List DAct) (e B : Nat) (p : Option Addr) (n c : Nat) (xs : List UInt8) (e2 B2 : Nat) (p2 : Option Addr) (n2 c2 : Nat) (w : World) (hA : Sl kDA e B w p n c acts) (hBB : B ≤ w.heap.size) (hs : n ≤ 4611686018427387000) (hl : Sl kByte e2 B2 w p2 n2 c2 xs) :
    Ret Try.prog 6 [.int .u16 (m : Int), .slice p n c, .slice p2 n2 c2] w (fun v w' => v = .bool true ∧ Ext w w') := by
  have hX := Ext.refl w
  refine enter 67 _ Try.func6 rfl rfl (Nat.le_of_ble_eq_true rfl) rfl ?_
  refine c_seq ?_
  refine r_plain ?_
  refine p1 (x_assign (by conv => lhs; whnf)) ?_
  refine r_nil ?_
  refine t_n ?_
  refine c_seq ?_
  skip
  refine r_plain ?_
  refine p1 (x_move (by conv => lhs; whnf)) ?_
  refine p1 (x_convf u3 us55 rfl (fits_i64 (by omega) (by omega))) ?_
  refine p1 (x_move (by conv => lhs; whnf)) ?_
  have hXs1 := hX.size
  refine o_call Try.func27 fn27 fb27 (disk_played (m : Int) acts _ _ _ _ _ _ (hA.ext hX) (Nat.le_trans hBB hXs1) hs) rfl ?_
  rintro v1 w1 ⟨⟨g, rfl, hD0⟩, hE1⟩
  have hX := hX.ext hE1
  have hD : Dsk (since w) w1 g (playD (newD (m : Int)) acts) := hD0.mono (fun k _ h => Nat.le_trans hXs1 h)
  have hG := good_play (most := (m : Int)) acts _ 0 (good_new (m : Int)) (fun a ha => da_bound hA a ha)
  rw [Nat.zero_add, hA.len] at hG
  have hmo := play_most acts (newD (m : Int))
  obtain ⟨D, hDe⟩ : ∃ D, D = playD (newD (m : Int)) acts := ⟨_, rfl⟩
  rw [← hDe] at hD hG hmo
  skip
  refine p1 (x_assign (by conv => lhs; whnf)) ?_
  refine r_nil ?_
  refine t_n ?_
  refine c_seq ?_
  refine r_plain ?_
  refine p1 (x_move (by conv => lhs; whnf)) ?_
  have hXs2 := hX.size
  refine o_call Try.func26 fn26 fb26 (disk_Start g (since w) D _ hD hG.ok [] none 0 0 (Out.nil _ _)) rfl ?_
  rintro v2 w2 ⟨hD1, hM2⟩
  obtain ⟨D2, hD2e⟩ : ∃ x, x = startD D [] := ⟨_, rfl⟩
  rw [← hD2e] at hD1
  have hD : Dsk (since w) w2 g D2 := hD1.all (since_le w) hXs2
  have hX := hX.modS hM2 (since_le w)
  have hG2 : Good D2 (n + 1) := by rw [hD2e]; exact good_start hG []
  have hdn : D2.down = false := by rw [hD2e]; rfl
  have hlf : D2.left = -1 := by rw [hD2e]; rfl
  have hmo2 : D2.most = D.most := by rw [hD2e]; rfl
  have hroom := hG2.ok.room
  have hst2 := hG2.steps
  have hle2 := hG2.left
  skip
  refine r_nil ?_
  refine t_n ?_
  refine c_seq ?_
  refine r_plain ?_
  refine p1 (x_move (by conv => lhs; whnf)) ?_
  refine o_call Try.func29 fn29 fb29 (disk_Used g (since w) D2 _ hD) rfl ?_
  rintro v3 w3 ⟨rfl, hE3⟩
  have hX := hX.ext hE3
  have hD := hD.ext hE3
  refine p1 (x_assign (by conv => lhs; whnf)) ?_
  refine r_nil ?_
  refine t_n ?_
  refine c_seq ?_
  refine c_seq ?_
  have hmm : D2.most = m := by rw [hmo2, hmo]; show (max 0 (min (m : Int) 16777216)).toNat = m; omega
  refine r_plain ?_
  refine p1 (x_move (by conv => lhs; whnf)) ?_
  refine p1 (x_move (by conv => lhs; whnf)) ?_
  refine p1 (x_convf u3 us55 rfl (fits_i64 (by omega) (by omega))) ?_
  refine p1 ((x_gtr rfl rfl).cast (congrArg _ (decide_eq_false (by omega)))) ?_
  refine r_nil ?_
  refine t_n ?_
  refine c_f rfl ?_
  refine c_skip ?_
  refine t_n ?_
  refine c_seq ?_
  refine r_plain ?_
  refine p1 (x_move (by conv => lhs; whnf)) ?_
  refine o_call Try.func28 fn28 fb28 (disk_List g (since w) D2 _ hD hG2.ok) rfl ?_
  rintro v4 w4 ⟨⟨qn, cn, rfl, hN⟩, hE4⟩
  have hX := hX.ext hE4
  have hD := hD.ext hE4
  have hN := hN.sl
  refine p1 (x_assign (by conv => lhs; whnf)) ?_
  refine r_nil ?_
  refine t_n ?_
  refine c_seq ?_
  refine c_seq ?_
  refine r_plain ?_
  refine p1 (x_move (by conv => lhs; whnf)) ?_
  refine p1 (x_len_slice u51 rfl) ?_
  refine p1 (x_eql rfl rfl) ?_
  refine r_nil ?_
  refine t_n ?_
  first | refine c_dec rfl (fun hc27 => ?_) (fun hc27 => ?_) | refine c_if rfl (fun hc27 => ?_) (fun hc27 => ?_)
  · try simp only [decide_eq_true_eq, decide_eq_false_iff_not, Bool.not_eq_true, Bool.not_eq_false, Bool.not_eq_eq_eq_not, Bool.not_true, Bool.not_false, Int.not_lt, Int.not_le] at hc27
    refine c_seq ?_
    refine r_plain ?_
    refine o_call Try.func16 fn16 fb16 (disk_awake _) rfl ?_
    rintro v5 w5 ⟨rfl, hE5⟩
    have hX := hX.ext hE5
    have hD := hD.ext hE5
    have hN := hN.ext hE5
    refine p1 (x_assign (by conv => lhs; whnf)) ?_
    refine r_nil ?_
    refine t_n ?_
    refine c_ret ?_
    refine t_r ?_
    refine end1 rfl (by conv => lhs; whnf) ?_
    exact ⟨rfl, hX⟩
  · try simp only [decide_eq_true_eq, decide_eq_false_iff_not, Bool.not_eq_true, Bool.not_eq_false, Bool.not_eq_eq_eq_not, Bool.not_true, Bool.not_false, Int.not_lt, Int.not_le] at hc27
    refine c_skip ?_
    refine t_n ?_
    refine c_seq ?_
    have hpos : 0 < D2.l.length := by omega
    obtain ⟨k, hk⟩ : ∃ k, (D2.l.map (·.1)).getD 0 ByteArray.empty = k := ⟨_, rfl⟩
    have hkin : k ∈ D2.l.map (·.1) := by rw [← hk]; exact mem_of_getD (z := ByteArray.empty) (i := 0) (by rw [List.length_map]; exact hpos) rfl
    have hkn : namedD k = true := by obtain ⟨y, hy, e⟩ := List.mem_map.1 hkin; rw [← e]; exact hG2.names y hy
    have hk32 := named_size32 hkn
    have hs0 := hN.strAt 0 (by omega)
    rw [hk] at hs0
    refine r_plain ?_
    refine p1 (x_move (by conv => lhs; whnf)) ?_
    refine p1 (x_move (by conv => lhs; whnf)) ?_
    refine p1 (x_ixs u51 sz9 rfl rfl (hN.adr kStr_pos (by omega)) (by omega) (by omega)) ?_
    refine p1 (x_load1 un9 rfl (by simpa using hs0)) ?_
    refine p1 (x_move (by conv => lhs; whnf)) ?_
    have hXs6 := hX.size
    refine o_call Try.func19 fn19 fb19 (disk_Append g (since w) D2 _ hD hG2.ok (by omega) (by omega) k (by omega) _ _ _ _ _ xs (hl.ext hX)) rfl ?_
    rintro v6 w6 ⟨rfl, hD1, hM2⟩
    have hD : Dsk (since w) w6 g (appendD D2 k xs).1 := hD1.all (since_le w) hXs6
    have hX := hX.modS hM2 (since_le w)
    have hln := hl.len
    have hlc := hl.cap
    have hlff := hl.fit
    skip
    refine p1 (x_assign (by conv => lhs; whnf)) ?_
    refine r_nil ?_
    refine t_n ?_
    refine c_seq ?_
    refine c_seq ?_
    refine r_plain ?_
    refine p1 (x_move (by conv => lhs; whnf)) ?_
    refine p1 (x_len_slice u31 rfl) ?_
    refine p1 (x_move (by conv => lhs; whnf)) ?_
    refine p1 (x_convf u3 us55 rfl (fits_i64 (by omega) (by omega))) ?_
    refine p1 (x_move (by conv => lhs; whnf)) ?_
    refine p1 (x_sub rfl rfl (fits_i64 (by omega) (by omega))) ?_
    refine p1 (x_gtr rfl rfl) ?_
    refine r_nil ?_
    refine t_n ?_
    first | refine c_dec rfl (fun hc41 => ?_) (fun hc41 => ?_) | refine c_if rfl (fun hc41 => ?_) (fun hc41 => ?_)
    · try simp only [decide_eq_true_eq, decide_eq_false_iff_not, Bool.not_eq_true, Bool.not_eq_false, Bool.not_eq_eq_eq_not, Bool.not_true, Bool.not_false, Int.not_lt, Int.not_le] at hc41
      have hap := ap_no (xs := xs) hkn hdn hkin (by omega)
      refine c_seq ?_
      refine r_plain ?_
      refine p1 (x_move (by conv => lhs; whnf)) ?_
      refine p1 ((x_eql rfl rfl).cast (congrArg _ (decide_eq_true (by rw [hap])))) ?_
      refine p1 (x_move (by conv => lhs; whnf)) ?_
      refine g1 44 rfl rfl (x_move (by conv => lhs; whnf)) ?_
      refine g_drop 44 rfl rfl ?_
      refine o_call Try.func29 fn29 fb29 (disk_Used g (since w) (appendD D2 k xs).1 _ hD) rfl ?_
      rintro v7 w7 ⟨rfl, hE7⟩
      have hX := hX.ext hE7
      have hD := hD.ext hE7
      refine g1 44 rfl rfl (x_move (by conv => lhs; whnf)) ?_
      refine g1 44 rfl rfl ((x_eql rfl rfl).cast (congrArg _ (decide_eq_true (by rw [hap])))) ?_
      refine p1 (x_pick_t rfl (by conv => lhs; whnf)) ?_
      refine p1 (x_move (by conv => lhs; whnf)) ?_
      refine g_drop 50 rfl rfl ?_
      refine o_call Try.func16 fn16 fb16 (disk_awake _) rfl ?_
      rintro v8 w8 ⟨rfl, hE8⟩
      have hX := hX.ext hE8
      have hD := hD.ext hE8
      refine p1 (x_pick_t rfl (by conv => lhs; whnf)) ?_
      refine p1 (x_assign (by conv => lhs; whnf)) ?_
      refine r_nil ?_
      refine t_n ?_
      refine c_ret ?_
      refine t_r ?_
      refine end1 rfl (by conv => lhs; whnf) ?_
      exact ⟨rfl, hX⟩
    · try simp only [decide_eq_true_eq, decide_eq_false_iff_not, Bool.not_eq_true, Bool.not_eq_false, Bool.not_eq_eq_eq_not, Bool.not_true, Bool.not_false, Int.not_lt, Int.not_le] at hc41
      have hap := ap_yes (xs := xs) hkn hdn hkin hG2.ok (by omega) (by omega)
      refine c_skip ?_
      refine t_n ?_
      refine c_seq ?_
      refine r_plain ?_
      refine p1 (x_move (by conv => lhs; whnf)) ?_
      refine p1 ((x_eql rfl rfl).cast (congrArg _ (decide_eq_true (hap.1)))) ?_
      refine p1 (x_move (by conv => lhs; whnf)) ?_
      refine g1 55 rfl rfl (x_move (by conv => lhs; whnf)) ?_
      refine g_drop 55 rfl rfl ?_
      refine o_call Try.func29 fn29 fb29 (disk_Used g (since w) (appendD D2 k xs).1 _ hD) rfl ?_
      rintro v9 w9 ⟨rfl, hE9⟩
      have hX := hX.ext hE9
      have hD := hD.ext hE9
      refine g1 55 rfl rfl (x_move (by conv => lhs; whnf)) ?_
      refine g1 55 rfl rfl (x_move (by conv => lhs; whnf)) ?_
      refine g1 55 rfl rfl (x_len_slice u31 rfl) ?_
      refine g1 55 rfl rfl (x_add rfl rfl (fits_i64 (by omega) (by omega))) ?_
      refine g1 55 rfl rfl ((x_eql rfl rfl).cast (congrArg _ (decide_eq_true (by rw [hap.2.1]; omega)))) ?_
      refine p1 (x_pick_t rfl (by conv => lhs; whnf)) ?_
      refine p1 (x_move (by conv => lhs; whnf)) ?_
      refine g_drop 64 rfl rfl ?_
      refine o_call Try.func16 fn16 fb16 (disk_awake _) rfl ?_
      rintro v10 w10 ⟨rfl, hE10⟩
      have hX := hX.ext hE10
      have hD := hD.ext hE10
      refine p1 (x_pick_t rfl (by conv => lhs; whnf)) ?_
      refine p1 (x_assign (by conv => lhs; whnf)) ?_
      refine r_nil ?_
      refine t_n ?_
      refine c_ret ?_
      refine end1 rfl (by conv => lhs; whnf) ?_
      exact ⟨rfl, hX⟩
end Go.Proofs.Eng
end
