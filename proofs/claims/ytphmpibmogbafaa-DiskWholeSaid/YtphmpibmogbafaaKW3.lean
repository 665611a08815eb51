import Derived.Test.YtphmpibmogbafaaKW2
/- Merged: T7 K8 T8 K9 T9 KA PH T10 KB QC T11 KC PW QW KD -/
section
set_option linter.unusedVariables false
set_option linter.unusedSimpArgs false
set_option maxRecDepth 100000
set_option maxHeartbeats 4000000
namespace Go.Proofs.Eng
open Go.RowKit
open Extern.Stop (cell)
end Go.Proofs.Eng
end
section
set_option linter.unusedVariables false
set_option linter.unusedSimpArgs false
set_option maxRecDepth 100000
set_option maxHeartbeats 4000000
namespace Go.Proofs.Eng
open Go.RowKit
open Extern.Stop (cell)
end Go.Proofs.Eng
end
section
set_option linter.unusedVariables false
set_option linter.unusedSimpArgs false
set_option maxRecDepth 100000
set_option maxHeartbeats 4000000
namespace Go.Proofs.Eng
open Go.RowKit
open Extern.Stop (cell)
theorem fo33_0 : fieldOf Try.prog 33 0 = some (5, 0) := by kernel_rfl
theorem fo33_1 : fieldOf Try.prog 33 1 = some (9, 1) := by kernel_rfl
theorem fo33_2 : fieldOf Try.prog 33 2 = some (9, 2) := by kernel_rfl
theorem fo33_3 : fieldOf Try.prog 33 3 = some (31, 3) := by kernel_rfl
theorem fo33_4 : fieldOf Try.prog 33 4 = some (3, 4) := by kernel_rfl
theorem fo33_5 : fieldOf Try.prog 33 5 = some (4, 5) := by kernel_rfl
theorem sz33 : (Try.prog.info? 33).map (·.size) = some 6 := by kernel_rfl
theorem u22 : Try.prog.underlying 22 = some (.slice 33) := by kernel_rfl
theorem ua33 : (Try.prog.underlying 33).map TypeDesc.isRow = some true := by kernel_rfl
theorem zr33 : (Try.prog.info? 33).map (·.zero) = some (some (.agg #[.int .u8 0, .string ByteArray.empty, .string ByteArray.empty, .slice none 0 0, .int .i64 0, .bool false])) := by kernel_rfl
end Go.Proofs.Eng
end
section
set_option linter.unusedVariables false
set_option linter.unusedSimpArgs false
set_option maxRecDepth 100000
set_option maxHeartbeats 4000000
namespace Go.Proofs.Eng
open Go.RowKit
open Extern.Stop (cell)
theorem disk_played (most : Int) (acts : List DAct) (e B : Nat) (p : Option Addr) (n c : Nat) (w : World) (hA : Sl kDA e B w p n c acts) (hBB : B ≤ w.heap.size) (hs : n ≤ 4611686018427387000) :
    Ret Try.prog 27 [.int .i64 most, .slice p n c] w (fun v w' => (∃ g, v = .pointer (some ⟨g, 0, none⟩) ∧ Dsk (since w) w' g (playD (newD most) acts)) ∧ Ext w w') := by
  have hX := Ext.refl w
  refine enter 79 _ Try.func27 rfl rfl (Nat.le_of_ble_eq_true rfl) rfl ?_
  refine c_seq ?_
  refine r_plain ?_
  refine p1 (x_assign (by conv => lhs; whnf)) ?_
  refine r_nil ?_
  refine t_n ?_
  refine c_seq ?_
  refine r_plain ?_
  refine p1 (x_move (by conv => lhs; whnf)) ?_
  have hXs1 := hX.size
  refine o_call Try.func11 fn11 fb11 (disk_New most _) rfl ?_
  rintro v1 w1 ⟨⟨g, rfl, hD0⟩, hE1⟩
  have hX := hX.ext hE1
  have hD : Dsk (since w) w1 g (newD most) := hD0.all (fun _ h => h.elim) hXs1
  skip
  refine p1 (x_assign (by conv => lhs; whnf)) ?_
  refine r_nil ?_
  refine t_n ?_
  refine c_seq ?_
  refine c_seq ?_
  refine r_plain ?_
  refine p1 (x_assign (by conv => lhs; whnf)) ?_
  refine r_nil ?_
  refine t_n ?_
  refine c_block ?_
  refine c_loop (ι := Nat) [6, 7, 10, 11, 12, 13, 14, 15, 16, 17, 18, 19, 20, 21, 22, 23, 24, 25, 26, 27, 28, 29, 30, 31, 32, 33, 34, 35, 36, 37, 38, 39, 40, 41, 42, 43, 44, 45, 46, 47, 48, 49, 50, 51, 52, 53, 54, 55, 56, 57, 58, 59, 60, 61, 62, 63, 64, 65, 66, 67, 68, 69, 70, 71, 72, 73, 74, 75, 76, 77] (fun i => [(6, .int .i64 (i : Int))]) (fun i w' => Ext w w' ∧ (i ≤ n ∧ Dsk (since w) w' g (playD (newD most) (acts.take i)))) (fun i => n - i) (0) ⟨rfl, trivial⟩ ⟨hX, ⟨Nat.zero_le _, hD⟩⟩ ?_
  rintro i GL0 w2 ⟨hE2, hi, hD⟩
  have hX := hE2
  have hlen := hA.len
  have hG := good_play (most := most) (acts.take i) _ 0 (good_new most) (fun a ha => da_bound hA a (List.mem_of_mem_take ha))
  rw [Nat.zero_add, List.length_take] at hG
  have hGs := hG.steps
  have hGl := hG.left
  refine c_seq ?_
  refine c_seq ?_
  refine r_plain ?_
  refine p1 (x_move (by conv => lhs; whnf)) ?_
  refine p1 (x_move (by conv => lhs; whnf)) ?_
  refine p1 (x_len_slice u22 rfl) ?_
  refine p1 (x_lss rfl rfl) ?_
  refine r_nil ?_
  refine t_n ?_
  first | refine c_dec rfl (fun hc13 => ?_) (fun hc13 => ?_) | refine c_if rfl (fun hc13 => ?_) (fun hc13 => ?_)
  · try simp only [decide_eq_true_eq, decide_eq_false_iff_not, Bool.not_eq_true, Bool.not_eq_false, Bool.not_eq_eq_eq_not, Bool.not_true, Bool.not_false, Int.not_lt, Int.not_le] at hc13
    refine c_skip ?_
    refine t_n ?_
    refine c_seq ?_
    refine c_block ?_
    refine c_seq ?_
    refine r_plain ?_
    refine p1 (x_move (by conv => lhs; whnf)) ?_
    refine p1 (x_move (by conv => lhs; whnf)) ?_
    obtain ⟨q, m, c2, hr, hlo, hz1, hz2, hz3, hz4⟩ := (hA.ext hX).daAt i (by omega)
    obtain ⟨a, ha⟩ : ∃ a, acts.getD i default = a := ⟨_, rfl⟩
    rw [ha] at hr hlo hz1 hz2 hz3 hz4
    have ha8 := a.k.toNat_lt
    refine p1 (x_ixs u22 sz33 rfl rfl ((hA.ext hX).adr kDA_pos (by omega)) (by omega) (by omega)) ?_
    refine p1 (x_loadN ua33 rfl (by exact sz33) hr) ?_
    have hXs7 := hX.size
    obtain ⟨wr, hwr⟩ : ∃ x, x = w2 := ⟨_, rfl⟩
    refine o_alloc zr33 ?_
    intro w3 g7 hN7
    have hE3 := hN7.ext
    have hX := hX.ext hE3
    have hD := hD.ext hE3
    have hB7 := hN7.blk
    skip
    refine o_storeAll rfl (by conv => lhs; whnf) (by simp [Value.oneCell']) (by exact sz33) hB7 (by rfl) ?_
    intro w4 hP4
    have hX := hX.put hP4 (by rw [hN7.g_eq]; exact hXs7)
    have hD := hD.one hP4.one (by decide)
    have hB7 := hP4.blk
    have hPw : Ext _ w4 := (hN7.ext).put hP4 (by rw [hN7.g_eq]; exact Nat.le_refl _)
    refine r_nil ?_
    refine t_n ?_
    refine c_seq ?_
    refine r_plain ?_
    refine p1 (x_fieldAddr fo33_0 sz5 rfl) ?_
    refine p1 (x_load1 un5 rfl (hB7.cell (rfl))) ?_
    refine p1 (x_rem rfl rfl (by omega) (by omega)) ?_
    refine r_nil ?_
    refine t_n ?_
    refine c_block ?_
    refine c_seq ?_
    refine r_plain ?_
    refine p1 (x_eql rfl rfl) ?_
    refine p1 (x_assign (by conv => lhs; whnf)) ?_
    refine r_nil ?_
    refine t_n ?_
    first | refine c_dec rfl (fun hc27 => ?_) (fun hc27 => ?_) | refine c_if rfl (fun hc27 => ?_) (fun hc27 => ?_)
    · try simp only [decide_eq_true_eq, decide_eq_false_iff_not, Bool.not_eq_true, Bool.not_eq_false, Bool.not_eq_eq_eq_not, Bool.not_true, Bool.not_false, Int.not_lt, Int.not_le] at hc27
      refine r_plain ?_
      refine p1 (x_move (by conv => lhs; whnf)) ?_
      refine p1 (x_fieldAddr fo33_1 sz9 rfl) ?_
      refine p1 (x_load1 un9 rfl (hB7.cell (rfl))) ?_
      have hXs5 := hX.size
      refine o_call Try.func17 fn17 fb17 (disk_Create g (since w) _ _ hD hG.ok (by omega) (by omega) a.nm hz1) rfl ?_
      rintro v5 w5 ⟨rfl, hD2, hM2⟩
      have hD : Dsk (since w) w5 g (actD (playD (newD most) (acts.take i)) a).1 := by rw [act0 (by omega)]; exact hD2.all (since_le w) hXs5
      have hX := hX.modS hM2 (since_le w)
      skip
      refine r_nil ?_
      refine b_n ?_
      refine b_n ?_
      refine t_n ?_
      refine r_plain ?_
      refine p1 (x_move (by conv => lhs; whnf)) ?_
      refine p1 (x_add rfl rfl (fits_i64 (by omega) (by omega))) ?_
      refine p1 (x_assign (by conv => lhs; whnf)) ?_
      refine r_nil ?_
      refine t_n (At.mk (i + 1) (by repeat (first | exact Agr.refl _ _ | exact Agr.hav _ _ _ | refine Agr.upd rfl ?_ | refine Agr.updR rfl ?_ | refine Agr.updL ?_ _ rfl | refine Agr.hav' rfl ?_)) ⟨rfl, trivial⟩ ?_)
      exact ⟨⟨hX, ⟨by omega, by rw [take_da (by omega), ha, play_snoc]; exact hD⟩⟩, by first | (dsimp only; omega) | ((show _ < _); omega)⟩
    · try simp only [decide_eq_true_eq, decide_eq_false_iff_not, Bool.not_eq_true, Bool.not_eq_false, Bool.not_eq_eq_eq_not, Bool.not_true, Bool.not_false, Int.not_lt, Int.not_le] at hc27
      refine c_seq ?_
      refine c_seq ?_
      refine r_plain ?_
      refine p1 (x_eql rfl rfl) ?_
      refine p1 (x_assign (by conv => lhs; whnf)) ?_
      refine r_nil ?_
      refine t_n ?_
      first | refine c_dec rfl (fun hc33 => ?_) (fun hc33 => ?_) | refine c_if rfl (fun hc33 => ?_) (fun hc33 => ?_)
      · try simp only [decide_eq_true_eq, decide_eq_false_iff_not, Bool.not_eq_true, Bool.not_eq_false, Bool.not_eq_eq_eq_not, Bool.not_true, Bool.not_false, Int.not_lt, Int.not_le] at hc33
        refine c_skip ?_
        refine t_n ?_
        refine c_t (congrArg Value.bool (decide_eq_true (by omega))) ?_
        refine r_plain ?_
        refine p1 (x_move (by conv => lhs; whnf)) ?_
        refine p1 (x_fieldAddr fo33_1 sz9 rfl) ?_
        refine p1 (x_load1 un9 rfl (hB7.cell (rfl))) ?_
        refine p1 (x_fieldAddr fo33_3 sz31 rfl) ?_
        refine p1 (x_load1 un31 rfl (hB7.cell (rfl))) ?_
        have hlo2 := (hlo.sl 5).keep (hPw.same B [5])
        have hXs6 := hX.size
        refine o_call Try.func19 fn19 fb19 (disk_Append g (since w) _ _ hD hG.ok (by omega) (by omega) a.nm hz1 5 B q m c2 a.data hlo2) rfl ?_
        rintro v6 w6 ⟨rfl, hD2, hM2⟩
        have hD : Dsk (since w) w6 g (actD (playD (newD most) (acts.take i)) a).1 := by rw [act1 (by omega)]; exact hD2.all (since_le w) hXs6
        have hX := hX.modS hM2 (since_le w)
        skip
        refine r_nil ?_
        refine b_n ?_
        refine b_n ?_
        refine t_n ?_
        refine r_plain ?_
        refine p1 (x_move (by conv => lhs; whnf)) ?_
        refine p1 (x_add rfl rfl (fits_i64 (by omega) (by omega))) ?_
        refine p1 (x_assign (by conv => lhs; whnf)) ?_
        refine r_nil ?_
        refine t_n (At.mk (i + 1) (by repeat (first | exact Agr.refl _ _ | exact Agr.hav _ _ _ | refine Agr.upd rfl ?_ | refine Agr.updR rfl ?_ | refine Agr.updL ?_ _ rfl | refine Agr.hav' rfl ?_)) ⟨rfl, trivial⟩ ?_)
        exact ⟨⟨hX, ⟨by omega, by rw [take_da (by omega), ha, play_snoc]; exact hD⟩⟩, by first | (dsimp only; omega) | ((show _ < _); omega)⟩
      · try simp only [decide_eq_true_eq, decide_eq_false_iff_not, Bool.not_eq_true, Bool.not_eq_false, Bool.not_eq_eq_eq_not, Bool.not_true, Bool.not_false, Int.not_lt, Int.not_le] at hc33
        refine r_plain ?_
        refine p1 (x_eql rfl rfl) ?_
        refine p1 (x_assign (by conv => lhs; whnf)) ?_
        refine r_nil ?_
        refine t_n ?_
        first | refine c_dec rfl (fun hc33 => ?_) (fun hc33 => ?_) | refine c_if rfl (fun hc33 => ?_) (fun hc33 => ?_)
        · try simp only [decide_eq_true_eq, decide_eq_false_iff_not, Bool.not_eq_true, Bool.not_eq_false, Bool.not_eq_eq_eq_not, Bool.not_true, Bool.not_false, Int.not_lt, Int.not_le] at hc33
          refine r_plain ?_
          refine p1 (x_move (by conv => lhs; whnf)) ?_
          refine p1 (x_fieldAddr fo33_1 sz9 rfl) ?_
          refine p1 (x_load1 un9 rfl (hB7.cell (rfl))) ?_
          refine p1 (x_fieldAddr fo33_3 sz31 rfl) ?_
          refine p1 (x_load1 un31 rfl (hB7.cell (rfl))) ?_
          have hlo2 := (hlo.sl 5).keep (hPw.same B [5])
          have hXs7 := hX.size
          refine o_call Try.func19 fn19 fb19 (disk_Append g (since w) _ _ hD hG.ok (by omega) (by omega) a.nm hz1 5 B q m c2 a.data hlo2) rfl ?_
          rintro v7 w7 ⟨rfl, hD2, hM2⟩
          have hD : Dsk (since w) w7 g (actD (playD (newD most) (acts.take i)) a).1 := by rw [act1 (by omega)]; exact hD2.all (since_le w) hXs7
          have hX := hX.modS hM2 (since_le w)
          skip
          refine r_nil ?_
          refine b_n ?_
          refine b_n ?_
          refine t_n ?_
          refine r_plain ?_
          refine p1 (x_move (by conv => lhs; whnf)) ?_
          refine p1 (x_add rfl rfl (fits_i64 (by omega) (by omega))) ?_
          refine p1 (x_assign (by conv => lhs; whnf)) ?_
          refine r_nil ?_
          refine t_n (At.mk (i + 1) (by repeat (first | exact Agr.refl _ _ | exact Agr.hav _ _ _ | refine Agr.upd rfl ?_ | refine Agr.updR rfl ?_ | refine Agr.updL ?_ _ rfl | refine Agr.hav' rfl ?_)) ⟨rfl, trivial⟩ ?_)
          exact ⟨⟨hX, ⟨by omega, by rw [take_da (by omega), ha, play_snoc]; exact hD⟩⟩, by first | (dsimp only; omega) | ((show _ < _); omega)⟩
        · try simp only [decide_eq_true_eq, decide_eq_false_iff_not, Bool.not_eq_true, Bool.not_eq_false, Bool.not_eq_eq_eq_not, Bool.not_true, Bool.not_false, Int.not_lt, Int.not_le] at hc33
          refine c_seq ?_
          refine r_plain ?_
          refine p1 (x_eql rfl rfl) ?_
          refine p1 (x_assign (by conv => lhs; whnf)) ?_
          refine r_nil ?_
          refine t_n ?_
          first | refine c_dec rfl (fun hc42 => ?_) (fun hc42 => ?_) | refine c_if rfl (fun hc42 => ?_) (fun hc42 => ?_)
          · try simp only [decide_eq_true_eq, decide_eq_false_iff_not, Bool.not_eq_true, Bool.not_eq_false, Bool.not_eq_eq_eq_not, Bool.not_true, Bool.not_false, Int.not_lt, Int.not_le] at hc42
            refine r_plain ?_
            refine p1 (x_move (by conv => lhs; whnf)) ?_
            refine p1 (x_fieldAddr fo33_1 sz9 rfl) ?_
            refine p1 (x_load1 un9 rfl (hB7.cell (rfl))) ?_
            have hXs8 := hX.size
            refine o_call Try.func23 fn23 fb23 (disk_Sync g (since w) _ _ hD hG.ok (by omega) (by omega) a.nm hz1) rfl ?_
            rintro v8 w8 ⟨rfl, hD2, hM2⟩
            have hD : Dsk (since w) w8 g (actD (playD (newD most) (acts.take i)) a).1 := by rw [act3 (by omega)]; exact hD2.all (since_le w) hXs8
            have hX := hX.modS hM2 (since_le w)
            skip
            refine r_nil ?_
            refine b_n ?_
            refine b_n ?_
            refine t_n ?_
            refine r_plain ?_
            refine p1 (x_move (by conv => lhs; whnf)) ?_
            refine p1 (x_add rfl rfl (fits_i64 (by omega) (by omega))) ?_
            refine p1 (x_assign (by conv => lhs; whnf)) ?_
            refine r_nil ?_
            refine t_n (At.mk (i + 1) (by repeat (first | exact Agr.refl _ _ | exact Agr.hav _ _ _ | refine Agr.upd rfl ?_ | refine Agr.updR rfl ?_ | refine Agr.updL ?_ _ rfl | refine Agr.hav' rfl ?_)) ⟨rfl, trivial⟩ ?_)
            exact ⟨⟨hX, ⟨by omega, by rw [take_da (by omega), ha, play_snoc]; exact hD⟩⟩, by first | (dsimp only; omega) | ((show _ < _); omega)⟩
          · try simp only [decide_eq_true_eq, decide_eq_false_iff_not, Bool.not_eq_true, Bool.not_eq_false, Bool.not_eq_eq_eq_not, Bool.not_true, Bool.not_false, Int.not_lt, Int.not_le] at hc42
            refine c_seq ?_
            refine r_plain ?_
            refine p1 (x_eql rfl rfl) ?_
            refine p1 (x_assign (by conv => lhs; whnf)) ?_
            refine r_nil ?_
            refine t_n ?_
            first | refine c_dec rfl (fun hc48 => ?_) (fun hc48 => ?_) | refine c_if rfl (fun hc48 => ?_) (fun hc48 => ?_)
            · try simp only [decide_eq_true_eq, decide_eq_false_iff_not, Bool.not_eq_true, Bool.not_eq_false, Bool.not_eq_eq_eq_not, Bool.not_true, Bool.not_false, Int.not_lt, Int.not_le] at hc48
              refine r_plain ?_
              refine p1 (x_move (by conv => lhs; whnf)) ?_
              refine p1 (x_fieldAddr fo33_1 sz9 rfl) ?_
              refine p1 (x_load1 un9 rfl (hB7.cell (rfl))) ?_
              refine p1 (x_fieldAddr fo33_2 sz9 rfl) ?_
              refine p1 (x_load1 un9 rfl (hB7.cell (rfl))) ?_
              have hXs9 := hX.size
              refine o_call Try.func24 fn24 fb24 (disk_Rename g (since w) _ _ hD hG.ok (by omega) (by omega) a.nm a.now hz1 hz2) rfl ?_
              rintro v9 w9 ⟨rfl, hD2, hM2⟩
              have hD : Dsk (since w) w9 g (actD (playD (newD most) (acts.take i)) a).1 := by rw [act4 (by omega)]; exact hD2.all (since_le w) hXs9
              have hX := hX.modS hM2 (since_le w)
              skip
              refine r_nil ?_
              refine b_n ?_
              refine b_n ?_
              refine t_n ?_
              refine r_plain ?_
              refine p1 (x_move (by conv => lhs; whnf)) ?_
              refine p1 (x_add rfl rfl (fits_i64 (by omega) (by omega))) ?_
              refine p1 (x_assign (by conv => lhs; whnf)) ?_
              refine r_nil ?_
              refine t_n (At.mk (i + 1) (by repeat (first | exact Agr.refl _ _ | exact Agr.hav _ _ _ | refine Agr.upd rfl ?_ | refine Agr.updR rfl ?_ | refine Agr.updL ?_ _ rfl | refine Agr.hav' rfl ?_)) ⟨rfl, trivial⟩ ?_)
              exact ⟨⟨hX, ⟨by omega, by rw [take_da (by omega), ha, play_snoc]; exact hD⟩⟩, by first | (dsimp only; omega) | ((show _ < _); omega)⟩
            · try simp only [decide_eq_true_eq, decide_eq_false_iff_not, Bool.not_eq_true, Bool.not_eq_false, Bool.not_eq_eq_eq_not, Bool.not_true, Bool.not_false, Int.not_lt, Int.not_le] at hc48
              refine c_seq ?_
              refine r_plain ?_
              refine p1 (x_eql rfl rfl) ?_
              refine p1 (x_assign (by conv => lhs; whnf)) ?_
              refine r_nil ?_
              refine t_n ?_
              first | refine c_dec rfl (fun hc56 => ?_) (fun hc56 => ?_) | refine c_if rfl (fun hc56 => ?_) (fun hc56 => ?_)
              · try simp only [decide_eq_true_eq, decide_eq_false_iff_not, Bool.not_eq_true, Bool.not_eq_false, Bool.not_eq_eq_eq_not, Bool.not_true, Bool.not_false, Int.not_lt, Int.not_le] at hc56
                refine r_plain ?_
                refine p1 (x_move (by conv => lhs; whnf)) ?_
                refine p1 (x_fieldAddr fo33_1 sz9 rfl) ?_
                refine p1 (x_load1 un9 rfl (hB7.cell (rfl))) ?_
                have hXs10 := hX.size
                refine o_call Try.func20 fn20 fb20 (disk_Remove g (since w) _ _ hD hG.ok (by omega) (by omega) a.nm hz1) rfl ?_
                rintro v10 w10 ⟨rfl, hD2, hM2⟩
                have hD : Dsk (since w) w10 g (actD (playD (newD most) (acts.take i)) a).1 := by rw [act5 (by omega)]; exact hD2.all (since_le w) hXs10
                have hX := hX.modS hM2 (since_le w)
                skip
                refine r_nil ?_
                refine b_n ?_
                refine b_n ?_
                refine t_n ?_
                refine r_plain ?_
                refine p1 (x_move (by conv => lhs; whnf)) ?_
                refine p1 (x_add rfl rfl (fits_i64 (by omega) (by omega))) ?_
                refine p1 (x_assign (by conv => lhs; whnf)) ?_
                refine r_nil ?_
                refine t_n (At.mk (i + 1) (by repeat (first | exact Agr.refl _ _ | exact Agr.hav _ _ _ | refine Agr.upd rfl ?_ | refine Agr.updR rfl ?_ | refine Agr.updL ?_ _ rfl | refine Agr.hav' rfl ?_)) ⟨rfl, trivial⟩ ?_)
                exact ⟨⟨hX, ⟨by omega, by rw [take_da (by omega), ha, play_snoc]; exact hD⟩⟩, by first | (dsimp only; omega) | ((show _ < _); omega)⟩
              · try simp only [decide_eq_true_eq, decide_eq_false_iff_not, Bool.not_eq_true, Bool.not_eq_false, Bool.not_eq_eq_eq_not, Bool.not_true, Bool.not_false, Int.not_lt, Int.not_le] at hc56
                refine c_seq ?_
                refine r_plain ?_
                refine p1 (x_eql rfl rfl) ?_
                refine p1 (x_assign (by conv => lhs; whnf)) ?_
                refine r_nil ?_
                refine t_n ?_
                first | refine c_dec rfl (fun hc62 => ?_) (fun hc62 => ?_) | refine c_if rfl (fun hc62 => ?_) (fun hc62 => ?_)
                · try simp only [decide_eq_true_eq, decide_eq_false_iff_not, Bool.not_eq_true, Bool.not_eq_false, Bool.not_eq_eq_eq_not, Bool.not_true, Bool.not_false, Int.not_lt, Int.not_le] at hc62
                  refine r_plain ?_
                  refine p1 (x_move (by conv => lhs; whnf)) ?_
                  refine p1 (x_fieldAddr fo33_4 sz3 rfl) ?_
                  refine p1 (x_load1 un3 rfl (hB7.cell (rfl))) ?_
                  refine p1 (x_fieldAddr fo33_5 sz4 rfl) ?_
                  refine p1 (x_load1 un4 rfl (hB7.cell (rfl))) ?_
                  have hXs11 := hX.size
                  refine o_call Try.func18 fn18 fb18 (disk_Fail g (since w) _ _ hD hG.ok (by omega) (by omega) a.n hz3 hz4 a.done) rfl ?_
                  rintro v11 w11 ⟨rfl, hD2, hM2⟩
                  have hD : Dsk (since w) w11 g (actD (playD (newD most) (acts.take i)) a).1 := by rw [act6 (by omega)]; exact hD2.all (since_le w) hXs11
                  have hX := hX.modS hM2 (since_le w)
                  skip
                  refine r_nil ?_
                  refine b_n ?_
                  refine b_n ?_
                  refine t_n ?_
                  refine r_plain ?_
                  refine p1 (x_move (by conv => lhs; whnf)) ?_
                  refine p1 (x_add rfl rfl (fits_i64 (by omega) (by omega))) ?_
                  refine p1 (x_assign (by conv => lhs; whnf)) ?_
                  refine r_nil ?_
                  refine t_n (At.mk (i + 1) (by repeat (first | exact Agr.refl _ _ | exact Agr.hav _ _ _ | refine Agr.upd rfl ?_ | refine Agr.updR rfl ?_ | refine Agr.updL ?_ _ rfl | refine Agr.hav' rfl ?_)) ⟨rfl, trivial⟩ ?_)
                  exact ⟨⟨hX, ⟨by omega, by rw [take_da (by omega), ha, play_snoc]; exact hD⟩⟩, by first | (dsimp only; omega) | ((show _ < _); omega)⟩
                · try simp only [decide_eq_true_eq, decide_eq_false_iff_not, Bool.not_eq_true, Bool.not_eq_false, Bool.not_eq_eq_eq_not, Bool.not_true, Bool.not_false, Int.not_lt, Int.not_le] at hc62
                  refine c_seq ?_
                  refine r_plain ?_
                  refine p1 (x_eql rfl rfl) ?_
                  refine p1 (x_assign (by conv => lhs; whnf)) ?_
                  refine r_nil ?_
                  refine t_n ?_
                  first | refine c_dec rfl (fun hc70 => ?_) (fun hc70 => ?_) | refine c_if rfl (fun hc70 => ?_) (fun hc70 => ?_)
                  · try simp only [decide_eq_true_eq, decide_eq_false_iff_not, Bool.not_eq_true, Bool.not_eq_false, Bool.not_eq_eq_eq_not, Bool.not_true, Bool.not_false, Int.not_lt, Int.not_le] at hc70
                    refine r_plain ?_
                    refine p1 (x_move (by conv => lhs; whnf)) ?_
                    refine p1 (x_fieldAddr fo33_1 sz9 rfl) ?_
                    refine p1 (x_load1 un9 rfl (hB7.cell (rfl))) ?_
                    refine p1 (x_fieldAddr fo33_4 sz3 rfl) ?_
                    refine p1 (x_load1 un3 rfl (hB7.cell (rfl))) ?_
                    have hXs12 := hX.size
                    refine o_call Try.func25 fn25 fb25 (disk_Cut g (since w) _ _ hD hG.ok (by omega) (by omega) a.nm hz1 a.n hz3 hz4) rfl ?_
                    rintro v12 w12 ⟨rfl, hD2, hM2⟩
                    have hD : Dsk (since w) w12 g (actD (playD (newD most) (acts.take i)) a).1 := by rw [act8 (by omega)]; exact hD2.all (since_le w) hXs12
                    have hX := hX.modS hM2 (since_le w)
                    skip
                    refine r_nil ?_
                    refine b_n ?_
                    refine b_n ?_
                    refine t_n ?_
                    refine r_plain ?_
                    refine p1 (x_move (by conv => lhs; whnf)) ?_
                    refine p1 (x_add rfl rfl (fits_i64 (by omega) (by omega))) ?_
                    refine p1 (x_assign (by conv => lhs; whnf)) ?_
                    refine r_nil ?_
                    refine t_n (At.mk (i + 1) (by repeat (first | exact Agr.refl _ _ | exact Agr.hav _ _ _ | refine Agr.upd rfl ?_ | refine Agr.updR rfl ?_ | refine Agr.updL ?_ _ rfl | refine Agr.hav' rfl ?_)) ⟨rfl, trivial⟩ ?_)
                    exact ⟨⟨hX, ⟨by omega, by rw [take_da (by omega), ha, play_snoc]; exact hD⟩⟩, by first | (dsimp only; omega) | ((show _ < _); omega)⟩
                  · try simp only [decide_eq_true_eq, decide_eq_false_iff_not, Bool.not_eq_true, Bool.not_eq_false, Bool.not_eq_eq_eq_not, Bool.not_true, Bool.not_false, Int.not_lt, Int.not_le] at hc70
                    refine r_plain ?_
                    refine p1 (x_move (by conv => lhs; whnf)) ?_
                    refine p1 (x_fieldAddr fo33_3 sz31 rfl) ?_
                    refine p1 (x_load1 un31 rfl (hB7.cell (rfl))) ?_
                    have hlo2 := hlo.keep (hPw.same B [])
                    have hout := hlo2.out hBB
                    have hXs13 := hX.size
                    refine o_call Try.func26 fn26 fb26 (disk_Start g (since w) _ _ hD hG.ok a.data q m c2 hout) rfl ?_
                    rintro v13 w13 ⟨hD2, hM2⟩
                    have hD : Dsk (since w) w13 g (actD (playD (newD most) (acts.take i)) a).1 := by rw [act7 (by omega)]; exact hD2.all (since_le w) hXs13
                    have hX := hX.modS hM2 (since_le w)
                    skip
                    refine r_nil ?_
                    refine b_n ?_
                    refine b_n ?_
                    refine t_n ?_
                    refine r_plain ?_
                    refine p1 (x_move (by conv => lhs; whnf)) ?_
                    refine p1 (x_add rfl rfl (fits_i64 (by omega) (by omega))) ?_
                    refine p1 (x_assign (by conv => lhs; whnf)) ?_
                    refine r_nil ?_
                    refine t_n (At.mk (i + 1) (by repeat (first | exact Agr.refl _ _ | exact Agr.hav _ _ _ | refine Agr.upd rfl ?_ | refine Agr.updR rfl ?_ | refine Agr.updL ?_ _ rfl | refine Agr.hav' rfl ?_)) ⟨rfl, trivial⟩ ?_)
                    exact ⟨⟨hX, ⟨by omega, by rw [take_da (by omega), ha, play_snoc]; exact hD⟩⟩, by first | (dsimp only; omega) | ((show _ < _); omega)⟩
  · try simp only [decide_eq_true_eq, decide_eq_false_iff_not, Bool.not_eq_true, Bool.not_eq_false, Bool.not_eq_eq_eq_not, Bool.not_true, Bool.not_false, Int.not_lt, Int.not_le] at hc13
    have hin : acts.take i = acts := List.take_of_length_le (by omega)
    rw [hin] at hD
    refine c_exit ?_
    refine t_e ?_
    refine t_e ?_
    refine b_hit ?_
    refine t_n ?_
    refine c_seq ?_
    refine r_plain ?_
    refine p1 (x_move (by conv => lhs; whnf)) ?_
    refine p1 (x_assign (by conv => lhs; whnf)) ?_
    refine r_nil ?_
    refine t_n ?_
    refine c_ret ?_
    refine end1 rfl (by conv => lhs; whnf) ?_
    exact ⟨⟨g, rfl, hD⟩, hX⟩
end Go.Proofs.Eng
end
section
set_option linter.unusedVariables false
set_option linter.unusedSimpArgs false
set_option maxRecDepth 100000
set_option maxHeartbeats 4000000
namespace Go.Proofs.Eng
open Go.RowKit
open Extern.Stop (cell)
theorem fb27 : Try.f27.body.isNone = false := by kernel_rfl
theorem fn27 : (Try.f27.name == "runtime.NumGoroutine") = false := by kernel_rfl
end Go.Proofs.Eng
end
section
set_option linter.unusedVariables false
set_option linter.unusedSimpArgs false
set_option maxRecDepth 100000
set_option maxHeartbeats 4000000
namespace Go.Proofs.Eng
open Go.RowKit
open Extern.Stop (cell)
end Go.Proofs.Eng
end
section
set_option linter.unusedVariables false
set_option linter.unusedSimpArgs false
namespace Go.Proofs.Eng
open Go.RowKit
/-! ### a disk that is up -/
structure Up (D : DS) (M i : Nat) : Prop where
  good : Good D i
  down : D.down = false
  left : D.left = -1
  most : D.most = M
theorem up_start {D : DS} {i : Nat} (h : Good D i) (st : List UInt8) : Up (startD D st) D.most (i + 1) := ⟨good_start h st, rfl, rfl, rfl⟩
theorem up_read {D : DS} {M i : Nat} (h : Up D M i) {k : ByteArray} (hn : namedD k = true) {f : Fb} (hk : ascF D.l k = some f) : readD D k = (f.1, 0) := by
  unfold readD getF
  rw [look_ok (by simp [hn]) h.down, if_neg (by simp), if_neg (by rw [hk]; simp), hk]; rfl
end Go.Proofs.Eng
end
section
set_option linter.unusedVariables false
set_option linter.unusedSimpArgs false
set_option maxRecDepth 100000
set_option maxHeartbeats 4000000
namespace Go.Proofs.Eng
open Go.RowKit
open Extern.Stop (cell)
end Go.Proofs.Eng
end
section
set_option linter.unusedVariables false
set_option linter.unusedSimpArgs false
set_option maxRecDepth 100000
set_option maxHeartbeats 4000000
namespace Go.Proofs.Eng
open Go.RowKit
open Extern.Stop (cell)
end Go.Proofs.Eng
end
section
set_option linter.unusedVariables false
set_option linter.unusedSimpArgs false
namespace Go.Proofs.Eng
open Go.RowKit
open Extern.Stop (cell)
/-! ### a disk's copy, as far as it has come -/
structure Cop (S : Nat → Prop) (w : World) (ν : ByteArray → Option Raw) (vs : List ByteArray) (l : List Fl) : Prop where
  has : ∀ k ∈ vs, ν k ≠ none
  yes : ∀ k y, ν k = some y → k ∈ vs ∧ ∃ f, ascA l k = some f ∧ y.2.2.2 = f.2 ∧ FB S w y.1 y.2.1 y.2.2.1 f.1
  ap : ∀ k k' y y', k ≠ k' → ν k = some y → ν k' = some y' → Apart y.1 y'.1
namespace Cop
variable {S : Nat → Prop} {w w' : World} {ν : ByteArray → Option Raw} {vs : List ByteArray} {l : List Fl} {t : TypeId} {r : Nat}
theorem none (S : Nat → Prop) (w : World) (l : List Fl) : Cop S w (fun _ => Option.none) [] l := ⟨fun _ h => (by cases h), fun _ _ h => (by cases h), fun _ _ _ _ _ h => (by cases h)⟩
theorem keep (h : Cop S w ν vs l) (hk : ∀ k x, ν k = some x → ∀ xs, FB S w x.1 x.2.1 x.2.2.1 xs → FB S w' x.1 x.2.1 x.2.2.1 xs) : Cop S w' ν vs l :=
  ⟨h.has, fun k x hx => by obtain ⟨h0, f, h1, h2, h3⟩ := h.yes k x hx; exact ⟨h0, f, h1, h2, hk k x hx _ h3⟩, h.ap⟩
theorem ext (h : Cop S w ν vs l) (x : Ext w w') : Cop S w' ν vs l := h.keep fun _ _ _ _ hf => hf.ext x
theorem one (h : Cop S w ν vs l) (m : One t r w w') (ht : t ≠ 5) : Cop S w' ν vs l := h.keep fun _ _ _ _ hf => hf.one m ht
theorem modT (h : Cop S w ν vs l) {B : Nat} (m : Mod B t w w') (ht : t ≠ 5) : Cop S w' ν vs l := h.keep fun _ _ _ _ hf => hf.modT m ht
theorem put (h : Cop S w ν vs l) {a : ByteArray} (ha : a ∉ vs) {x : Raw} {f : Fb} (hf : ascA l a = some f) (hs : x.2.2.2 = f.2) (hF : FB S w x.1 x.2.1 x.2.2.1 f.1) (hap : ∀ k y, ν k = some y → Apart x.1 y.1) : Cop S w (mset ν a (some x)) (vs ++ [a]) l := by
  refine ⟨fun k hk => ?_, fun k y hy => ?_, fun k k' y y' hne hy hy' => ?_⟩
  · unfold mset
    split
    · simp
    · rename_i e
      rcases List.mem_append.1 hk with hk | hk
      · exact h.has k hk
      · simp only [List.mem_singleton] at hk; exact absurd hk e
  · unfold mset at hy
    split at hy
    · rename_i e
      injection hy with hy; subst hy e
      exact ⟨by simp, f, hf, hs, hF⟩
    · obtain ⟨h0, h1⟩ := h.yes k y hy
      exact ⟨by simp [h0], h1⟩
  · unfold mset at hy hy'
    split at hy <;> split at hy'
    · rename_i e e'; exact absurd (e.trans e'.symm) hne
    · injection hy with hy; subst hy; exact hap k' y' hy'
    · injection hy' with hy'; subst hy'; exact (hap k y hy).symm
    · exact h.ap k k' y y' hne hy hy'
theorem apart (h : Cop S w ν vs l) {S2 : Nat → Prop} {w2 : World} {q : Option Addr} {n c : Nat} {xs : List UInt8} (hq : FB S2 w2 q n c xs) (hS : ∀ j, S2 j → w.heap.size ≤ j) : ∀ k y, ν k = some y → Apart q y.1 := fun k y hy => by
  obtain ⟨_, f, _, _, h3⟩ := h.yes k y hy
  rcases hq.ok with ⟨h1, _⟩ | ⟨g, cur, h1, h2, _⟩
  · exact .inl h1
  · refine .inr (.inr fun e => ?_)
    rw [h1] at e
    have := (h3.inS e.symm).2
    have := hS g h2
    omega
theorem fls (h : Cop S w ν vs l) (hall : ∀ z, z ∈ vs ↔ z ∈ l.map (·.1)) : Fls S w ν l :=
  ⟨fun k hk => Classical.byContradiction fun e => h.has k ((hall k).2 (asc_someA.1 e)) hk, fun k x hx => (h.yes k x hx).2, h.ap⟩
end Cop
end Go.Proofs.Eng
end
section
set_option linter.unusedVariables false
set_option linter.unusedSimpArgs false
set_option maxRecDepth 100000
set_option maxHeartbeats 4000000
namespace Go.Proofs.Eng
open Go.RowKit
open Extern.Stop (cell)
theorem sz66 : (Try.prog.info? 66).map (·.size) = some 7 := by kernel_rfl
theorem ua66 : (Try.prog.underlying 66).map TypeDesc.isRow = some true := by kernel_rfl
theorem zr66 : (Try.prog.info? 66).map (·.zero) = some (some (.agg #[.int .i64 0, .int .i64 0, .map none, .int .i64 0, .int .i64 0, .bool false, .bool false])) := by kernel_rfl
end Go.Proofs.Eng
end
section
set_option linter.unusedVariables false
set_option linter.unusedSimpArgs false
set_option maxRecDepth 100000
set_option maxHeartbeats 4000000
namespace Go.Proofs.Eng
open Go.RowKit
open Extern.Stop (cell)
theorem disk_Clone (g : Nat) (S : Nat → Prop) (D : DS) (w : World) (hD : Dsk S w g D) (hok : DOk D) :
    Ret Try.prog 32 [.pointer (some ⟨g, 0, none⟩)] w (fun v w' => (∃ g2, v = .pointer (some ⟨g2, 0, none⟩) ∧ Dsk (since w) w' g2 D) ∧ Ext w w') := by
  obtain ⟨r, μ, hB, hM, hSg, hSr, hF⟩ := hD.ex
  have hXs0 := Nat.le_refl w.heap.size
  have hX := Ext.refl w
  refine enter 37 _ Try.func32 rfl rfl (Nat.le_of_ble_eq_true rfl) rfl ?_
  refine c_seq ?_
  refine r_plain ?_
  refine p1 (x_assign (by conv => lhs; whnf)) ?_
  refine r_nil ?_
  refine t_n ?_
  refine c_seq ?_
  refine c_seq ?_
  refine r_plain ?_
  refine p1 (x_move (by conv => lhs; whnf)) ?_
  refine p1 ((x_eql_ptrnil u23 rfl rfl).cast (congrArg _ (decide_eq_false (by simp)))) ?_
  refine r_nil ?_
  refine t_n ?_
  refine c_f rfl ?_
  refine c_skip ?_
  refine t_n ?_
  refine c_seq ?_
  refine r_plain ?_
  refine p1 (x_move (by conv => lhs; whnf)) ?_
  refine p1 (x_nilCheck rfl) ?_
  refine p1 (x_loadB ua66 rfl hB (by exact sz66)) ?_
  have hgl := hB.lt
  have hrl := hM.lt
  have hXs := hX.size
  refine o_alloc zr66 ?_
  intro w1 g3 hN3
  have hE1 := hN3.ext
  have hX := hX.ext hE1
  have hB := hB.ext hE1
  have hM := hM.ext hE1
  have hF := hF.ext hE1
  have hB3 := hN3.blk
  have hg3 := hN3.g_eq
  have hnn : ∀ j, j < w1.heap.size → True := fun _ _ => trivial
  refine o_storeAll rfl (by conv => lhs; whnf) (by simp [Value.oneCell']) (by exact sz66) hB3 (by rfl) ?_
  intro w2 hP2
  have hX := hX.put hP2 (by rw [hN3.g_eq]; exact hXs)
  have hB := hP2.keep hB (by omega)
  have hM := hM.mod (hP2.mod 0 (Nat.zero_le _)) (Nat.zero_le _) (by decide)
  have hF := hF.one hP2.one (by decide)
  have hB3 := hP2.blk
  refine r_nil ?_
  refine t_n ?_
  refine c_seq ?_
  have hfew := hok.few
  refine r_plain ?_
  refine p1 (x_move (by conv => lhs; whnf)) ?_
  refine p1 (x_nilCheck rfl) ?_
  refine p1 (x_fieldAddr fo66_2 sz64 rfl) ?_
  refine p1 (x_load1 un64 rfl (hB.cell (rfl))) ?_
  refine p1 (x_len_mapF u64 hM hF hok.rise rfl) ?_
  have hXs := hX.size
  refine o_makeMap (κ := ByteArray) (ν := Raw) u64 rfl ?_
  intro w3 g16 hE3 hK16
  have hX := hX.ext hE3
  have hB := hB.ext hE3
  have hM := hM.ext hE3
  have hF := hF.ext hE3
  have hB3 := hB3.ext hE3
  have hM2 := hK16 kkStr vFile 0 w.heap.size (hXs)
  refine p1 (x_fieldAddr fo66_2 sz64 rfl) ?_
  skip
  refine o_store1 rfl (by conv => lhs; whnf) rfl rfl sz64 hB3 (by simp) ?_
  intro w4 hP4
  have hX := hX.put hP4 (by rw [hg3]; exact hXs0)
  have hB := hP4.keep hB (by omega)
  have hM := hM.mod (hP4.mod 0 (Nat.zero_le _)) (Nat.zero_le _) (by decide)
  have hF := hF.one hP4.one (by decide)
  have hB3 := hP4.blk
  simp only [List.setIfInBounds_toArray, List.set_cons_zero, List.set_cons_succ] at hB3
  have hM2 := hM2.mod (hP4.mod 0 (Nat.zero_le _)) (Nat.zero_le _) (by decide)
  refine r_nil ?_
  refine t_n ?_
  refine c_seq ?_
  refine c_seq ?_
  refine r_plain ?_
  refine p1 (x_move (by conv => lhs; whnf)) ?_
  refine p1 (x_nilCheck rfl) ?_
  refine p1 (x_fieldAddr fo66_2 sz64 rfl) ?_
  refine p1 (x_load1 un64 rfl (hB.cell (rfl))) ?_
  have hM2p := hM2
  have hXs := hX.size
  refine o_range u64 rfl hM ?_
  intro w5 it22 hE5 hit22 hK22
  have hX := hX.ext hE5
  have hB := hB.ext hE5
  have hM := hM.ext hE5
  have hF := hF.ext hE5
  have hB3 := hB3.ext hE5
  have hM2 := hM2.ext hE5
  have hR := hK22 w.heap.size (hXs)
  have hgi : g16 < it22 := by rw [hit22]; exact hM2p.lt
  refine r_nil ?_
  refine t_n ?_
  refine c_block ?_
  have hks : ∀ vs : List ByteArray, vs.Nodup → (∀ z ∈ vs, μ z ≠ none) → vs.length ≤ D.l.length := fun vs h1 h2 => by have := nodup_leN h1 (ks := D.l.map (·.1)) (fun z hz => asc_someA.1 (fun e => h2 z hz ((hF.iff z).2 e))); rwa [List.length_map] at this
  have hroom := hok.room
  have hmost := hok.most
  refine c_loop (ι := List ByteArray × (ByteArray → Option Raw)) [4, 5, 23, 24, 25, 26, 27, 28, 29, 30, 31, 32, 33, 34, 35, 36] (fun (vs, ν) => []) (fun (vs, ν) w' => Ext w w' ∧ (Rg kkStr vFile 0 w.heap.size w' r it22 μ vs ∧ Mp kkStr vFile 0 w.heap.size w' g16 ν ∧ Cop (since w) w' ν vs D.l ∧ Fls S w' μ D.l ∧ Blk w' g #[.int .i64 (D.most : Int), .int .i64 ((usedL D.l : Nat) : Int), .map (some r), .int .i64 (D.steps : Int), .int .i64 D.left, .bool D.done, .bool D.down] tDisk ∧ Blk w' g3 #[.int .i64 (D.most : Int), .int .i64 ((usedL D.l : Nat) : Int), .map (some g16), .int .i64 (D.steps : Int), .int .i64 D.left, .bool D.done, .bool D.down] tDisk)) (fun (vs, ν) => D.l.length - vs.length) (([], fun _ => none)) trivial ⟨hX, ⟨hR, hM2, Cop.none _ _ _, hF, hB, hB3⟩⟩ ?_
  rintro ⟨vs, ν⟩ GL0 w6 ⟨hE6, hR, hM2, hC, hF, hB, hB3⟩
  have hX := hE6
  have hvl := hks vs hR.nd hR.sub
  refine c_seq ?_
  refine r_plain ?_
  refine o_next rfl hR (Nat.zero_le _) (by decide) (fun hdone23 => ?_) (fun w7 a23 b23 v23 hna23 hmu23 hR hM7 => ?_)
  · skip
    refine p1 (x_extract rfl rfl) ?_
    refine r_nil ?_
    refine t_n ?_
    refine c_seq ?_
    refine c_f rfl ?_
    have hall : ∀ z, z ∈ vs ↔ z ∈ D.l.map (·.1) := fun z => ⟨fun hz => asc_someA.1 fun e => hR.sub z hz ((hF.iff z).2 e), fun hz => hdone23 z fun e => asc_someA.2 hz ((hF.iff z).1 e)⟩
    refine c_exit ?_
    refine t_e ?_
    refine t_e ?_
    refine b_hit ?_
    refine t_n ?_
    refine c_seq ?_
    refine r_plain ?_
    refine p1 (x_assign (by conv => lhs; whnf)) ?_
    refine r_nil ?_
    refine t_n ?_
    refine c_ret ?_
    refine end1 rfl (by conv => lhs; whnf) ?_
    exact ⟨⟨g3, rfl, ⟨g16, ν, hB3, hM2.lower (Nat.zero_le _), by show w.heap.size ≤ g3; omega, hM2.low, hC.fls hall⟩⟩, hX⟩
  · skip
    have hX := hX.mod hM7 (Nat.le_refl _)
    have hM2 := hM2.mod hM7 (Nat.zero_le _) (by decide)
    have hC := hC.modT hM7 (by decide)
    have hF := hF.modT hM7 (by decide)
    have hB := hB.mod hM7 (by decide)
    have hB3 := hB3.mod hM7 (by decide)
    have hvl2 := hks _ hR.nd hR.sub
    simp only [List.length_append, List.length_cons, List.length_nil] at hvl2
    refine p1 (x_extract rfl rfl) ?_
    refine r_nil ?_
    refine t_n ?_
    refine c_seq ?_
    refine c_t rfl ?_
    refine c_skip ?_
    refine t_n ?_
    refine c_block ?_
    refine c_seq ?_
    refine r_plain ?_
    obtain ⟨⟨p0, n0, c0, s0⟩, v25, hb25, hv25, hen25⟩ := hR.entry
    have hv25 : v25 = rawV (p0, n0, c0, s0) := hv25
    subst hv25
    obtain ⟨f, hf1, hf2, hF0⟩ := hF.yes _ _ hb25
    simp only at hf2 hF0
    have hgl2 := getF_le hok a23
    have hgf : getF D a23 = f := by unfold getF ascF; rw [hf1]; rfl
    rw [hgf] at hgl2
    have hgl2 := hgl2.1
    have hlen0 := hF0.len
    refine p1 ((hen25 rfl).cast (rfl : _ = Value.tuple #[.string a23, .agg #[.slice p0 n0 c0, .int .i64 (s0 : Int)]])) ?_
    refine p1 (x_extract rfl rfl) ?_
    refine p1 (x_extract rfl rfl) ?_
    have hXs7 := hX.size
    refine o_alloc zr76 ?_
    intro w8 g5 hN5
    have hE8 := hN5.ext
    have hX := hX.ext hE8
    have hM2 := hM2.ext hE8
    have hC := hC.ext hE8
    have hF := hF.ext hE8
    have hB := hB.ext hE8
    have hB3 := hB3.ext hE8
    have hR := hR.ext hE8
    have hB5 := hN5.blk
    refine p1 (x_assign (by conv => lhs; whnf)) ?_
    refine o_storeAll rfl (by conv => lhs; whnf) (by simp [Value.oneCell']) (by exact sz76) hB5 (by rfl) ?_
    intro w9 hP9
    have hX := hX.put hP9 (by rw [hN5.g_eq]; exact hXs7)
    have hM2 := hM2.mod (hP9.mod 0 (Nat.zero_le _)) (Nat.zero_le _) (by decide)
    have hC := hC.one hP9.one (by decide)
    have hF := hF.one hP9.one (by decide)
    have hB := hB.one hP9.one (by decide)
    have hB3 := hB3.one hP9.one (by decide)
    have hR := hR.mod (hP9.mod 0 (Nat.zero_le _)) (Nat.zero_le _) (by decide)
    have hB5 := hP9.blk
    refine r_nil ?_
    refine t_n ?_
    refine r_held (fun w1 w2 => Mod w.heap.size tMap w1 w2) mixed ?_
    intro w10 hE10
    have hX := hX.ext hE10
    have hM2 := hM2.ext hE10
    have hC := hC.ext hE10
    have hF := hF.ext hE10
    have hB := hB.ext hE10
    have hB3 := hB3.ext hE10
    have hR := hR.ext hE10
    have hB5 := hB5.ext hE10
    have hSr8 : (fun w1 w2 => Mod w.heap.size tMap w1 w2) w10 w10 := Mod.refl _ _ _
    refine h_take 0 rfl (by kernel_rfl) (by kernel_rfl) (by kernel_rfl) hSr8 (fun wS hSS => by ( exact (x_fieldAddr fo66_2 sz64 rfl))) ?_
    refine h_take 1 rfl (by kernel_rfl) (by kernel_rfl) (by kernel_rfl) hSr8 (fun wS hSS => by (have hB3 := hB3.mod hSS (by decide); have hB5 := hB5.mod hSS (by decide); exact (x_load1 un64 rfl (hB3.cell (rfl))))) ?_
    refine h_take 2 rfl (by kernel_rfl) (by kernel_rfl) (by kernel_rfl) hSr8 (fun wS hSS => by ( exact (x_move (by conv => lhs; whnf)))) ?_
    refine h_take 3 rfl (by kernel_rfl) (by kernel_rfl) (by kernel_rfl) hSr8 (fun wS hSS => by ( exact (x_fieldAddr fo76_0 sz31 rfl))) ?_
    refine h_take 4 rfl (by kernel_rfl) (by kernel_rfl) (by kernel_rfl) hSr8 (fun wS hSS => by (have hB3 := hB3.mod hSS (by decide); have hB5 := hB5.mod hSS (by decide); exact (x_load1 un31 rfl (hB5.cell (rfl))))) ?_
    refine h_take 6 rfl (by kernel_rfl) (by kernel_rfl) (by kernel_rfl) hSr8 (fun wS hSS => by ( exact (x_fieldAddr fo76_1 sz3 rfl))) ?_
    refine h_take 7 rfl (by kernel_rfl) (by kernel_rfl) (by kernel_rfl) hSr8 (fun wS hSS => by (have hB3 := hB3.mod hSS (by decide); have hB5 := hB5.mod hSS (by decide); exact (x_load1 un3 rfl (hB5.cell (rfl))))) ?_
    refine h_one 5 _ rfl (by kernel_rfl) (hop_of_list (fun Q5 hQ5 => ?_))
    have hF1 := (hF.yes _ _ hb25)
    obtain ⟨f2, hf3, _, hF1⟩ := hF1
    rw [hf1] at hf3
    injection hf3 with hf3
    subst hf3
    simp only at hF1
    have hXs8 := hX.size
    have hCp := hC
    refine o_call Try.func43 fn43 fb43 (slices_Clone_byte _ _ _ _ _ _ _ hF1.sl (by omega)) rfl ?_
    rintro v11 w11 ⟨⟨q33, c33, rfl, hO⟩, hE11⟩
    have hX := hX.ext hE11
    have hM2 := hM2.ext hE11
    have hC := hC.ext hE11
    have hF := hF.ext hE11
    have hB := hB.ext hE11
    have hB3 := hB3.ext hE11
    have hR := hR.ext hE11
    have hB5 := hB5.ext hE11
    have hSr8 := hSr8.ext hE11
    have hap := hCp.apart (FB.ofOwn (S := fun j => _ ≤ j) hO (fun _ _ h => h)) (fun _ h => h)
    have hK := FB.ofOwn (S := since w) hO (fun _ _ h => Nat.le_trans hXs8 h)
    refine hop_end hQ5 ⟨hSr8, ?_⟩
    refine h_take 8 rfl (by kernel_rfl) (by kernel_rfl) (by kernel_rfl) hSr8 (fun wS hSS => by ( exact (x_build2 pl76 (by conv => lhs; whnf) (by conv => lhs; whnf) rfl rfl))) ?_
    refine h_one 9 _ rfl (by kernel_rfl) (hop_of_list (fun Q9 hQ9 => ?_))
    have hMt12 := hM2.tyOf
    refine o_update1 (a := a23) (b := (q33, n0, c33, s0)) u64 (keyOk_str u9) rfl rfl rfl hM2 rfl (Nat.zero_le _) (by decide) ?_
    intro w12 hM2 hMm12 hne12
    have hO12 := One.ofMod hMm12 hMt12 hne12
    have hX := hX.mod hMm12 (Nat.le_refl _)
    have hSr8 := hSr8.trans hMm12
    have hB := hB.one hO12 (by decide)
    have hB3 := hB3.one hO12 (by decide)
    have hF := hF.one hO12 (by decide)
    have hlow := hM2.low
    have hR := hR.keep (fun hl => hO12.old r hl (by omega)) (fun hl => hO12.old it22 hl (by omega)) (fun k hk ho => ho.elim (fun h => by omega) fun ⟨u, hu, _⟩ => by simp [vFile] at hu)
    have hC := (hC.one hO12 (by decide)).put (x := (q33, n0, c33, s0)) hna23 hf1 hf2 (hK.one hO12 (by decide)) hap
    skip
    refine hop_end hQ9 ⟨hSr8, ?_⟩
    refine h_done (by kernel_rfl) ?_
    refine b_n ?_
    refine t_n (At.mk ((vs ++ [a23], mset ν a23 (some (q33, n0, c33, s0)))) (by repeat (first | exact Agr.refl _ _ | exact Agr.hav _ _ _ | refine Agr.upd rfl ?_ | refine Agr.updR rfl ?_ | refine Agr.updL ?_ _ rfl | refine Agr.hav' rfl ?_)) trivial ?_)
    exact ⟨⟨hX, ⟨hR, hM2, hC, hF, hB, hB3⟩⟩, by show D.l.length - (vs ++ [a23]).length < D.l.length - vs.length; simp only [List.length_append, List.length_cons, List.length_nil]; omega⟩
end Go.Proofs.Eng
end
section
set_option linter.unusedVariables false
set_option linter.unusedSimpArgs false
namespace Go.Proofs.Eng
open Go.RowKit
/-! ### where all pieces stay -/
theorem wake_full {f : Fb} (hf : f.2 ≤ f.1.length) {m : Nat} (hm : f.1.length - f.2 ≤ m) : (wakeF f (List.replicate m 255)).1.length = f.1.length ∧ ∃ m', (wakeR f (List.replicate m 255)).2.2 = List.replicate m' 255 ∧ m ≤ m' + (f.1.length - f.2) := by
  have h := pieces_ind (b := f.1) (fun a n kept st => n = a ∧ f.2 ≤ a ∧ ∃ m', st = List.replicate m' 255 ∧ m ≤ m' + (a - f.2)) (fun a n kept st hlt hk hq => by
    obtain ⟨h1, h2, m', rfl, h3⟩ := hq
    obtain ⟨e1, e2⟩ := pieceE_gt hlt
    cases m' with
    | zero => omega
    | succ m' =>
      have hT : pieceT f.1 a (List.replicate (m' + 1) 255) = pieceE f.1 a - a := by rw [List.replicate_succ]; show (if (255 : UInt8) = 255 then pieceE f.1 a - a else (255 : UInt8).toNat % (pieceE f.1 a - a + 1)) = _; exact if_pos rfl
      rw [hT]
      refine ⟨by rw [if_pos (by omega)]; omega, by omega, m', rfl, by omega⟩) (f.1.length + 1) f.2 f.2 (f.1.take f.2) (List.replicate m 255) (by omega) (by simp; omega) hf ⟨rfl, Nat.le_refl _, m, rfl, by omega⟩
  obtain ⟨⟨h1, h2, m', h3, h4⟩, h5⟩ := h
  have hl := wakeF_len hf (List.replicate m 255)
  exact ⟨hl.1.trans h1, m', h3, h4⟩
theorem used_full : ∀ {l : List Fl} (hs : ∀ x ∈ l, x.2.2 ≤ x.2.1.length) {m : Nat} (hm : usedL l ≤ m), usedL (wakeL l (List.replicate m 255)).1 = usedL l
  | [], _, _, _ => rfl
  | x :: l, hs, m, hm => by
    rw [usedL_cons] at hm ⊢
    have hx := hs x (by simp)
    obtain ⟨h1, m', h2, h3⟩ := wake_full hx (m := m) (by omega)
    show usedL ((x.1, wakeF x.2 _) :: (wakeL l (wakeR x.2 _).2.2).1) = _
    rw [usedL_cons, h2, used_full (fun y hy => hs y (by simp [hy])) (by omega)]
    show (wakeF x.2 _).1.length + _ = _
    rw [h1]
theorem usedL_step {l : List Fl} {k : Nat} (hk : k < l.length) : usedL (l.take (k + 1)) = usedL (l.take k) + (l.getD k default).2.1.length := by
  rw [List.take_add_one, List.getElem?_eq_getElem hk, usedL_append, List.getD_eq_getElem?_getD, List.getElem?_eq_getElem hk]
  simp [usedL]
theorem all_255 {zs : List UInt8} {n : Nat} (hl : zs.length = n) (h : ∀ j, j < n → zs.getD j 0 = 255) : zs = List.replicate n 255 := by
  apply List.ext_getElem (by simp [hl])
  intro i h1 h2
  have := h i (by omega)
  rw [List.getD_eq_getElem?_getD, List.getElem?_eq_getElem h1, Option.getD_some] at this
  rw [this, List.getElem_replicate]
theorem set_255 {zs : List UInt8} {k : Nat} (hk : k < zs.length) (h : ∀ j, j < k → zs.getD j 0 = 255) : ∀ j, j < k + 1 → (zs.set k 255).getD j 0 = 255 := fun j hj => by
  rw [List.getD_eq_getElem?_getD, List.getElem?_set]
  by_cases e : k = j
  · subst e; rw [if_pos rfl, if_pos hk]; rfl
  · rw [if_neg e, ← List.getD_eq_getElem?_getD]; exact h j (by omega)
end Go.Proofs.Eng
end
section
set_option linter.unusedVariables false
set_option linter.unusedSimpArgs false
namespace Go.Proofs.Eng
open Go.RowKit
open Extern.Stop (cell)
theorem Dsk.narrow {S : Nat → Prop} {w : World} {g : Nat} {D : DS} (h : Dsk S w g D) {B : Nat} (hB : w.heap.size ≤ B) : Dsk (fun j => S j ∧ j < B) w g D := h.mono fun k hk hs => ⟨hs, by omega⟩
theorem Out.move {S S' : Nat → Prop} {w : World} {p : Option Addr} {n c : Nat} {xs : List UInt8} (h : Out S w p n c xs) (ho : xs ≠ [] → ¬ S' (ab p)) : Out S' w p n c xs := ⟨h.len, h.cap, h.fit, h.row, ho⟩
end Go.Proofs.Eng
end
section
set_option linter.unusedVariables false
set_option linter.unusedSimpArgs false
set_option maxRecDepth 100000
set_option maxHeartbeats 4000000
namespace Go.Proofs.Eng
open Go.RowKit
open Extern.Stop (cell)
theorem law_DiskWhole (acts : List DAct) (e B : Nat) (p : Option Addr) (n c : Nat) (w : World) (hA : Sl kDA e B w p n c acts) (hBB : B ≤ w.heap.size) (hs : n ≤ 4611686018427387000) :
    Ret Try.prog 9 [.slice p n c] w (fun v w' => v = .bool true ∧ Ext w w') := by
  have hX := Ext.refl w
  refine enter 99 _ Try.func9 rfl rfl (Nat.le_of_ble_eq_true rfl) rfl ?_
  refine c_seq ?_
  refine r_plain ?_
  refine p1 (x_assign (by conv => lhs; whnf)) ?_
  refine r_nil ?_
  refine t_n ?_
  refine c_seq ?_
  refine r_plain ?_
  refine p1 (x_move (by conv => lhs; whnf)) ?_
  have hXs1 := hX.size
  refine o_call Try.func27 fn27 fb27 (disk_played 2000 acts _ _ _ _ _ _ (hA.ext hX) (Nat.le_trans hBB hXs1) hs) rfl ?_
  rintro v1 w1 ⟨⟨g, rfl, hD0⟩, hE1⟩
  have hX := hX.ext hE1
  have hD : Dsk (since w) w1 g (playD (newD 2000) acts) := hD0.mono (fun k _ h => Nat.le_trans hXs1 h)
  have hG := good_play (most := 2000) acts _ 0 (good_new 2000) (fun a ha => da_bound hA a ha)
  rw [Nat.zero_add, hA.len] at hG
  have hmo := play_most acts (newD 2000)
  obtain ⟨D, hDe⟩ : ∃ D, D = playD (newD 2000) acts := ⟨_, rfl⟩
  rw [← hDe] at hD hG hmo
  skip
  refine p1 (x_assign (by conv => lhs; whnf)) ?_
  refine r_nil ?_
  refine t_n ?_
  refine c_seq ?_
  have hroom := hG.ok.room
  have hmost := hG.ok.most
  refine r_plain ?_
  refine p1 (x_move (by conv => lhs; whnf)) ?_
  refine o_call Try.func29 fn29 fb29 (disk_Used g (since w) D _ hD) rfl ?_
  rintro v2 w2 ⟨rfl, hE2⟩
  have hX := hX.ext hE2
  have hD := hD.ext hE2
  refine p1 ((x_add rfl rfl (fits_i64 (by omega) (by omega))).cast (congrArg (Value.int .i64) (by omega : _ = ((usedL D.l + 1 : Nat) : Int)))) ?_
  have hXs19 := hX.size
  obtain ⟨B0, hB0⟩ : ∃ B, B = w2.heap.size := ⟨_, rfl⟩
  have hDp := hD.narrow (B := B0) (by rw [hB0]; exact Nat.le_refl _)
  refine o_make u31 inf5 rfl rfl (by omega) (by omega) (by omega) (by omega) ?_
  intro w3 g19 hN19
  have hE3 := hN19.ext
  have hX := hX.ext hE3
  have hD := hD.ext hE3
  have hO : Own kByte 5 0 B0 w3 (some ⟨g19, 0, none⟩) (usedL D.l + 1) (usedL D.l + 1) (List.replicate (usedL D.l + 1) 0) := own_make (0 : UInt8) (usedL D.l + 1) (by decide) hN19 (by rw [hB0]; exact Nat.le_refl _) (by omega)
  have hMS : Mod B0 5 _ w3 := Mod.ofExt hE3
  refine p1 (x_assign (by conv => lhs; whnf)) ?_
  refine r_nil ?_
  refine t_n ?_
  refine c_seq ?_
  refine c_seq ?_
  refine r_plain ?_
  refine p1 (x_assign (by conv => lhs; whnf)) ?_
  refine r_nil ?_
  refine t_n ?_
  refine c_block ?_
  refine c_loop (ι := Nat × List UInt8) [5, 20, 21, 22, 23, 24, 25, 26, 27, 28] (fun (i, zs) => [(5, .int .i64 (i : Int))]) (fun (i, zs) w' => Ext w w' ∧ (Own kByte 5 0 B0 w' (some ⟨g19, 0, none⟩) (usedL D.l + 1) (usedL D.l + 1) zs ∧ Mod B0 5 w2 w' ∧ i ≤ usedL D.l + 1 ∧ ∀ j, j < i → zs.getD j 0 = 255)) (fun (i, zs) => (usedL D.l + 1) - i) ((0, List.replicate (usedL D.l + 1) 0)) ⟨rfl, trivial⟩ ⟨hX, ⟨hO, hMS, Nat.zero_le _, fun j hj => by omega⟩⟩ ?_
  rintro ⟨i, zs⟩ GL0 w4 ⟨hE4, hO, hMS, hi, hz⟩
  have hX := hE4
  have hzl := hO.len
  refine c_seq ?_
  refine c_seq ?_
  refine r_plain ?_
  refine p1 (x_move (by conv => lhs; whnf)) ?_
  refine p1 (x_move (by conv => lhs; whnf)) ?_
  refine p1 (x_len_slice u31 rfl) ?_
  refine p1 (x_lss rfl rfl) ?_
  refine r_nil ?_
  refine t_n ?_
  first | refine c_dec rfl (fun hc23 => ?_) (fun hc23 => ?_) | refine c_if rfl (fun hc23 => ?_) (fun hc23 => ?_)
  · try simp only [decide_eq_true_eq, decide_eq_false_iff_not, Bool.not_eq_true, Bool.not_eq_false, Bool.not_eq_eq_eq_not, Bool.not_true, Bool.not_false, Int.not_lt, Int.not_le] at hc23
    refine c_skip ?_
    refine t_n ?_
    refine c_seq ?_
    refine c_block ?_
    refine r_plain ?_
    refine p1 (x_move (by conv => lhs; whnf)) ?_
    refine p1 (x_move (by conv => lhs; whnf)) ?_
    refine p1 (x_ixs0 u31 sz5 rfl rfl (hO.sl.adr kByte_pos (by omega)) (by omega)) ?_
    refine o_storeSl1 (d := kByte) (i := i) (255) rfl (by conv => lhs; whnf) rfl rfl hO (by omega) (by rfl) sz5 (Nat.zero_le _) (by decide) ?_
    intro w5 hO hM5
    have hX := hX.mod hM5 ((by rw [hB0]; exact hXs19))
    have hMS := hMS.trans hM5
    refine r_nil ?_
    refine b_n ?_
    refine t_n ?_
    refine r_plain ?_
    refine p1 (x_move (by conv => lhs; whnf)) ?_
    refine p1 (x_add rfl rfl (fits_i64 (by omega) (by omega))) ?_
    refine p1 (x_assign (by conv => lhs; whnf)) ?_
    refine r_nil ?_
    refine t_n (At.mk ((i + 1, zs.set i 255)) (by repeat (first | exact Agr.refl _ _ | exact Agr.hav _ _ _ | refine Agr.upd rfl ?_ | refine Agr.updR rfl ?_ | refine Agr.updL ?_ _ rfl | refine Agr.hav' rfl ?_)) ⟨rfl, trivial⟩ ?_)
    exact ⟨⟨hX, ⟨hO, hMS, by omega, set_255 (by omega) hz⟩⟩, by first | (dsimp only; omega) | ((show _ < _); omega)⟩
  · try simp only [decide_eq_true_eq, decide_eq_false_iff_not, Bool.not_eq_true, Bool.not_eq_false, Bool.not_eq_eq_eq_not, Bool.not_true, Bool.not_false, Int.not_lt, Int.not_le] at hc23
    have hzz := all_255 hzl (fun j hj => hz j (by omega))
    rw [hzz] at hO
    have hD := hDp.modB hMS (by rw [hB0]; exact Nat.le_refl _)
    have hOs := hO.sl
    refine c_exit ?_
    refine t_e ?_
    refine t_e ?_
    refine b_hit ?_
    refine t_n ?_
    refine c_seq ?_
    refine r_plain ?_
    have hD := hD
    refine p1 (x_move (by conv => lhs; whnf)) ?_
    have hXs6 := hX.size
    have hBs := hMS.size
    refine o_call Try.func32 fn32 fb32 (disk_Clone g (fun j => since w j ∧ j < B0) D _ hD hG.ok) rfl ?_
    rintro v6 w6 ⟨⟨g2, rfl, hC⟩, hE6⟩
    have hC := hC.narrow (Nat.le_refl _)
    have hOlt := hOs.pureRow.row.lt (by simp)
    obtain ⟨B1, hB1⟩ : ∃ B, B = w4.heap.size := ⟨_, rfl⟩
    obtain ⟨B2, hB2⟩ : ∃ B, B = w6.heap.size := ⟨_, rfl⟩
    have hBB1 : B0 ≤ B1 := by rw [hB1, hB0]; exact hBs
    have hwB1 : w.heap.size ≤ B1 := by rw [hB1]; exact hXs6
    have hOut : Out (fun j => since w j ∧ j < B0) w6 (some ⟨g19, 0, none⟩) (usedL D.l + 1) (usedL D.l + 1) (List.replicate (usedL D.l + 1) 255) := Out.ofSl (hOs.ext hE6) (fun _ h => by have h1 := h.2; obtain ⟨gq, _, _, eq1, hlo1, _⟩ := hO.block (by omega); injection eq1 with eq1; injection eq1 with eq1; subst eq1; have h1 : g19 < B0 := h1; omega)
    have hC : Dsk (fun j => B1 ≤ j ∧ j < B2) w6 g2 D := hC.mono (fun j hj h => ⟨by rw [hB1]; exact h.1, by rw [hB2]; exact hj⟩)
    have hD := hD.ext hE6
    have hX := hX.ext hE6
    have hOlt : ab (some ⟨g19, 0, none⟩ : Option Addr) < B1 := by rw [hB1]; exact hOlt
    skip
    refine p1 (x_assign (by conv => lhs; whnf)) ?_
    refine r_nil ?_
    refine t_n ?_
    refine c_seq ?_
    refine r_plain ?_
    refine p1 (x_move (by conv => lhs; whnf)) ?_
    refine p1 (x_move (by conv => lhs; whnf)) ?_
    have hXs7 := hX.size
    refine o_call Try.func26 fn26 fb26 (disk_Start g (fun j => since w j ∧ j < B0) D _ hD hG.ok (List.replicate (usedL D.l + 1) 255) _ _ _ hOut) rfl ?_
    rintro v7 w7 ⟨hD, hM2⟩
    have hC := hC.modS hM2 (fun j h1 h2 => by have := h1.1; have := h2.2; omega)
    have hX := hX.modS hM2 (fun j h => h.1)
    have hOut := hOut.modS hM2
    obtain ⟨B3, hB3⟩ : ∃ B, B = w6.heap.size := ⟨_, rfl⟩
    have hB23 : B2 = B3 := by rw [hB2, hB3]
    have hOut2 : Out (fun j => B1 ≤ j ∧ j < B2) w7 (some ⟨g19, 0, none⟩) (usedL D.l + 1) (usedL D.l + 1) (List.replicate (usedL D.l + 1) 255) := hOut.move (fun _ h => by have := h.1; omega)
    have hD : Dsk (fun j => (since w j ∧ j < B0) ∨ B2 ≤ j) w7 g (startD D (List.replicate (usedL D.l + 1) 255)) := hD.mono (fun j hj h => h.imp id fun h => by rw [hB2]; exact h.1)
    skip
    refine r_nil ?_
    refine t_n ?_
    refine c_seq ?_
    refine r_plain ?_
    refine p1 (x_move (by conv => lhs; whnf)) ?_
    refine p1 (x_move (by conv => lhs; whnf)) ?_
    have hXs8 := hX.size
    refine o_call Try.func26 fn26 fb26 (disk_Start g2 (fun j => B1 ≤ j ∧ j < B2) D _ hC hG.ok (List.replicate (usedL D.l + 1) 255) _ _ _ hOut2) rfl ?_
    rintro v8 w8 ⟨hC, hM2⟩
    have hD := hD.modS hM2 (fun j h1 h2 => by have a1 := h2.1; have a2 := h2.2; rcases h1 with h1 | h1; (· have := h1.2; omega); omega)
    have hX := hX.modS hM2 (fun j h => Nat.le_trans hwB1 h.1)
    have hU1 := up_start hG (List.replicate (usedL D.l + 1) 255)
    have hok1 := hU1.good.ok
    have huf := used_full hG.ok.safe (m := usedL D.l + 1) (Nat.le_succ _)
    have hul : usedL (startD D (List.replicate (usedL D.l + 1) 255)).l = usedL D.l := huf
    have hroom1 := hok1.room
    skip
    refine r_nil ?_
    refine t_n ?_
    refine c_seq ?_
    refine r_plain ?_
    refine p1 (x_assign (by conv => lhs; whnf)) ?_
    refine r_nil ?_
    refine t_n ?_
    refine c_seq ?_
    refine r_plain ?_
    refine p1 (x_move (by conv => lhs; whnf)) ?_
    refine o_call Try.func28 fn28 fb28 (disk_List g _ (startD D (List.replicate (usedL D.l + 1) 255)) _ hD hok1) rfl ?_
    rintro v9 w9 ⟨⟨qn, cn, rfl, hN⟩, hE9⟩
    have hX := hX.ext hE9
    have hD := hD.ext hE9
    have hC := hC.ext hE9
    have hN := hN.sl
    refine p1 (x_assign (by conv => lhs; whnf)) ?_
    refine r_nil ?_
    refine t_n ?_
    refine c_seq ?_
    refine c_seq ?_
    refine r_plain ?_
    refine p1 (x_assign (by conv => lhs; whnf)) ?_
    refine r_nil ?_
    refine t_n ?_
    refine c_block ?_
    have hWL2 := Ext.refl w9
    have hfew1 := hok1.few
    refine c_loop (ι := Nat) [2, 7, 9, 10, 11, 12, 13, 39, 40, 41, 42, 43, 44, 45, 46, 47, 48, 49, 50, 51, 52, 53, 54, 55, 56, 57, 58, 59, 60, 61, 62, 63, 64, 65, 66, 67, 68, 69, 70, 71, 72, 73, 74, 75, 76, 77, 78, 79] (fun i => [(7, .int .i64 ((usedL ((startD D (List.replicate (usedL D.l + 1) 255)).l.take i) : Nat) : Int)), (9, .int .i64 (i : Int))]) (fun i w' => Ext w9 w' ∧ (i ≤ (startD D (List.replicate (usedL D.l + 1) 255)).l.length)) (fun i => (startD D (List.replicate (usedL D.l + 1) 255)).l.length - i) (0) ⟨rfl, rfl, trivial⟩ ⟨Ext.refl _, Nat.zero_le _⟩ ?_
    rintro i GL2 w10 ⟨hE10, hi⟩
    have hX := hX.ext hE10
    have hD := hD.ext hE10
    have hC := hC.ext hE10
    have hN := hN.ext hE10
    have hWL2 := hE10
    refine c_seq ?_
    refine c_seq ?_
    refine r_plain ?_
    refine p1 (x_move (by conv => lhs; whnf)) ?_
    refine p1 (x_move (by conv => lhs; whnf)) ?_
    refine p1 (x_len_slice u51 rfl) ?_
    refine p1 (x_lss rfl rfl) ?_
    refine r_nil ?_
    refine t_n ?_
    first | refine c_dec rfl (fun hc42 => ?_) (fun hc42 => ?_) | refine c_if rfl (fun hc42 => ?_) (fun hc42 => ?_)
    · try simp only [decide_eq_true_eq, decide_eq_false_iff_not, Bool.not_eq_true, Bool.not_eq_false, Bool.not_eq_eq_eq_not, Bool.not_true, Bool.not_false, Int.not_lt, Int.not_le] at hc42
      refine c_skip ?_
      refine t_n ?_
      refine c_seq ?_
      refine c_block ?_
      refine c_seq ?_
      refine r_plain ?_
      refine p1 (x_move (by conv => lhs; whnf)) ?_
      refine p1 (x_move (by conv => lhs; whnf)) ?_
      refine p1 (x_move (by conv => lhs; whnf)) ?_
      refine p1 (x_ixs0 u51 sz9 rfl rfl (hN.adr kStr_pos (by omega)) (by omega)) ?_
      obtain ⟨xf, hx⟩ : ∃ x, (startD D (List.replicate (usedL D.l + 1) 255)).l.getD i default = x := ⟨_, rfl⟩
      have hkl : i < (startD D (List.replicate (usedL D.l + 1) 255)).l.length := by omega
      have hnm : ((startD D (List.replicate (usedL D.l + 1) 255)).l.map (·.1)).getD i ByteArray.empty = xf.1 := by rw [← hx, List.getD_eq_getElem?_getD, List.getElem?_map, List.getD_eq_getElem?_getD, List.getElem?_eq_getElem hkl]; rfl
      have hxm : xf ∈ (startD D (List.replicate (usedL D.l + 1) 255)).l := by rw [← hx, List.getD_eq_getElem?_getD, List.getElem?_eq_getElem hkl]; exact List.getElem_mem _
      have hnd := hU1.good.names xf hxm
      have h32 := named_size32 hnd
      have hrd := up_read hU1 hnd (asc_of_memA hok1.rise hxm)
      have hstep := usedL_step hkl
      rw [hx] at hstep
      have htk := usedL_take (startD D (List.replicate (usedL D.l + 1) 255)).l (i + 1)
      have hmost1 := hok1.most
      refine p1 ((x_load1 un9 rfl (hN.strAt _ (by omega))).cast (by rw [hnm])) ?_
      refine o_call Try.func14 fn14 fb14 (disk_Read g _ (startD D (List.replicate (usedL D.l + 1) 255)) _ hD hok1 xf.1 (by omega)) rfl ?_
      rintro v11 w11 ⟨⟨qa, na, ca, rfl, hOa⟩, hE11⟩
      have hX := hX.ext hE11
      have hD := hD.ext hE11
      have hC := hC.ext hE11
      have hN := hN.ext hE11
      have hWL2 := hWL2.ext hE11
      rw [hrd] at hOa
      have hla := hOa.len
      have hOa := hOa.sl
      refine p1 (x_move (by conv => lhs; whnf)) ?_
      refine p1 (x_extract rfl rfl) ?_
      refine p1 (x_extract rfl rfl) ?_
      refine p1 (x_assign (by conv => lhs; whnf)) ?_
      refine p1 (x_assign (by conv => lhs; whnf)) ?_
      refine r_nil ?_
      refine t_n ?_
      refine c_seq ?_
      refine r_plain ?_
      refine p1 (x_move (by conv => lhs; whnf)) ?_
      refine p1 (x_move (by conv => lhs; whnf)) ?_
      refine p1 (x_move (by conv => lhs; whnf)) ?_
      refine p1 (x_ixs0 u51 sz9 rfl rfl (hN.adr kStr_pos (by omega)) (by omega)) ?_
      refine p1 ((x_load1 un9 rfl (hN.strAt _ (by omega))).cast (by rw [hnm])) ?_
      refine o_call Try.func14 fn14 fb14 (disk_Read g2 _ (startD D (List.replicate (usedL D.l + 1) 255)) _ hC hok1 xf.1 (by omega)) rfl ?_
      rintro v12 w12 ⟨⟨qb, nb, cb, rfl, hOb⟩, hE12⟩
      have hX := hX.ext hE12
      have hD := hD.ext hE12
      have hC := hC.ext hE12
      have hN := hN.ext hE12
      have hWL2 := hWL2.ext hE12
      have hOa := hOa.ext hE12
      rw [hrd] at hOb
      have hOb := hOb.sl
      refine p1 (x_move (by conv => lhs; whnf)) ?_
      refine p1 (x_extract rfl rfl) ?_
      refine p1 (x_extract rfl rfl) ?_
      refine p1 (x_assign (by conv => lhs; whnf)) ?_
      refine p1 (x_assign (by conv => lhs; whnf)) ?_
      refine r_nil ?_
      refine t_n ?_
      refine c_seq ?_
      refine c_seq ?_
      refine r_plain ?_
      refine p1 (x_move (by conv => lhs; whnf)) ?_
      refine p1 ((x_neq rfl rfl).cast (congrArg _ (decide_eq_false (fun h => h (by rw [hrd]))))) ?_
      refine p1 (x_move (by conv => lhs; whnf)) ?_
      refine g1 65 rfl rfl (x_move (by conv => lhs; whnf)) ?_
      refine g1 65 rfl rfl ((x_neq rfl rfl).cast (congrArg _ (decide_eq_false (fun h => h (by rw [hrd]))))) ?_
      refine p1 (x_pick_f rfl (by conv => lhs; whnf)) ?_
      refine p1 (x_move (by conv => lhs; whnf)) ?_
      refine g1 69 rfl rfl (x_move (by conv => lhs; whnf)) ?_
      refine g1 69 rfl rfl (x_bytes_str u31 u5 u9 rfl hOa) ?_
      refine g1 69 rfl rfl (x_move (by conv => lhs; whnf)) ?_
      refine g1 69 rfl rfl (x_bytes_str u31 u5 u9 rfl hOb) ?_
      refine g1 69 rfl rfl ((x_neq_str rfl rfl).cast (congrArg _ (decide_eq_false (fun h => h rfl)))) ?_
      refine p1 (x_pick_f rfl (by conv => lhs; whnf)) ?_
      refine r_nil ?_
      refine t_n ?_
      refine c_f rfl ?_
      refine c_skip ?_
      refine t_n ?_
      refine r_plain ?_
      refine p1 (x_move (by conv => lhs; whnf)) ?_
      refine p1 (x_move (by conv => lhs; whnf)) ?_
      refine p1 (x_len_slice u31 rfl) ?_
      have hla2 : xf.2.1.length = na := hla
      refine p1 ((x_add rfl rfl (fits_i64 (by omega) (by omega))).cast (congrArg (Value.int .i64) (by omega : _ = ((usedL ((startD D (List.replicate (usedL D.l + 1) 255)).l.take (i + 1)) : Nat) : Int)))) ?_
      refine p1 (x_assign (by conv => lhs; whnf)) ?_
      refine r_nil ?_
      refine b_n ?_
      refine t_n ?_
      refine r_plain ?_
      refine p1 (x_move (by conv => lhs; whnf)) ?_
      refine p1 (x_add rfl rfl (fits_i64 (by omega) (by omega))) ?_
      refine p1 (x_assign (by conv => lhs; whnf)) ?_
      refine r_nil ?_
      refine t_n (At.mk (i + 1) (by repeat (first | exact Agr.refl _ _ | exact Agr.hav _ _ _ | refine Agr.upd rfl ?_ | refine Agr.updR rfl ?_ | refine Agr.updL ?_ _ rfl | refine Agr.hav' rfl ?_)) ⟨rfl, rfl, trivial⟩ ?_)
      exact ⟨⟨hWL2, (by omega)⟩, by show (startD D (List.replicate (usedL D.l + 1) 255)).l.length - (i + 1) < (startD D (List.replicate (usedL D.l + 1) 255)).l.length - i; omega⟩
    · try simp only [decide_eq_true_eq, decide_eq_false_iff_not, Bool.not_eq_true, Bool.not_eq_false, Bool.not_eq_eq_eq_not, Bool.not_true, Bool.not_false, Int.not_lt, Int.not_le] at hc42
      have htt : (startD D (List.replicate (usedL D.l + 1) 255)).l.take i = (startD D (List.replicate (usedL D.l + 1) 255)).l := List.take_of_length_le (by omega)
      refine c_exit ?_
      refine t_e ?_
      refine t_e ?_
      refine b_hit ?_
      refine t_n ?_
      refine c_seq ?_
      refine r_plain ?_
      refine p1 (x_move (by conv => lhs; whnf)) ?_
      refine p1 (x_move (by conv => lhs; whnf)) ?_
      refine p1 (x_len_slice u31 rfl) ?_
      refine p1 (x_sub rfl rfl (fits_i64 (by omega) (by omega))) ?_
      refine p1 ((x_eql rfl rfl).cast (congrArg _ (decide_eq_true (by rw [htt]; omega)))) ?_
      refine p1 (x_move (by conv => lhs; whnf)) ?_
      refine g1 85 rfl rfl (x_move (by conv => lhs; whnf)) ?_
      refine g1 85 rfl rfl (x_move (by conv => lhs; whnf)) ?_
      refine g_drop 85 rfl rfl ?_
      refine o_call Try.func29 fn29 fb29 (disk_Used g _ (startD D (List.replicate (usedL D.l + 1) 255)) _ hD) rfl ?_
      rintro v13 w13 ⟨rfl, hE13⟩
      have hX := hX.ext hE13
      have hD := hD.ext hE13
      have hC := hC.ext hE13
      have hN := hN.ext hE13
      refine g1 85 rfl rfl ((x_eql rfl rfl).cast (congrArg _ (decide_eq_true (by rw [htt])))) ?_
      refine p1 (x_pick_t rfl (by conv => lhs; whnf)) ?_
      refine p1 (x_move (by conv => lhs; whnf)) ?_
      refine g1 91 rfl rfl (x_move (by conv => lhs; whnf)) ?_
      refine g_drop 91 rfl rfl ?_
      refine o_call Try.func21 fn21 fb21 (disk_Down g _ (startD D (List.replicate (usedL D.l + 1) 255)) _ hD) rfl ?_
      rintro v14 w14 ⟨rfl, hE14⟩
      have hX := hX.ext hE14
      have hD := hD.ext hE14
      have hC := hC.ext hE14
      have hN := hN.ext hE14
      refine g1 91 rfl rfl (x_not rfl) ?_
      refine p1 (x_pick_t rfl (by conv => lhs; whnf)) ?_
      refine p1 (x_move (by conv => lhs; whnf)) ?_
      refine g_drop 96 rfl rfl ?_
      refine o_call Try.func16 fn16 fb16 (disk_awake _) rfl ?_
      rintro v15 w15 ⟨rfl, hE15⟩
      have hX := hX.ext hE15
      have hD := hD.ext hE15
      have hC := hC.ext hE15
      have hN := hN.ext hE15
      refine p1 (x_pick_t rfl (by conv => lhs; whnf)) ?_
      refine p1 (x_assign (by conv => lhs; whnf)) ?_
      refine r_nil ?_
      refine t_n ?_
      refine c_ret ?_
      refine end1 rfl (by conv => lhs; whnf) ?_
      exact ⟨rfl, hX⟩
end Go.Proofs.Eng
end
