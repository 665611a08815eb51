import Derived.Test.YtphmpibmogbafaaKS2
/- Merged: T7 K8 T8 K9 T9 KA PH T10 KB -/
section
set_option linter.unusedVariables false
set_option linter.unusedSimpArgs false
set_option maxRecDepth 100000
set_option maxHeartbeats 4000000
namespace Go.Proofs.Eng
open Go.RowKit
open Extern.Stop (cell)
end Go.Proofs.Eng
end
section
set_option linter.unusedVariables false
set_option linter.unusedSimpArgs false
set_option maxRecDepth 100000
set_option maxHeartbeats 4000000
namespace Go.Proofs.Eng
open Go.RowKit
open Extern.Stop (cell)
end Go.Proofs.Eng
end
section
set_option linter.unusedVariables false
set_option linter.unusedSimpArgs false
set_option maxRecDepth 100000
set_option maxHeartbeats 4000000
namespace Go.Proofs.Eng
open Go.RowKit
open Extern.Stop (cell)
theorem fo33_0 : fieldOf Try.prog 33 0 = some (5, 0) := by kernel_rfl
theorem fo33_1 : fieldOf Try.prog 33 1 = some (9, 1) := by kernel_rfl
theorem fo33_2 : fieldOf Try.prog 33 2 = some (9, 2) := by kernel_rfl
theorem fo33_3 : fieldOf Try.prog 33 3 = some (31, 3) := by kernel_rfl
theorem fo33_4 : fieldOf Try.prog 33 4 = some (3, 4) := by kernel_rfl
theorem fo33_5 : fieldOf Try.prog 33 5 = some (4, 5) := by kernel_rfl
theorem sz33 : (Try.prog.info? 33).map (·.size) = some 6 := by kernel_rfl
theorem u22 : Try.prog.underlying 22 = some (.slice 33) := by kernel_rfl
theorem ua33 : (Try.prog.underlying 33).map TypeDesc.isRow = some true := by kernel_rfl
theorem zr33 : (Try.prog.info? 33).map (·.zero) = some (some (.agg #[.int .u8 0, .string ByteArray.empty, .string ByteArray.empty, .slice none 0 0, .int .i64 0, .bool false])) := by kernel_rfl
end Go.Proofs.Eng
end
section
set_option linter.unusedVariables false
set_option linter.unusedSimpArgs false
set_option maxRecDepth 100000
set_option maxHeartbeats 4000000
namespace Go.Proofs.Eng
open Go.RowKit
open Extern.Stop (cell)
theorem disk_played (most : Int) (acts : List DAct) (e B : Nat) (p : Option Addr) (n c : Nat) (w : World) (hA : Sl kDA e B w p n c acts) (hBB : B ≤ w.heap.size) (hs : n ≤ 4611686018427387000) :
    Ret Try.prog 27 [.int .i64 most, .slice p n c] w (fun v w' => (∃ g, v = .pointer (some ⟨g, 0, none⟩) ∧ Dsk (since w) w' g (playD (newD most) acts)) ∧ Ext w w') := by
  have hX := Ext.refl w
  refine enter 79 _ Try.func27 rfl rfl (Nat.le_of_ble_eq_true rfl) rfl ?_
  refine c_seq ?_
  refine r_plain ?_
  refine p1 (x_assign (by conv => lhs; whnf)) ?_
  refine r_nil ?_
  refine t_n ?_
  refine c_seq ?_
  refine r_plain ?_
  refine p1 (x_move (by conv => lhs; whnf)) ?_
  have hXs1 := hX.size
  refine o_call Try.func11 fn11 fb11 (disk_New most _) rfl ?_
  rintro v1 w1 ⟨⟨g, rfl, hD0⟩, hE1⟩
  have hX := hX.ext hE1
  have hD : Dsk (since w) w1 g (newD most) := hD0.all (fun _ h => h.elim) hXs1
  skip
  refine p1 (x_assign (by conv => lhs; whnf)) ?_
  refine r_nil ?_
  refine t_n ?_
  refine c_seq ?_
  refine c_seq ?_
  refine r_plain ?_
  refine p1 (x_assign (by conv => lhs; whnf)) ?_
  refine r_nil ?_
  refine t_n ?_
  refine c_block ?_
  refine c_loop (ι := Nat) [6, 7, 10, 11, 12, 13, 14, 15, 16, 17, 18, 19, 20, 21, 22, 23, 24, 25, 26, 27, 28, 29, 30, 31, 32, 33, 34, 35, 36, 37, 38, 39, 40, 41, 42, 43, 44, 45, 46, 47, 48, 49, 50, 51, 52, 53, 54, 55, 56, 57, 58, 59, 60, 61, 62, 63, 64, 65, 66, 67, 68, 69, 70, 71, 72, 73, 74, 75, 76, 77] (fun i => [(6, .int .i64 (i : Int))]) (fun i w' => Ext w w' ∧ (i ≤ n ∧ Dsk (since w) w' g (playD (newD most) (acts.take i)))) (fun i => n - i) (0) ⟨rfl, trivial⟩ ⟨hX, ⟨Nat.zero_le _, hD⟩⟩ ?_
  rintro i GL0 w2 ⟨hE2, hi, hD⟩
  have hX := hE2
  have hlen := hA.len
  have hG := good_play (most := most) (acts.take i) _ 0 (good_new most) (fun a ha => da_bound hA a (List.mem_of_mem_take ha))
  rw [Nat.zero_add, List.length_take] at hG
  have hGs := hG.steps
  have hGl := hG.left
  refine c_seq ?_
  refine c_seq ?_
  refine r_plain ?_
  refine p1 (x_move (by conv => lhs; whnf)) ?_
  refine p1 (x_move (by conv => lhs; whnf)) ?_
  refine p1 (x_len_slice u22 rfl) ?_
  refine p1 (x_lss rfl rfl) ?_
  refine r_nil ?_
  refine t_n ?_
  first | refine c_dec rfl (fun hc13 => ?_) (fun hc13 => ?_) | refine c_if rfl (fun hc13 => ?_) (fun hc13 => ?_)
  · try simp only [decide_eq_true_eq, decide_eq_false_iff_not, Bool.not_eq_true, Bool.not_eq_false, Bool.not_eq_eq_eq_not, Bool.not_true, Bool.not_false, Int.not_lt, Int.not_le] at hc13
    refine c_skip ?_
    refine t_n ?_
    refine c_seq ?_
    refine c_block ?_
    refine c_seq ?_
    refine r_plain ?_
    refine p1 (x_move (by conv => lhs; whnf)) ?_
    refine p1 (x_move (by conv => lhs; whnf)) ?_
    obtain ⟨q, m, c2, hr, hlo, hz1, hz2, hz3, hz4⟩ := (hA.ext hX).daAt i (by omega)
    obtain ⟨a, ha⟩ : ∃ a, acts.getD i default = a := ⟨_, rfl⟩
    rw [ha] at hr hlo hz1 hz2 hz3 hz4
    have ha8 := a.k.toNat_lt
    refine p1 (x_ixs u22 sz33 rfl rfl ((hA.ext hX).adr kDA_pos (by omega)) (by omega) (by omega)) ?_
    refine p1 (x_loadN ua33 rfl (by exact sz33) hr) ?_
    have hXs7 := hX.size
    obtain ⟨wr, hwr⟩ : ∃ x, x = w2 := ⟨_, rfl⟩
    refine o_alloc zr33 ?_
    intro w3 g7 hN7
    have hE3 := hN7.ext
    have hX := hX.ext hE3
    have hD := hD.ext hE3
    have hB7 := hN7.blk
    skip
    refine o_storeAll rfl (by conv => lhs; whnf) (by simp [Value.oneCell']) (by exact sz33) hB7 (by rfl) ?_
    intro w4 hP4
    have hX := hX.put hP4 (by rw [hN7.g_eq]; exact hXs7)
    have hD := hD.one hP4.one (by decide)
    have hB7 := hP4.blk
    have hPw : Ext _ w4 := (hN7.ext).put hP4 (by rw [hN7.g_eq]; exact Nat.le_refl _)
    refine r_nil ?_
    refine t_n ?_
    refine c_seq ?_
    refine r_plain ?_
    refine p1 (x_fieldAddr fo33_0 sz5 rfl) ?_
    refine p1 (x_load1 un5 rfl (hB7.cell (rfl))) ?_
    refine p1 (x_rem rfl rfl (by omega) (by omega)) ?_
    refine r_nil ?_
    refine t_n ?_
    refine c_block ?_
    refine c_seq ?_
    refine r_plain ?_
    refine p1 (x_eql rfl rfl) ?_
    refine p1 (x_assign (by conv => lhs; whnf)) ?_
    refine r_nil ?_
    refine t_n ?_
    first | refine c_dec rfl (fun hc27 => ?_) (fun hc27 => ?_) | refine c_if rfl (fun hc27 => ?_) (fun hc27 => ?_)
    · try simp only [decide_eq_true_eq, decide_eq_false_iff_not, Bool.not_eq_true, Bool.not_eq_false, Bool.not_eq_eq_eq_not, Bool.not_true, Bool.not_false, Int.not_lt, Int.not_le] at hc27
      refine r_plain ?_
      refine p1 (x_move (by conv => lhs; whnf)) ?_
      refine p1 (x_fieldAddr fo33_1 sz9 rfl) ?_
      refine p1 (x_load1 un9 rfl (hB7.cell (rfl))) ?_
      have hXs5 := hX.size
      refine o_call Try.func17 fn17 fb17 (disk_Create g (since w) _ _ hD hG.ok (by omega) (by omega) a.nm hz1) rfl ?_
      rintro v5 w5 ⟨rfl, hD2, hM2⟩
      have hD : Dsk (since w) w5 g (actD (playD (newD most) (acts.take i)) a).1 := by rw [act0 (by omega)]; exact hD2.all (since_le w) hXs5
      have hX := hX.modS hM2 (since_le w)
      skip
      refine r_nil ?_
      refine b_n ?_
      refine b_n ?_
      refine t_n ?_
      refine r_plain ?_
      refine p1 (x_move (by conv => lhs; whnf)) ?_
      refine p1 (x_add rfl rfl (fits_i64 (by omega) (by omega))) ?_
      refine p1 (x_assign (by conv => lhs; whnf)) ?_
      refine r_nil ?_
      refine t_n (At.mk (i + 1) (by repeat (first | exact Agr.refl _ _ | exact Agr.hav _ _ _ | refine Agr.upd rfl ?_ | refine Agr.updR rfl ?_ | refine Agr.updL ?_ _ rfl | refine Agr.hav' rfl ?_)) ⟨rfl, trivial⟩ ?_)
      exact ⟨⟨hX, ⟨by omega, by rw [take_da (by omega), ha, play_snoc]; exact hD⟩⟩, by first | (dsimp only; omega) | ((show _ < _); omega)⟩
    · try simp only [decide_eq_true_eq, decide_eq_false_iff_not, Bool.not_eq_true, Bool.not_eq_false, Bool.not_eq_eq_eq_not, Bool.not_true, Bool.not_false, Int.not_lt, Int.not_le] at hc27
      refine c_seq ?_
      refine c_seq ?_
      refine r_plain ?_
      refine p1 (x_eql rfl rfl) ?_
      refine p1 (x_assign (by conv => lhs; whnf)) ?_
      refine r_nil ?_
      refine t_n ?_
      first | refine c_dec rfl (fun hc33 => ?_) (fun hc33 => ?_) | refine c_if rfl (fun hc33 => ?_) (fun hc33 => ?_)
      · try simp only [decide_eq_true_eq, decide_eq_false_iff_not, Bool.not_eq_true, Bool.not_eq_false, Bool.not_eq_eq_eq_not, Bool.not_true, Bool.not_false, Int.not_lt, Int.not_le] at hc33
        refine c_skip ?_
        refine t_n ?_
        refine c_t (congrArg Value.bool (decide_eq_true (by omega))) ?_
        refine r_plain ?_
        refine p1 (x_move (by conv => lhs; whnf)) ?_
        refine p1 (x_fieldAddr fo33_1 sz9 rfl) ?_
        refine p1 (x_load1 un9 rfl (hB7.cell (rfl))) ?_
        refine p1 (x_fieldAddr fo33_3 sz31 rfl) ?_
        refine p1 (x_load1 un31 rfl (hB7.cell (rfl))) ?_
        have hlo2 := (hlo.sl 5).keep (hPw.same B [5])
        have hXs6 := hX.size
        refine o_call Try.func19 fn19 fb19 (disk_Append g (since w) _ _ hD hG.ok (by omega) (by omega) a.nm hz1 5 B q m c2 a.data hlo2) rfl ?_
        rintro v6 w6 ⟨rfl, hD2, hM2⟩
        have hD : Dsk (since w) w6 g (actD (playD (newD most) (acts.take i)) a).1 := by rw [act1 (by omega)]; exact hD2.all (since_le w) hXs6
        have hX := hX.modS hM2 (since_le w)
        skip
        refine r_nil ?_
        refine b_n ?_
        refine b_n ?_
        refine t_n ?_
        refine r_plain ?_
        refine p1 (x_move (by conv => lhs; whnf)) ?_
        refine p1 (x_add rfl rfl (fits_i64 (by omega) (by omega))) ?_
        refine p1 (x_assign (by conv => lhs; whnf)) ?_
        refine r_nil ?_
        refine t_n (At.mk (i + 1) (by repeat (first | exact Agr.refl _ _ | exact Agr.hav _ _ _ | refine Agr.upd rfl ?_ | refine Agr.updR rfl ?_ | refine Agr.updL ?_ _ rfl | refine Agr.hav' rfl ?_)) ⟨rfl, trivial⟩ ?_)
        exact ⟨⟨hX, ⟨by omega, by rw [take_da (by omega), ha, play_snoc]; exact hD⟩⟩, by first | (dsimp only; omega) | ((show _ < _); omega)⟩
      · try simp only [decide_eq_true_eq, decide_eq_false_iff_not, Bool.not_eq_true, Bool.not_eq_false, Bool.not_eq_eq_eq_not, Bool.not_true, Bool.not_false, Int.not_lt, Int.not_le] at hc33
        refine r_plain ?_
        refine p1 (x_eql rfl rfl) ?_
        refine p1 (x_assign (by conv => lhs; whnf)) ?_
        refine r_nil ?_
        refine t_n ?_
        first | refine c_dec rfl (fun hc33 => ?_) (fun hc33 => ?_) | refine c_if rfl (fun hc33 => ?_) (fun hc33 => ?_)
        · try simp only [decide_eq_true_eq, decide_eq_false_iff_not, Bool.not_eq_true, Bool.not_eq_false, Bool.not_eq_eq_eq_not, Bool.not_true, Bool.not_false, Int.not_lt, Int.not_le] at hc33
          refine r_plain ?_
          refine p1 (x_move (by conv => lhs; whnf)) ?_
          refine p1 (x_fieldAddr fo33_1 sz9 rfl) ?_
          refine p1 (x_load1 un9 rfl (hB7.cell (rfl))) ?_
          refine p1 (x_fieldAddr fo33_3 sz31 rfl) ?_
          refine p1 (x_load1 un31 rfl (hB7.cell (rfl))) ?_
          have hlo2 := (hlo.sl 5).keep (hPw.same B [5])
          have hXs7 := hX.size
          refine o_call Try.func19 fn19 fb19 (disk_Append g (since w) _ _ hD hG.ok (by omega) (by omega) a.nm hz1 5 B q m c2 a.data hlo2) rfl ?_
          rintro v7 w7 ⟨rfl, hD2, hM2⟩
          have hD : Dsk (since w) w7 g (actD (playD (newD most) (acts.take i)) a).1 := by rw [act1 (by omega)]; exact hD2.all (since_le w) hXs7
          have hX := hX.modS hM2 (since_le w)
          skip
          refine r_nil ?_
          refine b_n ?_
          refine b_n ?_
          refine t_n ?_
          refine r_plain ?_
          refine p1 (x_move (by conv => lhs; whnf)) ?_
          refine p1 (x_add rfl rfl (fits_i64 (by omega) (by omega))) ?_
          refine p1 (x_assign (by conv => lhs; whnf)) ?_
          refine r_nil ?_
          refine t_n (At.mk (i + 1) (by repeat (first | exact Agr.refl _ _ | exact Agr.hav _ _ _ | refine Agr.upd rfl ?_ | refine Agr.updR rfl ?_ | refine Agr.updL ?_ _ rfl | refine Agr.hav' rfl ?_)) ⟨rfl, trivial⟩ ?_)
          exact ⟨⟨hX, ⟨by omega, by rw [take_da (by omega), ha, play_snoc]; exact hD⟩⟩, by first | (dsimp only; omega) | ((show _ < _); omega)⟩
        · try simp only [decide_eq_true_eq, decide_eq_false_iff_not, Bool.not_eq_true, Bool.not_eq_false, Bool.not_eq_eq_eq_not, Bool.not_true, Bool.not_false, Int.not_lt, Int.not_le] at hc33
          refine c_seq ?_
          refine r_plain ?_
          refine p1 (x_eql rfl rfl) ?_
          refine p1 (x_assign (by conv => lhs; whnf)) ?_
          refine r_nil ?_
          refine t_n ?_
          first | refine c_dec rfl (fun hc42 => ?_) (fun hc42 => ?_) | refine c_if rfl (fun hc42 => ?_) (fun hc42 => ?_)
          · try simp only [decide_eq_true_eq, decide_eq_false_iff_not, Bool.not_eq_true, Bool.not_eq_false, Bool.not_eq_eq_eq_not, Bool.not_true, Bool.not_false, Int.not_lt, Int.not_le] at hc42
            refine r_plain ?_
            refine p1 (x_move (by conv => lhs; whnf)) ?_
            refine p1 (x_fieldAddr fo33_1 sz9 rfl) ?_
            refine p1 (x_load1 un9 rfl (hB7.cell (rfl))) ?_
            have hXs8 := hX.size
            refine o_call Try.func23 fn23 fb23 (disk_Sync g (since w) _ _ hD hG.ok (by omega) (by omega) a.nm hz1) rfl ?_
            rintro v8 w8 ⟨rfl, hD2, hM2⟩
            have hD : Dsk (since w) w8 g (actD (playD (newD most) (acts.take i)) a).1 := by rw [act3 (by omega)]; exact hD2.all (since_le w) hXs8
            have hX := hX.modS hM2 (since_le w)
            skip
            refine r_nil ?_
            refine b_n ?_
            refine b_n ?_
            refine t_n ?_
            refine r_plain ?_
            refine p1 (x_move (by conv => lhs; whnf)) ?_
            refine p1 (x_add rfl rfl (fits_i64 (by omega) (by omega))) ?_
            refine p1 (x_assign (by conv => lhs; whnf)) ?_
            refine r_nil ?_
            refine t_n (At.mk (i + 1) (by repeat (first | exact Agr.refl _ _ | exact Agr.hav _ _ _ | refine Agr.upd rfl ?_ | refine Agr.updR rfl ?_ | refine Agr.updL ?_ _ rfl | refine Agr.hav' rfl ?_)) ⟨rfl, trivial⟩ ?_)
            exact ⟨⟨hX, ⟨by omega, by rw [take_da (by omega), ha, play_snoc]; exact hD⟩⟩, by first | (dsimp only; omega) | ((show _ < _); omega)⟩
          · try simp only [decide_eq_true_eq, decide_eq_false_iff_not, Bool.not_eq_true, Bool.not_eq_false, Bool.not_eq_eq_eq_not, Bool.not_true, Bool.not_false, Int.not_lt, Int.not_le] at hc42
            refine c_seq ?_
            refine r_plain ?_
            refine p1 (x_eql rfl rfl) ?_
            refine p1 (x_assign (by conv => lhs; whnf)) ?_
            refine r_nil ?_
            refine t_n ?_
            first | refine c_dec rfl (fun hc48 => ?_) (fun hc48 => ?_) | refine c_if rfl (fun hc48 => ?_) (fun hc48 => ?_)
            · try simp only [decide_eq_true_eq, decide_eq_false_iff_not, Bool.not_eq_true, Bool.not_eq_false, Bool.not_eq_eq_eq_not, Bool.not_true, Bool.not_false, Int.not_lt, Int.not_le] at hc48
              refine r_plain ?_
              refine p1 (x_move (by conv => lhs; whnf)) ?_
              refine p1 (x_fieldAddr fo33_1 sz9 rfl) ?_
              refine p1 (x_load1 un9 rfl (hB7.cell (rfl))) ?_
              refine p1 (x_fieldAddr fo33_2 sz9 rfl) ?_
              refine p1 (x_load1 un9 rfl (hB7.cell (rfl))) ?_
              have hXs9 := hX.size
              refine o_call Try.func24 fn24 fb24 (disk_Rename g (since w) _ _ hD hG.ok (by omega) (by omega) a.nm a.now hz1 hz2) rfl ?_
              rintro v9 w9 ⟨rfl, hD2, hM2⟩
              have hD : Dsk (since w) w9 g (actD (playD (newD most) (acts.take i)) a).1 := by rw [act4 (by omega)]; exact hD2.all (since_le w) hXs9
              have hX := hX.modS hM2 (since_le w)
              skip
              refine r_nil ?_
              refine b_n ?_
              refine b_n ?_
              refine t_n ?_
              refine r_plain ?_
              refine p1 (x_move (by conv => lhs; whnf)) ?_
              refine p1 (x_add rfl rfl (fits_i64 (by omega) (by omega))) ?_
              refine p1 (x_assign (by conv => lhs; whnf)) ?_
              refine r_nil ?_
              refine t_n (At.mk (i + 1) (by repeat (first | exact Agr.refl _ _ | exact Agr.hav _ _ _ | refine Agr.upd rfl ?_ | refine Agr.updR rfl ?_ | refine Agr.updL ?_ _ rfl | refine Agr.hav' rfl ?_)) ⟨rfl, trivial⟩ ?_)
              exact ⟨⟨hX, ⟨by omega, by rw [take_da (by omega), ha, play_snoc]; exact hD⟩⟩, by first | (dsimp only; omega) | ((show _ < _); omega)⟩
            · try simp only [decide_eq_true_eq, decide_eq_false_iff_not, Bool.not_eq_true, Bool.not_eq_false, Bool.not_eq_eq_eq_not, Bool.not_true, Bool.not_false, Int.not_lt, Int.not_le] at hc48
              refine c_seq ?_
              refine r_plain ?_
              refine p1 (x_eql rfl rfl) ?_
              refine p1 (x_assign (by conv => lhs; whnf)) ?_
              refine r_nil ?_
              refine t_n ?_
              first | refine c_dec rfl (fun hc56 => ?_) (fun hc56 => ?_) | refine c_if rfl (fun hc56 => ?_) (fun hc56 => ?_)
              · try simp only [decide_eq_true_eq, decide_eq_false_iff_not, Bool.not_eq_true, Bool.not_eq_false, Bool.not_eq_eq_eq_not, Bool.not_true, Bool.not_false, Int.not_lt, Int.not_le] at hc56
                refine r_plain ?_
                refine p1 (x_move (by conv => lhs; whnf)) ?_
                refine p1 (x_fieldAddr fo33_1 sz9 rfl) ?_
                refine p1 (x_load1 un9 rfl (hB7.cell (rfl))) ?_
                have hXs10 := hX.size
                refine o_call Try.func20 fn20 fb20 (disk_Remove g (since w) _ _ hD hG.ok (by omega) (by omega) a.nm hz1) rfl ?_
                rintro v10 w10 ⟨rfl, hD2, hM2⟩
                have hD : Dsk (since w) w10 g (actD (playD (newD most) (acts.take i)) a).1 := by rw [act5 (by omega)]; exact hD2.all (since_le w) hXs10
                have hX := hX.modS hM2 (since_le w)
                skip
                refine r_nil ?_
                refine b_n ?_
                refine b_n ?_
                refine t_n ?_
                refine r_plain ?_
                refine p1 (x_move (by conv => lhs; whnf)) ?_
                refine p1 (x_add rfl rfl (fits_i64 (by omega) (by omega))) ?_
                refine p1 (x_assign (by conv => lhs; whnf)) ?_
                refine r_nil ?_
                refine t_n (At.mk (i + 1) (by repeat (first | exact Agr.refl _ _ | exact Agr.hav _ _ _ | refine Agr.upd rfl ?_ | refine Agr.updR rfl ?_ | refine Agr.updL ?_ _ rfl | refine Agr.hav' rfl ?_)) ⟨rfl, trivial⟩ ?_)
                exact ⟨⟨hX, ⟨by omega, by rw [take_da (by omega), ha, play_snoc]; exact hD⟩⟩, by first | (dsimp only; omega) | ((show _ < _); omega)⟩
              · try simp only [decide_eq_true_eq, decide_eq_false_iff_not, Bool.not_eq_true, Bool.not_eq_false, Bool.not_eq_eq_eq_not, Bool.not_true, Bool.not_false, Int.not_lt, Int.not_le] at hc56
                refine c_seq ?_
                refine r_plain ?_
                refine p1 (x_eql rfl rfl) ?_
                refine p1 (x_assign (by conv => lhs; whnf)) ?_
                refine r_nil ?_
                refine t_n ?_
                first | refine c_dec rfl (fun hc62 => ?_) (fun hc62 => ?_) | refine c_if rfl (fun hc62 => ?_) (fun hc62 => ?_)
                · try simp only [decide_eq_true_eq, decide_eq_false_iff_not, Bool.not_eq_true, Bool.not_eq_false, Bool.not_eq_eq_eq_not, Bool.not_true, Bool.not_false, Int.not_lt, Int.not_le] at hc62
                  refine r_plain ?_
                  refine p1 (x_move (by conv => lhs; whnf)) ?_
                  refine p1 (x_fieldAddr fo33_4 sz3 rfl) ?_
                  refine p1 (x_load1 un3 rfl (hB7.cell (rfl))) ?_
                  refine p1 (x_fieldAddr fo33_5 sz4 rfl) ?_
                  refine p1 (x_load1 un4 rfl (hB7.cell (rfl))) ?_
                  have hXs11 := hX.size
                  refine o_call Try.func18 fn18 fb18 (disk_Fail g (since w) _ _ hD hG.ok (by omega) (by omega) a.n hz3 hz4 a.done) rfl ?_
                  rintro v11 w11 ⟨rfl, hD2, hM2⟩
                  have hD : Dsk (since w) w11 g (actD (playD (newD most) (acts.take i)) a).1 := by rw [act6 (by omega)]; exact hD2.all (since_le w) hXs11
                  have hX := hX.modS hM2 (since_le w)
                  skip
                  refine r_nil ?_
                  refine b_n ?_
                  refine b_n ?_
                  refine t_n ?_
                  refine r_plain ?_
                  refine p1 (x_move (by conv => lhs; whnf)) ?_
                  refine p1 (x_add rfl rfl (fits_i64 (by omega) (by omega))) ?_
                  refine p1 (x_assign (by conv => lhs; whnf)) ?_
                  refine r_nil ?_
                  refine t_n (At.mk (i + 1) (by repeat (first | exact Agr.refl _ _ | exact Agr.hav _ _ _ | refine Agr.upd rfl ?_ | refine Agr.updR rfl ?_ | refine Agr.updL ?_ _ rfl | refine Agr.hav' rfl ?_)) ⟨rfl, trivial⟩ ?_)
                  exact ⟨⟨hX, ⟨by omega, by rw [take_da (by omega), ha, play_snoc]; exact hD⟩⟩, by first | (dsimp only; omega) | ((show _ < _); omega)⟩
                · try simp only [decide_eq_true_eq, decide_eq_false_iff_not, Bool.not_eq_true, Bool.not_eq_false, Bool.not_eq_eq_eq_not, Bool.not_true, Bool.not_false, Int.not_lt, Int.not_le] at hc62
                  refine c_seq ?_
                  refine r_plain ?_
                  refine p1 (x_eql rfl rfl) ?_
                  refine p1 (x_assign (by conv => lhs; whnf)) ?_
                  refine r_nil ?_
                  refine t_n ?_
                  first | refine c_dec rfl (fun hc70 => ?_) (fun hc70 => ?_) | refine c_if rfl (fun hc70 => ?_) (fun hc70 => ?_)
                  · try simp only [decide_eq_true_eq, decide_eq_false_iff_not, Bool.not_eq_true, Bool.not_eq_false, Bool.not_eq_eq_eq_not, Bool.not_true, Bool.not_false, Int.not_lt, Int.not_le] at hc70
                    refine r_plain ?_
                    refine p1 (x_move (by conv => lhs; whnf)) ?_
                    refine p1 (x_fieldAddr fo33_1 sz9 rfl) ?_
                    refine p1 (x_load1 un9 rfl (hB7.cell (rfl))) ?_
                    refine p1 (x_fieldAddr fo33_4 sz3 rfl) ?_
                    refine p1 (x_load1 un3 rfl (hB7.cell (rfl))) ?_
                    have hXs12 := hX.size
                    refine o_call Try.func25 fn25 fb25 (disk_Cut g (since w) _ _ hD hG.ok (by omega) (by omega) a.nm hz1 a.n hz3 hz4) rfl ?_
                    rintro v12 w12 ⟨rfl, hD2, hM2⟩
                    have hD : Dsk (since w) w12 g (actD (playD (newD most) (acts.take i)) a).1 := by rw [act8 (by omega)]; exact hD2.all (since_le w) hXs12
                    have hX := hX.modS hM2 (since_le w)
                    skip
                    refine r_nil ?_
                    refine b_n ?_
                    refine b_n ?_
                    refine t_n ?_
                    refine r_plain ?_
                    refine p1 (x_move (by conv => lhs; whnf)) ?_
                    refine p1 (x_add rfl rfl (fits_i64 (by omega) (by omega))) ?_
                    refine p1 (x_assign (by conv => lhs; whnf)) ?_
                    refine r_nil ?_
                    refine t_n (At.mk (i + 1) (by repeat (first | exact Agr.refl _ _ | exact Agr.hav _ _ _ | refine Agr.upd rfl ?_ | refine Agr.updR rfl ?_ | refine Agr.updL ?_ _ rfl | refine Agr.hav' rfl ?_)) ⟨rfl, trivial⟩ ?_)
                    exact ⟨⟨hX, ⟨by omega, by rw [take_da (by omega), ha, play_snoc]; exact hD⟩⟩, by first | (dsimp only; omega) | ((show _ < _); omega)⟩
                  · try simp only [decide_eq_true_eq, decide_eq_false_iff_not, Bool.not_eq_true, Bool.not_eq_false, Bool.not_eq_eq_eq_not, Bool.not_true, Bool.not_false, Int.not_lt, Int.not_le] at hc70
                    refine r_plain ?_
                    refine p1 (x_move (by conv => lhs; whnf)) ?_
                    refine p1 (x_fieldAddr fo33_3 sz31 rfl) ?_
                    refine p1 (x_load1 un31 rfl (hB7.cell (rfl))) ?_
                    have hlo2 := hlo.keep (hPw.same B [])
                    have hout := hlo2.out hBB
                    have hXs13 := hX.size
                    refine o_call Try.func26 fn26 fb26 (disk_Start g (since w) _ _ hD hG.ok a.data q m c2 hout) rfl ?_
                    rintro v13 w13 ⟨hD2, hM2⟩
                    have hD : Dsk (since w) w13 g (actD (playD (newD most) (acts.take i)) a).1 := by rw [act7 (by omega)]; exact hD2.all (since_le w) hXs13
                    have hX := hX.modS hM2 (since_le w)
                    skip
                    refine r_nil ?_
                    refine b_n ?_
                    refine b_n ?_
                    refine t_n ?_
                    refine r_plain ?_
                    refine p1 (x_move (by conv => lhs; whnf)) ?_
                    refine p1 (x_add rfl rfl (fits_i64 (by omega) (by omega))) ?_
                    refine p1 (x_assign (by conv => lhs; whnf)) ?_
                    refine r_nil ?_
                    refine t_n (At.mk (i + 1) (by repeat (first | exact Agr.refl _ _ | exact Agr.hav _ _ _ | refine Agr.upd rfl ?_ | refine Agr.updR rfl ?_ | refine Agr.updL ?_ _ rfl | refine Agr.hav' rfl ?_)) ⟨rfl, trivial⟩ ?_)
                    exact ⟨⟨hX, ⟨by omega, by rw [take_da (by omega), ha, play_snoc]; exact hD⟩⟩, by first | (dsimp only; omega) | ((show _ < _); omega)⟩
  · try simp only [decide_eq_true_eq, decide_eq_false_iff_not, Bool.not_eq_true, Bool.not_eq_false, Bool.not_eq_eq_eq_not, Bool.not_true, Bool.not_false, Int.not_lt, Int.not_le] at hc13
    have hin : acts.take i = acts := List.take_of_length_le (by omega)
    rw [hin] at hD
    refine c_exit ?_
    refine t_e ?_
    refine t_e ?_
    refine b_hit ?_
    refine t_n ?_
    refine c_seq ?_
    refine r_plain ?_
    refine p1 (x_move (by conv => lhs; whnf)) ?_
    refine p1 (x_assign (by conv => lhs; whnf)) ?_
    refine r_nil ?_
    refine t_n ?_
    refine c_ret ?_
    refine end1 rfl (by conv => lhs; whnf) ?_
    exact ⟨⟨g, rfl, hD⟩, hX⟩
end Go.Proofs.Eng
end
section
set_option linter.unusedVariables false
set_option linter.unusedSimpArgs false
set_option maxRecDepth 100000
set_option maxHeartbeats 4000000
namespace Go.Proofs.Eng
open Go.RowKit
open Extern.Stop (cell)
theorem fb27 : Try.f27.body.isNone = false := by kernel_rfl
theorem fn27 : (Try.f27.name == "runtime.NumGoroutine") = false := by kernel_rfl
end Go.Proofs.Eng
end
section
set_option linter.unusedVariables false
set_option linter.unusedSimpArgs false
set_option maxRecDepth 100000
set_option maxHeartbeats 4000000
namespace Go.Proofs.Eng
open Go.RowKit
open Extern.Stop (cell)
end Go.Proofs.Eng
end
section
set_option linter.unusedVariables false
set_option linter.unusedSimpArgs false
namespace Go.Proofs.Eng
open Go.RowKit
/-! ### what is left of a file when the power comes back -/
theorem wake_spec {f : Fb} (hf : f.2 ≤ f.1.length) (st : List UInt8) : f.2 ≤ (wakeF f st).1.length ∧ (wakeF f st).1.length ≤ f.1.length ∧ ∀ i, i < (wakeF f st).1.length → (wakeF f st).1.getD i 0 = f.1.getD i 0 ∨ (f.2 ≤ i ∧ (wakeF f st).1.getD i 0 = 0) := by
  have h := pieces_ind (b := f.1) (fun a n kept _ => f.2 ≤ n ∧ n ≤ a ∧ ∀ i, i < a → kept.getD i 0 = f.1.getD i 0 ∨ (f.2 ≤ i ∧ kept.getD i 0 = 0)) (fun a n kept st hlt hk hq => by
    obtain ⟨h1, h2, h3⟩ := hq
    obtain ⟨e1, e2⟩ := pieceE_gt hlt
    have e3 := pieceT_le f.1 a st
    refine ⟨by split <;> omega, by split <;> omega, fun i hi => ?_⟩
    simp only [List.getD_eq_getElem?_getD] at h3 ⊢
    by_cases c1 : i < a
    · have := h3 i c1
      rw [List.append_assoc, List.getElem?_append_left (by omega)]
      exact this
    · rw [List.append_assoc, List.getElem?_append_right (by omega), hk]
      by_cases c2 : i - a < pieceT f.1 a st
      · left
        rw [List.getElem?_append_left (by rw [List.length_take, List.length_drop]; omega), List.getElem?_take, if_pos c2, List.getElem?_drop]
        rw [show a + (i - a) = i from by omega]
      · right
        refine ⟨by omega, ?_⟩
        rw [List.getElem?_append_right (by rw [List.length_take, List.length_drop]; omega), List.getElem?_replicate]
        split <;> rfl) (f.1.length + 1) f.2 f.2 (f.1.take f.2) st (by omega) (by simp; omega) hf ⟨Nat.le_refl _, Nat.le_refl _, fun i hi => by
      left
      simp only [List.getD_eq_getElem?_getD]
      rw [List.getElem?_take, if_pos hi]⟩
  obtain ⟨⟨h1, h2, h3⟩, h4⟩ := h
  have hl := wakeF_len hf st
  have hn : f.2 ≤ (wakeF f st).2 := h1
  refine ⟨by omega, by omega, fun i hi => ?_⟩
  have := h3 i (by omega)
  have e : (wakeF f st).1.getD i 0 = (wakeR f st).1.getD i 0 := by
    show ((wakeR f st).1.take (wakeR f st).2.1).getD i 0 = _
    have hi2 : i < (wakeR f st).2.1 := by have : (wakeF f st).2 = (wakeR f st).2.1 := rfl; omega
    simp only [List.getD_eq_getElem?_getD]
    rw [List.getElem?_take, if_pos hi2]
  rw [e]; exact this
theorem asc_wake : ∀ (l : List Fl) (st : List UInt8) (k : ByteArray) (f : Fb), ascA l k = some f → ∃ st', ascA (wakeL l st).1 k = some (wakeF f st')
  | [], _, _, _, h => by cases h
  | x :: l, st, k, f, h => by
    rw [asc_consA] at h
    show ∃ st', ascA ((x.1, wakeF x.2 st) :: (wakeL l (wakeR x.2 st).2.2).1) k = _
    rw [asc_consA]
    by_cases e : x.1 = k
    · rw [if_pos e] at h; injection h with h
      exact ⟨st, by rw [if_pos e, h]⟩
    · rw [if_neg e] at h
      obtain ⟨st', h'⟩ := asc_wake l _ k f h
      exact ⟨st', by rw [if_neg e]; exact h'⟩
/-! ### a disk that is up -/
structure Up (D : DS) (M i : Nat) : Prop where
  good : Good D i
  down : D.down = false
  left : D.left = -1
  most : D.most = M
theorem up_go {D : DS} {M i : Nat} (h : Up D M i) (act : List Fl) (fa al : Bool) : stepD D act fa al = ({ D with l := act, left := -1, steps := D.steps + 1 }, 0) := by
  rw [stepD_go (by rw [h.left]; decide), h.left]; rfl
theorem up_of {D : DS} {M i : Nat} (h : Up D M i) {act : List Fl} (hg : Good { D with l := act, left := -1, steps := D.steps + 1 } (i + 1)) : Up { D with l := act, left := -1, steps := D.steps + 1 } M (i + 1) := ⟨hg, h.down, rfl, h.most⟩
theorem up_start {D : DS} {i : Nat} (h : Good D i) (st : List UInt8) : Up (startD D st) D.most (i + 1) := ⟨good_start h st, rfl, rfl, rfl⟩
theorem up_remove {D : DS} {M i : Nat} (h : Up D M i) {k : ByteArray} (hn : namedD k = true) : Up (removeD D k).1 M (i + 1) ∧ ascF (removeD D k).1.l k = none := by
  have hg := good_remove h.good k
  unfold removeD at hg ⊢
  rw [look_ok (by simp [hn]) h.down, if_neg (by simp)] at hg ⊢
  by_cases hk : ascF D.l k = none
  · rw [if_pos hk] at hg ⊢
    exact ⟨⟨hg, h.down, h.left, h.most⟩, hk⟩
  · rw [if_neg hk, up_go h] at hg ⊢
    refine ⟨up_of h hg, ?_⟩
    show ascA (insA D.l k none) k = none
    rw [← asc_insA h.good.ok.rise]; unfold mset; rw [if_pos rfl]
theorem up_create {D : DS} {M i : Nat} (h : Up D M i) {k : ByteArray} (hn : namedD k = true) (hk : ascF D.l k = none) :
    ((createD D k).2 ≠ 0 → (createD D k).1 = D ∧ 64 ≤ D.l.length) ∧ ((createD D k).2 = 0 → Up (createD D k).1 M (i + 1) ∧ ascF (createD D k).1.l k = some ([], 0)) := by
  have hg := good_create h.good k
  unfold createD at hg ⊢
  rw [look_ok (by simp [hn]) h.down, if_neg (by simp), if_neg (by rw [hk]; simp)] at hg ⊢
  by_cases hl : 64 ≤ D.l.length
  · rw [if_pos hl]; exact ⟨fun _ => ⟨rfl, hl⟩, fun e => by cases e⟩
  · rw [if_neg hl, up_go h] at hg ⊢
    refine ⟨fun e => absurd rfl e, fun _ => ⟨up_of h hg, ?_⟩⟩
    show ascA (insA D.l k (some ([], 0))) k = _
    rw [← asc_insA h.good.ok.rise]; unfold mset; rw [if_pos rfl]
theorem up_append {D : DS} {M i : Nat} (h : Up D M i) {k : ByteArray} (hn : namedD k = true) {f : Fb} (hk : ascF D.l k = some f) (p : List UInt8) :
    ((appendD D k p).2 ≠ 0 → (appendD D k p).1 = D ∧ (M : Int) - usedL D.l < p.length) ∧ ((appendD D k p).2 = 0 → Up (appendD D k p).1 M (i + 1) ∧ ascF (appendD D k p).1.l k = some (f.1 ++ p, f.2)) := by
  have hg := good_append h.good k p
  have hgf : getF D k = f := by unfold getF; rw [hk]; rfl
  unfold appendD at hg ⊢
  rw [look_ok (by simp [hn]) h.down, if_neg (by simp), if_neg (by rw [hk]; simp), hgf, h.most] at hg ⊢
  by_cases hl : (M : Int) - usedL D.l < p.length
  · rw [if_pos hl]; exact ⟨fun _ => ⟨rfl, hl⟩, fun e => by cases e⟩
  · rw [if_neg hl, up_go h] at hg ⊢
    refine ⟨fun e => absurd rfl e, fun _ => ⟨up_of h hg, ?_⟩⟩
    show ascA (insA D.l k (some (f.1 ++ p, f.2))) k = _
    rw [← asc_insA h.good.ok.rise]; unfold mset; rw [if_pos rfl]
theorem up_sync {D : DS} {M i : Nat} (h : Up D M i) {k : ByteArray} (hn : namedD k = true) {f : Fb} (hk : ascF D.l k = some f) :
    (syncD D k).2 = 0 ∧ Up (syncD D k).1 M (i + 1) ∧ ascF (syncD D k).1.l k = some (f.1, f.1.length) := by
  have hg := good_sync h.good k
  have hgf : getF D k = f := by unfold getF; rw [hk]; rfl
  unfold syncD at hg ⊢
  rw [look_ok (by simp [hn]) h.down, if_neg (by simp), if_neg (by rw [hk]; simp), hgf, up_go h] at hg ⊢
  refine ⟨rfl, up_of h hg, ?_⟩
  show ascA (insA D.l k (some (f.1, f.1.length))) k = _
  rw [← asc_insA h.good.ok.rise]; unfold mset; rw [if_pos rfl]
theorem up_read {D : DS} {M i : Nat} (h : Up D M i) {k : ByteArray} (hn : namedD k = true) {f : Fb} (hk : ascF D.l k = some f) : readD D k = (f.1, 0) := by
  unfold readD getF
  rw [look_ok (by simp [hn]) h.down, if_neg (by simp), if_neg (by rw [hk]; simp), hk]; rfl
def kZ : ByteArray := ⟨#[122, 122]⟩
theorem named_z : namedD kZ = true := by decide
theorem safe_read {a b st : List UInt8} : (wakeF (a ++ b, a.length) st).1.take a.length = a ∧ a.length ≤ (wakeF (a ++ b, a.length) st).1.length ∧ (wakeF (a ++ b, a.length) st).1.length ≤ a.length + b.length ∧
    ∀ i, a.length ≤ i → i < (wakeF (a ++ b, a.length) st).1.length → (wakeF (a ++ b, a.length) st).1.getD i 0 = b.getD (i - a.length) 0 ∨ (wakeF (a ++ b, a.length) st).1.getD i 0 = 0 := by
  obtain ⟨h1, h2, h3⟩ := wake_spec (f := (a ++ b, a.length)) (by simp) st
  simp only [List.length_append] at h1 h2
  refine ⟨?_, h1, h2, fun i hi hlt => ?_⟩
  · apply List.ext_getElem (by rw [List.length_take]; omega)
    intro i hi1 hi2
    have := h3 i (by omega)
    rcases this with e | ⟨e, _⟩
    · simp only [List.getD_eq_getElem?_getD] at e
      rw [List.getElem?_append_left hi2, List.getElem?_eq_getElem (by omega), List.getElem?_eq_getElem hi2] at e
      rw [List.getElem_take]; exact e
    · have : a.length ≤ i := e
      omega
  · rcases h3 i hlt with e | ⟨_, e⟩
    · left
      simp only [List.getD_eq_getElem?_getD] at e ⊢
      rw [e, List.getElem?_append_right hi]
    · exact .inr e
theorem toStr_inj {a b : List UInt8} : toStr a = toStr b ↔ a = b := ⟨fun h => by unfold toStr at h; injection h with h; simpa using h, fun h => by rw [h]⟩
end Go.Proofs.Eng
end
section
set_option linter.unusedVariables false
set_option linter.unusedSimpArgs false
set_option maxRecDepth 100000
set_option maxHeartbeats 4000000
namespace Go.Proofs.Eng
open Go.RowKit
open Extern.Stop (cell)
theorem fb30 : Try.f30.body.isNone = false := by kernel_rfl
theorem fn30 : (Try.f30.name == "runtime.NumGoroutine") = false := by kernel_rfl
theorem u49 : Try.prog.underlying 49 = some (.array 2 31) := by kernel_rfl
end Go.Proofs.Eng
end
section
set_option linter.unusedVariables false
set_option linter.unusedSimpArgs false
set_option maxRecDepth 100000
set_option maxHeartbeats 4000000
namespace Go.Proofs.Eng
open Go.RowKit
open Extern.Stop (cell)
theorem law_begins (xs ys : List UInt8) (e e2 B B2 : Nat) (p q : Option Addr) (n c m c2 : Nat) (w : World) (hl : Sl kByte e B w p n c xs) (hr : Sl kByte e2 B2 w q m c2 ys) :
    Ret Try.prog 30 [.slice p n c, .slice q m c2] w (fun v w' => v = .bool (decide (ys.length ≤ xs.length ∧ xs.take ys.length = ys)) ∧ Ext w w') := by
  have hX := Ext.refl w
  refine enter 20 _ Try.func30 rfl rfl (Nat.le_of_ble_eq_true rfl) rfl ?_
  refine c_seq ?_
  refine r_plain ?_
  refine p1 (x_assign (by conv => lhs; whnf)) ?_
  refine r_nil ?_
  refine t_n ?_
  refine c_seq ?_
  have hlen := hl.len
  have hcap := hl.cap
  have hrl := hr.len
  refine r_still mixed (by kernel_rfl) ?_
  intro w1 hE1
  have hX := hX.ext hE1
  refine s1 (x_move (by conv => lhs; whnf)) ?_
  refine s1 (x_len_slice u31 rfl) ?_
  refine s1 (x_move (by conv => lhs; whnf)) ?_
  refine s1 (x_len_slice u31 rfl) ?_
  refine s1 (x_geq rfl rfl) ?_
  refine s1b (x_move (by conv => lhs; whnf)) (fun hb1_5 => ?_) (fun hb1_5 => ?_)
  · try simp only [decide_eq_true_eq, decide_eq_false_iff_not, Bool.not_eq_true, Bool.not_eq_false, Bool.not_eq_eq_eq_not, Bool.not_true, Bool.not_false, Int.not_lt, Int.not_le] at hb1_5
    refine sg1 10 rfl rfl (x_move (by conv => lhs; whnf)) ?_
    refine sg1 10 rfl rfl (x_move (by conv => lhs; whnf)) ?_
    refine sg1 10 rfl rfl (x_len_slice u31 rfl) ?_
    refine sg1 10 rfl rfl (x_slice_hN u31 sz5 rfl rfl (by omega)) ?_
    refine sg1 10 rfl rfl (x_bytes_str u31 u5 u9 rfl ((hl.ext hX).take m (by omega))) ?_
    refine sg1 10 rfl rfl (x_move (by conv => lhs; whnf)) ?_
    refine sg1 10 rfl rfl (x_bytes_str u31 u5 u9 rfl (hr.ext hX)) ?_
    refine sg1 10 rfl rfl (x_eql_str rfl rfl) ?_
    refine s1 (x_pick_t rfl (by conv => lhs; whnf)) ?_
    refine s1 (x_assign (by conv => lhs; whnf)) ?_
    refine s_nil ?_
    refine t_n ?_
    refine c_ret ?_
    refine end1 rfl (by conv => lhs; whnf) ?_
    first
      | exact ⟨congrArg Value.bool (decide_eq_decide.2 (by rw [toStr_inj, hrl]; exact ⟨fun h => ⟨by omega, h⟩, fun h => h.2⟩)), hX⟩
      | exact ⟨congrArg Value.bool (decide_eq_false (fun h => by have := h.1; omega)).symm, hX⟩
  · try simp only [decide_eq_true_eq, decide_eq_false_iff_not, Bool.not_eq_true, Bool.not_eq_false, Bool.not_eq_eq_eq_not, Bool.not_true, Bool.not_false, Int.not_lt, Int.not_le] at hb1_5
    refine sg0 10 rfl (by first | exact .inl rfl | exact .inr rfl) ?_
    refine sg0 10 rfl (by first | exact .inl rfl | exact .inr rfl) ?_
    refine sg0 10 rfl (by first | exact .inl rfl | exact .inr rfl) ?_
    refine sg0 10 rfl (by first | exact .inl rfl | exact .inr rfl) ?_
    refine sg0 10 rfl (by first | exact .inl rfl | exact .inr rfl) ?_
    refine sg0 10 rfl (by first | exact .inl rfl | exact .inr rfl) ?_
    refine sg0 10 rfl (by first | exact .inl rfl | exact .inr rfl) ?_
    refine sg0 10 rfl (by first | exact .inl rfl | exact .inr rfl) ?_
    refine s1 (x_pick_f rfl (by conv => lhs; whnf)) ?_
    refine s1 (x_assign (by conv => lhs; whnf)) ?_
    refine s_nil ?_
    refine t_n ?_
    refine c_ret ?_
    refine end1 rfl (by conv => lhs; whnf) ?_
    first
      | exact ⟨congrArg Value.bool (decide_eq_decide.2 (by rw [toStr_inj, hrl]; exact ⟨fun h => ⟨by omega, h⟩, fun h => h.2⟩)), hX⟩
      | exact ⟨congrArg Value.bool (decide_eq_false (fun h => by have := h.1; omega)).symm, hX⟩
theorem law_DiskSafe (acts : List DAct) (e B : Nat) (p : Option Addr) (n c : Nat) (xs0 xs1 st : List UInt8) (B1 B2 B3 : Nat) (p0 p1_ ps : Option Addr) (n0 c0 n1_ c1_ ns cs : Nat) (w : World) (hA : Sl kDA e B w p n c acts) (hBB : B ≤ w.heap.size) (hs : n ≤ 4611686018427387000) (h0 : Lo B1 w p0 n0 c0 xs0) (h1 : Lo B2 w p1_ n1_ c1_ xs1) (hS : Lo B3 w ps ns cs st) (hB3 : B3 ≤ w.heap.size) :
    Ret Try.prog 5 [.slice p n c, .agg #[.slice p0 n0 c0, .slice p1_ n1_ c1_], .slice ps ns cs] w (fun v w' => v = .bool true ∧ Ext w w') := by
  have hX := Ext.refl w
  refine enter 127 _ Try.func5 rfl rfl (Nat.le_of_ble_eq_true rfl) rfl ?_
  refine c_seq ?_
  refine r_plain ?_
  refine o_boxA (by conv => lhs; whnf) ?_
  intro w1 g4 hN4
  have hE1 := hN4.ext
  have hX := hX.ext hE1
  have hB4 := hN4.blk
  refine p1 (x_assign (by conv => lhs; whnf)) ?_
  refine r_nil ?_
  refine t_n ?_
  refine c_seq ?_
  refine r_plain ?_
  refine p1 (x_move (by conv => lhs; whnf)) ?_
  have hXs2 := hX.size
  refine o_call Try.func27 fn27 fb27 (disk_played 1048576 acts _ _ _ _ _ _ (hA.ext hX) (Nat.le_trans hBB hXs2) hs) rfl ?_
  rintro v2 w2 ⟨⟨g, rfl, hD0⟩, hE2⟩
  have hX := hX.ext hE2
  have hD : Dsk (since w) w2 g (playD (newD 1048576) acts) := hD0.mono (fun k _ h => Nat.le_trans hXs2 h)
  have hG := good_play (most := 1048576) acts _ 0 (good_new 1048576) (fun a ha => da_bound hA a ha)
  rw [Nat.zero_add, hA.len] at hG
  have hmo := play_most acts (newD 1048576)
  obtain ⟨D, hDe⟩ : ∃ D, D = playD (newD 1048576) acts := ⟨_, rfl⟩
  rw [← hDe] at hD hG hmo
  have hB4 := hB4.ext hE2
  have hmm : D.most = 1048576 := hmo.trans rfl
  skip
  refine p1 (x_assign (by conv => lhs; whnf)) ?_
  refine r_nil ?_
  refine t_n ?_
  refine c_seq ?_
  refine r_plain ?_
  refine p1 (x_move (by conv => lhs; whnf)) ?_
  have hXs3 := hX.size
  refine o_call Try.func26 fn26 fb26 (disk_Start g (since w) D _ hD hG.ok [] none 0 0 (Out.nil _ _)) rfl ?_
  rintro v3 w3 ⟨hD1, hM2⟩
  have hD : Dsk (since w) w3 g (startD D []) := hD1.all (since_le w) hXs3
  have hX := hX.modS hM2 (since_le w)
  have hB4 := hB4.modS hM2 (.inr (by decide))
  have hU2 := up_start hG []
  rw [hmm] at hU2
  obtain ⟨D2, heD2⟩ : ∃ x, x = startD D [] := ⟨_, rfl⟩
  rw [← heD2] at hU2 hD
  skip
  refine r_nil ?_
  refine t_n ?_
  refine c_seq ?_
  refine r_plain ?_
  refine p1 (x_move (by conv => lhs; whnf)) ?_
  have hXs4 := hX.size
  have hus := hU2.good.steps
  have hul := hU2.left
  refine o_call Try.func20 fn20 fb20 (disk_Remove g (since w) D2 _ hD hU2.good.ok (by omega) (by omega) kZ (by decide)) rfl ?_
  rintro v4 w4 ⟨rfl, hD1, hM2⟩
  have hD : Dsk (since w) w4 g (removeD D2 kZ).1 := hD1.all (since_le w) hXs4
  have hX := hX.modS hM2 (since_le w)
  have hB4 := hB4.modS hM2 (.inr (by decide))
  obtain ⟨hU3, hz3⟩ := up_remove hU2 named_z
  obtain ⟨D3, heD3⟩ : ∃ x, x = (removeD D2 kZ).1 := ⟨_, rfl⟩
  rw [← heD3] at hU3 hz3 hD
  skip
  refine r_nil ?_
  refine t_n ?_
  refine c_seq ?_
  refine c_seq ?_
  refine r_plain ?_
  refine p1 (x_move (by conv => lhs; whnf)) ?_
  have hXs5 := hX.size
  have hus := hU3.good.steps
  have hul := hU3.left
  refine o_call Try.func17 fn17 fb17 (disk_Create g (since w) D3 _ hD hU3.good.ok (by omega) (by omega) kZ (by decide)) rfl ?_
  rintro v5 w5 ⟨rfl, hD1, hM2⟩
  have hD : Dsk (since w) w5 g (createD D3 kZ).1 := hD1.all (since_le w) hXs5
  have hX := hX.modS hM2 (since_le w)
  have hB4 := hB4.modS hM2 (.inr (by decide))
  have hC := up_create hU3 named_z hz3
  skip
  refine p1 (x_neq rfl rfl) ?_
  refine p1b (x_move (by conv => lhs; whnf)) (fun hb4_3 => ?_) (fun hb4_3 => ?_)
  · try simp only [decide_eq_true_eq, decide_eq_false_iff_not, Bool.not_eq_true, Bool.not_eq_false, Bool.not_eq_eq_eq_not, Bool.not_true, Bool.not_false, Int.not_lt, Int.not_le] at hb4_3
    obtain ⟨h4e, h4l⟩ := hC.1 hb4_3
    rw [h4e] at hD
    refine g0 20 rfl (by first | exact .inl rfl | exact .inr rfl) ?_
    refine g0 20 rfl (by first | exact .inl rfl | exact .inr rfl) ?_
    refine g0 20 rfl (by first | exact .inl rfl | exact .inr rfl) ?_
    refine g0 20 rfl (by first | exact .inl rfl | exact .inr rfl) ?_
    refine g0 20 rfl (by first | exact .inl rfl | exact .inr rfl) ?_
    refine p1 (x_pick_t rfl (by conv => lhs; whnf)) ?_
    refine r_nil ?_
    refine t_n ?_
    refine c_t rfl ?_
    first
      | (obtain ⟨h5e, h5l⟩ := hA4.1 hc26; rw [h5e] at hD)
      | skip
    refine c_seq ?_
    refine r_plain ?_
    refine p1 (x_move (by conv => lhs; whnf)) ?_
    refine o_call Try.func28 fn28 fb28 (disk_List g (since w) _ _ hD (by first | exact hU4.good.ok | exact hU3.good.ok)) rfl ?_
    rintro v6 w6 ⟨⟨qn, cn, rfl, hN⟩, hE6⟩
    have hX := hX.ext hE6
    have hD := hD.ext hE6
    have hB4 := hB4.ext hE6
    refine p1 (x_len_slice u51 rfl) ?_
    refine p1 (x_geq rfl rfl) ?_
    refine p1b (x_move (by conv => lhs; whnf)) (fun hb5_4 => ?_) (fun hb5_4 => ?_)
    · try simp only [decide_eq_true_eq, decide_eq_false_iff_not, Bool.not_eq_true, Bool.not_eq_false, Bool.not_eq_eq_eq_not, Bool.not_true, Bool.not_false, Int.not_lt, Int.not_le] at hb5_4
      refine g0 31 rfl (by first | exact .inl rfl | exact .inr rfl) ?_
      refine g0 31 rfl (by first | exact .inl rfl | exact .inr rfl) ?_
      refine g0 31 rfl (by first | exact .inl rfl | exact .inr rfl) ?_
      refine g0 31 rfl (by first | exact .inl rfl | exact .inr rfl) ?_
      refine p1 (x_pick_t rfl (by conv => lhs; whnf)) ?_
      refine p1 (x_move (by conv => lhs; whnf)) ?_
      refine g0 37 rfl (by first | exact .inl rfl | exact .inr rfl) ?_
      refine g0 37 rfl (by first | exact .inl rfl | exact .inr rfl) ?_
      refine g0 37 rfl (by first | exact .inl rfl | exact .inr rfl) ?_
      refine p1 (x_pick_t rfl (by conv => lhs; whnf)) ?_
      refine p1 (x_move (by conv => lhs; whnf)) ?_
      refine g_drop 42 rfl rfl ?_
      refine o_call Try.func16 fn16 fb16 (disk_awake _) rfl ?_
      rintro v7 w7 ⟨rfl, hE7⟩
      have hX := hX.ext hE7
      have hD := hD.ext hE7
      have hB4 := hB4.ext hE7
      refine p1 (x_pick_t rfl (by conv => lhs; whnf)) ?_
      refine p1 (x_assign (by conv => lhs; whnf)) ?_
      refine r_nil ?_
      refine t_n ?_
      refine c_ret ?_
      refine t_r ?_
      refine end1 rfl (by conv => lhs; whnf) ?_
      first
        | exact ⟨rfl, hX⟩
        | (exfalso; have hl0 := h0.len; have hl1 := h1.len; omega)
    · try simp only [decide_eq_true_eq, decide_eq_false_iff_not, Bool.not_eq_true, Bool.not_eq_false, Bool.not_eq_eq_eq_not, Bool.not_true, Bool.not_false, Int.not_lt, Int.not_le] at hb5_4
      refine g1 31 rfl rfl (x_ixa u49 sz31 rfl rfl (by omega) (by omega)) ?_
      refine g1 31 rfl rfl (x_load1 un31 rfl (hB4.cell (rfl))) ?_
      refine g1 31 rfl rfl (x_len_slice u31 rfl) ?_
      refine g1 31 rfl rfl (x_gtr rfl rfl) ?_
      refine p1 (x_pick_f rfl (by conv => lhs; whnf)) ?_
      refine p1b (x_move (by conv => lhs; whnf)) (fun hb5_10 => ?_) (fun hb5_10 => ?_)
      · try simp only [decide_eq_true_eq, decide_eq_false_iff_not, Bool.not_eq_true, Bool.not_eq_false, Bool.not_eq_eq_eq_not, Bool.not_true, Bool.not_false, Int.not_lt, Int.not_le] at hb5_10
        refine g0 37 rfl (by first | exact .inl rfl | exact .inr rfl) ?_
        refine g0 37 rfl (by first | exact .inl rfl | exact .inr rfl) ?_
        refine g0 37 rfl (by first | exact .inl rfl | exact .inr rfl) ?_
        refine p1 (x_pick_t rfl (by conv => lhs; whnf)) ?_
        refine p1 (x_move (by conv => lhs; whnf)) ?_
        refine g_drop 42 rfl rfl ?_
        refine o_call Try.func16 fn16 fb16 (disk_awake _) rfl ?_
        rintro v8 w8 ⟨rfl, hE8⟩
        have hX := hX.ext hE8
        have hD := hD.ext hE8
        have hB4 := hB4.ext hE8
        refine p1 (x_pick_t rfl (by conv => lhs; whnf)) ?_
        refine p1 (x_assign (by conv => lhs; whnf)) ?_
        refine r_nil ?_
        refine t_n ?_
        refine c_ret ?_
        refine t_r ?_
        refine end1 rfl (by conv => lhs; whnf) ?_
        first
          | exact ⟨rfl, hX⟩
          | (exfalso; have hl0 := h0.len; have hl1 := h1.len; omega)
      · try simp only [decide_eq_true_eq, decide_eq_false_iff_not, Bool.not_eq_true, Bool.not_eq_false, Bool.not_eq_eq_eq_not, Bool.not_true, Bool.not_false, Int.not_lt, Int.not_le] at hb5_10
        refine g1 37 rfl rfl (x_move (by conv => lhs; whnf)) ?_
        refine g_drop 37 rfl rfl ?_
        refine o_call Try.func29 fn29 fb29 (disk_Used g (since w) _ _ hD) rfl ?_
        rintro v9 w9 ⟨rfl, hE9⟩
        have hX := hX.ext hE9
        have hD := hD.ext hE9
        have hB4 := hB4.ext hE9
        refine g1 37 rfl rfl (x_gtr rfl rfl) ?_
        refine p1 (x_pick_f rfl (by conv => lhs; whnf)) ?_
        refine p1b (x_move (by conv => lhs; whnf)) (fun hb5_15 => ?_) (fun hb5_15 => ?_)
        · try simp only [decide_eq_true_eq, decide_eq_false_iff_not, Bool.not_eq_true, Bool.not_eq_false, Bool.not_eq_eq_eq_not, Bool.not_true, Bool.not_false, Int.not_lt, Int.not_le] at hb5_15
          refine g_drop 42 rfl rfl ?_
          refine o_call Try.func16 fn16 fb16 (disk_awake _) rfl ?_
          rintro v10 w10 ⟨rfl, hE10⟩
          have hX := hX.ext hE10
          have hD := hD.ext hE10
          have hB4 := hB4.ext hE10
          refine p1 (x_pick_t rfl (by conv => lhs; whnf)) ?_
          refine p1 (x_assign (by conv => lhs; whnf)) ?_
          refine r_nil ?_
          refine t_n ?_
          refine c_ret ?_
          refine t_r ?_
          refine end1 rfl (by conv => lhs; whnf) ?_
          first
            | exact ⟨rfl, hX⟩
            | (exfalso; have hl0 := h0.len; have hl1 := h1.len; omega)
        · try simp only [decide_eq_true_eq, decide_eq_false_iff_not, Bool.not_eq_true, Bool.not_eq_false, Bool.not_eq_eq_eq_not, Bool.not_true, Bool.not_false, Int.not_lt, Int.not_le] at hb5_15
          refine g0 42 rfl (by first | exact .inl rfl | exact .inr rfl) ?_
          refine p1 (x_pick_f rfl (by conv => lhs; whnf)) ?_
          refine p1 (x_assign (by conv => lhs; whnf)) ?_
          refine r_nil ?_
          refine t_n ?_
          refine c_ret ?_
          refine t_r ?_
          refine end1 rfl (by conv => lhs; whnf) ?_
          first
            | exact ⟨rfl, hX⟩
            | (exfalso; have hl0 := h0.len; have hl1 := h1.len; omega)
  · try simp only [decide_eq_true_eq, decide_eq_false_iff_not, Bool.not_eq_true, Bool.not_eq_false, Bool.not_eq_eq_eq_not, Bool.not_true, Bool.not_false, Int.not_lt, Int.not_le] at hb4_3
    obtain ⟨hU4, hz4⟩ := hC.2 (by omega)
    obtain ⟨D4, heD4⟩ : ∃ x, x = (createD D3 kZ).1 := ⟨_, rfl⟩
    rw [← heD4] at hU4 hz4 hD
    
    refine g1 20 rfl rfl (x_move (by conv => lhs; whnf)) ?_
    refine g1 20 rfl rfl (x_ixa u49 sz31 rfl rfl (by omega) (by omega)) ?_
    refine g1 20 rfl rfl (x_load1 un31 rfl (hB4.cell (rfl))) ?_
    refine g_drop 20 rfl rfl ?_
    have hXs11 := hX.size
    have hus := hU4.good.steps
    have hul := hU4.left
    refine o_call Try.func19 fn19 fb19 (disk_Append g (since w) D4 _ hD hU4.good.ok (by omega) (by omega) kZ (by decide) _ _ _ _ _ xs0 ((h0.keep (hX.same _ [])).sl 5)) rfl ?_
    rintro v11 w11 ⟨rfl, hD1, hM2⟩
    have hD : Dsk (since w) w11 g (appendD D4 kZ xs0).1 := hD1.all (since_le w) hXs11
    have hX := hX.modS hM2 (since_le w)
    have hB4 := hB4.modS hM2 (.inr (by decide))
    have hA4 := up_append hU4 named_z hz4 xs0
    skip
    refine g1 20 rfl rfl (x_neq rfl rfl) ?_
    refine p1 (x_pick_f rfl (by conv => lhs; whnf)) ?_
    refine r_nil ?_
    refine t_n ?_
    first | refine c_dec rfl (fun hc26 => ?_) (fun hc26 => ?_) | refine c_if rfl (fun hc26 => ?_) (fun hc26 => ?_)
    · try simp only [decide_eq_true_eq, decide_eq_false_iff_not, Bool.not_eq_true, Bool.not_eq_false, Bool.not_eq_eq_eq_not, Bool.not_true, Bool.not_false, Int.not_lt, Int.not_le] at hc26
      first
        | (obtain ⟨h5e, h5l⟩ := hA4.1 hc26; rw [h5e] at hD)
        | skip
      refine c_seq ?_
      refine r_plain ?_
      refine p1 (x_move (by conv => lhs; whnf)) ?_
      refine o_call Try.func28 fn28 fb28 (disk_List g (since w) _ _ hD (by first | exact hU4.good.ok | exact hU3.good.ok)) rfl ?_
      rintro v12 w12 ⟨⟨qn, cn, rfl, hN⟩, hE12⟩
      have hX := hX.ext hE12
      have hD := hD.ext hE12
      have hB4 := hB4.ext hE12
      refine p1 (x_len_slice u51 rfl) ?_
      refine p1 (x_geq rfl rfl) ?_
      refine p1b (x_move (by conv => lhs; whnf)) (fun hb5_4 => ?_) (fun hb5_4 => ?_)
      · try simp only [decide_eq_true_eq, decide_eq_false_iff_not, Bool.not_eq_true, Bool.not_eq_false, Bool.not_eq_eq_eq_not, Bool.not_true, Bool.not_false, Int.not_lt, Int.not_le] at hb5_4
        refine g0 31 rfl (by first | exact .inl rfl | exact .inr rfl) ?_
        refine g0 31 rfl (by first | exact .inl rfl | exact .inr rfl) ?_
        refine g0 31 rfl (by first | exact .inl rfl | exact .inr rfl) ?_
        refine g0 31 rfl (by first | exact .inl rfl | exact .inr rfl) ?_
        refine p1 (x_pick_t rfl (by conv => lhs; whnf)) ?_
        refine p1 (x_move (by conv => lhs; whnf)) ?_
        refine g0 37 rfl (by first | exact .inl rfl | exact .inr rfl) ?_
        refine g0 37 rfl (by first | exact .inl rfl | exact .inr rfl) ?_
        refine g0 37 rfl (by first | exact .inl rfl | exact .inr rfl) ?_
        refine p1 (x_pick_t rfl (by conv => lhs; whnf)) ?_
        refine p1 (x_move (by conv => lhs; whnf)) ?_
        refine g_drop 42 rfl rfl ?_
        refine o_call Try.func16 fn16 fb16 (disk_awake _) rfl ?_
        rintro v13 w13 ⟨rfl, hE13⟩
        have hX := hX.ext hE13
        have hD := hD.ext hE13
        have hB4 := hB4.ext hE13
        refine p1 (x_pick_t rfl (by conv => lhs; whnf)) ?_
        refine p1 (x_assign (by conv => lhs; whnf)) ?_
        refine r_nil ?_
        refine t_n ?_
        refine c_ret ?_
        refine t_r ?_
        refine end1 rfl (by conv => lhs; whnf) ?_
        first
          | exact ⟨rfl, hX⟩
          | (exfalso; have hl0 := h0.len; have hl1 := h1.len; omega)
      · try simp only [decide_eq_true_eq, decide_eq_false_iff_not, Bool.not_eq_true, Bool.not_eq_false, Bool.not_eq_eq_eq_not, Bool.not_true, Bool.not_false, Int.not_lt, Int.not_le] at hb5_4
        refine g1 31 rfl rfl (x_ixa u49 sz31 rfl rfl (by omega) (by omega)) ?_
        refine g1 31 rfl rfl (x_load1 un31 rfl (hB4.cell (rfl))) ?_
        refine g1 31 rfl rfl (x_len_slice u31 rfl) ?_
        refine g1 31 rfl rfl (x_gtr rfl rfl) ?_
        refine p1 (x_pick_f rfl (by conv => lhs; whnf)) ?_
        refine p1b (x_move (by conv => lhs; whnf)) (fun hb5_10 => ?_) (fun hb5_10 => ?_)
        · try simp only [decide_eq_true_eq, decide_eq_false_iff_not, Bool.not_eq_true, Bool.not_eq_false, Bool.not_eq_eq_eq_not, Bool.not_true, Bool.not_false, Int.not_lt, Int.not_le] at hb5_10
          refine g0 37 rfl (by first | exact .inl rfl | exact .inr rfl) ?_
          refine g0 37 rfl (by first | exact .inl rfl | exact .inr rfl) ?_
          refine g0 37 rfl (by first | exact .inl rfl | exact .inr rfl) ?_
          refine p1 (x_pick_t rfl (by conv => lhs; whnf)) ?_
          refine p1 (x_move (by conv => lhs; whnf)) ?_
          refine g_drop 42 rfl rfl ?_
          refine o_call Try.func16 fn16 fb16 (disk_awake _) rfl ?_
          rintro v14 w14 ⟨rfl, hE14⟩
          have hX := hX.ext hE14
          have hD := hD.ext hE14
          have hB4 := hB4.ext hE14
          refine p1 (x_pick_t rfl (by conv => lhs; whnf)) ?_
          refine p1 (x_assign (by conv => lhs; whnf)) ?_
          refine r_nil ?_
          refine t_n ?_
          refine c_ret ?_
          refine t_r ?_
          refine end1 rfl (by conv => lhs; whnf) ?_
          first
            | exact ⟨rfl, hX⟩
            | (exfalso; have hl0 := h0.len; have hl1 := h1.len; omega)
        · try simp only [decide_eq_true_eq, decide_eq_false_iff_not, Bool.not_eq_true, Bool.not_eq_false, Bool.not_eq_eq_eq_not, Bool.not_true, Bool.not_false, Int.not_lt, Int.not_le] at hb5_10
          refine g1 37 rfl rfl (x_move (by conv => lhs; whnf)) ?_
          refine g_drop 37 rfl rfl ?_
          refine o_call Try.func29 fn29 fb29 (disk_Used g (since w) _ _ hD) rfl ?_
          rintro v15 w15 ⟨rfl, hE15⟩
          have hX := hX.ext hE15
          have hD := hD.ext hE15
          have hB4 := hB4.ext hE15
          refine g1 37 rfl rfl (x_gtr rfl rfl) ?_
          refine p1 (x_pick_f rfl (by conv => lhs; whnf)) ?_
          refine p1b (x_move (by conv => lhs; whnf)) (fun hb5_15 => ?_) (fun hb5_15 => ?_)
          · try simp only [decide_eq_true_eq, decide_eq_false_iff_not, Bool.not_eq_true, Bool.not_eq_false, Bool.not_eq_eq_eq_not, Bool.not_true, Bool.not_false, Int.not_lt, Int.not_le] at hb5_15
            refine g_drop 42 rfl rfl ?_
            refine o_call Try.func16 fn16 fb16 (disk_awake _) rfl ?_
            rintro v16 w16 ⟨rfl, hE16⟩
            have hX := hX.ext hE16
            have hD := hD.ext hE16
            have hB4 := hB4.ext hE16
            refine p1 (x_pick_t rfl (by conv => lhs; whnf)) ?_
            refine p1 (x_assign (by conv => lhs; whnf)) ?_
            refine r_nil ?_
            refine t_n ?_
            refine c_ret ?_
            refine t_r ?_
            refine end1 rfl (by conv => lhs; whnf) ?_
            first
              | exact ⟨rfl, hX⟩
              | (exfalso; have hl0 := h0.len; have hl1 := h1.len; omega)
          · try simp only [decide_eq_true_eq, decide_eq_false_iff_not, Bool.not_eq_true, Bool.not_eq_false, Bool.not_eq_eq_eq_not, Bool.not_true, Bool.not_false, Int.not_lt, Int.not_le] at hb5_15
            refine g0 42 rfl (by first | exact .inl rfl | exact .inr rfl) ?_
            refine p1 (x_pick_f rfl (by conv => lhs; whnf)) ?_
            refine p1 (x_assign (by conv => lhs; whnf)) ?_
            refine r_nil ?_
            refine t_n ?_
            refine c_ret ?_
            refine t_r ?_
            refine end1 rfl (by conv => lhs; whnf) ?_
            first
              | exact ⟨rfl, hX⟩
              | (exfalso; have hl0 := h0.len; have hl1 := h1.len; omega)
    · try simp only [decide_eq_true_eq, decide_eq_false_iff_not, Bool.not_eq_true, Bool.not_eq_false, Bool.not_eq_eq_eq_not, Bool.not_true, Bool.not_false, Int.not_lt, Int.not_le] at hc26
      obtain ⟨hU5, hz5⟩ := hA4.2 (by omega)
      obtain ⟨D5, heD5⟩ : ∃ x, x = (appendD D4 kZ xs0).1 := ⟨_, rfl⟩
      rw [← heD5] at hU5 hz5 hD
      have hz5 : ascF D5.l kZ = some (xs0, 0) := hz5
      refine c_skip ?_
      refine t_n ?_
      refine c_seq ?_
      refine c_seq ?_
      refine r_plain ?_
      refine p1 (x_move (by conv => lhs; whnf)) ?_
      have hXs17 := hX.size
      have hus := hU5.good.steps
      have hul := hU5.left
      refine o_call Try.func23 fn23 fb23 (disk_Sync g (since w) D5 _ hD hU5.good.ok (by omega) (by omega) kZ (by decide)) rfl ?_
      rintro v17 w17 ⟨rfl, hD1, hM2⟩
      have hD : Dsk (since w) w17 g (syncD D5 kZ).1 := hD1.all (since_le w) hXs17
      have hX := hX.modS hM2 (since_le w)
      have hB4 := hB4.modS hM2 (.inr (by decide))
      obtain ⟨hsy, hU6, hz6⟩ := up_sync hU5 named_z hz5
      obtain ⟨D6, heD6⟩ : ∃ x, x = (syncD D5 kZ).1 := ⟨_, rfl⟩
      rw [← heD6] at hU6 hz6 hD
      skip
      refine p1 ((x_neq rfl rfl).cast (congrArg _ (decide_eq_false (fun h => h hsy)))) ?_
      refine p1 (x_move (by conv => lhs; whnf)) ?_
      refine g1 48 rfl rfl (x_move (by conv => lhs; whnf)) ?_
      refine g1 48 rfl rfl (x_ixa u49 sz31 rfl rfl (by omega) (by omega)) ?_
      refine g1 48 rfl rfl (x_load1 un31 rfl (hB4.cell (rfl))) ?_
      refine g_drop 48 rfl rfl ?_
      have hXs18 := hX.size
      have hus := hU6.good.steps
      have hul := hU6.left
      refine o_call Try.func19 fn19 fb19 (disk_Append g (since w) D6 _ hD hU6.good.ok (by omega) (by omega) kZ (by decide) _ _ _ _ _ xs1 ((h1.keep (hX.same _ [])).sl 5)) rfl ?_
      rintro v18 w18 ⟨rfl, hD1, hM2⟩
      have hD : Dsk (since w) w18 g (appendD D6 kZ xs1).1 := hD1.all (since_le w) hXs18
      have hX := hX.modS hM2 (since_le w)
      have hB4 := hB4.modS hM2 (.inr (by decide))
      have hA6 := up_append hU6 named_z hz6 xs1
      skip
      refine g1 48 rfl rfl (x_neq rfl rfl) ?_
      refine p1 (x_pick_f rfl (by conv => lhs; whnf)) ?_
      refine r_nil ?_
      refine t_n ?_
      first | refine c_dec rfl (fun hc54 => ?_) (fun hc54 => ?_) | refine c_if rfl (fun hc54 => ?_) (fun hc54 => ?_)
      · try simp only [decide_eq_true_eq, decide_eq_false_iff_not, Bool.not_eq_true, Bool.not_eq_false, Bool.not_eq_eq_eq_not, Bool.not_true, Bool.not_false, Int.not_lt, Int.not_le] at hc54
        obtain ⟨h7e, h7l⟩ := hA6.1 hc54
        rw [h7e] at hD
        refine c_seq ?_
        refine r_plain ?_
        refine p1 (x_ixa u49 sz31 rfl rfl (by omega) (by omega)) ?_
        refine p1 (x_load1 un31 rfl (hB4.cell (rfl))) ?_
        refine p1 (x_len_slice u31 rfl) ?_
        refine p1 (x_gtr rfl rfl) ?_
        refine p1b (x_move (by conv => lhs; whnf)) (fun hb7_4 => ?_) (fun hb7_4 => ?_)
        · try simp only [decide_eq_true_eq, decide_eq_false_iff_not, Bool.not_eq_true, Bool.not_eq_false, Bool.not_eq_eq_eq_not, Bool.not_true, Bool.not_false, Int.not_lt, Int.not_le] at hb7_4
          refine g0 59 rfl (by first | exact .inl rfl | exact .inr rfl) ?_
          refine g0 59 rfl (by first | exact .inl rfl | exact .inr rfl) ?_
          refine g0 59 rfl (by first | exact .inl rfl | exact .inr rfl) ?_
          refine p1 (x_pick_t rfl (by conv => lhs; whnf)) ?_
          refine p1 (x_move (by conv => lhs; whnf)) ?_
          refine g_drop 64 rfl rfl ?_
          refine o_call Try.func16 fn16 fb16 (disk_awake _) rfl ?_
          rintro v19 w19 ⟨rfl, hE19⟩
          have hX := hX.ext hE19
          have hD := hD.ext hE19
          have hB4 := hB4.ext hE19
          refine p1 (x_pick_t rfl (by conv => lhs; whnf)) ?_
          refine p1 (x_assign (by conv => lhs; whnf)) ?_
          refine r_nil ?_
          refine t_n ?_
          refine c_ret ?_
          refine t_r ?_
          refine end1 rfl (by conv => lhs; whnf) ?_
          first
            | exact ⟨rfl, hX⟩
            | (exfalso; have hl0 := h0.len; have hl1 := h1.len; omega)
        · try simp only [decide_eq_true_eq, decide_eq_false_iff_not, Bool.not_eq_true, Bool.not_eq_false, Bool.not_eq_eq_eq_not, Bool.not_true, Bool.not_false, Int.not_lt, Int.not_le] at hb7_4
          refine g1 59 rfl rfl (x_move (by conv => lhs; whnf)) ?_
          refine g_drop 59 rfl rfl ?_
          refine o_call Try.func29 fn29 fb29 (disk_Used g (since w) _ _ hD) rfl ?_
          rintro v20 w20 ⟨rfl, hE20⟩
          have hX := hX.ext hE20
          have hD := hD.ext hE20
          have hB4 := hB4.ext hE20
          refine g1 59 rfl rfl (x_gtr rfl rfl) ?_
          refine p1 (x_pick_f rfl (by conv => lhs; whnf)) ?_
          refine p1b (x_move (by conv => lhs; whnf)) (fun hb7_9 => ?_) (fun hb7_9 => ?_)
          · try simp only [decide_eq_true_eq, decide_eq_false_iff_not, Bool.not_eq_true, Bool.not_eq_false, Bool.not_eq_eq_eq_not, Bool.not_true, Bool.not_false, Int.not_lt, Int.not_le] at hb7_9
            refine g_drop 64 rfl rfl ?_
            refine o_call Try.func16 fn16 fb16 (disk_awake _) rfl ?_
            rintro v21 w21 ⟨rfl, hE21⟩
            have hX := hX.ext hE21
            have hD := hD.ext hE21
            have hB4 := hB4.ext hE21
            refine p1 (x_pick_t rfl (by conv => lhs; whnf)) ?_
            refine p1 (x_assign (by conv => lhs; whnf)) ?_
            refine r_nil ?_
            refine t_n ?_
            refine c_ret ?_
            refine t_r ?_
            refine end1 rfl (by conv => lhs; whnf) ?_
            first
              | exact ⟨rfl, hX⟩
              | (exfalso; have hl0 := h0.len; have hl1 := h1.len; omega)
          · try simp only [decide_eq_true_eq, decide_eq_false_iff_not, Bool.not_eq_true, Bool.not_eq_false, Bool.not_eq_eq_eq_not, Bool.not_true, Bool.not_false, Int.not_lt, Int.not_le] at hb7_9
            refine g0 64 rfl (by first | exact .inl rfl | exact .inr rfl) ?_
            refine p1 (x_pick_f rfl (by conv => lhs; whnf)) ?_
            refine p1 (x_assign (by conv => lhs; whnf)) ?_
            refine r_nil ?_
            refine t_n ?_
            refine c_ret ?_
            refine t_r ?_
            refine end1 rfl (by conv => lhs; whnf) ?_
            first
              | exact ⟨rfl, hX⟩
              | (exfalso; have hl0 := h0.len; have hl1 := h1.len; omega)
      · try simp only [decide_eq_true_eq, decide_eq_false_iff_not, Bool.not_eq_true, Bool.not_eq_false, Bool.not_eq_eq_eq_not, Bool.not_true, Bool.not_false, Int.not_lt, Int.not_le] at hc54
        obtain ⟨hU7, hz7⟩ := hA6.2 (by omega)
        obtain ⟨D7, heD7⟩ : ∃ x, x = (appendD D6 kZ xs1).1 := ⟨_, rfl⟩
        rw [← heD7] at hU7 hz7 hD
        
        refine c_skip ?_
        refine t_n ?_
        refine c_seq ?_
        refine r_plain ?_
        refine p1 (x_move (by conv => lhs; whnf)) ?_
        refine p1 (x_move (by conv => lhs; whnf)) ?_
        have hXs22 := hX.size
        refine o_call Try.func26 fn26 fb26 (disk_Start g (since w) D7 _ hD hU7.good.ok st ps ns cs ((hS.keep (hX.same _ [])).out hB3)) rfl ?_
        rintro v22 w22 ⟨hD1, hM2⟩
        have hD : Dsk (since w) w22 g (startD D7 st) := hD1.all (since_le w) hXs22
        have hX := hX.modS hM2 (since_le w)
        have hB4 := hB4.modS hM2 (.inr (by decide))
        have hU8 := up_start hU7.good st
        obtain ⟨st2, hz8⟩ := asc_wake D7.l st kZ _ hz7
        have hz8 : ascF (startD D7 st).l kZ = some (wakeF (xs0 ++ xs1, xs0.length) st2) := hz8
        obtain ⟨D8, heD8⟩ : ∃ x, x = startD D7 st := ⟨_, rfl⟩
        rw [← heD8] at hU8 hz8 hD
        have hrd := up_read hU8 named_z hz8
        have sr := safe_read (a := xs0) (b := xs1) (st := st2)
        obtain ⟨got, hgot⟩ : ∃ z, z = (wakeF (xs0 ++ xs1, xs0.length) st2).1 := ⟨_, rfl⟩
        rw [← hgot] at hrd sr
        have hl0 := h0.len
        have hl1 := h1.len
        skip
        refine r_nil ?_
        refine t_n ?_
        refine c_seq ?_
        refine r_plain ?_
        refine p1 (x_move (by conv => lhs; whnf)) ?_
        refine o_call Try.func14 fn14 fb14 (disk_Read g (since w) D8 _ hD hU8.good.ok kZ (by decide)) rfl ?_
        rintro v23 w23 ⟨⟨q70, n70, c70, rfl, hO⟩, hE23⟩
        have hX := hX.ext hE23
        have hD := hD.ext hE23
        have hB4 := hB4.ext hE23
        rw [hrd] at hO
        have hgl : got.length = n70 := hO.len
        have hO := hO.sl
        have hgc := hO.cap
        have hgf := hO.fit
        refine p1 (x_move (by conv => lhs; whnf)) ?_
        refine p1 (x_extract rfl rfl) ?_
        refine p1 (x_extract rfl rfl) ?_
        refine p1 (x_assign (by conv => lhs; whnf)) ?_
        refine p1 (x_assign (by conv => lhs; whnf)) ?_
        refine r_nil ?_
        refine t_n ?_
        refine c_seq ?_
        refine c_seq ?_
        have hq0 := h0.cap
        have hq1 := h1.cap
        have hf0 := h0.fit
        have hf1 := h1.fit
        have hcut := sr.2.2.1
        have hroom7 := hU7.good.ok.room
        have hmost7 := hU7.most
        have hsz := getF_le hU7.good.ok kZ
        have hgz : (getF D7 kZ).1 = xs0 ++ xs1 := by unfold getF; rw [hz7]; rfl
        rw [hgz, List.length_append] at hsz
        have hsz := hsz.1
        refine r_plain ?_
        refine p1 (x_move (by conv => lhs; whnf)) ?_
        refine p1 ((x_neq rfl rfl).cast (congrArg _ (decide_eq_false (fun h => h (by rw [hrd]))))) ?_
        refine p1 (x_move (by conv => lhs; whnf)) ?_
        refine g1 77 rfl rfl (x_move (by conv => lhs; whnf)) ?_
        refine g1 77 rfl rfl (x_ixa u49 sz31 rfl rfl (by omega) (by omega)) ?_
        refine g1 77 rfl rfl (x_load1 un31 rfl (hB4.cell (rfl))) ?_
        refine g_drop 77 rfl rfl ?_
        refine o_call Try.func30 fn30 fb30 (Ret.known (law_begins got xs0 _ _ _ _ _ _ _ _ _ _ _ hO ((h0.keep (hX.same _ [])).sl 5)) (congrArg Value.bool (decide_eq_true ⟨sr.2.1, sr.1⟩))) rfl ?_
        rintro v24 w24 ⟨rfl, hE24⟩
        have hX := hX.ext hE24
        have hD := hD.ext hE24
        have hB4 := hB4.ext hE24
        have hO := hO.ext hE24
        refine g1 77 rfl rfl (x_not rfl) ?_
        refine p1 (x_pick_f rfl (by conv => lhs; whnf)) ?_
        refine p1 (x_move (by conv => lhs; whnf)) ?_
        refine g1 84 rfl rfl (x_move (by conv => lhs; whnf)) ?_
        refine g1 84 rfl rfl (x_len_slice u31 rfl) ?_
        refine g1 84 rfl rfl (x_ixa u49 sz31 rfl rfl (by omega) (by omega)) ?_
        refine g1 84 rfl rfl (x_load1 un31 rfl (hB4.cell (rfl))) ?_
        refine g1 84 rfl rfl (x_len_slice u31 rfl) ?_
        refine g1 84 rfl rfl (x_ixa u49 sz31 rfl rfl (by omega) (by omega)) ?_
        refine g1 84 rfl rfl (x_load1 un31 rfl (hB4.cell (rfl))) ?_
        refine g1 84 rfl rfl (x_len_slice u31 rfl) ?_
        refine g1 84 rfl rfl (x_add rfl rfl (fits_i64 (by omega) (by omega))) ?_
        refine g1 84 rfl rfl ((x_gtr rfl rfl).cast (congrArg _ (decide_eq_false (by have := sr.2.2.1; omega)))) ?_
        refine p1 (x_pick_f rfl (by conv => lhs; whnf)) ?_
        refine r_nil ?_
        refine t_n ?_
        refine c_f rfl ?_
        refine c_skip ?_
        refine t_n ?_
        refine c_seq ?_
        refine c_seq ?_
        refine r_plain ?_
        refine p1 (x_ixa u49 sz31 rfl rfl (by omega) (by omega)) ?_
        refine p1 (x_load1 un31 rfl (hB4.cell (rfl))) ?_
        refine p1 (x_len_slice u31 rfl) ?_
        refine p1 (x_assign (by conv => lhs; whnf)) ?_
        refine r_nil ?_
        refine t_n ?_
        refine c_block ?_
        have hWL0 := Ext.refl w24
        refine c_loop (ι := Nat) [6, 10, 99, 100, 101, 102, 103, 104, 105, 106, 107, 108, 109, 110, 111, 112, 113, 114, 115, 116, 117, 118, 119, 120, 121, 122, 123, 124, 125] (fun i => [(10, .int .i64 (i : Int))]) (fun i w' => Ext w24 w' ∧ (n0 ≤ i ∧ i ≤ n70)) (fun i => n70 - i) (n0) ⟨rfl, trivial⟩ ⟨Ext.refl _, ⟨Nat.le_refl _, by have := sr.2.1; omega⟩⟩ ?_
        rintro i GL0 w25 ⟨hE25, hi0, hi1⟩
        have hX := hX.ext hE25
        have hD := hD.ext hE25
        have hB4 := hB4.ext hE25
        have hO := hO.ext hE25
        have hWL0 := hE25
        refine c_seq ?_
        refine c_seq ?_
        refine r_plain ?_
        refine p1 (x_move (by conv => lhs; whnf)) ?_
        refine p1 (x_move (by conv => lhs; whnf)) ?_
        refine p1 (x_len_slice u31 rfl) ?_
        refine p1 (x_lss rfl rfl) ?_
        refine r_nil ?_
        refine t_n ?_
        first | refine c_dec rfl (fun hc102 => ?_) (fun hc102 => ?_) | refine c_if rfl (fun hc102 => ?_) (fun hc102 => ?_)
        · try simp only [decide_eq_true_eq, decide_eq_false_iff_not, Bool.not_eq_true, Bool.not_eq_false, Bool.not_eq_eq_eq_not, Bool.not_true, Bool.not_false, Int.not_lt, Int.not_le] at hc102
          refine c_skip ?_
          refine t_n ?_
          refine c_seq ?_
          refine c_block ?_
          refine c_seq ?_
          refine r_still mixed (by kernel_rfl) ?_
          intro w26 hE26
          have hX := hX.ext hE26
          have hD := hD.ext hE26
          have hB4 := hB4.ext hE26
          have hO := hO.ext hE26
          have hWL0 := hWL0.ext hE26
          refine s1 (x_move (by conv => lhs; whnf)) ?_
          refine s1 (x_move (by conv => lhs; whnf)) ?_
          refine s1 (x_ixs0 u31 sz5 rfl rfl (hO.adr kByte_pos (by omega)) (by omega)) ?_
          refine s1 (x_load1 un5 rfl (hO.byteAt _ (by omega))) ?_
          refine s1 (x_neq rfl rfl) ?_
          refine s1b (x_move (by conv => lhs; whnf)) (fun hb15_5 => ?_) (fun hb15_5 => ?_)
          · try simp only [decide_eq_true_eq, decide_eq_false_iff_not, Bool.not_eq_true, Bool.not_eq_false, Bool.not_eq_eq_eq_not, Bool.not_true, Bool.not_false, Int.not_lt, Int.not_le] at hb15_5
            refine sg1 110 rfl rfl (x_move (by conv => lhs; whnf)) ?_
            refine sg1 110 rfl rfl (x_move (by conv => lhs; whnf)) ?_
            refine sg1 110 rfl rfl (x_ixs0 u31 sz5 rfl rfl (hO.adr kByte_pos (by omega)) (by omega)) ?_
            refine sg1 110 rfl rfl (x_load1 un5 rfl (hO.byteAt _ (by omega))) ?_
            refine sg1 110 rfl rfl (x_ixa u49 sz31 rfl rfl (by omega) (by omega)) ?_
            refine sg1 110 rfl rfl (x_load1 un31 rfl (hB4.cell (rfl))) ?_
            refine sg1 110 rfl rfl (x_move (by conv => lhs; whnf)) ?_
            refine sg1 110 rfl rfl (x_ixa u49 sz31 rfl rfl (by omega) (by omega)) ?_
            refine sg1 110 rfl rfl (x_load1 un31 rfl (hB4.cell (rfl))) ?_
            refine sg1 110 rfl rfl (x_len_slice u31 rfl) ?_
            refine sg1 110 rfl rfl (x_sub rfl rfl (fits_i64 (by omega) (by omega))) ?_
            refine sg1 110 rfl rfl (x_ixs u31 sz5 rfl rfl (((h1.keep (hX.same _ [])).sl 5).adr kByte_pos (by omega)) (by omega) (by omega)) ?_
            refine sg1 110 rfl rfl (x_load1 un5 rfl (((h1.keep (hX.same _ [])).sl 5).byteAtI _ (by omega) (by omega))) ?_
            refine sg1 110 rfl rfl (x_neq rfl rfl) ?_
            refine s1 (x_pick_t rfl (by conv => lhs; whnf)) ?_
            refine s_nil ?_
            refine t_n ?_
            first | refine c_dec rfl (fun hc125 => ?_) (fun hc125 => ?_) | refine c_if rfl (fun hc125 => ?_) (fun hc125 => ?_)
            · try simp only [decide_eq_true_eq, decide_eq_false_iff_not, Bool.not_eq_true, Bool.not_eq_false, Bool.not_eq_eq_eq_not, Bool.not_true, Bool.not_false, Int.not_lt, Int.not_le] at hc125
              exfalso
              rcases sr.2.2.2 i (by omega) (by omega) with e | e
              · refine hc125 ?_
                rw [e, show ((i : Int) - (n0 : Int)).toNat = i - xs0.length from by omega]
              · exact hb15_5 (by rw [e]; rfl)
            · try simp only [decide_eq_true_eq, decide_eq_false_iff_not, Bool.not_eq_true, Bool.not_eq_false, Bool.not_eq_eq_eq_not, Bool.not_true, Bool.not_false, Int.not_lt, Int.not_le] at hc125
              refine c_skip ?_
              refine b_n ?_
              refine t_n ?_
              refine r_plain ?_
              refine p1 (x_move (by conv => lhs; whnf)) ?_
              refine p1 (x_add rfl rfl (fits_i64 (by omega) (by omega))) ?_
              refine p1 (x_assign (by conv => lhs; whnf)) ?_
              refine r_nil ?_
              refine t_n (At.mk (i + 1) (by repeat (first | exact Agr.refl _ _ | exact Agr.hav _ _ _ | refine Agr.upd rfl ?_ | refine Agr.updR rfl ?_ | refine Agr.updL ?_ _ rfl | refine Agr.hav' rfl ?_)) ⟨rfl, trivial⟩ ?_)
              exact ⟨⟨hWL0, ⟨by omega, by omega⟩⟩, by show n70 - (i + 1) < n70 - i; omega⟩
          · try simp only [decide_eq_true_eq, decide_eq_false_iff_not, Bool.not_eq_true, Bool.not_eq_false, Bool.not_eq_eq_eq_not, Bool.not_true, Bool.not_false, Int.not_lt, Int.not_le] at hb15_5
            refine sg0 110 rfl (by first | exact .inl rfl | exact .inr rfl) ?_
            refine sg0 110 rfl (by first | exact .inl rfl | exact .inr rfl) ?_
            refine sg0 110 rfl (by first | exact .inl rfl | exact .inr rfl) ?_
            refine sg0 110 rfl (by first | exact .inl rfl | exact .inr rfl) ?_
            refine sg0 110 rfl (by first | exact .inl rfl | exact .inr rfl) ?_
            refine sg0 110 rfl (by first | exact .inl rfl | exact .inr rfl) ?_
            refine sg0 110 rfl (by first | exact .inl rfl | exact .inr rfl) ?_
            refine sg0 110 rfl (by first | exact .inl rfl | exact .inr rfl) ?_
            refine sg0 110 rfl (by first | exact .inl rfl | exact .inr rfl) ?_
            refine sg0 110 rfl (by first | exact .inl rfl | exact .inr rfl) ?_
            refine sg0 110 rfl (by first | exact .inl rfl | exact .inr rfl) ?_
            refine sg0 110 rfl (by first | exact .inl rfl | exact .inr rfl) ?_
            refine sg0 110 rfl (by first | exact .inl rfl | exact .inr rfl) ?_
            refine sg0 110 rfl (by first | exact .inl rfl | exact .inr rfl) ?_
            refine s1 (x_pick_f rfl (by conv => lhs; whnf)) ?_
            refine s_nil ?_
            refine t_n ?_
            refine c_f rfl ?_
            refine c_skip ?_
            refine b_n ?_
            refine t_n ?_
            refine r_plain ?_
            refine p1 (x_move (by conv => lhs; whnf)) ?_
            refine p1 (x_add rfl rfl (fits_i64 (by omega) (by omega))) ?_
            refine p1 (x_assign (by conv => lhs; whnf)) ?_
            refine r_nil ?_
            refine t_n (At.mk (i + 1) (by repeat (first | exact Agr.refl _ _ | exact Agr.hav _ _ _ | refine Agr.upd rfl ?_ | refine Agr.updR rfl ?_ | refine Agr.updL ?_ _ rfl | refine Agr.hav' rfl ?_)) ⟨rfl, trivial⟩ ?_)
            exact ⟨⟨hWL0, ⟨by omega, by omega⟩⟩, by show n70 - (i + 1) < n70 - i; omega⟩
        · try simp only [decide_eq_true_eq, decide_eq_false_iff_not, Bool.not_eq_true, Bool.not_eq_false, Bool.not_eq_eq_eq_not, Bool.not_true, Bool.not_false, Int.not_lt, Int.not_le] at hc102
          refine c_exit ?_
          refine t_e ?_
          refine t_e ?_
          refine b_hit ?_
          refine t_n ?_
          refine c_seq ?_
          refine r_plain ?_
          refine o_call Try.func16 fn16 fb16 (disk_awake _) rfl ?_
          rintro v27 w27 ⟨rfl, hE27⟩
          have hX := hX.ext hE27
          have hD := hD.ext hE27
          have hB4 := hB4.ext hE27
          have hO := hO.ext hE27
          refine p1 (x_assign (by conv => lhs; whnf)) ?_
          refine r_nil ?_
          refine t_n ?_
          refine c_ret ?_
          refine end1 rfl (by conv => lhs; whnf) ?_
          first
            | exact ⟨rfl, hX⟩
            | (exfalso; have hl0 := h0.len; have hl1 := h1.len; omega)
end Go.Proofs.Eng
end
