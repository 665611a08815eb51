import Derived.Test.YtphmpibmogbafaaKF2
/- Merged: K8 -/
section
set_option linter.unusedVariables false
set_option linter.unusedSimpArgs false
set_option maxRecDepth 100000
set_option maxHeartbeats 4000000
namespace Go.Proofs.Eng
open Go.RowKit
open Extern.Stop (cell)
theorem law_DiskFails (u : UInt8) (b : Bool) (xs : List UInt8) (e B : Nat) (p : Option Addr) (n c : Nat) (w : World) (hl : Sl kByte e B w p n c xs) :
    Ret Try.prog 4 [.int .u8 (u.toNat : Int), .bool b, .slice p n c] w (fun v w' => v = .bool true ∧ Ext w w') := by
  have hX := Ext.refl w
  refine enter 132 _ Try.func4 rfl rfl (Nat.le_of_ble_eq_true rfl) rfl ?_
  refine c_seq ?_
  refine r_plain ?_
  refine p1 (x_assign (by conv => lhs; whnf)) ?_
  refine r_nil ?_
  refine t_n ?_
  refine c_seq ?_
  refine r_plain ?_
  have hXs1 := hX.size
  refine o_call Try.func11 fn11 fb11 (disk_New 1048576 _) rfl ?_
  rintro v1 w1 ⟨⟨g, rfl, hD0⟩, hE1⟩
  have hX := hX.ext hE1
  have hD : Dsk (since w) w1 g (newD 1048576) := hD0.all (fun _ h => h.elim) hXs1
  skip
  refine p1 (x_assign (by conv => lhs; whnf)) ?_
  refine r_nil ?_
  refine t_n ?_
  refine c_seq ?_
  refine c_seq ?_
  have hu8 := u.toNat_lt
  refine r_plain ?_
  refine p1 (x_move (by conv => lhs; whnf)) ?_
  have hXs2 := hX.size
  refine o_call Try.func17 fn17 fb17 (Ret.known (disk_Create g (since w) (newD 1048576) _ hD (newD_ok _) (by decide) (by decide) kA (by decide)) (by rw [df0] : _ = Value.int .i64 0)) rfl ?_
  rintro v2 w2 ⟨rfl, hD2, hM2⟩
  rw [df0] at hD2
  have hD : Dsk (since w) w2 g (d1) := hD2.all (since_le w) hXs2
  have hX := hX.modS hM2 (since_le w)
  skip
  refine p1 ((x_neq rfl rfl).cast (congrArg _ (decide_eq_false (by decide)))) ?_
  refine p1 (x_move (by conv => lhs; whnf)) ?_
  refine g1 17 rfl rfl (x_move (by conv => lhs; whnf)) ?_
  refine g1 17 rfl rfl (x_move (by conv => lhs; whnf)) ?_
  refine g1 17 rfl rfl (x_convf u3 us5 rfl (fits_i64 (by omega) (by omega))) ?_
  refine g1 17 rfl rfl (x_move (by conv => lhs; whnf)) ?_
  refine g_drop 17 rfl rfl ?_
  have hXs3 := hX.size
  refine o_call Try.func18 fn18 fb18 (Ret.known (disk_Fail g (since w) (d1) _ hD (d1_ok) (by decide) (by decide) (u.toNat : Int) (by omega) (by omega) b) (by rw [df1 u b []] : _ = Value.int .i64 0)) rfl ?_
  rintro v3 w3 ⟨rfl, hD2, hM2⟩
  rw [df1 u b []] at hD2
  have hD : Dsk (since w) w3 g (dF u b [] 0) := hD2.all (since_le w) hXs3
  have hX := hX.modS hM2 (since_le w)
  skip
  refine g1 17 rfl rfl ((x_neq rfl rfl).cast (congrArg _ (decide_eq_false (by decide)))) ?_
  refine p1 (x_pick_f rfl (by conv => lhs; whnf)) ?_
  refine r_nil ?_
  refine t_n ?_
  refine c_f (rfl) ?_
  refine c_skip ?_
  refine t_n ?_
  refine c_seq ?_
  refine c_seq ?_
  have hlc := hl.cap
  have hlf := hl.fit
  refine r_plain ?_
  refine p1 (x_move (by conv => lhs; whnf)) ?_
  refine p1 (x_len_slice u31 rfl) ?_
  refine p1 (x_gtr rfl rfl) ?_
  refine r_nil ?_
  refine t_n ?_
  first | refine c_dec rfl (fun hc27 => ?_) (fun hc27 => ?_) | refine c_if rfl (fun hc27 => ?_) (fun hc27 => ?_)
  · try simp only [decide_eq_true_eq, decide_eq_false_iff_not, Bool.not_eq_true, Bool.not_eq_false, Bool.not_eq_eq_eq_not, Bool.not_true, Bool.not_false, Int.not_lt, Int.not_le] at hc27
    have hl2 := hl.take 1024 (by omega)
    obtain ⟨ys, hys⟩ : ∃ ys, ys = xs.take 1024 := ⟨_, rfl⟩
    rw [← hys] at hl2
    have hy1 : ys.length ≤ 1024 := by rw [hl2.len]; exact Nat.le_refl _
    refine r_plain ?_
    refine p1 (x_move (by conv => lhs; whnf)) ?_
    refine p1 (x_slice_hN (m := 1024) u31 sz5 rfl rfl (by omega)) ?_
    refine p1 (x_assign (by conv => lhs; whnf)) ?_
    refine r_nil ?_
    refine t_n ?_
    refine c_seq ?_
    refine c_seq ?_
    refine r_plain ?_
    refine p1 (x_assign (by conv => lhs; whnf)) ?_
    refine r_nil ?_
    refine t_n ?_
    refine c_block ?_
    refine c_loop (ι := Nat) [6, 8, 30, 31, 32, 33, 34, 35, 36, 37, 38, 39] (fun i => [(8, .int .i64 (i : Int))]) (fun i w' => Ext w w' ∧ (i ≤ u.toNat ∧ Dsk (since w) w' g (dF u b ys i))) (fun i => u.toNat - i) (0) ⟨rfl, trivial⟩ ⟨hX, ⟨Nat.zero_le _, hD⟩⟩ ?_
    rintro i GL0 w4 ⟨hE4, hi, hD⟩
    have hX := hE4
    refine c_seq ?_
    refine c_seq ?_
    refine r_plain ?_
    refine p1 (x_move (by conv => lhs; whnf)) ?_
    refine p1 (x_move (by conv => lhs; whnf)) ?_
    refine p1 (x_convf u3 us5 rfl (fits_i64 (by omega) (by omega))) ?_
    refine p1 (x_lss rfl rfl) ?_
    refine r_nil ?_
    refine t_n ?_
    first | refine c_dec rfl (fun hc33 => ?_) (fun hc33 => ?_) | refine c_if rfl (fun hc33 => ?_) (fun hc33 => ?_)
    · try simp only [decide_eq_true_eq, decide_eq_false_iff_not, Bool.not_eq_true, Bool.not_eq_false, Bool.not_eq_eq_eq_not, Bool.not_true, Bool.not_false, Int.not_lt, Int.not_le] at hc33
      have hdf2 := df2 (u := u) (b := b) (ys := ys) (i := i) (by omega) hy1
      refine c_skip ?_
      refine t_n ?_
      refine c_seq ?_
      refine c_block ?_
      refine c_seq ?_
      refine r_plain ?_
      refine p1 (x_move (by conv => lhs; whnf)) ?_
      refine p1 (x_move (by conv => lhs; whnf)) ?_
      have hXs5 := hX.size
      refine o_call Try.func19 fn19 fb19 (Ret.known (disk_Append g (since w) (dF u b ys i) _ hD (dF_ok hi hy1) (by show 1 + _ < 4611686018427387904; omega) (by show (u.toNat : Int) - _ ≤ 9223372036854775807; omega) kA (by decide) _ _ _ _ _ ys (hl2.ext hX)) (by rw [hdf2] : _ = Value.int .i64 0)) rfl ?_
      rintro v5 w5 ⟨rfl, hD2, hM2⟩
      rw [hdf2] at hD2
      have hD : Dsk (since w) w5 g (dF u b ys (i + 1)) := hD2.all (since_le w) hXs5
      have hX := hX.modS hM2 (since_le w)
      skip
      refine p1 ((x_neq rfl rfl).cast (congrArg _ (decide_eq_false (by decide)))) ?_
      refine r_nil ?_
      refine t_n ?_
      refine c_f rfl ?_
      refine c_skip ?_
      refine b_n ?_
      refine t_n ?_
      refine r_plain ?_
      refine p1 (x_move (by conv => lhs; whnf)) ?_
      refine p1 (x_add rfl rfl (fits_i64 (by omega) (by omega))) ?_
      refine p1 (x_assign (by conv => lhs; whnf)) ?_
      refine r_nil ?_
      refine t_n (At.mk (i + 1) (by repeat (first | exact Agr.refl _ _ | exact Agr.hav _ _ _ | refine Agr.upd rfl ?_ | refine Agr.updR rfl ?_ | refine Agr.updL ?_ _ rfl | refine Agr.hav' rfl ?_)) ⟨rfl, trivial⟩ ?_)
      exact ⟨⟨hX, ⟨by omega, hD⟩⟩, by first | (dsimp only; omega) | ((show _ < _); omega)⟩
    · try simp only [decide_eq_true_eq, decide_eq_false_iff_not, Bool.not_eq_true, Bool.not_eq_false, Bool.not_eq_eq_eq_not, Bool.not_true, Bool.not_false, Int.not_lt, Int.not_le] at hc33
      have hiu : i = u.toNat := by omega
      rw [hiu] at hD
      refine c_exit ?_
      refine t_e ?_
      refine t_e ?_
      refine b_hit ?_
      refine t_n ?_
      refine c_seq ?_
      refine c_seq ?_
      refine r_plain ?_
      refine p1 (x_move (by conv => lhs; whnf)) ?_
      have hXs6 := hX.size
      refine o_call Try.func20 fn20 fb20 (Ret.known (disk_Remove g (since w) (dF u b ys u.toNat) _ hD (dF_ok (Nat.le_refl _) hy1) (by show 1 + _ < 4611686018427387904; omega) (by show (u.toNat : Int) - _ ≤ 9223372036854775807; omega) kA (by decide)) (by rw [df3 u b ys] : _ = Value.int .i64 20)) rfl ?_
      rintro v6 w6 ⟨rfl, hD2, hM2⟩
      rw [df3 u b ys] at hD2
      have hD : Dsk (since w) w6 g (dG u b ys) := hD2.all (since_le w) hXs6
      have hX := hX.modS hM2 (since_le w)
      skip
      refine p1 ((x_neq rfl rfl).cast (congrArg _ (decide_eq_false (by decide)))) ?_
      refine p1 (x_move (by conv => lhs; whnf)) ?_
      refine g1 43 rfl rfl (x_move (by conv => lhs; whnf)) ?_
      refine g_drop 43 rfl rfl ?_
      refine o_call Try.func21 fn21 fb21 (disk_Down g (since w) (dG u b ys) _ hD) rfl ?_
      rintro v7 w7 ⟨rfl, hE7⟩
      have hX := hX.ext hE7
      have hD := hD.ext hE7
      refine g1 43 rfl rfl (x_not rfl) ?_
      refine p1 (x_pick_f rfl (by conv => lhs; whnf)) ?_
      refine p1 (x_move (by conv => lhs; whnf)) ?_
      refine g1 48 rfl rfl (x_move (by conv => lhs; whnf)) ?_
      refine g_drop 48 rfl rfl ?_
      refine o_call Try.func22 fn22 fb22 (disk_Steps g (since w) (dG u b ys) _ hD) rfl ?_
      rintro v8 w8 ⟨rfl, hE8⟩
      have hX := hX.ext hE8
      have hD := hD.ext hE8
      refine g1 48 rfl rfl (x_move (by conv => lhs; whnf)) ?_
      refine g1 48 rfl rfl (x_convf u3 us5 rfl (fits_i64 (by omega) (by omega))) ?_
      refine g1 48 rfl rfl (x_add rfl rfl (fits_i64 (by omega) (by omega))) ?_
      refine g1 48 rfl rfl ((x_neq rfl rfl).cast (congrArg _ (decide_eq_false (by intro h; exact h (by show ((1 + u.toNat : Nat) : Int) = _; omega))))) ?_
      refine p1 (x_pick_f rfl (by conv => lhs; whnf)) ?_
      refine p1 (x_move (by conv => lhs; whnf)) ?_
      refine g1 56 rfl rfl (x_move (by conv => lhs; whnf)) ?_
      refine g_drop 56 rfl rfl ?_
      have hXs9 := hX.size
      refine o_call Try.func17 fn17 fb17 (Ret.known (disk_Create g (since w) (dG u b ys) _ hD (dG_ok u b hy1) (by show 1 + _ < 4611686018427387904; omega) (by show (-1 : Int) ≤ 9223372036854775807; omega) kB (by decide)) (by rw [down_create (D := dG u b ys) named_b rfl] : _ = Value.int .i64 20)) rfl ?_
      rintro v9 w9 ⟨rfl, hD2, hM2⟩
      rw [down_create (D := dG u b ys) named_b rfl] at hD2
      have hD : Dsk (since w) w9 g (dG u b ys) := hD2.all (since_le w) hXs9
      have hX := hX.modS hM2 (since_le w)
      skip
      refine g1 56 rfl rfl ((x_neq rfl rfl).cast (congrArg _ (decide_eq_false (by decide)))) ?_
      refine p1 (x_pick_f rfl (by conv => lhs; whnf)) ?_
      refine p1 (x_move (by conv => lhs; whnf)) ?_
      refine g1 61 rfl rfl (x_move (by conv => lhs; whnf)) ?_
      refine g1 61 rfl rfl (x_move (by conv => lhs; whnf)) ?_
      refine g_drop 61 rfl rfl ?_
      have hXs10 := hX.size
      refine o_call Try.func19 fn19 fb19 (Ret.known (disk_Append g (since w) (dG u b ys) _ hD (dG_ok u b hy1) (by show 1 + _ < 4611686018427387904; omega) (by show (-1 : Int) ≤ 9223372036854775807; omega) kA (by decide) _ _ _ _ _ ys (hl2.ext hX)) (by rw [down_append (D := dG u b ys) named_a rfl ys] : _ = Value.int .i64 20)) rfl ?_
      rintro v10 w10 ⟨rfl, hD2, hM2⟩
      rw [down_append (D := dG u b ys) named_a rfl ys] at hD2
      have hD : Dsk (since w) w10 g (dG u b ys) := hD2.all (since_le w) hXs10
      have hX := hX.modS hM2 (since_le w)
      skip
      refine g1 61 rfl rfl ((x_neq rfl rfl).cast (congrArg _ (decide_eq_false (by decide)))) ?_
      refine p1 (x_pick_f rfl (by conv => lhs; whnf)) ?_
      refine p1 (x_move (by conv => lhs; whnf)) ?_
      refine g1 67 rfl rfl (x_move (by conv => lhs; whnf)) ?_
      refine g_drop 67 rfl rfl ?_
      have hXs11 := hX.size
      refine o_call Try.func23 fn23 fb23 (Ret.known (disk_Sync g (since w) (dG u b ys) _ hD (dG_ok u b hy1) (by show 1 + _ < 4611686018427387904; omega) (by show (-1 : Int) ≤ 9223372036854775807; omega) kA (by decide)) (by rw [down_sync (D := dG u b ys) named_a rfl] : _ = Value.int .i64 20)) rfl ?_
      rintro v11 w11 ⟨rfl, hD2, hM2⟩
      rw [down_sync (D := dG u b ys) named_a rfl] at hD2
      have hD : Dsk (since w) w11 g (dG u b ys) := hD2.all (since_le w) hXs11
      have hX := hX.modS hM2 (since_le w)
      skip
      refine g1 67 rfl rfl ((x_neq rfl rfl).cast (congrArg _ (decide_eq_false (by decide)))) ?_
      refine p1 (x_pick_f rfl (by conv => lhs; whnf)) ?_
      refine p1 (x_move (by conv => lhs; whnf)) ?_
      refine g1 72 rfl rfl (x_move (by conv => lhs; whnf)) ?_
      refine g_drop 72 rfl rfl ?_
      have hXs12 := hX.size
      refine o_call Try.func24 fn24 fb24 (Ret.known (disk_Rename g (since w) (dG u b ys) _ hD (dG_ok u b hy1) (by show 1 + _ < 4611686018427387904; omega) (by show (-1 : Int) ≤ 9223372036854775807; omega) kA kB (by decide) (by decide)) (by rw [down_rename (D := dG u b ys) named_a named_b rfl] : _ = Value.int .i64 20)) rfl ?_
      rintro v12 w12 ⟨rfl, hD2, hM2⟩
      rw [down_rename (D := dG u b ys) named_a named_b rfl] at hD2
      have hD : Dsk (since w) w12 g (dG u b ys) := hD2.all (since_le w) hXs12
      have hX := hX.modS hM2 (since_le w)
      skip
      refine g1 72 rfl rfl ((x_neq rfl rfl).cast (congrArg _ (decide_eq_false (by decide)))) ?_
      refine p1 (x_pick_f rfl (by conv => lhs; whnf)) ?_
      refine p1 (x_move (by conv => lhs; whnf)) ?_
      refine g1 77 rfl rfl (x_move (by conv => lhs; whnf)) ?_
      refine g_drop 77 rfl rfl ?_
      have hXs13 := hX.size
      refine o_call Try.func20 fn20 fb20 (Ret.known (disk_Remove g (since w) (dG u b ys) _ hD (dG_ok u b hy1) (by show 1 + _ < 4611686018427387904; omega) (by show (-1 : Int) ≤ 9223372036854775807; omega) kA (by decide)) (by rw [down_remove (D := dG u b ys) named_a rfl] : _ = Value.int .i64 20)) rfl ?_
      rintro v13 w13 ⟨rfl, hD2, hM2⟩
      rw [down_remove (D := dG u b ys) named_a rfl] at hD2
      have hD : Dsk (since w) w13 g (dG u b ys) := hD2.all (since_le w) hXs13
      have hX := hX.modS hM2 (since_le w)
      skip
      refine g1 77 rfl rfl ((x_neq rfl rfl).cast (congrArg _ (decide_eq_false (by decide)))) ?_
      refine p1 (x_pick_f rfl (by conv => lhs; whnf)) ?_
      refine p1 (x_move (by conv => lhs; whnf)) ?_
      refine g1 82 rfl rfl (x_move (by conv => lhs; whnf)) ?_
      refine g_drop 82 rfl rfl ?_
      have hXs14 := hX.size
      refine o_call Try.func25 fn25 fb25 (Ret.known (disk_Cut g (since w) (dG u b ys) _ hD (dG_ok u b hy1) (by show 1 + _ < 4611686018427387904; omega) (by show (-1 : Int) ≤ 9223372036854775807; omega) kA (by decide) 0 (by decide) (by decide)) (by rw [down_cut (D := dG u b ys) named_a rfl 0] : _ = Value.int .i64 20)) rfl ?_
      rintro v14 w14 ⟨rfl, hD2, hM2⟩
      rw [down_cut (D := dG u b ys) named_a rfl 0] at hD2
      have hD : Dsk (since w) w14 g (dG u b ys) := hD2.all (since_le w) hXs14
      have hX := hX.modS hM2 (since_le w)
      skip
      refine g1 82 rfl rfl ((x_neq rfl rfl).cast (congrArg _ (decide_eq_false (by decide)))) ?_
      refine p1 (x_pick_f rfl (by conv => lhs; whnf)) ?_
      refine p1 (x_move (by conv => lhs; whnf)) ?_
      refine g1 87 rfl rfl (x_move (by conv => lhs; whnf)) ?_
      refine g1 87 rfl rfl (x_move (by conv => lhs; whnf)) ?_
      refine g_drop 87 rfl rfl ?_
      have hXs15 := hX.size
      refine o_call Try.func18 fn18 fb18 (Ret.known (disk_Fail g (since w) (dG u b ys) _ hD (dG_ok u b hy1) (by show 1 + _ < 4611686018427387904; omega) (by show (-1 : Int) ≤ 9223372036854775807; omega) 1 (by decide) (by decide) b) (by rw [down_fail (D := dG u b ys) rfl 1 b] : _ = Value.int .i64 20)) rfl ?_
      rintro v15 w15 ⟨rfl, hD2, hM2⟩
      rw [down_fail (D := dG u b ys) rfl 1 b] at hD2
      have hD : Dsk (since w) w15 g (dG u b ys) := hD2.all (since_le w) hXs15
      have hX := hX.modS hM2 (since_le w)
      skip
      refine g1 87 rfl rfl ((x_neq rfl rfl).cast (congrArg _ (decide_eq_false (by decide)))) ?_
      refine p1 (x_pick_f rfl (by conv => lhs; whnf)) ?_
      refine r_nil ?_
      refine t_n ?_
      refine c_f rfl ?_
      refine c_skip ?_
      refine t_n ?_
      refine c_seq ?_
      refine r_plain ?_
      refine p1 (x_move (by conv => lhs; whnf)) ?_
      refine o_call Try.func14 fn14 fb14 (disk_Read g (since w) (dG u b ys) _ hD (dG_ok u b hy1) kA (by decide)) rfl ?_
      rintro v16 w16 ⟨⟨q93, n93, c93, rfl, hO93⟩, hE16⟩
      have hX := hX.ext hE16
      have hD := hD.ext hE16
      refine p1 (x_move (by conv => lhs; whnf)) ?_
      refine p1 (x_extract rfl rfl) ?_
      refine p1 (x_extract rfl rfl) ?_
      refine p1 (x_assign (by conv => lhs; whnf)) ?_
      refine p1 (x_assign (by conv => lhs; whnf)) ?_
      refine r_nil ?_
      refine t_n ?_
      refine c_seq ?_
      refine r_plain ?_
      refine p1 (x_move (by conv => lhs; whnf)) ?_
      have hXs17 := hX.size
      refine o_call Try.func26 fn26 fb26 (disk_Start g (since w) (dG u b ys) _ hD (dG_ok u b hy1) [] none 0 0 (Out.nil _ _)) rfl ?_
      rintro v17 w17 ⟨hD2, hM2⟩
      rw [df4 u b ys] at hD2
      have hD : Dsk (since w) w17 g (dH u b) := hD2.all (since_le w) hXs17
      have hX := hX.modS hM2 (since_le w)
      skip
      refine r_nil ?_
      refine t_n ?_
      refine c_seq ?_
      refine r_plain ?_
      refine p1 (x_move (by conv => lhs; whnf)) ?_
      refine o_call Try.func14 fn14 fb14 (disk_Read g (since w) (dH u b) _ hD (dH_ok u b) kA (by decide)) rfl ?_
      rintro v18 w18 ⟨⟨q102, n102, c102, rfl, hO102⟩, hE18⟩
      have hX := hX.ext hE18
      have hD := hD.ext hE18
      refine p1 (x_move (by conv => lhs; whnf)) ?_
      refine p1 (x_extract rfl rfl) ?_
      refine p1 (x_extract rfl rfl) ?_
      refine p1 (x_assign (by conv => lhs; whnf)) ?_
      refine p1 (x_assign (by conv => lhs; whnf)) ?_
      refine r_nil ?_
      refine t_n ?_
      refine c_seq ?_
      refine r_plain ?_
      refine p1 (x_move (by conv => lhs; whnf)) ?_
      refine p1 ((x_eql rfl rfl).cast (congrArg _ (decide_eq_true (by rw [down_read (D := dG u b ys) named_a rfl])))) ?_
      refine p1 (x_move (by conv => lhs; whnf)) ?_
      refine g1 107 rfl rfl (x_move (by conv => lhs; whnf)) ?_
      refine g1 107 rfl rfl (x_eql rfl rfl) ?_
      refine g1 107 rfl rfl (x_move (by conv => lhs; whnf)) ?_
      first | refine g1 107 rfl rfl (x_notd rfl) ?_ | refine g1 107 rfl rfl (x_not rfl) ?_
      refine g1 107 rfl rfl ((x_eql_bool u4 rfl rfl).cast (congrArg _ (decide_eq_true (by rw [df5]; cases b <;> rfl)))) ?_
      refine p1 (x_pick_t rfl (by conv => lhs; whnf)) ?_
      refine p1 (x_move (by conv => lhs; whnf)) ?_
      refine g1 114 rfl rfl (x_move (by conv => lhs; whnf)) ?_
      refine g1 114 rfl rfl (x_len_slice u31 rfl) ?_
      refine g1 114 rfl rfl ((x_eql rfl rfl).cast (congrArg _ (decide_eq_true (by have h9 := hO102.len; rw [df5] at h9; simp at h9; omega)))) ?_
      refine p1 (x_pick_t rfl (by conv => lhs; whnf)) ?_
      refine p1 (x_move (by conv => lhs; whnf)) ?_
      refine g1 119 rfl rfl (x_move (by conv => lhs; whnf)) ?_
      refine g_drop 119 rfl rfl ?_
      have hXs19 := hX.size
      refine o_call Try.func17 fn17 fb17 (disk_Create g (since w) (dH u b) _ hD (dH_ok u b) (by show 1 + _ < 4611686018427387904; omega) (by show (-1 : Int) ≤ 9223372036854775807; omega) kB (by decide)) rfl ?_
      rintro v19 w19 ⟨rfl, hD2, hM2⟩
      have hD : Dsk (since w) w19 g (createD (dH u b) kB).1 := hD2.all (since_le w) hXs19
      have hX := hX.modS hM2 (since_le w)
      skip
      refine g1 119 rfl rfl ((x_eql rfl rfl).cast (congrArg _ (decide_eq_true ((df6 u b).1)))) ?_
      refine p1 (x_pick_t rfl (by conv => lhs; whnf)) ?_
      refine p1 (x_move (by conv => lhs; whnf)) ?_
      refine g1 124 rfl rfl (x_move (by conv => lhs; whnf)) ?_
      refine g_drop 124 rfl rfl ?_
      refine o_call Try.func21 fn21 fb21 (disk_Down g (since w) (createD (dH u b) kB).1 _ hD) rfl ?_
      rintro v20 w20 ⟨rfl, hE20⟩
      have hX := hX.ext hE20
      have hD := hD.ext hE20
      refine g1 124 rfl rfl ((x_not rfl).cast (congrArg Value.bool (by rw [(df6 u b).2]; rfl : _ = true))) ?_
      refine p1 (x_pick_t rfl (by conv => lhs; whnf)) ?_
      refine p1 (x_move (by conv => lhs; whnf)) ?_
      refine g_drop 129 rfl rfl ?_
      refine o_call Try.func16 fn16 fb16 (disk_awake _) rfl ?_
      rintro v21 w21 ⟨rfl, hE21⟩
      have hX := hX.ext hE21
      have hD := hD.ext hE21
      refine p1 (x_pick_t rfl (by conv => lhs; whnf)) ?_
      refine p1 (x_assign (by conv => lhs; whnf)) ?_
      refine r_nil ?_
      refine t_n ?_
      refine c_ret ?_
      refine end1 rfl (by conv => lhs; whnf) ?_
      exact ⟨rfl, hX⟩
  · try simp only [decide_eq_true_eq, decide_eq_false_iff_not, Bool.not_eq_true, Bool.not_eq_false, Bool.not_eq_eq_eq_not, Bool.not_true, Bool.not_false, Int.not_lt, Int.not_le] at hc27
    obtain ⟨ys, hys⟩ : ∃ ys, ys = xs := ⟨_, rfl⟩
    have hl2 := hl
    rw [← hys] at hl2
    have hy1 : ys.length ≤ 1024 := by have := hl2.len; omega
    refine c_skip ?_
    refine t_n ?_
    refine c_seq ?_
    refine c_seq ?_
    refine r_plain ?_
    refine p1 (x_assign (by conv => lhs; whnf)) ?_
    refine r_nil ?_
    refine t_n ?_
    refine c_block ?_
    refine c_loop (ι := Nat) [6, 8, 30, 31, 32, 33, 34, 35, 36, 37, 38, 39] (fun i => [(8, .int .i64 (i : Int))]) (fun i w' => Ext w w' ∧ (i ≤ u.toNat ∧ Dsk (since w) w' g (dF u b ys i))) (fun i => u.toNat - i) (0) ⟨rfl, trivial⟩ ⟨hX, ⟨Nat.zero_le _, hD⟩⟩ ?_
    rintro i GL0 w22 ⟨hE22, hi, hD⟩
    have hX := hE22
    refine c_seq ?_
    refine c_seq ?_
    refine r_plain ?_
    refine p1 (x_move (by conv => lhs; whnf)) ?_
    refine p1 (x_move (by conv => lhs; whnf)) ?_
    refine p1 (x_convf u3 us5 rfl (fits_i64 (by omega) (by omega))) ?_
    refine p1 (x_lss rfl rfl) ?_
    refine r_nil ?_
    refine t_n ?_
    first | refine c_dec rfl (fun hc33 => ?_) (fun hc33 => ?_) | refine c_if rfl (fun hc33 => ?_) (fun hc33 => ?_)
    · try simp only [decide_eq_true_eq, decide_eq_false_iff_not, Bool.not_eq_true, Bool.not_eq_false, Bool.not_eq_eq_eq_not, Bool.not_true, Bool.not_false, Int.not_lt, Int.not_le] at hc33
      have hdf2 := df2 (u := u) (b := b) (ys := ys) (i := i) (by omega) hy1
      refine c_skip ?_
      refine t_n ?_
      refine c_seq ?_
      refine c_block ?_
      refine c_seq ?_
      refine r_plain ?_
      refine p1 (x_move (by conv => lhs; whnf)) ?_
      refine p1 (x_move (by conv => lhs; whnf)) ?_
      have hXs23 := hX.size
      refine o_call Try.func19 fn19 fb19 (Ret.known (disk_Append g (since w) (dF u b ys i) _ hD (dF_ok hi hy1) (by show 1 + _ < 4611686018427387904; omega) (by show (u.toNat : Int) - _ ≤ 9223372036854775807; omega) kA (by decide) _ _ _ _ _ ys (hl2.ext hX)) (by rw [hdf2] : _ = Value.int .i64 0)) rfl ?_
      rintro v23 w23 ⟨rfl, hD2, hM2⟩
      rw [hdf2] at hD2
      have hD : Dsk (since w) w23 g (dF u b ys (i + 1)) := hD2.all (since_le w) hXs23
      have hX := hX.modS hM2 (since_le w)
      skip
      refine p1 ((x_neq rfl rfl).cast (congrArg _ (decide_eq_false (by decide)))) ?_
      refine r_nil ?_
      refine t_n ?_
      refine c_f rfl ?_
      refine c_skip ?_
      refine b_n ?_
      refine t_n ?_
      refine r_plain ?_
      refine p1 (x_move (by conv => lhs; whnf)) ?_
      refine p1 (x_add rfl rfl (fits_i64 (by omega) (by omega))) ?_
      refine p1 (x_assign (by conv => lhs; whnf)) ?_
      refine r_nil ?_
      refine t_n (At.mk (i + 1) (by repeat (first | exact Agr.refl _ _ | exact Agr.hav _ _ _ | refine Agr.upd rfl ?_ | refine Agr.updR rfl ?_ | refine Agr.updL ?_ _ rfl | refine Agr.hav' rfl ?_)) ⟨rfl, trivial⟩ ?_)
      exact ⟨⟨hX, ⟨by omega, hD⟩⟩, by first | (dsimp only; omega) | ((show _ < _); omega)⟩
    · try simp only [decide_eq_true_eq, decide_eq_false_iff_not, Bool.not_eq_true, Bool.not_eq_false, Bool.not_eq_eq_eq_not, Bool.not_true, Bool.not_false, Int.not_lt, Int.not_le] at hc33
      have hiu : i = u.toNat := by omega
      rw [hiu] at hD
      refine c_exit ?_
      refine t_e ?_
      refine t_e ?_
      refine b_hit ?_
      refine t_n ?_
      refine c_seq ?_
      refine c_seq ?_
      refine r_plain ?_
      refine p1 (x_move (by conv => lhs; whnf)) ?_
      have hXs24 := hX.size
      refine o_call Try.func20 fn20 fb20 (Ret.known (disk_Remove g (since w) (dF u b ys u.toNat) _ hD (dF_ok (Nat.le_refl _) hy1) (by show 1 + _ < 4611686018427387904; omega) (by show (u.toNat : Int) - _ ≤ 9223372036854775807; omega) kA (by decide)) (by rw [df3 u b ys] : _ = Value.int .i64 20)) rfl ?_
      rintro v24 w24 ⟨rfl, hD2, hM2⟩
      rw [df3 u b ys] at hD2
      have hD : Dsk (since w) w24 g (dG u b ys) := hD2.all (since_le w) hXs24
      have hX := hX.modS hM2 (since_le w)
      skip
      refine p1 ((x_neq rfl rfl).cast (congrArg _ (decide_eq_false (by decide)))) ?_
      refine p1 (x_move (by conv => lhs; whnf)) ?_
      refine g1 43 rfl rfl (x_move (by conv => lhs; whnf)) ?_
      refine g_drop 43 rfl rfl ?_
      refine o_call Try.func21 fn21 fb21 (disk_Down g (since w) (dG u b ys) _ hD) rfl ?_
      rintro v25 w25 ⟨rfl, hE25⟩
      have hX := hX.ext hE25
      have hD := hD.ext hE25
      refine g1 43 rfl rfl (x_not rfl) ?_
      refine p1 (x_pick_f rfl (by conv => lhs; whnf)) ?_
      refine p1 (x_move (by conv => lhs; whnf)) ?_
      refine g1 48 rfl rfl (x_move (by conv => lhs; whnf)) ?_
      refine g_drop 48 rfl rfl ?_
      refine o_call Try.func22 fn22 fb22 (disk_Steps g (since w) (dG u b ys) _ hD) rfl ?_
      rintro v26 w26 ⟨rfl, hE26⟩
      have hX := hX.ext hE26
      have hD := hD.ext hE26
      refine g1 48 rfl rfl (x_move (by conv => lhs; whnf)) ?_
      refine g1 48 rfl rfl (x_convf u3 us5 rfl (fits_i64 (by omega) (by omega))) ?_
      refine g1 48 rfl rfl (x_add rfl rfl (fits_i64 (by omega) (by omega))) ?_
      refine g1 48 rfl rfl ((x_neq rfl rfl).cast (congrArg _ (decide_eq_false (by intro h; exact h (by show ((1 + u.toNat : Nat) : Int) = _; omega))))) ?_
      refine p1 (x_pick_f rfl (by conv => lhs; whnf)) ?_
      refine p1 (x_move (by conv => lhs; whnf)) ?_
      refine g1 56 rfl rfl (x_move (by conv => lhs; whnf)) ?_
      refine g_drop 56 rfl rfl ?_
      have hXs27 := hX.size
      refine o_call Try.func17 fn17 fb17 (Ret.known (disk_Create g (since w) (dG u b ys) _ hD (dG_ok u b hy1) (by show 1 + _ < 4611686018427387904; omega) (by show (-1 : Int) ≤ 9223372036854775807; omega) kB (by decide)) (by rw [down_create (D := dG u b ys) named_b rfl] : _ = Value.int .i64 20)) rfl ?_
      rintro v27 w27 ⟨rfl, hD2, hM2⟩
      rw [down_create (D := dG u b ys) named_b rfl] at hD2
      have hD : Dsk (since w) w27 g (dG u b ys) := hD2.all (since_le w) hXs27
      have hX := hX.modS hM2 (since_le w)
      skip
      refine g1 56 rfl rfl ((x_neq rfl rfl).cast (congrArg _ (decide_eq_false (by decide)))) ?_
      refine p1 (x_pick_f rfl (by conv => lhs; whnf)) ?_
      refine p1 (x_move (by conv => lhs; whnf)) ?_
      refine g1 61 rfl rfl (x_move (by conv => lhs; whnf)) ?_
      refine g1 61 rfl rfl (x_move (by conv => lhs; whnf)) ?_
      refine g_drop 61 rfl rfl ?_
      have hXs28 := hX.size
      refine o_call Try.func19 fn19 fb19 (Ret.known (disk_Append g (since w) (dG u b ys) _ hD (dG_ok u b hy1) (by show 1 + _ < 4611686018427387904; omega) (by show (-1 : Int) ≤ 9223372036854775807; omega) kA (by decide) _ _ _ _ _ ys (hl2.ext hX)) (by rw [down_append (D := dG u b ys) named_a rfl ys] : _ = Value.int .i64 20)) rfl ?_
      rintro v28 w28 ⟨rfl, hD2, hM2⟩
      rw [down_append (D := dG u b ys) named_a rfl ys] at hD2
      have hD : Dsk (since w) w28 g (dG u b ys) := hD2.all (since_le w) hXs28
      have hX := hX.modS hM2 (since_le w)
      skip
      refine g1 61 rfl rfl ((x_neq rfl rfl).cast (congrArg _ (decide_eq_false (by decide)))) ?_
      refine p1 (x_pick_f rfl (by conv => lhs; whnf)) ?_
      refine p1 (x_move (by conv => lhs; whnf)) ?_
      refine g1 67 rfl rfl (x_move (by conv => lhs; whnf)) ?_
      refine g_drop 67 rfl rfl ?_
      have hXs29 := hX.size
      refine o_call Try.func23 fn23 fb23 (Ret.known (disk_Sync g (since w) (dG u b ys) _ hD (dG_ok u b hy1) (by show 1 + _ < 4611686018427387904; omega) (by show (-1 : Int) ≤ 9223372036854775807; omega) kA (by decide)) (by rw [down_sync (D := dG u b ys) named_a rfl] : _ = Value.int .i64 20)) rfl ?_
      rintro v29 w29 ⟨rfl, hD2, hM2⟩
      rw [down_sync (D := dG u b ys) named_a rfl] at hD2
      have hD : Dsk (since w) w29 g (dG u b ys) := hD2.all (since_le w) hXs29
      have hX := hX.modS hM2 (since_le w)
      skip
      refine g1 67 rfl rfl ((x_neq rfl rfl).cast (congrArg _ (decide_eq_false (by decide)))) ?_
      refine p1 (x_pick_f rfl (by conv => lhs; whnf)) ?_
      refine p1 (x_move (by conv => lhs; whnf)) ?_
      refine g1 72 rfl rfl (x_move (by conv => lhs; whnf)) ?_
      refine g_drop 72 rfl rfl ?_
      have hXs30 := hX.size
      refine o_call Try.func24 fn24 fb24 (Ret.known (disk_Rename g (since w) (dG u b ys) _ hD (dG_ok u b hy1) (by show 1 + _ < 4611686018427387904; omega) (by show (-1 : Int) ≤ 9223372036854775807; omega) kA kB (by decide) (by decide)) (by rw [down_rename (D := dG u b ys) named_a named_b rfl] : _ = Value.int .i64 20)) rfl ?_
      rintro v30 w30 ⟨rfl, hD2, hM2⟩
      rw [down_rename (D := dG u b ys) named_a named_b rfl] at hD2
      have hD : Dsk (since w) w30 g (dG u b ys) := hD2.all (since_le w) hXs30
      have hX := hX.modS hM2 (since_le w)
      skip
      refine g1 72 rfl rfl ((x_neq rfl rfl).cast (congrArg _ (decide_eq_false (by decide)))) ?_
      refine p1 (x_pick_f rfl (by conv => lhs; whnf)) ?_
      refine p1 (x_move (by conv => lhs; whnf)) ?_
      refine g1 77 rfl rfl (x_move (by conv => lhs; whnf)) ?_
      refine g_drop 77 rfl rfl ?_
      have hXs31 := hX.size
      refine o_call Try.func20 fn20 fb20 (Ret.known (disk_Remove g (since w) (dG u b ys) _ hD (dG_ok u b hy1) (by show 1 + _ < 4611686018427387904; omega) (by show (-1 : Int) ≤ 9223372036854775807; omega) kA (by decide)) (by rw [down_remove (D := dG u b ys) named_a rfl] : _ = Value.int .i64 20)) rfl ?_
      rintro v31 w31 ⟨rfl, hD2, hM2⟩
      rw [down_remove (D := dG u b ys) named_a rfl] at hD2
      have hD : Dsk (since w) w31 g (dG u b ys) := hD2.all (since_le w) hXs31
      have hX := hX.modS hM2 (since_le w)
      skip
      refine g1 77 rfl rfl ((x_neq rfl rfl).cast (congrArg _ (decide_eq_false (by decide)))) ?_
      refine p1 (x_pick_f rfl (by conv => lhs; whnf)) ?_
      refine p1 (x_move (by conv => lhs; whnf)) ?_
      refine g1 82 rfl rfl (x_move (by conv => lhs; whnf)) ?_
      refine g_drop 82 rfl rfl ?_
      have hXs32 := hX.size
      refine o_call Try.func25 fn25 fb25 (Ret.known (disk_Cut g (since w) (dG u b ys) _ hD (dG_ok u b hy1) (by show 1 + _ < 4611686018427387904; omega) (by show (-1 : Int) ≤ 9223372036854775807; omega) kA (by decide) 0 (by decide) (by decide)) (by rw [down_cut (D := dG u b ys) named_a rfl 0] : _ = Value.int .i64 20)) rfl ?_
      rintro v32 w32 ⟨rfl, hD2, hM2⟩
      rw [down_cut (D := dG u b ys) named_a rfl 0] at hD2
      have hD : Dsk (since w) w32 g (dG u b ys) := hD2.all (since_le w) hXs32
      have hX := hX.modS hM2 (since_le w)
      skip
      refine g1 82 rfl rfl ((x_neq rfl rfl).cast (congrArg _ (decide_eq_false (by decide)))) ?_
      refine p1 (x_pick_f rfl (by conv => lhs; whnf)) ?_
      refine p1 (x_move (by conv => lhs; whnf)) ?_
      refine g1 87 rfl rfl (x_move (by conv => lhs; whnf)) ?_
      refine g1 87 rfl rfl (x_move (by conv => lhs; whnf)) ?_
      refine g_drop 87 rfl rfl ?_
      have hXs33 := hX.size
      refine o_call Try.func18 fn18 fb18 (Ret.known (disk_Fail g (since w) (dG u b ys) _ hD (dG_ok u b hy1) (by show 1 + _ < 4611686018427387904; omega) (by show (-1 : Int) ≤ 9223372036854775807; omega) 1 (by decide) (by decide) b) (by rw [down_fail (D := dG u b ys) rfl 1 b] : _ = Value.int .i64 20)) rfl ?_
      rintro v33 w33 ⟨rfl, hD2, hM2⟩
      rw [down_fail (D := dG u b ys) rfl 1 b] at hD2
      have hD : Dsk (since w) w33 g (dG u b ys) := hD2.all (since_le w) hXs33
      have hX := hX.modS hM2 (since_le w)
      skip
      refine g1 87 rfl rfl ((x_neq rfl rfl).cast (congrArg _ (decide_eq_false (by decide)))) ?_
      refine p1 (x_pick_f rfl (by conv => lhs; whnf)) ?_
      refine r_nil ?_
      refine t_n ?_
      refine c_f rfl ?_
      refine c_skip ?_
      refine t_n ?_
      refine c_seq ?_
      refine r_plain ?_
      refine p1 (x_move (by conv => lhs; whnf)) ?_
      refine o_call Try.func14 fn14 fb14 (disk_Read g (since w) (dG u b ys) _ hD (dG_ok u b hy1) kA (by decide)) rfl ?_
      rintro v34 w34 ⟨⟨q93, n93, c93, rfl, hO93⟩, hE34⟩
      have hX := hX.ext hE34
      have hD := hD.ext hE34
      refine p1 (x_move (by conv => lhs; whnf)) ?_
      refine p1 (x_extract rfl rfl) ?_
      refine p1 (x_extract rfl rfl) ?_
      refine p1 (x_assign (by conv => lhs; whnf)) ?_
      refine p1 (x_assign (by conv => lhs; whnf)) ?_
      refine r_nil ?_
      refine t_n ?_
      refine c_seq ?_
      refine r_plain ?_
      refine p1 (x_move (by conv => lhs; whnf)) ?_
      have hXs35 := hX.size
      refine o_call Try.func26 fn26 fb26 (disk_Start g (since w) (dG u b ys) _ hD (dG_ok u b hy1) [] none 0 0 (Out.nil _ _)) rfl ?_
      rintro v35 w35 ⟨hD2, hM2⟩
      rw [df4 u b ys] at hD2
      have hD : Dsk (since w) w35 g (dH u b) := hD2.all (since_le w) hXs35
      have hX := hX.modS hM2 (since_le w)
      skip
      refine r_nil ?_
      refine t_n ?_
      refine c_seq ?_
      refine r_plain ?_
      refine p1 (x_move (by conv => lhs; whnf)) ?_
      refine o_call Try.func14 fn14 fb14 (disk_Read g (since w) (dH u b) _ hD (dH_ok u b) kA (by decide)) rfl ?_
      rintro v36 w36 ⟨⟨q102, n102, c102, rfl, hO102⟩, hE36⟩
      have hX := hX.ext hE36
      have hD := hD.ext hE36
      refine p1 (x_move (by conv => lhs; whnf)) ?_
      refine p1 (x_extract rfl rfl) ?_
      refine p1 (x_extract rfl rfl) ?_
      refine p1 (x_assign (by conv => lhs; whnf)) ?_
      refine p1 (x_assign (by conv => lhs; whnf)) ?_
      refine r_nil ?_
      refine t_n ?_
      refine c_seq ?_
      refine r_plain ?_
      refine p1 (x_move (by conv => lhs; whnf)) ?_
      refine p1 ((x_eql rfl rfl).cast (congrArg _ (decide_eq_true (by rw [down_read (D := dG u b ys) named_a rfl])))) ?_
      refine p1 (x_move (by conv => lhs; whnf)) ?_
      refine g1 107 rfl rfl (x_move (by conv => lhs; whnf)) ?_
      refine g1 107 rfl rfl (x_eql rfl rfl) ?_
      refine g1 107 rfl rfl (x_move (by conv => lhs; whnf)) ?_
      first | refine g1 107 rfl rfl (x_notd rfl) ?_ | refine g1 107 rfl rfl (x_not rfl) ?_
      refine g1 107 rfl rfl ((x_eql_bool u4 rfl rfl).cast (congrArg _ (decide_eq_true (by rw [df5]; cases b <;> rfl)))) ?_
      refine p1 (x_pick_t rfl (by conv => lhs; whnf)) ?_
      refine p1 (x_move (by conv => lhs; whnf)) ?_
      refine g1 114 rfl rfl (x_move (by conv => lhs; whnf)) ?_
      refine g1 114 rfl rfl (x_len_slice u31 rfl) ?_
      refine g1 114 rfl rfl ((x_eql rfl rfl).cast (congrArg _ (decide_eq_true (by have h9 := hO102.len; rw [df5] at h9; simp at h9; omega)))) ?_
      refine p1 (x_pick_t rfl (by conv => lhs; whnf)) ?_
      refine p1 (x_move (by conv => lhs; whnf)) ?_
      refine g1 119 rfl rfl (x_move (by conv => lhs; whnf)) ?_
      refine g_drop 119 rfl rfl ?_
      have hXs37 := hX.size
      refine o_call Try.func17 fn17 fb17 (disk_Create g (since w) (dH u b) _ hD (dH_ok u b) (by show 1 + _ < 4611686018427387904; omega) (by show (-1 : Int) ≤ 9223372036854775807; omega) kB (by decide)) rfl ?_
      rintro v37 w37 ⟨rfl, hD2, hM2⟩
      have hD : Dsk (since w) w37 g (createD (dH u b) kB).1 := hD2.all (since_le w) hXs37
      have hX := hX.modS hM2 (since_le w)
      skip
      refine g1 119 rfl rfl ((x_eql rfl rfl).cast (congrArg _ (decide_eq_true ((df6 u b).1)))) ?_
      refine p1 (x_pick_t rfl (by conv => lhs; whnf)) ?_
      refine p1 (x_move (by conv => lhs; whnf)) ?_
      refine g1 124 rfl rfl (x_move (by conv => lhs; whnf)) ?_
      refine g_drop 124 rfl rfl ?_
      refine o_call Try.func21 fn21 fb21 (disk_Down g (since w) (createD (dH u b) kB).1 _ hD) rfl ?_
      rintro v38 w38 ⟨rfl, hE38⟩
      have hX := hX.ext hE38
      have hD := hD.ext hE38
      refine g1 124 rfl rfl ((x_not rfl).cast (congrArg Value.bool (by rw [(df6 u b).2]; rfl : _ = true))) ?_
      refine p1 (x_pick_t rfl (by conv => lhs; whnf)) ?_
      refine p1 (x_move (by conv => lhs; whnf)) ?_
      refine g_drop 129 rfl rfl ?_
      refine o_call Try.func16 fn16 fb16 (disk_awake _) rfl ?_
      rintro v39 w39 ⟨rfl, hE39⟩
      have hX := hX.ext hE39
      have hD := hD.ext hE39
      refine p1 (x_pick_t rfl (by conv => lhs; whnf)) ?_
      refine p1 (x_assign (by conv => lhs; whnf)) ?_
      refine r_nil ?_
      refine t_n ?_
      refine c_ret ?_
      refine end1 rfl (by conv => lhs; whnf) ?_
      exact ⟨rfl, hX⟩
end Go.Proofs.Eng
end
