import Derived.Test.YtphmpibmogbafaaKPP2
/- Merged: K6 T6 K7 PF T7 K8 T8 K9 T9 KA PH T10 KB QC T11 KC PW QW KD QR T12 KE QX T13 KF QZ -/
section
set_option linter.unusedVariables false
set_option linter.unusedSimpArgs false
set_option maxRecDepth 100000
set_option maxHeartbeats 4000000
namespace Go.Proofs.Eng
open Go.RowKit
open Extern.Stop (cell)
theorem disk_awake (w : World) :
    Ret Try.prog 16 [] w (fun v w' => v = .bool true ∧ Ext w w') := by
  have hX := Ext.refl w
  refine enter 66 _ Try.func16 rfl rfl (Nat.le_of_ble_eq_true rfl) rfl ?_
  refine c_seq ?_
  refine r_plain ?_
  refine p1 (x_assign (by conv => lhs; whnf)) ?_
  refine r_nil ?_
  refine t_n ?_
  refine c_seq ?_
  refine r_plain ?_
  have hXs1 := hX.size
  refine o_call Try.func11 fn11 fb11 (disk_New 9 _) rfl ?_
  rintro v1 w1 ⟨⟨g, rfl, hD0⟩, hE1⟩
  have hX := hX.ext hE1
  have hD : Dsk (since w) w1 g (newD 9) := hD0.all (fun _ h => h.elim) hXs1
  skip
  refine p1 (x_assign (by conv => lhs; whnf)) ?_
  refine r_nil ?_
  refine t_n ?_
  refine c_seq ?_
  refine c_seq ?_
  refine r_plain ?_
  refine p1 (x_move (by conv => lhs; whnf)) ?_
  rw [aw0] at hD
  have hXs2 := hX.size
  refine o_call Try.func17 fn17 fb17 (Ret.known (disk_Create g (since w) (aw 0 []) _ hD (newD_ok 9) (by decide) (by decide) kA (by decide)) (by rw [aw1] : _ = Value.int .i64 0)) rfl ?_
  rintro v2 w2 ⟨rfl, hD2, hM2⟩
  rw [aw1] at hD2
  have hD : Dsk (since w) w2 g (aw 1 [(kA, ([], 0))]) := hD2.all (since_le w) hXs2
  have hX := hX.modS hM2 (since_le w)
  skip
  refine p1 ((x_neq rfl rfl).cast (congrArg _ (decide_eq_false (by decide)))) ?_
  refine p1 (x_move (by conv => lhs; whnf)) ?_
  refine g1 8 rfl rfl (x_move (by conv => lhs; whnf)) ?_
  have hDp := hD
  have hXp := hX
  obtain ⟨B10, hB10⟩ : ∃ B, B = w2.heap.size := ⟨_, rfl⟩
  refine g_drop 8 rfl rfl ?_
  refine o_buildSlice u31 inf5 rfl (by decide) (fun base hb => fill_kn [.int .u8 120, .int .u8 121] (by intro v hv'; simp only [List.mem_cons, List.not_mem_nil, or_false] at hv'; rcases hv' with rfl | rfl <;> rfl) base hb) ?_
  intro w3 g10 hN10
  have hE3 := hN10.ext
  have hX := hX.ext hE3
  have hD := hD.ext hE3
  have hJ10 : Own kByte 5 0 0 w3 (some ⟨g10, 0, none⟩) 2 2 [120, 121] := own_lit [120, 121] hN10 (Nat.zero_le _) (by simp)
  have hM10 : Mod B10 5 _ w3 := Mod.ofExt hE3
  refine g_drop 8 rfl rfl ?_
  refine o_convBB u31 u5 rfl hN10.blk ?_
  intro w4 hO4 hR4
  have hM10 := hM10.trans (hO4.mod (B := B10) (by rw [hB10, hN10.g_eq]; exact Nat.le_refl _))
  have hD := hDp.modB hM10 (by rw [hB10]; exact Nat.le_refl _)
  have hX := hXp.mod hM10 (by rw [hB10]; exact hXp.size)
  have hs10 := slx hJ10.sl hR4
  skip
  refine g_drop 8 rfl rfl ?_
  have hXs5 := hX.size
  refine o_call Try.func19 fn19 fb19 (Ret.known (disk_Append g (since w) (aw 1 [(kA, ([], 0))]) _ hD (aw_ok (by decide) (by decide)) (by decide) (by decide) kA (by decide) _ _ _ _ _ [120, 121] hs10) (by rw [aw2] : _ = Value.int .i64 0)) rfl ?_
  rintro v5 w5 ⟨rfl, hD2, hM2⟩
  rw [aw2] at hD2
  have hD : Dsk (since w) w5 g (aw 2 [(kA, ([120, 121], 0))]) := hD2.all (since_le w) hXs5
  have hX := hX.modS hM2 (since_le w)
  skip
  refine g1 8 rfl rfl ((x_neq rfl rfl).cast (congrArg _ (decide_eq_false (by decide)))) ?_
  refine p1 (x_pick_f rfl (by conv => lhs; whnf)) ?_
  refine p1 (x_move (by conv => lhs; whnf)) ?_
  refine g1 15 rfl rfl (x_move (by conv => lhs; whnf)) ?_
  refine g_drop 15 rfl rfl ?_
  have hXs6 := hX.size
  refine o_call Try.func23 fn23 fb23 (Ret.known (disk_Sync g (since w) (aw 2 [(kA, ([120, 121], 0))]) _ hD (aw_ok (by decide) (by decide)) (by decide) (by decide) kA (by decide)) (by rw [aw3] : _ = Value.int .i64 0)) rfl ?_
  rintro v6 w6 ⟨rfl, hD2, hM2⟩
  rw [aw3] at hD2
  have hD : Dsk (since w) w6 g (aw 3 [(kA, ([120, 121], 2))]) := hD2.all (since_le w) hXs6
  have hX := hX.modS hM2 (since_le w)
  skip
  refine g1 15 rfl rfl ((x_neq rfl rfl).cast (congrArg _ (decide_eq_false (by decide)))) ?_
  refine p1 (x_pick_f rfl (by conv => lhs; whnf)) ?_
  refine p1 (x_move (by conv => lhs; whnf)) ?_
  refine g1 20 rfl rfl (x_move (by conv => lhs; whnf)) ?_
  have hDp := hD
  have hXp := hX
  obtain ⟨B22, hB22⟩ : ∃ B, B = w6.heap.size := ⟨_, rfl⟩
  refine g_drop 20 rfl rfl ?_
  refine o_buildSlice u31 inf5 rfl (by decide) (fun base hb => fill_one (by rfl) base hb) ?_
  intro w7 g22 hN22
  have hE7 := hN22.ext
  have hX := hX.ext hE7
  have hD := hD.ext hE7
  have hJ22 : Own kByte 5 0 0 w7 (some ⟨g22, 0, none⟩) 1 1 [122] := own_lit [122] hN22 (Nat.zero_le _) (by simp)
  have hM22 : Mod B22 5 _ w7 := Mod.ofExt hE7
  refine g_drop 20 rfl rfl ?_
  refine o_convBB u31 u5 rfl hN22.blk ?_
  intro w8 hO8 hR8
  have hM22 := hM22.trans (hO8.mod (B := B22) (by rw [hB22, hN22.g_eq]; exact Nat.le_refl _))
  have hD := hDp.modB hM22 (by rw [hB22]; exact Nat.le_refl _)
  have hX := hXp.mod hM22 (by rw [hB22]; exact hXp.size)
  have hs22 := slx hJ22.sl hR8
  skip
  refine g_drop 20 rfl rfl ?_
  have hXs9 := hX.size
  refine o_call Try.func19 fn19 fb19 (Ret.known (disk_Append g (since w) (aw 3 [(kA, ([120, 121], 2))]) _ hD (aw_ok (by decide) (by decide)) (by decide) (by decide) kA (by decide) _ _ _ _ _ [122] hs22) (by rw [aw4] : _ = Value.int .i64 0)) rfl ?_
  rintro v9 w9 ⟨rfl, hD2, hM2⟩
  rw [aw4] at hD2
  have hD : Dsk (since w) w9 g (aw 4 [(kA, ([120, 121, 122], 2))]) := hD2.all (since_le w) hXs9
  have hX := hX.modS hM2 (since_le w)
  skip
  refine g1 20 rfl rfl ((x_neq rfl rfl).cast (congrArg _ (decide_eq_false (by decide)))) ?_
  refine p1 (x_pick_f rfl (by conv => lhs; whnf)) ?_
  refine r_nil ?_
  refine t_n ?_
  refine c_f (rfl) ?_
  refine c_skip ?_
  refine t_n ?_
  refine c_seq ?_
  refine r_plain ?_
  refine p1 (x_move (by conv => lhs; whnf)) ?_
  have hXs10 := hX.size
  refine o_call Try.func26 fn26 fb26 (disk_Start g (since w) (aw 4 [(kA, ([120, 121, 122], 2))]) _ hD (aw_ok (by decide) (by decide)) [] none 0 0 (Out.nil _ _)) rfl ?_
  rintro v10 w10 ⟨hD2, hM2⟩
  rw [aw5] at hD2
  have hD : Dsk (since w) w10 g (aw 4 [(kA, ([120, 121], 2))]) := hD2.all (since_le w) hXs10
  have hX := hX.modS hM2 (since_le w)
  skip
  refine r_nil ?_
  refine t_n ?_
  refine c_seq ?_
  refine r_plain ?_
  refine p1 (x_move (by conv => lhs; whnf)) ?_
  refine o_call Try.func14 fn14 fb14 (disk_Read g (since w) (aw 4 [(kA, ([120, 121], 2))]) _ hD (aw_ok (by decide) (by decide)) kA (by decide)) rfl ?_
  rintro v11 w11 ⟨⟨q9, n9, c9, rfl, hO⟩, hE11⟩
  have hX := hX.ext hE11
  have hD := hD.ext hE11
  rw [aw6] at hO
  refine p1 (x_move (by conv => lhs; whnf)) ?_
  refine p1 (x_extract rfl rfl) ?_
  refine p1 (x_extract rfl rfl) ?_
  refine p1 (x_assign (by conv => lhs; whnf)) ?_
  refine p1 (x_assign (by conv => lhs; whnf)) ?_
  refine r_nil ?_
  refine t_n ?_
  refine c_seq ?_
  refine r_plain ?_
  refine p1 (x_move (by conv => lhs; whnf)) ?_
  refine p1 (x_bytes_str u31 u5 u9 rfl hO.sl) ?_
  refine p1 ((x_eql_str rfl rfl).cast (congrArg _ (decide_eq_true (by rfl)))) ?_
  refine p1 (x_move (by conv => lhs; whnf)) ?_
  refine g1 37 rfl rfl (x_move (by conv => lhs; whnf)) ?_
  refine g1 37 rfl rfl ((x_eql rfl rfl).cast (congrArg _ (decide_eq_true (by rw [aw6])))) ?_
  refine p1 (x_pick_t rfl (by conv => lhs; whnf)) ?_
  refine p1 (x_move (by conv => lhs; whnf)) ?_
  refine g1 41 rfl rfl (x_move (by conv => lhs; whnf)) ?_
  refine g_drop 41 rfl rfl ?_
  refine o_call Try.func22 fn22 fb22 (disk_Steps g (since w) (aw 4 [(kA, ([120, 121], 2))]) _ hD) rfl ?_
  rintro v12 w12 ⟨rfl, hE12⟩
  have hX := hX.ext hE12
  have hD := hD.ext hE12
  have hO := hO.ext hE12
  refine g1 41 rfl rfl ((x_eql rfl rfl).cast (congrArg _ (decide_eq_true (by rfl)))) ?_
  refine p1 (x_pick_t rfl (by conv => lhs; whnf)) ?_
  refine p1 (x_move (by conv => lhs; whnf)) ?_
  refine p1 (x_pick_t rfl (by conv => lhs; whnf)) ?_
  refine p1 (x_move (by conv => lhs; whnf)) ?_
  refine p1 (x_pick_t rfl (by conv => lhs; whnf)) ?_
  refine p1 (x_move (by conv => lhs; whnf)) ?_
  refine p1 (x_pick_t rfl (by conv => lhs; whnf)) ?_
  refine p1 (x_move (by conv => lhs; whnf)) ?_
  refine p1 (x_pick_t rfl (by conv => lhs; whnf)) ?_
  refine p1 (x_move (by conv => lhs; whnf)) ?_
  refine p1 (x_pick_t rfl (by conv => lhs; whnf)) ?_
  refine p1 (x_move (by conv => lhs; whnf)) ?_
  refine p1 (x_pick_t rfl (by conv => lhs; whnf)) ?_
  refine p1 (x_move (by conv => lhs; whnf)) ?_
  refine p1 (x_pick_t rfl (by conv => lhs; whnf)) ?_
  refine p1 (x_move (by conv => lhs; whnf)) ?_
  refine p1 (x_pick_t rfl (by conv => lhs; whnf)) ?_
  refine p1 (x_move (by conv => lhs; whnf)) ?_
  refine p1 (x_pick_t rfl (by conv => lhs; whnf)) ?_
  refine p1 (x_move (by conv => lhs; whnf)) ?_
  refine p1 (x_pick_t rfl (by conv => lhs; whnf)) ?_
  refine p1 (x_assign (by conv => lhs; whnf)) ?_
  refine r_nil ?_
  refine t_n ?_
  refine c_ret ?_
  refine end1 rfl (by conv => lhs; whnf) ?_
  exact ⟨rfl, hX⟩
end Go.Proofs.Eng
end
section
set_option linter.unusedVariables false
set_option linter.unusedSimpArgs false
set_option maxRecDepth 100000
set_option maxHeartbeats 4000000
namespace Go.Proofs.Eng
open Go.RowKit
open Extern.Stop (cell)
theorem fb16 : Try.f16.body.isNone = false := by kernel_rfl
theorem fb18 : Try.f18.body.isNone = false := by kernel_rfl
theorem fb20 : Try.f20.body.isNone = false := by kernel_rfl
theorem fb21 : Try.f21.body.isNone = false := by kernel_rfl
theorem fb24 : Try.f24.body.isNone = false := by kernel_rfl
theorem fb25 : Try.f25.body.isNone = false := by kernel_rfl
theorem fb29 : Try.f29.body.isNone = false := by kernel_rfl
theorem fn16 : (Try.f16.name == "runtime.NumGoroutine") = false := by kernel_rfl
theorem fn18 : (Try.f18.name == "runtime.NumGoroutine") = false := by kernel_rfl
theorem fn20 : (Try.f20.name == "runtime.NumGoroutine") = false := by kernel_rfl
theorem fn21 : (Try.f21.name == "runtime.NumGoroutine") = false := by kernel_rfl
theorem fn24 : (Try.f24.name == "runtime.NumGoroutine") = false := by kernel_rfl
theorem fn25 : (Try.f25.name == "runtime.NumGoroutine") = false := by kernel_rfl
theorem fn29 : (Try.f29.name == "runtime.NumGoroutine") = false := by kernel_rfl
end Go.Proofs.Eng
end
section
set_option linter.unusedVariables false
set_option linter.unusedSimpArgs false
set_option maxRecDepth 100000
set_option maxHeartbeats 4000000
namespace Go.Proofs.Eng
open Go.RowKit
open Extern.Stop (cell)
theorem look_nil (p : Option Addr) (n c : Nat) (w : World) :
    Ret Try.prog 41 [.pointer none, .slice p n c] w (fun v w' => v = .int .i64 1 ∧ Ext w w') := by
  have hX := Ext.refl w
  refine enter 23 _ Try.func41 rfl rfl (Nat.le_of_ble_eq_true rfl) rfl ?_
  refine c_seq ?_
  refine r_plain ?_
  refine p1 (x_assign (by conv => lhs; whnf)) ?_
  refine r_nil ?_
  refine t_n ?_
  refine c_seq ?_
  refine c_seq ?_
  refine r_plain ?_
  refine p1 (x_move (by conv => lhs; whnf)) ?_
  refine p1 ((x_eql_ptrnil u23 rfl rfl).cast (congrArg _ (decide_eq_true (by simp)))) ?_
  refine r_nil ?_
  refine t_n ?_
  refine c_t rfl ?_
  refine c_seq ?_
  refine r_plain ?_
  refine p1 (x_assign (by conv => lhs; whnf)) ?_
  refine r_nil ?_
  refine t_n ?_
  refine c_ret ?_
  refine t_r ?_
  refine end1 rfl (by conv => lhs; whnf) ?_
  exact ⟨rfl, hX⟩
theorem append_nil (k : ByteArray) (p : Option Addr) (n c : Nat) (w : World) :
    Ret Try.prog 19 [.pointer none, .string k, .slice p n c] w (fun v w' => v = .int .i64 1 ∧ Ext w w') := by
  have hX := Ext.refl w
  refine enter 37 _ Try.func19 rfl rfl (Nat.le_of_ble_eq_true rfl) rfl ?_
  refine c_seq ?_
  refine r_plain ?_
  refine o_box1 (by conv => lhs; whnf) rfl ?_
  intro w1 g3 hN3
  have hE1 := hN3.ext
  have hX := hX.ext hE1
  have hB3 := hN3.blk
  refine o_box1 (by conv => lhs; whnf) rfl ?_
  intro w2 g4 hN4
  have hE2 := hN4.ext
  have hX := hX.ext hE2
  have hB3 := hB3.ext hE2
  have hB4 := hN4.blk
  refine o_box1 (by conv => lhs; whnf) rfl ?_
  intro w3 g5 hN5
  have hE3 := hN5.ext
  have hX := hX.ext hE3
  have hB3 := hB3.ext hE3
  have hB4 := hB4.ext hE3
  have hB5 := hN5.blk
  refine p1 (x_assign (by conv => lhs; whnf)) ?_
  refine r_nil ?_
  refine t_n ?_
  refine c_seq ?_
  refine c_seq ?_
  refine r_plain ?_
  refine p1 (x_load1 un23 rfl (hB3.cell (rfl))) ?_
  refine p1 (x_load1 un9 rfl (hB4.cell (rfl))) ?_
  refine o_buildSlice u51 inf9 rfl (by decide) (fun base hb => fill_one (by rfl) base hb) ?_
  intro w4 g10 hN10
  have hE4 := hN10.ext
  have hX := hX.ext hE4
  have hB3 := hB3.ext hE4
  have hB4 := hB4.ext hE4
  have hB5 := hB5.ext hE4
  refine o_call Try.func41 fn41 fb41 (look_nil _ _ _ _) rfl ?_
  rintro v5 w5 ⟨rfl, hE5⟩
  have hX := hX.ext hE5
  have hB3 := hB3.ext hE5
  have hB4 := hB4.ext hE5
  have hB5 := hB5.ext hE5
  refine p1 (x_assign (by conv => lhs; whnf)) ?_
  refine r_nil ?_
  refine t_n ?_
  refine c_block ?_
  refine c_seq ?_
  refine r_plain ?_
  refine p1 (x_move (by conv => lhs; whnf)) ?_
  refine p1 ((x_neq rfl rfl).cast (congrArg _ (decide_eq_true (by decide)))) ?_
  refine p1 (x_assign (by conv => lhs; whnf)) ?_
  refine r_nil ?_
  refine t_n ?_
  refine c_t rfl ?_
  refine c_seq ?_
  refine r_plain ?_
  refine p1 (x_move (by conv => lhs; whnf)) ?_
  refine p1 (x_assign (by conv => lhs; whnf)) ?_
  refine r_nil ?_
  refine t_n ?_
  refine c_ret ?_
  refine b_r ?_
  refine t_r ?_
  refine end1 rfl (by conv => lhs; whnf) ?_
  exact ⟨rfl, hX⟩
end Go.Proofs.Eng
end
section
set_option linter.unusedVariables false
set_option linter.unusedSimpArgs false
namespace Go.Proofs.Eng
open Go.RowKit
def d1 : DS := { most := 1048576, l := [(kA, ([], 0))], steps := 1, left := -1, done := false, down := false }
end Go.Proofs.Eng
end
section
set_option linter.unusedVariables false
set_option linter.unusedSimpArgs false
set_option maxRecDepth 100000
set_option maxHeartbeats 4000000
namespace Go.Proofs.Eng
open Go.RowKit
open Extern.Stop (cell)
theorem u4 : Try.prog.underlying 4 = some (.bool) := by kernel_rfl
end Go.Proofs.Eng
end
section
set_option linter.unusedVariables false
set_option linter.unusedSimpArgs false
set_option maxRecDepth 100000
set_option maxHeartbeats 4000000
namespace Go.Proofs.Eng
open Go.RowKit
open Extern.Stop (cell)
end Go.Proofs.Eng
end
section
set_option linter.unusedVariables false
set_option linter.unusedSimpArgs false
set_option maxRecDepth 100000
set_option maxHeartbeats 4000000
namespace Go.Proofs.Eng
open Go.RowKit
open Extern.Stop (cell)
theorem fo33_0 : fieldOf Try.prog 33 0 = some (5, 0) := by kernel_rfl
theorem fo33_1 : fieldOf Try.prog 33 1 = some (9, 1) := by kernel_rfl
theorem fo33_2 : fieldOf Try.prog 33 2 = some (9, 2) := by kernel_rfl
theorem fo33_3 : fieldOf Try.prog 33 3 = some (31, 3) := by kernel_rfl
theorem fo33_4 : fieldOf Try.prog 33 4 = some (3, 4) := by kernel_rfl
theorem fo33_5 : fieldOf Try.prog 33 5 = some (4, 5) := by kernel_rfl
theorem sz33 : (Try.prog.info? 33).map (·.size) = some 6 := by kernel_rfl
theorem u22 : Try.prog.underlying 22 = some (.slice 33) := by kernel_rfl
theorem ua33 : (Try.prog.underlying 33).map TypeDesc.isRow = some true := by kernel_rfl
end Go.Proofs.Eng
end
section
set_option linter.unusedVariables false
set_option linter.unusedSimpArgs false
set_option maxRecDepth 100000
set_option maxHeartbeats 4000000
namespace Go.Proofs.Eng
open Go.RowKit
open Extern.Stop (cell)
end Go.Proofs.Eng
end
section
set_option linter.unusedVariables false
set_option linter.unusedSimpArgs false
set_option maxRecDepth 100000
set_option maxHeartbeats 4000000
namespace Go.Proofs.Eng
open Go.RowKit
open Extern.Stop (cell)
end Go.Proofs.Eng
end
section
set_option linter.unusedVariables false
set_option linter.unusedSimpArgs false
set_option maxRecDepth 100000
set_option maxHeartbeats 4000000
namespace Go.Proofs.Eng
open Go.RowKit
open Extern.Stop (cell)
end Go.Proofs.Eng
end
section
set_option linter.unusedVariables false
set_option linter.unusedSimpArgs false
namespace Go.Proofs.Eng
open Go.RowKit
end Go.Proofs.Eng
end
section
set_option linter.unusedVariables false
set_option linter.unusedSimpArgs false
set_option maxRecDepth 100000
set_option maxHeartbeats 4000000
namespace Go.Proofs.Eng
open Go.RowKit
open Extern.Stop (cell)
end Go.Proofs.Eng
end
section
set_option linter.unusedVariables false
set_option linter.unusedSimpArgs false
set_option maxRecDepth 100000
set_option maxHeartbeats 4000000
namespace Go.Proofs.Eng
open Go.RowKit
open Extern.Stop (cell)
end Go.Proofs.Eng
end
section
set_option linter.unusedVariables false
set_option linter.unusedSimpArgs false
namespace Go.Proofs.Eng
open Go.RowKit
open Extern.Stop (cell)
/-! ### a disk's copy, as far as it has come -/
structure Cop (S : Nat → Prop) (w : World) (ν : ByteArray → Option Raw) (vs : List ByteArray) (l : List Fl) : Prop where
  has : ∀ k ∈ vs, ν k ≠ none
  yes : ∀ k y, ν k = some y → k ∈ vs ∧ ∃ f, ascA l k = some f ∧ y.2.2.2 = f.2 ∧ FB S w y.1 y.2.1 y.2.2.1 f.1
  ap : ∀ k k' y y', k ≠ k' → ν k = some y → ν k' = some y' → Apart y.1 y'.1
namespace Cop
variable {S : Nat → Prop} {w w' : World} {ν : ByteArray → Option Raw} {vs : List ByteArray} {l : List Fl} {t : TypeId} {r : Nat}
theorem none (S : Nat → Prop) (w : World) (l : List Fl) : Cop S w (fun _ => Option.none) [] l := ⟨fun _ h => (by cases h), fun _ _ h => (by cases h), fun _ _ _ _ _ h => (by cases h)⟩
theorem keep (h : Cop S w ν vs l) (hk : ∀ k x, ν k = some x → ∀ xs, FB S w x.1 x.2.1 x.2.2.1 xs → FB S w' x.1 x.2.1 x.2.2.1 xs) : Cop S w' ν vs l :=
  ⟨h.has, fun k x hx => by obtain ⟨h0, f, h1, h2, h3⟩ := h.yes k x hx; exact ⟨h0, f, h1, h2, hk k x hx _ h3⟩, h.ap⟩
theorem ext (h : Cop S w ν vs l) (x : Ext w w') : Cop S w' ν vs l := h.keep fun _ _ _ _ hf => hf.ext x
theorem one (h : Cop S w ν vs l) (m : One t r w w') (ht : t ≠ 5) : Cop S w' ν vs l := h.keep fun _ _ _ _ hf => hf.one m ht
theorem modT (h : Cop S w ν vs l) {B : Nat} (m : Mod B t w w') (ht : t ≠ 5) : Cop S w' ν vs l := h.keep fun _ _ _ _ hf => hf.modT m ht
theorem put (h : Cop S w ν vs l) {a : ByteArray} (ha : a ∉ vs) {x : Raw} {f : Fb} (hf : ascA l a = some f) (hs : x.2.2.2 = f.2) (hF : FB S w x.1 x.2.1 x.2.2.1 f.1) (hap : ∀ k y, ν k = some y → Apart x.1 y.1) : Cop S w (mset ν a (some x)) (vs ++ [a]) l := by
  refine ⟨fun k hk => ?_, fun k y hy => ?_, fun k k' y y' hne hy hy' => ?_⟩
  · unfold mset
    split
    · simp
    · rename_i e
      rcases List.mem_append.1 hk with hk | hk
      · exact h.has k hk
      · simp only [List.mem_singleton] at hk; exact absurd hk e
  · unfold mset at hy
    split at hy
    · rename_i e
      injection hy with hy; subst hy e
      exact ⟨by simp, f, hf, hs, hF⟩
    · obtain ⟨h0, h1⟩ := h.yes k y hy
      exact ⟨by simp [h0], h1⟩
  · unfold mset at hy hy'
    split at hy <;> split at hy'
    · rename_i e e'; exact absurd (e.trans e'.symm) hne
    · injection hy with hy; subst hy; exact hap k' y' hy'
    · injection hy' with hy'; subst hy'; exact (hap k y hy).symm
    · exact h.ap k k' y y' hne hy hy'
theorem apart (h : Cop S w ν vs l) {S2 : Nat → Prop} {w2 : World} {q : Option Addr} {n c : Nat} {xs : List UInt8} (hq : FB S2 w2 q n c xs) (hS : ∀ j, S2 j → w.heap.size ≤ j) : ∀ k y, ν k = some y → Apart q y.1 := fun k y hy => by
  obtain ⟨_, f, _, _, h3⟩ := h.yes k y hy
  rcases hq.ok with ⟨h1, _⟩ | ⟨g, cur, h1, h2, _⟩
  · exact .inl h1
  · refine .inr (.inr fun e => ?_)
    rw [h1] at e
    have := (h3.inS e.symm).2
    have := hS g h2
    omega
end Cop
end Go.Proofs.Eng
end
section
set_option linter.unusedVariables false
set_option linter.unusedSimpArgs false
set_option maxRecDepth 100000
set_option maxHeartbeats 4000000
namespace Go.Proofs.Eng
open Go.RowKit
open Extern.Stop (cell)
end Go.Proofs.Eng
end
section
set_option linter.unusedVariables false
set_option linter.unusedSimpArgs false
set_option maxRecDepth 100000
set_option maxHeartbeats 4000000
namespace Go.Proofs.Eng
open Go.RowKit
open Extern.Stop (cell)
end Go.Proofs.Eng
end
section
set_option linter.unusedVariables false
set_option linter.unusedSimpArgs false
namespace Go.Proofs.Eng
open Go.RowKit
theorem usedL_step {l : List Fl} {k : Nat} (hk : k < l.length) : usedL (l.take (k + 1)) = usedL (l.take k) + (l.getD k default).2.1.length := by
  rw [List.take_add_one, List.getElem?_eq_getElem hk, usedL_append, List.getD_eq_getElem?_getD, List.getElem?_eq_getElem hk]
  simp [usedL]
end Go.Proofs.Eng
end
section
set_option linter.unusedVariables false
set_option linter.unusedSimpArgs false
namespace Go.Proofs.Eng
open Go.RowKit
open Extern.Stop (cell)
theorem Dsk.narrow {S : Nat → Prop} {w : World} {g : Nat} {D : DS} (h : Dsk S w g D) {B : Nat} (hB : w.heap.size ≤ B) : Dsk (fun j => S j ∧ j < B) w g D := h.mono fun k hk hs => ⟨hs, by omega⟩
theorem Out.move {S S' : Nat → Prop} {w : World} {p : Option Addr} {n c : Nat} {xs : List UInt8} (h : Out S w p n c xs) (ho : xs ≠ [] → ¬ S' (ab p)) : Out S' w p n c xs := ⟨h.len, h.cap, h.fit, h.row, ho⟩
end Go.Proofs.Eng
end
section
set_option linter.unusedVariables false
set_option linter.unusedSimpArgs false
set_option maxRecDepth 100000
set_option maxHeartbeats 4000000
namespace Go.Proofs.Eng
open Go.RowKit
open Extern.Stop (cell)
end Go.Proofs.Eng
end
section
set_option linter.unusedVariables false
set_option linter.unusedSimpArgs false
namespace Go.Proofs.Eng
open Go.RowKit
open Extern.Stop (cell)
/-! ### the disk of the reference -/
def encF (x : Fl) : List Value := [.string x.1, .string (toStr (x.2.1.take x.2.2)), .string (toStr (x.2.1.drop x.2.2))]
def kFl : Kind Fl := .pure 3 encF (fun _ => rfl) (fun x v hv => by simp [encF] at hv; rcases hv with rfl | rfl | rfl <;> rfl)
theorem kFl_pos : 0 < kFl.sz := by decide
theorem Sl.flRange {e : TypeId} {B : Nat} {w : World} {p : Option Addr} {n c : Nat} {l : List Fl} (h : Sl kFl e B w p n c l) (i : Nat) (hi : i < n) : w.rangeAt (ab p) (ao p + i * 3) (encF (l.getD i default)) := by
  obtain ⟨cs, hk, hr⟩ := h.get default i hi
  have : cs = encF (l.getD i default) := hk
  subst this
  exact hr
theorem Sl.flAt {e : TypeId} {B : Nat} {w : World} {p : Option Addr} {n c : Nat} {l : List Fl} (h : Sl kFl e B w p n c l) (i : Nat) (hi : i < n) (j : Nat) {v : Value} (hv : (encF (l.getD i default))[j]? = some v) : w.cell? ⟨ab p, ao p + i * 3 + j, none⟩ = some v := h.flRange i hi j v hv
theorem toStr_size (xs : List UInt8) : (toStr xs).size = xs.length := by unfold toStr; simp [ByteArray.size]
theorem toStr_append (xs ys : List UInt8) : toStr xs ++ toStr ys = toStr (xs ++ ys) := by
  apply ba_toList_inj
  rw [ByteArray.toList_eq, ByteArray.toList_eq]
  simp [toStr, ByteArray.data_append]
section
variable {P : Program} {N : Nat} {f : Nat → Value} {w : World} {dst : Option Nat} {T T' ty0 : TypeId} {pos : String} {aft : Array Edge} {gd : Option (Nat × Bool)} {x y : Operand}
theorem x_add_str {s t : ByteArray} (hx : ev N f x = .string s) (hy : ev N f y = .string t) (h : s.size + t.size ≤ 9223372036854775807) : Ex P w N f ⟨dst, .binOp .add T x y T', ty0, pos, aft, gd⟩ (.string (s ++ t)) :=
  ex_bin hx hy (guard_str s t) (by
    have h1 : ¬ (IntKind.i64.max < ((s.size + t.size : Nat) : Int)) := by show ¬ ((9223372036854775807 : Int) < _); omega
    simp only [binOp, Op.stringOp]
    rw [if_neg (by first | exact h1 | (intro h2; exact h1 h2))]
    rfl)
theorem x_slice_str_h (hT : P.underlying T = some .string) {xs : List UInt8} {k : IntKind} {b : Int} (hx : ev N f x = .string (toStr xs)) (hy : ev N f y = .int k b) (h0 : 0 ≤ b) (h1 : b ≤ (xs.length : Int)) :
    Ex P w N f ⟨dst, .slice T x none (some y) none, ty0, pos, aft, gd⟩ (.string (toStr (xs.take b.toNat))) := by
  have hs : (toStr xs).size = xs.length := toStr_size xs
  have e : (toStr xs).extract 0 b.toNat = toStr (xs.take b.toNat) := by
    apply ba_toList_inj
    rw [ByteArray.toList_eq, ByteArray.toList_eq]
    simp [toStr, ByteArray.data_extract]
  unfold Ex execOp
  simp only [Option.map, hx, hy]
  simp [Instr.sliceAt, Instr.slice, Sem.run_bind, run_underlying hT, Instr.sliceBounds, Instr.sliceBound, asIntOf, h0, hs, h1, e]
end
structure LfOk (D : DS) (lf : Int) : Prop where
  eq : 0 ≤ D.left → lf = D.left
  lo : -1 ≤ lf
  hi : lf ≤ 9223372036854775807
def RefV (w : World) (cs : Array Value) (D : DS) : Prop := ∃ p n c lf, cs = #[.int .i64 (D.most : Int), .slice p n c, .int .i64 (D.steps : Int), .bool (decide (0 ≤ D.left)), .int .i64 lf, .bool D.done, .bool D.down] ∧ Sl kFl 81 0 w p n c D.l ∧ LfOk D lf
theorem RefV.ext {w w' : World} {cs : Array Value} {D : DS} (h : RefV w cs D) (x : Ext w w') : RefV w' cs D := by
  obtain ⟨p, n, c, lf, h1, h2, h3⟩ := h
  exact ⟨p, n, c, lf, h1, h2.ext x, h3⟩
theorem RefV.modS {S : Nat → Prop} {w w' : World} {cs : Array Value} {D : DS} (h : RefV w cs D) (m : ModS S ED w w') : RefV w' cs D := by
  obtain ⟨p, n, c, lf, h1, h2, h3⟩ := h
  exact ⟨p, n, c, lf, h1, h2.modS m (fun _ _ => Nat.zero_le _) (by decide), h3⟩
theorem named_of {s : ByteArray} (h : ∀ i, i < s.size → 33 ≤ (btAt s i).toNat ∧ (btAt s i).toNat ≤ 126) : namedD s = decide (1 ≤ s.size ∧ s.size ≤ 32) := by
  unfold namedD
  have : (s.data.toList.all fun c => decide (33 ≤ c.toNat ∧ c.toNat ≤ 126)) = true := by
    rw [List.all_eq_true]
    intro c hc
    obtain ⟨i, hi, e⟩ := List.mem_iff_getElem.1 hc
    have := h i (by simpa using hi)
    rw [btAt, List.getD_eq_getElem?_getD, List.getElem?_eq_getElem hi, Option.getD_some, e] at this
    exact decide_eq_true this
  rw [this, Bool.and_true]
instance (l : List Fl) (i : Nat) (k : ByteArray) : Decidable (isAtA l i k) := by unfold isAtA; exact inferInstance
end Go.Proofs.Eng
end
section
set_option linter.unusedVariables false
set_option linter.unusedSimpArgs false
set_option maxRecDepth 100000
set_option maxHeartbeats 4000000
namespace Go.Proofs.Eng
open Go.RowKit
open Extern.Stop (cell)
theorem fb45 : Try.f45.body.isNone = false := by kernel_rfl
theorem fb61 : Try.f61.body.isNone = false := by kernel_rfl
theorem fn45 : (Try.f45.name == "runtime.NumGoroutine") = false := by kernel_rfl
theorem fn61 : (Try.f61.name == "runtime.NumGoroutine") = false := by kernel_rfl
theorem fo27_1 : fieldOf Try.prog 27 1 = some (25, 1) := by kernel_rfl
theorem fo27_2 : fieldOf Try.prog 27 2 = some (3, 2) := by kernel_rfl
theorem fo27_3 : fieldOf Try.prog 27 3 = some (4, 3) := by kernel_rfl
theorem fo27_4 : fieldOf Try.prog 27 4 = some (3, 4) := by kernel_rfl
theorem fo27_5 : fieldOf Try.prog 27 5 = some (4, 5) := by kernel_rfl
theorem fo27_6 : fieldOf Try.prog 27 6 = some (4, 6) := by kernel_rfl
theorem fo81_0 : fieldOf Try.prog 81 0 = some (9, 0) := by kernel_rfl
theorem fo81_1 : fieldOf Try.prog 81 1 = some (9, 1) := by kernel_rfl
theorem fo81_2 : fieldOf Try.prog 81 2 = some (9, 2) := by kernel_rfl
theorem inf81 : (Try.prog.info? 81).map (fun i => (i.zero, i.size, i.bytes)) = some (some (.agg #[.string ByteArray.empty, .string ByteArray.empty, .string ByteArray.empty]), 3, 48) := by kernel_rfl
theorem sz25 : (Try.prog.info? 25).map (·.size) = some 1 := by kernel_rfl
theorem sz27 : (Try.prog.info? 27).map (·.size) = some 7 := by kernel_rfl
theorem sz81 : (Try.prog.info? 81).map (·.size) = some 3 := by kernel_rfl
theorem u25 : Try.prog.underlying 25 = some (.slice 81) := by kernel_rfl
theorem ua27 : (Try.prog.underlying 27).map TypeDesc.isRow = some true := by kernel_rfl
theorem ua81 : (Try.prog.underlying 81).map TypeDesc.isRow = some true := by kernel_rfl
theorem un25 : (Try.prog.underlying 25).map TypeDesc.isRow = some false := by kernel_rfl
theorem zr27 : (Try.prog.info? 27).map (·.zero) = some (some (.agg #[.int .i64 0, .slice none 0 0, .int .i64 0, .bool false, .int .i64 0, .bool false, .bool false])) := by kernel_rfl
end Go.Proofs.Eng
end
section
set_option linter.unusedVariables false
set_option linter.unusedSimpArgs false
set_option maxRecDepth 100000
set_option maxHeartbeats 4000000
namespace Go.Proofs.Eng
open Go.RowKit
open Extern.Stop (cell)
theorem ref_Named (s : ByteArray) (w : World) (hs : s.size ≤ 9223372036854775807) :
    Ret Try.prog 61 [.string s] w (fun v w' => v = .bool (namedD s) ∧ Ext w w') := by
  have hX := Ext.refl w
  refine enter 28 _ Try.func61 rfl rfl (Nat.le_of_ble_eq_true rfl) rfl ?_
  refine c_seq ?_
  refine r_plain ?_
  refine p1 (x_assign (by conv => lhs; whnf)) ?_
  refine r_nil ?_
  refine t_n ?_
  refine c_seq ?_
  refine c_seq ?_
  refine r_plain ?_
  refine p1 (x_assign (by conv => lhs; whnf)) ?_
  refine r_nil ?_
  refine t_n ?_
  refine c_block ?_
  have hWL0 := Ext.refl w
  refine c_loop (ι := Nat) [2, 3, 4, 5, 6, 7, 8, 9, 10, 11, 12, 13, 14, 15, 16, 17, 18, 19] (fun k => [(3, .int .i64 (k : Int))]) (fun k w' => Ext w w' ∧ (k ≤ s.size ∧ ∀ i, i < k → 33 ≤ (btAt s i).toNat ∧ (btAt s i).toNat ≤ 126)) (fun k => s.size - k) (0) ⟨rfl, trivial⟩ ⟨Ext.refl _, ⟨by omega, fun i hi => by omega⟩⟩ ?_
  rintro k GL0 w1 ⟨hE1, hk, hL⟩
  have hX := hX.ext hE1
  have hWL0 := hE1
  refine c_seq ?_
  refine c_seq ?_
  refine r_plain ?_
  refine p1 (x_move (by conv => lhs; whnf)) ?_
  refine p1 (x_move (by conv => lhs; whnf)) ?_
  refine p1 (x_len_str u9 rfl) ?_
  refine p1 (x_lss rfl rfl) ?_
  refine r_nil ?_
  refine t_n ?_
  first | refine c_dec rfl (fun hc7 => ?_) (fun hc7 => ?_) | refine c_if rfl (fun hc7 => ?_) (fun hc7 => ?_)
  · try simp only [decide_eq_true_eq, decide_eq_false_iff_not, Bool.not_eq_true, Bool.not_eq_false, Bool.not_eq_eq_eq_not, Bool.not_true, Bool.not_false, Int.not_lt, Int.not_le] at hc7
    refine c_skip ?_
    refine t_n ?_
    refine c_seq ?_
    refine c_block ?_
    refine c_seq ?_
    have hWr4 := Ext.refl w1
    refine c_cut (ι := Unit) [10, 11, 12, 13, 14, 15, 16, 17, 18, 19] (fun _ => [(19, .bool (decide (((btAt s k).toNat : Int) < 33 ∨ 126 < ((btAt s k).toNat : Int))))]) (fun _ w' => Ext w1 w') ?_ ?_
    · skip
      refine r_plain ?_
      refine p1 (x_move (by conv => lhs; whnf)) ?_
      refine p1 (x_move (by conv => lhs; whnf)) ?_
      refine p1 (x_ixstr0 u9 rfl rfl (by omega)) ?_
      refine p1 (x_lss rfl rfl) ?_
      refine p1b (x_move (by conv => lhs; whnf)) (fun hb4_4 => ?_) (fun hb4_4 => ?_)
      · try simp only [decide_eq_true_eq, decide_eq_false_iff_not, Bool.not_eq_true, Bool.not_eq_false, Bool.not_eq_eq_eq_not, Bool.not_true, Bool.not_false, Int.not_lt, Int.not_le] at hb4_4
        refine g0 14 rfl (by first | exact .inl rfl | exact .inr rfl) ?_
        refine g0 14 rfl (by first | exact .inl rfl | exact .inr rfl) ?_
        refine g0 14 rfl (by first | exact .inl rfl | exact .inr rfl) ?_
        refine g0 14 rfl (by first | exact .inl rfl | exact .inr rfl) ?_
        refine p1 (x_pick_t rfl (by conv => lhs; whnf)) ?_
        refine r_nil ?_
        refine t_n (At.mk () (by repeat (first | exact Agr.refl _ _ | exact Agr.hav _ _ _ | refine Agr.upd rfl ?_ | refine Agr.updR rfl ?_ | refine Agr.updL ?_ _ rfl | refine Agr.hav' rfl ?_)) ⟨congrArg Value.bool (by first | rfl | exact (decide_eq_true (by omega)).symm | exact (decide_eq_false (by omega)).symm | exact decide_eq_decide.2 (by omega) | (simp_all; done) | grind), trivial⟩ hWr4)
      · try simp only [decide_eq_true_eq, decide_eq_false_iff_not, Bool.not_eq_true, Bool.not_eq_false, Bool.not_eq_eq_eq_not, Bool.not_true, Bool.not_false, Int.not_lt, Int.not_le] at hb4_4
        refine g1 14 rfl rfl (x_move (by conv => lhs; whnf)) ?_
        refine g1 14 rfl rfl (x_move (by conv => lhs; whnf)) ?_
        refine g1 14 rfl rfl (x_ixstr0 u9 rfl rfl (by omega)) ?_
        refine g1 14 rfl rfl (x_gtr rfl rfl) ?_
        refine p1 (x_pick_f rfl (by conv => lhs; whnf)) ?_
        refine r_nil ?_
        refine t_n (At.mk () (by repeat (first | exact Agr.refl _ _ | exact Agr.hav _ _ _ | refine Agr.upd rfl ?_ | refine Agr.updR rfl ?_ | refine Agr.updL ?_ _ rfl | refine Agr.hav' rfl ?_)) ⟨congrArg Value.bool (by first | rfl | exact (decide_eq_true (by omega)).symm | exact (decide_eq_false (by omega)).symm | exact decide_eq_decide.2 (by omega) | (simp_all; done) | grind), trivial⟩ hWr4)
    · rintro _ Gr4 w2 hE2
      have hX := hX.ext hE2
      have hWL0 := hWL0.ext hE2
      refine t_n ?_
      first | refine c_dec rfl (fun hc19 => ?_) (fun hc19 => ?_) | refine c_if rfl (fun hc19 => ?_) (fun hc19 => ?_)
      · try simp only [decide_eq_true_eq, decide_eq_false_iff_not, Bool.not_eq_true, Bool.not_eq_false, Bool.not_eq_eq_eq_not, Bool.not_true, Bool.not_false, Int.not_lt, Int.not_le] at hc19
        have hp : namedD s = false := named_not (i := k) (by omega) (by omega)
        refine c_seq ?_
        refine r_plain ?_
        refine p1 (x_assign (by conv => lhs; whnf)) ?_
        refine r_nil ?_
        refine t_n ?_
        refine c_ret ?_
        refine b_r ?_
        refine t_r ?_
        refine t_r ?_
        refine b_r ?_
        refine t_r ?_
        refine end1 rfl (by conv => lhs; whnf) ?_
        exact ⟨by rw [hp], hX⟩
      · try simp only [decide_eq_true_eq, decide_eq_false_iff_not, Bool.not_eq_true, Bool.not_eq_false, Bool.not_eq_eq_eq_not, Bool.not_true, Bool.not_false, Int.not_lt, Int.not_le] at hc19
        refine c_skip ?_
        refine b_n ?_
        refine t_n ?_
        refine r_plain ?_
        refine p1 (x_move (by conv => lhs; whnf)) ?_
        refine p1 (x_add rfl rfl (fits_i64 (by omega) (by omega))) ?_
        refine p1 (x_assign (by conv => lhs; whnf)) ?_
        refine r_nil ?_
        refine t_n (At.mk (k + 1) (by repeat (first | exact Agr.refl _ _ | exact Agr.hav _ _ _ | refine Agr.upd rfl ?_ | refine Agr.updR rfl ?_ | refine Agr.updL ?_ _ rfl | refine Agr.hav' rfl ?_)) ⟨rfl, trivial⟩ ?_)
        exact ⟨⟨hWL0, ⟨by omega, fun i hi => if h : i < k then hL i h else by rw [show i = k from by omega]; omega⟩⟩, by first | (dsimp only; omega) | ((show _ < _); omega)⟩
  · try simp only [decide_eq_true_eq, decide_eq_false_iff_not, Bool.not_eq_true, Bool.not_eq_false, Bool.not_eq_eq_eq_not, Bool.not_true, Bool.not_false, Int.not_lt, Int.not_le] at hc7
    have hp : namedD s = decide (1 ≤ s.size ∧ s.size ≤ 32) := named_of (fun i hi => hL i (by omega))
    refine c_exit ?_
    refine t_e ?_
    refine t_e ?_
    refine b_hit ?_
    refine t_n ?_
    refine c_seq ?_
    have hWr6 := Ext.refl w1
    refine c_cut (ι := Unit) [2, 20, 21, 22, 23, 24, 25, 26, 27] (fun _ => [(2, .bool (decide (1 ≤ s.size ∧ s.size ≤ 32)))]) (fun _ w' => Ext w1 w') ?_ ?_
    · skip
      refine r_plain ?_
      refine p1 (x_move (by conv => lhs; whnf)) ?_
      refine p1 (x_len_str u9 rfl) ?_
      refine p1 (x_geq rfl rfl) ?_
      refine p1b (x_move (by conv => lhs; whnf)) (fun hb6_3 => ?_) (fun hb6_3 => ?_)
      · try simp only [decide_eq_true_eq, decide_eq_false_iff_not, Bool.not_eq_true, Bool.not_eq_false, Bool.not_eq_eq_eq_not, Bool.not_true, Bool.not_false, Int.not_lt, Int.not_le] at hb6_3
        refine g1 23 rfl rfl (x_move (by conv => lhs; whnf)) ?_
        refine g1 23 rfl rfl (x_len_str u9 rfl) ?_
        refine g1 23 rfl rfl (x_leq rfl rfl) ?_
        refine p1 (x_pick_t rfl (by conv => lhs; whnf)) ?_
        refine p1 (x_assign (by conv => lhs; whnf)) ?_
        refine r_nil ?_
        refine t_n (At.mk () (by repeat (first | exact Agr.refl _ _ | exact Agr.hav _ _ _ | refine Agr.upd rfl ?_ | refine Agr.updR rfl ?_ | refine Agr.updL ?_ _ rfl | refine Agr.hav' rfl ?_)) ⟨congrArg Value.bool (by first | rfl | exact (decide_eq_true (by omega)).symm | exact (decide_eq_false (by omega)).symm | exact decide_eq_decide.2 (by omega) | (simp_all; done) | grind), trivial⟩ hWr6)
      · try simp only [decide_eq_true_eq, decide_eq_false_iff_not, Bool.not_eq_true, Bool.not_eq_false, Bool.not_eq_eq_eq_not, Bool.not_true, Bool.not_false, Int.not_lt, Int.not_le] at hb6_3
        refine g0 23 rfl (by first | exact .inl rfl | exact .inr rfl) ?_
        refine g0 23 rfl (by first | exact .inl rfl | exact .inr rfl) ?_
        refine g0 23 rfl (by first | exact .inl rfl | exact .inr rfl) ?_
        refine p1 (x_pick_f rfl (by conv => lhs; whnf)) ?_
        refine p1 (x_assign (by conv => lhs; whnf)) ?_
        refine r_nil ?_
        refine t_n (At.mk () (by repeat (first | exact Agr.refl _ _ | exact Agr.hav _ _ _ | refine Agr.upd rfl ?_ | refine Agr.updR rfl ?_ | refine Agr.updL ?_ _ rfl | refine Agr.hav' rfl ?_)) ⟨congrArg Value.bool (by first | rfl | exact (decide_eq_true (by omega)).symm | exact (decide_eq_false (by omega)).symm | exact decide_eq_decide.2 (by omega) | (simp_all; done) | grind), trivial⟩ hWr6)
    · rintro _ Gr6 w3 hE3
      have hX := hX.ext hE3
      refine t_n ?_
      refine c_ret ?_
      refine end1 rfl (by conv => lhs; whnf) ?_
      exact ⟨by rw [hp], hX⟩
theorem ref_first (a0 a2 a4 : Int) (b3 b5 b6 : Bool) (p : Option Addr) (n c : Nat) (D : DS) (hdn : D.down = b6) (ns : List ByteArray) (B : Nat) (q : Option Addr) (m c2 : Nat) (w : World) (hl : Sl kStr 9 B w q m c2 ns) (hs : ∀ s ∈ ns, s.size ≤ 9223372036854775807) :
    Ret Try.prog 44 [.agg #[.int .i64 a0, .slice p n c, .int .i64 a2, .bool b3, .int .i64 a4, .bool b5, .bool b6], .slice q m c2] w (fun v w' => v = .int .i64 (lookD D ns) ∧ Ext w w') := by
  have hX := Ext.refl w
  refine enter 20 _ Try.func44 rfl rfl (Nat.le_of_ble_eq_true rfl) rfl ?_
  refine c_seq ?_
  refine r_plain ?_
  refine o_boxA (by conv => lhs; whnf) ?_
  intro w1 g2 hN2
  have hE1 := hN2.ext
  have hX := hX.ext hE1
  have hB2 := hN2.blk
  refine p1 (x_assign (by conv => lhs; whnf)) ?_
  refine r_nil ?_
  refine t_n ?_
  refine c_seq ?_
  refine c_seq ?_
  refine r_plain ?_
  refine p1 (x_assign (by conv => lhs; whnf)) ?_
  refine r_nil ?_
  refine t_n ?_
  refine c_block ?_
  have hWL0 := Ext.refl w1
  have hlen := hl.len
  have hfit := hl.fit
  have hcap := hl.cap
  refine c_loop (ι := Nat) [4, 5, 6, 7, 8, 9, 10, 11, 12, 13, 14, 15, 16, 17] (fun k => [(5, .int .i64 (k : Int))]) (fun k w' => Ext w1 w' ∧ (k ≤ m ∧ ∀ i, i < k → namedD (ns.getD i ByteArray.empty) = true)) (fun k => m - k) (0) ⟨rfl, trivial⟩ ⟨Ext.refl _, ⟨by omega, fun i hi => by omega⟩⟩ ?_
  rintro k GL0 w2 ⟨hE2, hk, hL⟩
  have hX := hX.ext hE2
  have hB2 := hB2.ext hE2
  have hWL0 := hE2
  refine c_seq ?_
  refine c_seq ?_
  refine r_plain ?_
  refine p1 (x_move (by conv => lhs; whnf)) ?_
  refine p1 (x_move (by conv => lhs; whnf)) ?_
  refine p1 (x_len_slice u51 rfl) ?_
  refine p1 (x_lss rfl rfl) ?_
  refine r_nil ?_
  refine t_n ?_
  first | refine c_dec rfl (fun hc9 => ?_) (fun hc9 => ?_) | refine c_if rfl (fun hc9 => ?_) (fun hc9 => ?_)
  · try simp only [decide_eq_true_eq, decide_eq_false_iff_not, Bool.not_eq_true, Bool.not_eq_false, Bool.not_eq_eq_eq_not, Bool.not_true, Bool.not_false, Int.not_lt, Int.not_le] at hc9
    refine c_skip ?_
    refine t_n ?_
    refine c_seq ?_
    refine c_block ?_
    refine c_seq ?_
    refine r_plain ?_
    refine p1 (x_move (by conv => lhs; whnf)) ?_
    refine p1 (x_move (by conv => lhs; whnf)) ?_
    refine p1 (x_ixs0 u51 sz9 rfl rfl ((hl.ext hX).adr kStr_pos (by omega)) (by omega)) ?_
    refine p1 (x_load1 un9 rfl ((hl.ext hX).strAt _ (by omega))) ?_
    refine o_call Try.func61 fn61 fb61 (ref_Named _ _ (hs _ (mem_of_getD (z := ByteArray.empty) (i := k) (by omega) rfl))) rfl ?_
    rintro v3 w3 ⟨rfl, hE3⟩
    have hX := hX.ext hE3
    have hB2 := hB2.ext hE3
    have hWL0 := hWL0.ext hE3
    first | refine p1 (x_notd rfl) ?_ | refine p1 (x_not rfl) ?_
    refine r_nil ?_
    refine t_n ?_
    first | refine c_dec rfl (fun hc17 => ?_) (fun hc17 => ?_) | refine c_if rfl (fun hc17 => ?_) (fun hc17 => ?_)
    · try simp only [decide_eq_true_eq, decide_eq_false_iff_not, Bool.not_eq_true, Bool.not_eq_false, Bool.not_eq_eq_eq_not, Bool.not_true, Bool.not_false, Int.not_lt, Int.not_le] at hc17
      have hp : lookD D ns = 30 := by unfold lookD; rw [if_pos (not_all_getD (k := k) (by omega) (by simpa using hc17))]
      refine c_seq ?_
      refine r_plain ?_
      refine p1 (x_assign (by conv => lhs; whnf)) ?_
      refine r_nil ?_
      refine t_n ?_
      refine c_ret ?_
      refine b_r ?_
      refine t_r ?_
      refine t_r ?_
      refine b_r ?_
      refine t_r ?_
      refine end1 rfl (by conv => lhs; whnf) ?_
      exact ⟨by rw [hp], hX⟩
    · try simp only [decide_eq_true_eq, decide_eq_false_iff_not, Bool.not_eq_true, Bool.not_eq_false, Bool.not_eq_eq_eq_not, Bool.not_true, Bool.not_false, Int.not_lt, Int.not_le] at hc17
      have h1 : namedD (ns.getD k ByteArray.empty) = true := by simpa using hc17
      refine c_skip ?_
      refine b_n ?_
      refine t_n ?_
      refine r_plain ?_
      refine p1 (x_move (by conv => lhs; whnf)) ?_
      refine p1 (x_add rfl rfl (fits_i64 (by omega) (by omega))) ?_
      refine p1 (x_assign (by conv => lhs; whnf)) ?_
      refine r_nil ?_
      refine t_n (At.mk (k + 1) (by repeat (first | exact Agr.refl _ _ | exact Agr.hav _ _ _ | refine Agr.upd rfl ?_ | refine Agr.updR rfl ?_ | refine Agr.updL ?_ _ rfl | refine Agr.hav' rfl ?_)) ⟨rfl, trivial⟩ ?_)
      exact ⟨⟨hWL0, ⟨by omega, fun i hi => if h : i < k then hL i h else by rw [show i = k from by omega]; exact h1⟩⟩, by first | (dsimp only; omega) | ((show _ < _); omega)⟩
  · try simp only [decide_eq_true_eq, decide_eq_false_iff_not, Bool.not_eq_true, Bool.not_eq_false, Bool.not_eq_eq_eq_not, Bool.not_true, Bool.not_false, Int.not_lt, Int.not_le] at hc9
    have hall := all_take_getD hL (by omega)
    refine c_exit ?_
    refine t_e ?_
    refine t_e ?_
    refine b_hit ?_
    refine t_n ?_
    refine c_seq ?_
    refine c_seq ?_
    refine r_plain ?_
    refine p1 (x_fieldAddr fo27_6 sz4 rfl) ?_
    refine p1 (x_load1 un4 rfl (hB2.cell (rfl))) ?_
    refine r_nil ?_
    refine t_n ?_
    first | refine c_dec rfl (fun hc19 => ?_) (fun hc19 => ?_) | refine c_if rfl (fun hc19 => ?_) (fun hc19 => ?_)
    · try simp only [decide_eq_true_eq, decide_eq_false_iff_not, Bool.not_eq_true, Bool.not_eq_false, Bool.not_eq_eq_eq_not, Bool.not_true, Bool.not_false, Int.not_lt, Int.not_le] at hc19
      have hp : lookD D ns = 20 := by unfold lookD; rw [if_neg (by rw [hall]; simp), if_pos (by rw [hdn]; exact hc19)]
      refine c_seq ?_
      refine r_plain ?_
      refine p1 (x_assign (by conv => lhs; whnf)) ?_
      refine r_nil ?_
      refine t_n ?_
      refine c_ret ?_
      refine t_r ?_
      refine end1 rfl (by conv => lhs; whnf) ?_
      exact ⟨by rw [hp], hX⟩
    · try simp only [decide_eq_true_eq, decide_eq_false_iff_not, Bool.not_eq_true, Bool.not_eq_false, Bool.not_eq_eq_eq_not, Bool.not_true, Bool.not_false, Int.not_lt, Int.not_le] at hc19
      have hp : lookD D ns = 0 := by unfold lookD; rw [if_neg (by rw [hall]; simp), if_neg (by rw [hdn, hc19]; simp)]
      refine c_skip ?_
      refine t_n ?_
      refine c_seq ?_
      refine r_plain ?_
      refine p1 (x_assign (by conv => lhs; whnf)) ?_
      refine r_nil ?_
      refine t_n ?_
      refine c_ret ?_
      refine end1 rfl (by conv => lhs; whnf) ?_
      exact ⟨by rw [hp], hX⟩
theorem ref_place (a0 a2 a4 : Int) (b3 b5 b6 : Bool) (l : List Fl) (p : Option Addr) (n c : Nat) (w : World) (hl : Sl kFl 81 0 w p n c l) (k : ByteArray) (hn : n ≤ 100000) :
    Ret Try.prog 45 [.agg #[.int .i64 a0, .slice p n c, .int .i64 a2, .bool b3, .int .i64 a4, .bool b5, .bool b6], .string k] w (fun v w' => v = .tuple #[.int .i64 (plcA l k : Int), .bool (decide (isAtA l (plcA l k) k))] ∧ Ext w w') := by
  have hX := Ext.refl w
  refine enter 40 _ Try.func45 rfl rfl (Nat.le_of_ble_eq_true rfl) rfl ?_
  refine c_seq ?_
  refine r_plain ?_
  refine o_boxA (by conv => lhs; whnf) ?_
  intro w1 g2 hN2
  have hE1 := hN2.ext
  have hX := hX.ext hE1
  have hB2 := hN2.blk
  refine p1 (x_assign (by conv => lhs; whnf)) ?_
  refine p1 (x_assign (by conv => lhs; whnf)) ?_
  refine r_nil ?_
  refine t_n ?_
  refine c_seq ?_
  refine r_plain ?_
  refine p1 (x_assign (by conv => lhs; whnf)) ?_
  refine r_nil ?_
  refine t_n ?_
  refine c_seq ?_
  refine c_block ?_
  have hWL0 := Ext.refl w1
  have hlen := hl.len
  refine c_loop (ι := Nat) [6, 7, 8, 9, 10, 11, 12, 13, 14, 15, 16, 17, 18, 19, 20, 21, 22, 23] (fun i => [(6, .int .i64 (i : Int))]) (fun i w' => Ext w1 w' ∧ (i ≤ n ∧ ∀ j, j < i → lssB (l.getD j default).1 k = true)) (fun i => n - i) (0) ⟨rfl, trivial⟩ ⟨Ext.refl _, ⟨by omega, fun j hj => by omega⟩⟩ ?_
  rintro i GL0 w2 ⟨hE2, hi, hL⟩
  have hX := hX.ext hE2
  have hB2 := hB2.ext hE2
  have hWL0 := hE2
  refine c_seq ?_
  refine c_seq ?_
  refine r_plain ?_
  refine p1 (x_move (by conv => lhs; whnf)) ?_
  refine p1 (x_fieldAddr fo27_1 sz25 rfl) ?_
  refine p1 (x_load1 un25 rfl (hB2.cell (rfl))) ?_
  refine p1 (x_len_slice u25 rfl) ?_
  refine p1 (x_lss rfl rfl) ?_
  refine p1b (x_move (by conv => lhs; whnf)) (fun hb2_5 => ?_) (fun hb2_5 => ?_)
  · try simp only [decide_eq_true_eq, decide_eq_false_iff_not, Bool.not_eq_true, Bool.not_eq_false, Bool.not_eq_eq_eq_not, Bool.not_true, Bool.not_false, Int.not_lt, Int.not_le] at hb2_5
    refine g1 12 rfl rfl (x_fieldAddr fo27_1 sz25 rfl) ?_
    refine g1 12 rfl rfl (x_load1 un25 rfl (hB2.cell (rfl))) ?_
    refine g1 12 rfl rfl (x_move (by conv => lhs; whnf)) ?_
    refine g1 12 rfl rfl (x_ixs u25 sz81 rfl rfl ((hl.ext hX).adr kFl_pos (by omega)) (by omega) (by omega)) ?_
    refine g1 12 rfl rfl (x_fieldAddr fo81_0 sz9 rfl) ?_
    refine g1 12 rfl rfl (x_load1 un9 rfl ((hl.ext hX).flAt i (by omega) 0 rfl)) ?_
    refine g1 12 rfl rfl (x_move (by conv => lhs; whnf)) ?_
    refine g1 12 rfl rfl (x_lss_str rfl rfl) ?_
    refine p1 (x_pick_t rfl (by conv => lhs; whnf)) ?_
    refine r_nil ?_
    refine t_n ?_
    first | refine c_dec rfl (fun hc21 => ?_) (fun hc21 => ?_) | refine c_if rfl (fun hc21 => ?_) (fun hc21 => ?_)
    · try simp only [decide_eq_true_eq, decide_eq_false_iff_not, Bool.not_eq_true, Bool.not_eq_false, Bool.not_eq_eq_eq_not, Bool.not_true, Bool.not_false, Int.not_lt, Int.not_le] at hc21
      have h1 : lssB (l.getD i default).1 k = true := hc21
      refine c_skip ?_
      refine t_n ?_
      refine c_block ?_
      refine r_plain ?_
      refine p1 (x_move (by conv => lhs; whnf)) ?_
      refine p1 (x_add rfl rfl (fits_i64 (by omega) (by omega))) ?_
      refine p1 (x_assign (by conv => lhs; whnf)) ?_
      refine r_nil ?_
      refine b_n ?_
      refine t_n (At.mk (i + 1) (by repeat (first | exact Agr.refl _ _ | exact Agr.hav _ _ _ | refine Agr.upd rfl ?_ | refine Agr.updR rfl ?_ | refine Agr.updL ?_ _ rfl | refine Agr.hav' rfl ?_)) ⟨rfl, trivial⟩ ?_)
      exact ⟨⟨hWL0, ⟨by omega, fun j hj => if h : j < i then hL j h else by rw [show j = i from by omega]; exact h1⟩⟩, by first | (dsimp only; omega) | ((show _ < _); omega)⟩
    · try simp only [decide_eq_true_eq, decide_eq_false_iff_not, Bool.not_eq_true, Bool.not_eq_false, Bool.not_eq_eq_eq_not, Bool.not_true, Bool.not_false, Int.not_lt, Int.not_le] at hc21
      have hend : i < n → lssB (l.getD i default).1 k = false := fun h => by first | exact hc21 | (exfalso; omega)
      have hpl : plcA l k = i := plc_specA l k i (by omega) hL (fun h => hend (by omega))
      refine c_exit ?_
      refine t_e ?_
      refine t_e ?_
      refine b_hit ?_
      refine t_n ?_
      refine c_seq ?_
      refine r_still mixed (by kernel_rfl) ?_
      intro w3 hE3
      have hX := hX.ext hE3
      have hB2 := hB2.ext hE3
      refine s1 (x_move (by conv => lhs; whnf)) ?_
      refine s1 (x_move (by conv => lhs; whnf)) ?_
      refine s1 (x_fieldAddr fo27_1 sz25 rfl) ?_
      refine s1 (x_load1 un25 rfl (hB2.cell (rfl))) ?_
      refine s1 (x_len_slice u25 rfl) ?_
      refine s1 (x_lss rfl rfl) ?_
      refine s1b (x_move (by conv => lhs; whnf)) (fun hb4_6 => ?_) (fun hb4_6 => ?_)
      · try simp only [decide_eq_true_eq, decide_eq_false_iff_not, Bool.not_eq_true, Bool.not_eq_false, Bool.not_eq_eq_eq_not, Bool.not_true, Bool.not_false, Int.not_lt, Int.not_le] at hb4_6
        refine sg1 30 rfl rfl (x_fieldAddr fo27_1 sz25 rfl) ?_
        refine sg1 30 rfl rfl (x_load1 un25 rfl (hB2.cell (rfl))) ?_
        refine sg1 30 rfl rfl (x_move (by conv => lhs; whnf)) ?_
        refine sg1 30 rfl rfl (x_ixs u25 sz81 rfl rfl ((hl.ext hX).adr kFl_pos (by omega)) (by omega) (by omega)) ?_
        refine sg1 30 rfl rfl (x_fieldAddr fo81_0 sz9 rfl) ?_
        refine sg1 30 rfl rfl (x_load1 un9 rfl ((hl.ext hX).flAt i (by omega) 0 rfl)) ?_
        refine sg1 30 rfl rfl (x_move (by conv => lhs; whnf)) ?_
        refine sg1 30 rfl rfl (x_eql_str rfl rfl) ?_
        refine s1 (x_pick_t rfl (by conv => lhs; whnf)) ?_
        refine s1 (x_assign (by conv => lhs; whnf)) ?_
        refine s1 (x_assign (by conv => lhs; whnf)) ?_
        refine s_nil ?_
        refine t_n ?_
        refine c_ret ?_
        refine end2 rfl (by conv => lhs; whnf) (by conv => lhs; whnf) ?_
        first
          | exact ⟨by rw [hpl]; exact congrArg (fun b => Value.tuple #[.int .i64 (i : Int), .bool b]) (decide_eq_decide.2 ⟨fun h => ⟨by omega, h⟩, fun h => h.2⟩), hX⟩
          | exact ⟨by rw [hpl]; exact congrArg (fun b => Value.tuple #[.int .i64 (i : Int), .bool b]) (decide_eq_false (fun h => by have := h.1; omega)).symm, hX⟩
      · try simp only [decide_eq_true_eq, decide_eq_false_iff_not, Bool.not_eq_true, Bool.not_eq_false, Bool.not_eq_eq_eq_not, Bool.not_true, Bool.not_false, Int.not_lt, Int.not_le] at hb4_6
        refine sg0 30 rfl (by first | exact .inl rfl | exact .inr rfl) ?_
        refine sg0 30 rfl (by first | exact .inl rfl | exact .inr rfl) ?_
        refine sg0 30 rfl (by first | exact .inl rfl | exact .inr rfl) ?_
        refine sg0 30 rfl (by first | exact .inl rfl | exact .inr rfl) ?_
        refine sg0 30 rfl (by first | exact .inl rfl | exact .inr rfl) ?_
        refine sg0 30 rfl (by first | exact .inl rfl | exact .inr rfl) ?_
        refine sg0 30 rfl (by first | exact .inl rfl | exact .inr rfl) ?_
        refine sg0 30 rfl (by first | exact .inl rfl | exact .inr rfl) ?_
        refine s1 (x_pick_f rfl (by conv => lhs; whnf)) ?_
        refine s1 (x_assign (by conv => lhs; whnf)) ?_
        refine s1 (x_assign (by conv => lhs; whnf)) ?_
        refine s_nil ?_
        refine t_n ?_
        refine c_ret ?_
        refine end2 rfl (by conv => lhs; whnf) (by conv => lhs; whnf) ?_
        first
          | exact ⟨by rw [hpl]; exact congrArg (fun b => Value.tuple #[.int .i64 (i : Int), .bool b]) (decide_eq_decide.2 ⟨fun h => ⟨by omega, h⟩, fun h => h.2⟩), hX⟩
          | exact ⟨by rw [hpl]; exact congrArg (fun b => Value.tuple #[.int .i64 (i : Int), .bool b]) (decide_eq_false (fun h => by have := h.1; omega)).symm, hX⟩
  · try simp only [decide_eq_true_eq, decide_eq_false_iff_not, Bool.not_eq_true, Bool.not_eq_false, Bool.not_eq_eq_eq_not, Bool.not_true, Bool.not_false, Int.not_lt, Int.not_le] at hb2_5
    refine g0 12 rfl (by first | exact .inl rfl | exact .inr rfl) ?_
    refine g0 12 rfl (by first | exact .inl rfl | exact .inr rfl) ?_
    refine g0 12 rfl (by first | exact .inl rfl | exact .inr rfl) ?_
    refine g0 12 rfl (by first | exact .inl rfl | exact .inr rfl) ?_
    refine g0 12 rfl (by first | exact .inl rfl | exact .inr rfl) ?_
    refine g0 12 rfl (by first | exact .inl rfl | exact .inr rfl) ?_
    refine g0 12 rfl (by first | exact .inl rfl | exact .inr rfl) ?_
    refine g0 12 rfl (by first | exact .inl rfl | exact .inr rfl) ?_
    refine p1 (x_pick_f rfl (by conv => lhs; whnf)) ?_
    refine r_nil ?_
    refine t_n ?_
    refine c_f rfl ?_
    have hend : i < n → lssB (l.getD i default).1 k = false := fun h => by first | exact hc21 | (exfalso; omega)
    have hpl : plcA l k = i := plc_specA l k i (by omega) hL (fun h => hend (by omega))
    refine c_exit ?_
    refine t_e ?_
    refine t_e ?_
    refine b_hit ?_
    refine t_n ?_
    refine c_seq ?_
    refine r_still mixed (by kernel_rfl) ?_
    intro w4 hE4
    have hX := hX.ext hE4
    have hB2 := hB2.ext hE4
    refine s1 (x_move (by conv => lhs; whnf)) ?_
    refine s1 (x_move (by conv => lhs; whnf)) ?_
    refine s1 (x_fieldAddr fo27_1 sz25 rfl) ?_
    refine s1 (x_load1 un25 rfl (hB2.cell (rfl))) ?_
    refine s1 (x_len_slice u25 rfl) ?_
    refine s1 (x_lss rfl rfl) ?_
    refine s1b (x_move (by conv => lhs; whnf)) (fun hb4_6 => ?_) (fun hb4_6 => ?_)
    · try simp only [decide_eq_true_eq, decide_eq_false_iff_not, Bool.not_eq_true, Bool.not_eq_false, Bool.not_eq_eq_eq_not, Bool.not_true, Bool.not_false, Int.not_lt, Int.not_le] at hb4_6
      refine sg1 30 rfl rfl (x_fieldAddr fo27_1 sz25 rfl) ?_
      refine sg1 30 rfl rfl (x_load1 un25 rfl (hB2.cell (rfl))) ?_
      refine sg1 30 rfl rfl (x_move (by conv => lhs; whnf)) ?_
      refine sg1 30 rfl rfl (x_ixs u25 sz81 rfl rfl ((hl.ext hX).adr kFl_pos (by omega)) (by omega) (by omega)) ?_
      refine sg1 30 rfl rfl (x_fieldAddr fo81_0 sz9 rfl) ?_
      refine sg1 30 rfl rfl (x_load1 un9 rfl ((hl.ext hX).flAt i (by omega) 0 rfl)) ?_
      refine sg1 30 rfl rfl (x_move (by conv => lhs; whnf)) ?_
      refine sg1 30 rfl rfl (x_eql_str rfl rfl) ?_
      refine s1 (x_pick_t rfl (by conv => lhs; whnf)) ?_
      refine s1 (x_assign (by conv => lhs; whnf)) ?_
      refine s1 (x_assign (by conv => lhs; whnf)) ?_
      refine s_nil ?_
      refine t_n ?_
      refine c_ret ?_
      refine end2 rfl (by conv => lhs; whnf) (by conv => lhs; whnf) ?_
      first
        | exact ⟨by rw [hpl]; exact congrArg (fun b => Value.tuple #[.int .i64 (i : Int), .bool b]) (decide_eq_decide.2 ⟨fun h => ⟨by omega, h⟩, fun h => h.2⟩), hX⟩
        | exact ⟨by rw [hpl]; exact congrArg (fun b => Value.tuple #[.int .i64 (i : Int), .bool b]) (decide_eq_false (fun h => by have := h.1; omega)).symm, hX⟩
    · try simp only [decide_eq_true_eq, decide_eq_false_iff_not, Bool.not_eq_true, Bool.not_eq_false, Bool.not_eq_eq_eq_not, Bool.not_true, Bool.not_false, Int.not_lt, Int.not_le] at hb4_6
      refine sg0 30 rfl (by first | exact .inl rfl | exact .inr rfl) ?_
      refine sg0 30 rfl (by first | exact .inl rfl | exact .inr rfl) ?_
      refine sg0 30 rfl (by first | exact .inl rfl | exact .inr rfl) ?_
      refine sg0 30 rfl (by first | exact .inl rfl | exact .inr rfl) ?_
      refine sg0 30 rfl (by first | exact .inl rfl | exact .inr rfl) ?_
      refine sg0 30 rfl (by first | exact .inl rfl | exact .inr rfl) ?_
      refine sg0 30 rfl (by first | exact .inl rfl | exact .inr rfl) ?_
      refine sg0 30 rfl (by first | exact .inl rfl | exact .inr rfl) ?_
      refine s1 (x_pick_f rfl (by conv => lhs; whnf)) ?_
      refine s1 (x_assign (by conv => lhs; whnf)) ?_
      refine s1 (x_assign (by conv => lhs; whnf)) ?_
      refine s_nil ?_
      refine t_n ?_
      refine c_ret ?_
      refine end2 rfl (by conv => lhs; whnf) (by conv => lhs; whnf) ?_
      first
        | exact ⟨by rw [hpl]; exact congrArg (fun b => Value.tuple #[.int .i64 (i : Int), .bool b]) (decide_eq_decide.2 ⟨fun h => ⟨by omega, h⟩, fun h => h.2⟩), hX⟩
        | exact ⟨by rw [hpl]; exact congrArg (fun b => Value.tuple #[.int .i64 (i : Int), .bool b]) (decide_eq_false (fun h => by have := h.1; omega)).symm, hX⟩
theorem ref_Used (a0 a2 a4 : Int) (b3 b5 b6 : Bool) (l : List Fl) (p : Option Addr) (n c : Nat) (w : World) (hl : Sl kFl 81 0 w p n c l) (hn : n ≤ 100000) (hu : usedL l ≤ 16777216) :
    Ret Try.prog 54 [.agg #[.int .i64 a0, .slice p n c, .int .i64 a2, .bool b3, .int .i64 a4, .bool b5, .bool b6]] w (fun v w' => v = .int .i64 ((usedL l : Nat) : Int) ∧ Ext w w') := by
  have hX := Ext.refl w
  refine enter 30 _ Try.func54 rfl rfl (Nat.le_of_ble_eq_true rfl) rfl ?_
  refine c_seq ?_
  refine r_plain ?_
  refine o_boxA (by conv => lhs; whnf) ?_
  intro w1 g1 hN1
  have hE1 := hN1.ext
  have hX := hX.ext hE1
  have hB1 := hN1.blk
  refine p1 (x_assign (by conv => lhs; whnf)) ?_
  refine r_nil ?_
  refine t_n ?_
  refine c_seq ?_
  refine r_plain ?_
  refine p1 (x_assign (by conv => lhs; whnf)) ?_
  refine r_nil ?_
  refine t_n ?_
  refine c_seq ?_
  refine c_seq ?_
  refine r_plain ?_
  refine p1 (x_assign (by conv => lhs; whnf)) ?_
  refine r_nil ?_
  refine t_n ?_
  refine c_block ?_
  have hWL0 := Ext.refl w1
  have hlen := hl.len
  refine c_loop (ι := Nat) [3, 4, 5, 6, 7, 8, 9, 10, 11, 12, 13, 14, 15, 16, 17, 18, 19, 20, 21, 22, 23, 24, 25, 26, 27, 28] (fun i => [(3, .int .i64 ((usedL (l.take i) : Nat) : Int)), (4, .int .i64 (i : Int))]) (fun i w' => Ext w1 w' ∧ (i ≤ n)) (fun i => n - i) (0) ⟨rfl, rfl, trivial⟩ ⟨Ext.refl _, by omega⟩ ?_
  rintro i GL0 w2 ⟨hE2, hi⟩
  have hX := hX.ext hE2
  have hB1 := hB1.ext hE2
  have hWL0 := hE2
  refine c_seq ?_
  refine c_seq ?_
  refine r_plain ?_
  refine p1 (x_move (by conv => lhs; whnf)) ?_
  refine p1 (x_fieldAddr fo27_1 sz25 rfl) ?_
  refine p1 (x_load1 un25 rfl (hB1.cell (rfl))) ?_
  refine p1 (x_len_slice u25 rfl) ?_
  refine p1 (x_lss rfl rfl) ?_
  refine r_nil ?_
  refine t_n ?_
  first | refine c_dec rfl (fun hc9 => ?_) (fun hc9 => ?_) | refine c_if rfl (fun hc9 => ?_) (fun hc9 => ?_)
  · try simp only [decide_eq_true_eq, decide_eq_false_iff_not, Bool.not_eq_true, Bool.not_eq_false, Bool.not_eq_eq_eq_not, Bool.not_true, Bool.not_false, Int.not_lt, Int.not_le] at hc9
    refine c_skip ?_
    refine t_n ?_
    refine c_seq ?_
    refine c_block ?_
    have hstep := usedL_step (l := l) (k := i) (by omega)
    have htk := usedL_take l (i + 1)
    have hz1 := toStr_size ((l.getD i default).2.1.take (l.getD i default).2.2)
    have hz2 := toStr_size ((l.getD i default).2.1.drop (l.getD i default).2.2)
    rw [List.length_take] at hz1
    rw [List.length_drop] at hz2
    refine r_still mixed (by kernel_rfl) ?_
    intro w3 hE3
    have hX := hX.ext hE3
    have hB1 := hB1.ext hE3
    have hWL0 := hWL0.ext hE3
    refine s1 (x_move (by conv => lhs; whnf)) ?_
    refine s1 (x_fieldAddr fo27_1 sz25 rfl) ?_
    refine s1 (x_load1 un25 rfl (hB1.cell (rfl))) ?_
    refine s1 (x_move (by conv => lhs; whnf)) ?_
    refine s1 (x_ixs u25 sz81 rfl rfl ((hl.ext hX).adr kFl_pos (by omega)) (by omega) (by omega)) ?_
    refine s1 (x_fieldAddr fo81_1 sz9 rfl) ?_
    refine s1 (x_load1 un9 rfl ((hl.ext hX).flAt i (by omega) 1 rfl)) ?_
    refine s1 (x_len_str u9 rfl) ?_
    refine s1 (x_fieldAddr fo27_1 sz25 rfl) ?_
    refine s1 (x_load1 un25 rfl (hB1.cell (rfl))) ?_
    refine s1 (x_move (by conv => lhs; whnf)) ?_
    refine s1 (x_ixs u25 sz81 rfl rfl ((hl.ext hX).adr kFl_pos (by omega)) (by omega) (by omega)) ?_
    refine s1 (x_fieldAddr fo81_2 sz9 rfl) ?_
    refine s1 (x_load1 un9 rfl ((hl.ext hX).flAt i (by omega) 2 rfl)) ?_
    refine s1 (x_len_str u9 rfl) ?_
    refine s1 (x_add rfl rfl (fits_i64 (by omega) (by omega))) ?_
    refine s1 ((x_add rfl rfl (fits_i64 (by omega) (by omega))).cast (congrArg (Value.int .i64) (by omega : _ = ((usedL (l.take (i + 1)) : Nat) : Int)))) ?_
    refine s1 (x_assign (by conv => lhs; whnf)) ?_
    refine s_nil ?_
    refine b_n ?_
    refine t_n ?_
    refine r_plain ?_
    refine p1 (x_move (by conv => lhs; whnf)) ?_
    refine p1 (x_add rfl rfl (fits_i64 (by omega) (by omega))) ?_
    refine p1 (x_assign (by conv => lhs; whnf)) ?_
    refine r_nil ?_
    refine t_n (At.mk (i + 1) (by repeat (first | exact Agr.refl _ _ | exact Agr.hav _ _ _ | refine Agr.upd rfl ?_ | refine Agr.updR rfl ?_ | refine Agr.updL ?_ _ rfl | refine Agr.hav' rfl ?_)) ⟨rfl, rfl, trivial⟩ ?_)
    exact ⟨⟨hWL0, (by omega)⟩, by first | (dsimp only; omega) | ((show _ < _); omega)⟩
  · try simp only [decide_eq_true_eq, decide_eq_false_iff_not, Bool.not_eq_true, Bool.not_eq_false, Bool.not_eq_eq_eq_not, Bool.not_true, Bool.not_false, Int.not_lt, Int.not_le] at hc9
    have htt : l.take i = l := List.take_of_length_le (by omega)
    refine c_exit ?_
    refine t_e ?_
    refine t_e ?_
    refine b_hit ?_
    refine t_n ?_
    refine c_seq ?_
    refine r_plain ?_
    refine p1 (x_move (by conv => lhs; whnf)) ?_
    refine p1 (x_assign (by conv => lhs; whnf)) ?_
    refine r_nil ?_
    refine t_n ?_
    refine c_ret ?_
    refine end1 rfl (by conv => lhs; whnf) ?_
    exact ⟨by rw [htt], hX⟩
theorem ref_either (a0 a2 a4 a0x a2x a4x : Int) (b3 b5 b6 b3x b5x b6x : Bool) (p px : Option Addr) (n c nx cx : Nat) (w : World) :
    Ret Try.prog 58 [.agg #[.int .i64 a0, .slice p n c, .int .i64 a2, .bool b3, .int .i64 a4, .bool b5, .bool b6], .agg #[.int .i64 a0x, .slice px nx cx, .int .i64 a2x, .bool b3x, .int .i64 a4x, .bool b5x, .bool b6x]] w (fun v w' => v = (if b5 = true then .agg #[.int .i64 a0x, .slice px nx cx, .int .i64 a2x, .bool b3x, .int .i64 a4x, .bool b5x, .bool b6x] else .agg #[.int .i64 a0, .slice p n c, .int .i64 a2, .bool b3, .int .i64 a4, .bool b5, .bool b6]) ∧ Ext w w') := by
  have hX := Ext.refl w
  refine enter 9 _ Try.func58 rfl rfl (Nat.le_of_ble_eq_true rfl) rfl ?_
  refine c_seq ?_
  refine r_plain ?_
  refine o_boxA (by conv => lhs; whnf) ?_
  intro w1 g2 hN2
  have hE1 := hN2.ext
  have hX := hX.ext hE1
  have hB2 := hN2.blk
  refine o_boxA (by conv => lhs; whnf) ?_
  intro w2 g3 hN3
  have hE2 := hN3.ext
  have hX := hX.ext hE2
  have hB2 := hB2.ext hE2
  have hB3 := hN3.blk
  have hXs4 := hX.size
  have hlt2 := hB2.lt
  have hlt3 := hB3.lt
  refine o_alloc zr27 ?_
  intro w3 g4 hN4
  have hE3 := hN4.ext
  have hX := hX.ext hE3
  have hB2 := hB2.ext hE3
  have hB3 := hB3.ext hE3
  have hB4 := hN4.blk
  refine r_nil ?_
  refine t_n ?_
  refine c_seq ?_
  refine c_seq ?_
  have hq4 := hN4.g_eq
  refine r_plain ?_
  refine p1 (x_fieldAddr fo27_5 sz4 rfl) ?_
  refine p1 (x_load1 un4 rfl (hB2.cell (rfl))) ?_
  refine r_nil ?_
  refine t_n ?_
  first | refine c_dec rfl (fun hc6 => ?_) (fun hc6 => ?_) | refine c_if rfl (fun hc6 => ?_) (fun hc6 => ?_)
  · try simp only [decide_eq_true_eq, decide_eq_false_iff_not, Bool.not_eq_true, Bool.not_eq_false, Bool.not_eq_eq_eq_not, Bool.not_true, Bool.not_false, Int.not_lt, Int.not_le] at hc6
    have hq : b5 = true := hc6
    refine c_seq ?_
    refine r_plain ?_
    refine p1 (x_loadB ua27 rfl hB3 (by exact sz27)) ?_
    refine o_storeAll rfl (by conv => lhs; whnf) (by simp [Value.oneCell']) (by exact sz27) hB4 (by rfl) ?_
    intro w4 hP4
    have hX := hX.put hP4 (by rw [hN4.g_eq]; exact hXs4)
    have hB2 := hP4.keep hB2 (by omega)
    have hB3 := hP4.keep hB3 (by omega)
    have hB4 := hP4.blk
    refine r_nil ?_
    refine t_n ?_
    refine c_ret ?_
    refine t_r ?_
    refine end1c rfl ua27 rfl hB4 (by exact sz27) ?_
    first
      | exact ⟨(if_pos hq).symm, hX⟩
      | exact ⟨(if_neg hq).symm, hX⟩
  · try simp only [decide_eq_true_eq, decide_eq_false_iff_not, Bool.not_eq_true, Bool.not_eq_false, Bool.not_eq_eq_eq_not, Bool.not_true, Bool.not_false, Int.not_lt, Int.not_le] at hc6
    have hq : ¬ b5 = true := by simpa using hc6
    refine c_skip ?_
    refine t_n ?_
    refine c_seq ?_
    refine r_plain ?_
    refine p1 (x_loadB ua27 rfl hB2 (by exact sz27)) ?_
    refine o_storeAll rfl (by conv => lhs; whnf) (by simp [Value.oneCell']) (by exact sz27) hB4 (by rfl) ?_
    intro w5 hP5
    have hX := hX.put hP5 (by rw [hN4.g_eq]; exact hXs4)
    have hB2 := hP5.keep hB2 (by omega)
    have hB3 := hP5.keep hB3 (by omega)
    have hB4 := hP5.blk
    refine r_nil ?_
    refine t_n ?_
    refine c_ret ?_
    refine end1c rfl ua27 rfl hB4 (by exact sz27) ?_
    first
      | exact ⟨(if_pos hq).symm, hX⟩
      | exact ⟨(if_neg hq).symm, hX⟩
theorem ref_step (a0 a2 a4 a0x a2x a4x a0y a2y a4y : Int) (b3 b5 b6 b3x b5x b6x b3y b5y b6y : Bool) (p px py : Option Addr) (n c nx cx ny cy : Nat) (w : World) (h1 : -9223372036854775807 ≤ a4x) (h2 : a4x ≤ 9223372036854775807) (h3 : 0 ≤ a2x) (h4 : a2x < 9223372036854775807) :
    Ret Try.prog 57 [.agg #[.int .i64 a0, .slice p n c, .int .i64 a2, .bool b3, .int .i64 a4, .bool b5, .bool b6], .agg #[.int .i64 a0x, .slice px nx cx, .int .i64 a2x, .bool b3x, .int .i64 a4x, .bool b5x, .bool b6x], .agg #[.int .i64 a0y, .slice py ny cy, .int .i64 a2y, .bool b3y, .int .i64 a4y, .bool b5y, .bool b6y]] w (fun v w' => v = (if b3 = true ∧ a4 = 0 then .tuple #[.agg #[.int .i64 a0y, .slice py ny cy, .int .i64 a2y, .bool false, .int .i64 a4y, .bool b5y, .bool true], .int .i64 20] else .tuple #[.agg #[.int .i64 a0x, .slice px nx cx, .int .i64 (a2x + 1), .bool b3x, .int .i64 (if b3x = true then a4x - 1 else a4x), .bool b5x, .bool b6x], .int .i64 0]) ∧ Ext w w') := by
  have hX := Ext.refl w
  refine enter 29 _ Try.func57 rfl rfl (Nat.le_of_ble_eq_true rfl) rfl ?_
  refine c_seq ?_
  refine r_plain ?_
  have hXs3 := hX.size
  refine o_boxA (by conv => lhs; whnf) ?_
  intro w1 g3 hN3
  have hE1 := hN3.ext
  have hX := hX.ext hE1
  have hB3 := hN3.blk
  have hXs4 := hX.size
  have hlt3 := hB3.lt
  refine o_boxA (by conv => lhs; whnf) ?_
  intro w2 g4 hN4
  have hE2 := hN4.ext
  have hX := hX.ext hE2
  have hB3 := hB3.ext hE2
  have hB4 := hN4.blk
  have hXs5 := hX.size
  have hlt4 := hB4.lt
  have hlt3b := hB3.lt
  refine o_boxA (by conv => lhs; whnf) ?_
  intro w3 g5 hN5
  have hE3 := hN5.ext
  have hX := hX.ext hE3
  have hB3 := hB3.ext hE3
  have hB4 := hB4.ext hE3
  have hB5 := hN5.blk
  have hXs6 := hX.size
  have hlt5 := hB5.lt
  have hlt4c := hB4.lt
  have hlt3c := hB3.lt
  refine o_alloc zr27 ?_
  intro w4 g6 hN6
  have hE4 := hN6.ext
  have hX := hX.ext hE4
  have hB3 := hB3.ext hE4
  have hB4 := hB4.ext hE4
  have hB5 := hB5.ext hE4
  have hB6 := hN6.blk
  have hq4 := hN4.g_eq
  have hq5 := hN5.g_eq
  have hq6 := hN6.g_eq
  refine p1 (x_assign (by conv => lhs; whnf)) ?_
  refine r_nil ?_
  refine t_n ?_
  refine c_seq ?_
  refine c_seq ?_
  have hWr1 := Ext.refl w4
  refine c_cut (ι := Unit) [8, 9, 10, 11, 12, 13, 14] (fun _ => [(14, .bool (decide (b3 = true ∧ a4 = 0)))]) (fun _ w' => Ext w4 w') ?_ ?_
  · skip
    refine r_plain ?_
    refine p1 (x_fieldAddr fo27_3 sz4 rfl) ?_
    refine p1 (x_load1 un4 rfl (hB3.cell (rfl))) ?_
    refine p1b (x_move (by conv => lhs; whnf)) (fun hb1_2 => ?_) (fun hb1_2 => ?_)
    · try simp only [decide_eq_true_eq, decide_eq_false_iff_not, Bool.not_eq_true, Bool.not_eq_false, Bool.not_eq_eq_eq_not, Bool.not_true, Bool.not_false, Int.not_lt, Int.not_le] at hb1_2
      refine g1 10 rfl rfl (x_fieldAddr fo27_4 sz3 rfl) ?_
      refine g1 10 rfl rfl (x_load1 un3 rfl (hB3.cell (rfl))) ?_
      refine g1 10 rfl rfl (x_eql rfl rfl) ?_
      refine p1 (x_pick_t rfl (by conv => lhs; whnf)) ?_
      refine r_nil ?_
      refine t_n (At.mk () (by repeat (first | exact Agr.refl _ _ | exact Agr.hav _ _ _ | refine Agr.upd rfl ?_ | refine Agr.updR rfl ?_ | refine Agr.updL ?_ _ rfl | refine Agr.hav' rfl ?_)) ⟨congrArg Value.bool (by first | rfl | (simp_all; done) | grind), trivial⟩ hWr1)
    · try simp only [decide_eq_true_eq, decide_eq_false_iff_not, Bool.not_eq_true, Bool.not_eq_false, Bool.not_eq_eq_eq_not, Bool.not_true, Bool.not_false, Int.not_lt, Int.not_le] at hb1_2
      refine g0 10 rfl (by first | exact .inl rfl | exact .inr rfl) ?_
      refine g0 10 rfl (by first | exact .inl rfl | exact .inr rfl) ?_
      refine g0 10 rfl (by first | exact .inl rfl | exact .inr rfl) ?_
      refine p1 (x_pick_f rfl (by conv => lhs; whnf)) ?_
      refine r_nil ?_
      refine t_n (At.mk () (by repeat (first | exact Agr.refl _ _ | exact Agr.hav _ _ _ | refine Agr.upd rfl ?_ | refine Agr.updR rfl ?_ | refine Agr.updL ?_ _ rfl | refine Agr.hav' rfl ?_)) ⟨congrArg Value.bool (by first | rfl | (simp_all; done) | grind), trivial⟩ hWr1)
  · rintro _ Gr1 w5 hE5
    have hX := hX.ext hE5
    have hB3 := hB3.ext hE5
    have hB4 := hB4.ext hE5
    have hB5 := hB5.ext hE5
    have hB6 := hB6.ext hE5
    refine t_n ?_
    first | refine c_dec rfl (fun hc14 => ?_) (fun hc14 => ?_) | refine c_if rfl (fun hc14 => ?_) (fun hc14 => ?_)
    · try simp only [decide_eq_true_eq, decide_eq_false_iff_not, Bool.not_eq_true, Bool.not_eq_false, Bool.not_eq_eq_eq_not, Bool.not_true, Bool.not_false, Int.not_lt, Int.not_le] at hc14
      refine c_seq ?_
      refine r_plain ?_
      refine p1 (x_fieldAddr fo27_6 sz4 rfl) ?_
      refine o_store1 rfl (by conv => lhs; whnf) rfl rfl sz4 hB5 (by simp) ?_
      intro w6 hP6
      have hX := hX.put hP6 (by rw [hN5.g_eq]; exact hXs5)
      have hB3 := hP6.keep hB3 (by omega)
      have hB4 := hP6.keep hB4 (by omega)
      have hB5 := hP6.blk
      simp only [List.setIfInBounds_toArray, List.set_cons_zero, List.set_cons_succ] at hB5
      have hB6 := hP6.keep hB6 (by omega)
      refine r_nil ?_
      refine t_n ?_
      refine c_seq ?_
      refine r_plain ?_
      refine p1 (x_fieldAddr fo27_3 sz4 rfl) ?_
      refine o_store1 rfl (by conv => lhs; whnf) rfl rfl sz4 hB5 (by simp) ?_
      intro w7 hP7
      have hX := hX.put hP7 (by rw [hN5.g_eq]; exact hXs5)
      have hB3 := hP7.keep hB3 (by omega)
      have hB4 := hP7.keep hB4 (by omega)
      have hB5 := hP7.blk
      simp only [List.setIfInBounds_toArray, List.set_cons_zero, List.set_cons_succ] at hB5
      have hB6 := hP7.keep hB6 (by omega)
      refine r_nil ?_
      refine t_n ?_
      refine c_seq ?_
      refine r_plain ?_
      refine p1 (x_loadB ua27 rfl hB5 (by exact sz27)) ?_
      refine o_storeAll rfl (by conv => lhs; whnf) (by simp [Value.oneCell']) (by exact sz27) hB6 (by rfl) ?_
      intro w8 hP8
      have hX := hX.put hP8 (by rw [hN6.g_eq]; exact hXs6)
      have hB3 := hP8.keep hB3 (by omega)
      have hB4 := hP8.keep hB4 (by omega)
      have hB5 := hP8.keep hB5 (by omega)
      have hB6 := hP8.blk
      refine p1 (x_assign (by conv => lhs; whnf)) ?_
      refine r_nil ?_
      refine t_n ?_
      refine c_ret ?_
      refine t_r ?_
      refine end2c rfl ua27 rfl (by conv => lhs; whnf) hB6 (by exact sz27) ?_
      first
        | exact ⟨(if_pos hc14).symm, hX⟩
        | exact ⟨by rw [if_neg hc14, if_pos hq], hX⟩
        | exact ⟨by rw [if_neg hc14, if_neg hq], hX⟩
    · try simp only [decide_eq_true_eq, decide_eq_false_iff_not, Bool.not_eq_true, Bool.not_eq_false, Bool.not_eq_eq_eq_not, Bool.not_true, Bool.not_false, Int.not_lt, Int.not_le] at hc14
      refine c_skip ?_
      refine t_n ?_
      refine c_seq ?_
      refine c_seq ?_
      refine r_plain ?_
      refine p1 (x_fieldAddr fo27_3 sz4 rfl) ?_
      refine p1 (x_load1 un4 rfl (hB4.cell (rfl))) ?_
      refine r_nil ?_
      refine t_n ?_
      first | refine c_dec rfl (fun hc19 => ?_) (fun hc19 => ?_) | refine c_if rfl (fun hc19 => ?_) (fun hc19 => ?_)
      · try simp only [decide_eq_true_eq, decide_eq_false_iff_not, Bool.not_eq_true, Bool.not_eq_false, Bool.not_eq_eq_eq_not, Bool.not_true, Bool.not_false, Int.not_lt, Int.not_le] at hc19
        have hq : b3x = true := hc19
        refine r_plain ?_
        refine p1 (x_fieldAddr fo27_4 sz3 rfl) ?_
        refine p1 (x_load1 un3 rfl (hB4.cell (rfl))) ?_
        refine p1 (x_sub rfl rfl (fits_i64 (by omega) (by omega))) ?_
        refine p1 (x_fieldAddr fo27_4 sz3 rfl) ?_
        refine o_store1 rfl (by conv => lhs; whnf) rfl rfl sz3 hB4 (by simp) ?_
        intro w9 hP9
        have hX := hX.put hP9 (by rw [hN4.g_eq]; exact hXs4)
        have hB3 := hP9.keep hB3 (by omega)
        have hB4 := hP9.blk
        simp only [List.setIfInBounds_toArray, List.set_cons_zero, List.set_cons_succ] at hB4
        have hB5 := hP9.keep hB5 (by omega)
        have hB6 := hP9.keep hB6 (by omega)
        refine r_nil ?_
        refine t_n ?_
        refine c_seq ?_
        refine r_plain ?_
        refine p1 (x_fieldAddr fo27_2 sz3 rfl) ?_
        refine p1 (x_load1 un3 rfl (hB4.cell (rfl))) ?_
        refine p1 (x_add rfl rfl (fits_i64 (by omega) (by omega))) ?_
        refine p1 (x_fieldAddr fo27_2 sz3 rfl) ?_
        refine o_store1 rfl (by conv => lhs; whnf) rfl rfl sz3 hB4 (by simp) ?_
        intro w10 hP10
        have hX := hX.put hP10 (by rw [hN4.g_eq]; exact hXs4)
        have hB3 := hP10.keep hB3 (by omega)
        have hB4 := hP10.blk
        simp only [List.setIfInBounds_toArray, List.set_cons_zero, List.set_cons_succ] at hB4
        have hB5 := hP10.keep hB5 (by omega)
        have hB6 := hP10.keep hB6 (by omega)
        refine r_nil ?_
        refine t_n ?_
        refine c_seq ?_
        refine r_plain ?_
        refine p1 (x_loadB ua27 rfl hB4 (by exact sz27)) ?_
        refine o_storeAll rfl (by conv => lhs; whnf) (by simp [Value.oneCell']) (by exact sz27) hB6 (by rfl) ?_
        intro w11 hP11
        have hX := hX.put hP11 (by rw [hN6.g_eq]; exact hXs6)
        have hB3 := hP11.keep hB3 (by omega)
        have hB4 := hP11.keep hB4 (by omega)
        have hB5 := hP11.keep hB5 (by omega)
        have hB6 := hP11.blk
        refine p1 (x_assign (by conv => lhs; whnf)) ?_
        refine r_nil ?_
        refine t_n ?_
        refine c_ret ?_
        refine end2c rfl ua27 rfl (by conv => lhs; whnf) hB6 (by exact sz27) ?_
        first
          | exact ⟨(if_pos hc14).symm, hX⟩
          | exact ⟨by rw [if_neg hc14, if_pos hq], hX⟩
          | exact ⟨by rw [if_neg hc14, if_neg hq], hX⟩
      · try simp only [decide_eq_true_eq, decide_eq_false_iff_not, Bool.not_eq_true, Bool.not_eq_false, Bool.not_eq_eq_eq_not, Bool.not_true, Bool.not_false, Int.not_lt, Int.not_le] at hc19
        have hq : ¬ b3x = true := by simpa using hc19
        refine c_skip ?_
        refine t_n ?_
        refine c_seq ?_
        refine r_plain ?_
        refine p1 (x_fieldAddr fo27_2 sz3 rfl) ?_
        refine p1 (x_load1 un3 rfl (hB4.cell (rfl))) ?_
        refine p1 (x_add rfl rfl (fits_i64 (by omega) (by omega))) ?_
        refine p1 (x_fieldAddr fo27_2 sz3 rfl) ?_
        refine o_store1 rfl (by conv => lhs; whnf) rfl rfl sz3 hB4 (by simp) ?_
        intro w12 hP12
        have hX := hX.put hP12 (by rw [hN4.g_eq]; exact hXs4)
        have hB3 := hP12.keep hB3 (by omega)
        have hB4 := hP12.blk
        simp only [List.setIfInBounds_toArray, List.set_cons_zero, List.set_cons_succ] at hB4
        have hB5 := hP12.keep hB5 (by omega)
        have hB6 := hP12.keep hB6 (by omega)
        refine r_nil ?_
        refine t_n ?_
        refine c_seq ?_
        refine r_plain ?_
        refine p1 (x_loadB ua27 rfl hB4 (by exact sz27)) ?_
        refine o_storeAll rfl (by conv => lhs; whnf) (by simp [Value.oneCell']) (by exact sz27) hB6 (by rfl) ?_
        intro w13 hP13
        have hX := hX.put hP13 (by rw [hN6.g_eq]; exact hXs6)
        have hB3 := hP13.keep hB3 (by omega)
        have hB4 := hP13.keep hB4 (by omega)
        have hB5 := hP13.keep hB5 (by omega)
        have hB6 := hP13.blk
        refine p1 (x_assign (by conv => lhs; whnf)) ?_
        refine r_nil ?_
        refine t_n ?_
        refine c_ret ?_
        refine end2c rfl ua27 rfl (by conv => lhs; whnf) hB6 (by exact sz27) ?_
        first
          | exact ⟨(if_pos hc14).symm, hX⟩
          | exact ⟨by rw [if_neg hc14, if_pos hq], hX⟩
          | exact ⟨by rw [if_neg hc14, if_neg hq], hX⟩
theorem ref_with (a0 a2 a4 : Int) (b3 b5 b6 : Bool) (l : List Fl) (p : Option Addr) (n c : Nat) (w : World) (hl : Sl kFl 81 0 w p n c l) (hn : n ≤ 100000) (k : ByteArray) (a b : List UInt8) :
    Ret Try.prog 56 [.agg #[.int .i64 a0, .slice p n c, .int .i64 a2, .bool b3, .int .i64 a4, .bool b5, .bool b6], .agg #[.string k, .string (toStr a), .string (toStr b)]] w (fun v w' => (∃ p' n' c', v = .agg #[.int .i64 a0, .slice p' n' c', .int .i64 a2, .bool b3, .int .i64 a4, .bool b5, .bool b6] ∧ Sl kFl 81 0 w' p' n' c' (insA l k (some (a ++ b, a.length)))) ∧ Ext w w') := by
  have hX := Ext.refl w
  refine enter 35 _ Try.func56 rfl rfl (Nat.le_of_ble_eq_true rfl) rfl ?_
  refine c_seq ?_
  refine r_plain ?_
  have hXs2 := hX.size
  refine o_boxA (by conv => lhs; whnf) ?_
  intro w1 g2 hN2
  have hE1 := hN2.ext
  have hX := hX.ext hE1
  have hB2 := hN2.blk
  have hlt2 := hB2.lt
  refine o_boxA (by conv => lhs; whnf) ?_
  intro w2 g3 hN3
  have hE2 := hN3.ext
  have hX := hX.ext hE2
  have hB2 := hB2.ext hE2
  have hB3 := hN3.blk
  have hXs4 := hX.size
  have hlt3 := hB3.lt
  have hlt2b := hB2.lt
  refine o_alloc zr27 ?_
  intro w3 g4 hN4
  have hE3 := hN4.ext
  have hX := hX.ext hE3
  have hB2 := hB2.ext hE3
  have hB3 := hB3.ext hE3
  have hB4 := hN4.blk
  refine r_nil ?_
  refine t_n ?_
  refine c_seq ?_
  have hg4 := hN4.g_eq
  have hg3 := hN3.g_eq
  have hlen := hl.len
  have hcap := hl.cap
  have hple := plc_leA l k
  refine r_plain ?_
  refine p1 (x_loadB ua27 rfl hB2 (by exact sz27)) ?_
  refine p1 (x_fieldAddr fo81_0 sz9 rfl) ?_
  refine p1 (x_load1 un9 rfl (hB3.cell (rfl))) ?_
  refine o_call Try.func45 fn45 fb45 (ref_place a0 a2 a4 b3 b5 b6 l p n c _ (hl.ext hX) k hn) rfl ?_
  rintro v4 w4 ⟨rfl, hE4⟩
  have hX := hX.ext hE4
  have hB2 := hB2.ext hE4
  have hB3 := hB3.ext hE4
  have hB4 := hB4.ext hE4
  refine p1 (x_move (by conv => lhs; whnf)) ?_
  refine p1 (x_extract rfl rfl) ?_
  refine p1 (x_extract rfl rfl) ?_
  refine p1 (x_assign (by conv => lhs; whnf)) ?_
  refine p1 (x_assign (by conv => lhs; whnf)) ?_
  refine r_nil ?_
  refine t_n ?_
  refine c_seq ?_
  refine r_plain ?_
  refine p1 (x_assign (by conv => lhs; whnf)) ?_
  refine r_nil ?_
  refine t_n ?_
  refine c_seq ?_
  refine r_held (fun w1 w2 => Ext w1 w2) mixed ?_
  intro w5 hE5
  have hX := hX.ext hE5
  have hB2 := hB2.ext hE5
  have hB3 := hB3.ext hE5
  have hB4 := hB4.ext hE5
  have hSr3 : (fun w1 w2 => Ext w1 w2) w5 w5 := Ext.refl w5
  refine h_take 0 rfl (by kernel_rfl) (by kernel_rfl) (by kernel_rfl) hSr3 (fun wS hSS => by (have hX := hX.ext hSS; have hB2 := hB2.ext hSS; have hB3 := hB3.ext hSS; have hB4 := hB4.ext hSS; exact (x_move (by conv => lhs; whnf)))) ?_
  refine h_take 1 rfl (by kernel_rfl) (by kernel_rfl) (by kernel_rfl) hSr3 (fun wS hSS => by (have hX := hX.ext hSS; have hB2 := hB2.ext hSS; have hB3 := hB3.ext hSS; have hB4 := hB4.ext hSS; exact (x_fieldAddr fo27_1 sz25 rfl))) ?_
  refine h_take 2 rfl (by kernel_rfl) (by kernel_rfl) (by kernel_rfl) hSr3 (fun wS hSS => by (have hX := hX.ext hSS; have hB2 := hB2.ext hSS; have hB3 := hB3.ext hSS; have hB4 := hB4.ext hSS; exact (x_load1 un25 rfl (hB2.cell (rfl))))) ?_
  refine h_take 3 rfl (by kernel_rfl) (by kernel_rfl) (by kernel_rfl) hSr3 (fun wS hSS => by (have hX := hX.ext hSS; have hB2 := hB2.ext hSS; have hB3 := hB3.ext hSS; have hB4 := hB4.ext hSS; exact (x_move (by conv => lhs; whnf)))) ?_
  refine h_take 4 rfl (by kernel_rfl) (by kernel_rfl) (by kernel_rfl) hSr3 (fun wS hSS => by (have hX := hX.ext hSS; have hB2 := hB2.ext hSS; have hB3 := hB3.ext hSS; have hB4 := hB4.ext hSS; exact (x_slice_hN u25 sz81 rfl rfl (by omega)))) ?_
  refine h_take 6 rfl (by kernel_rfl) (by kernel_rfl) (by kernel_rfl) hSr3 (fun wS hSS => by (have hX := hX.ext hSS; have hB2 := hB2.ext hSS; have hB3 := hB3.ext hSS; have hB4 := hB4.ext hSS; exact (x_loadB ua81 rfl hB3 (by exact sz81)))) ?_
  refine h_two 5 7 _ _ rfl rfl (by kernel_rfl) (hop_of_list (fun Q5 hQ5 => ?_)) (hop_of_list (fun Q7 hQ7 => ?_))
  · skip
    obtain ⟨B5, hB5⟩ : ∃ B, B = w5.heap.size := ⟨_, rfl⟩
    have hs3 := Nat.le_trans hSr3.size (Nat.le_of_eq hB5.symm)
    have hq5 := Nat.le_trans hX.size (Nat.le_of_eq hB5.symm)
    have h35 := Nat.lt_of_lt_of_le hB3.lt (Nat.le_of_eq hB5.symm)
    have hOn : Own kFl 81 0 B5 w5 none 0 0 [] := Own.nil _ _ _ _ _
    have hl5 := (hl.ext hX).take (plcA l k) (by omega)
    refine o_append (d := kFl) (l.take (plcA l k)) u25 inf81 rfl kFl_pos rfl rfl hOn (src_pure u25 hl5 (by decide)) hl5.len (pure_all _ _ _) rfl (by omega) (by omega) (by omega) (by omega) (by decide) ?_
    intro p20 c20 w6 hO hM6
    have hE6 : Ext w5 w6 := (Ext.refl _).mod hM6 (by rw [hB5]; exact Nat.le_refl _)
    rw [List.nil_append] at hO
    have hG5 := hE6
    have hX := hX.ext hE6
    have hB2 := hB2.ext hE6
    have hB3 := hB3.ext hE6
    have hB4 := hB4.ext hE6
    have hSr3 := hSr3.ext hE6
    refine hop_end hQ5 ⟨hSr3, ?_⟩
    refine h_one 7 _ rfl (by kernel_rfl) (hop_of_list (fun Q7 hQ7 => ?_))
    refine o_buildSlice u25 inf81 rfl (by decide) (fun base hb => fill_kn [.agg #[.string k, .string (toStr a), .string (toStr b)]] (by intro v hv'; simp only [List.mem_singleton] at hv'; subst hv'; rfl) base hb) ?_
    intro w7 g22 hN22
    have hE7 := hN22.ext
    have hX := hX.ext hE7
    have hB2 := hB2.ext hE7
    have hB3 := hB3.ext hE7
    have hB4 := hB4.ext hE7
    have hSr3 := hSr3.ext hE7
    have hO := hO.ext hE7
    have hG5 := hG5.ext hE7
    have hJ : Own kFl 81 0 0 w7 (some ⟨g22, 0, none⟩) 1 1 [(k, (a ++ b, a.length))] := own_lit [(k, (a ++ b, a.length))] (by have h22 : New _ _ g22 #[Value.string k, Value.string (toStr a), Value.string (toStr b)] 81 := hN22; simpa [encF] using h22) (Nat.zero_le _) (by simp)
    refine hop_end hQ7 ⟨hSr3, ?_⟩
    refine h_one 8 _ rfl (by kernel_rfl) (hop_of_list (fun Q8 hQ8 => ?_))
    have hq8 := hX.size
    have hb8 := hG5.size
    rw [← hB5] at hb8
    refine o_append (d := kFl) ([(k, (a ++ b, a.length))]) u25 inf81 rfl kFl_pos rfl rfl hO (src_pure u25 hJ.sl (by decide)) rfl (pure_all _ _ _) (rfl) (by omega) (by omega) (by omega) (by omega) (by decide) ?_
    intro p23 c23 w8 hO hM8
    have hX := hX.mod hM8 (hq5)
    have hB2 := hB2.mod hM8 (by decide)
    have hB3 := hB3.modB hM8 (by omega)
    have hB4 := hB4.mod hM8 (by decide)
    have hSr3 := hSr3.mod hM8 hs3
    have hz8 := hM8.size
    refine hop_end hQ8 ⟨hSr3, ?_⟩
    refine h_take 9 rfl (by kernel_rfl) (by kernel_rfl) (by kernel_rfl) hSr3 (fun wS hSS => by ( exact (x_assign (by conv => lhs; whnf)))) ?_
    refine h_done (by kernel_rfl) ?_
    refine t_n ?_
    refine c_seq ?_
    refine c_seq ?_
    refine r_plain ?_
    refine p1 (x_move (by conv => lhs; whnf)) ?_
    refine r_nil ?_
    refine t_n ?_
    first | refine c_dec rfl (fun hc24 => ?_) (fun hc24 => ?_) | refine c_if rfl (fun hc24 => ?_) (fun hc24 => ?_)
    · try simp only [decide_eq_true_eq, decide_eq_false_iff_not, Bool.not_eq_true, Bool.not_eq_false, Bool.not_eq_eq_eq_not, Bool.not_true, Bool.not_false, Int.not_lt, Int.not_le] at hc24
      have hat : isAtA l (plcA l k) k := hc24
      have hat1 := hat.1
      obtain ⟨ys, hys⟩ : ∃ ys, ys = l.drop (plcA l k + 1) := ⟨_, rfl⟩
      have hsrc : ∀ wz, Ext w wz → Sl kFl 81 0 wz (adw p c (plcA l k + 1) 3) (n - (plcA l k + 1)) (c - (plcA l k + 1)) ys := fun wz hz => by rw [hys]; exact (hl.ext hz).dropI _ (by omega)
      have hins := ins_putA k (some (a ++ b, a.length)) 1 (.inl ⟨hat, rfl⟩)
      rw [← hys] at hins
      refine r_plain ?_
      refine p1 (x_move (by conv => lhs; whnf)) ?_
      refine p1 ((x_add rfl rfl (fits_i64 (by omega) (by omega))).cast (congrArg (Value.int .i64) (by omega : _ = ((plcA l k + 1 : Nat) : Int)))) ?_
      refine p1 (x_assign (by conv => lhs; whnf)) ?_
      refine r_nil ?_
      refine t_n ?_
      refine c_seq ?_
      refine r_plain ?_
      refine p1 (x_move (by conv => lhs; whnf)) ?_
      refine p1 (x_fieldAddr fo27_1 sz25 rfl) ?_
      refine p1 (x_load1 un25 rfl (hB2.cell (rfl))) ?_
      refine p1 (x_move (by conv => lhs; whnf)) ?_
      refine p1 (x_slice_lN u25 sz81 rfl rfl (by omega)) ?_
      have hq8 := hX.size
      refine o_append (d := kFl) (ys) u25 inf81 rfl kFl_pos rfl rfl hO (src_pure u25 (hsrc _ hX) (by decide)) (hsrc _ hX).len (pure_all _ _ _) (rfl) (by omega) (by omega) (by omega) (by omega) (by decide) ?_
      intro p32 c32 w9 hO hM9
      have hX := hX.mod hM9 (hq5)
      have hB2 := hB2.mod hM9 (by decide)
      have hB3 := hB3.modB hM9 (by omega)
      have hB4 := hB4.mod hM9 (by decide)
      refine p1 (x_fieldAddr fo27_1 sz25 rfl) ?_
      refine o_store1 rfl (by conv => lhs; whnf) rfl rfl sz25 hB2 (by simp) ?_
      intro w10 hP10
      have hX := hX.put hP10 (by rw [hN2.g_eq]; exact hXs2)
      have hB2 := hP10.blk
      simp only [List.setIfInBounds_toArray, List.set_cons_zero, List.set_cons_succ] at hB2
      have hB3 := hP10.keep hB3 (by omega)
      have hB4 := hP10.keep hB4 (by omega)
      have hO := hO.mod (hP10.mod 0 (Nat.zero_le _)) (Nat.zero_le _) (by decide)
      refine r_nil ?_
      refine t_n ?_
      refine c_seq ?_
      refine r_plain ?_
      refine p1 (x_loadB ua27 rfl hB2 (by exact sz27)) ?_
      refine o_storeAll rfl (by conv => lhs; whnf) (by simp [Value.oneCell']) (by exact sz27) hB4 (by rfl) ?_
      intro w11 hP11
      have hX := hX.put hP11 (by rw [hN4.g_eq]; exact hXs4)
      have hB2 := hP11.keep hB2 (by omega)
      have hB3 := hP11.keep hB3 (by omega)
      have hB4 := hP11.blk
      have hO := hO.mod (hP11.mod 0 (Nat.zero_le _)) (Nat.zero_le _) (by decide)
      refine r_nil ?_
      refine t_n ?_
      refine c_ret ?_
      refine end1c rfl ua27 rfl hB4 (by exact sz27) ?_
      exact ⟨⟨_, _, _, rfl, by rw [← hins]; exact hO.sl⟩, hX⟩
    · try simp only [decide_eq_true_eq, decide_eq_false_iff_not, Bool.not_eq_true, Bool.not_eq_false, Bool.not_eq_eq_eq_not, Bool.not_true, Bool.not_false, Int.not_lt, Int.not_le] at hc24
      have hna : ¬ isAtA l (plcA l k) k := hc24
      obtain ⟨ys, hys⟩ : ∃ ys, ys = l.drop (plcA l k + 0) := ⟨_, rfl⟩
      have hsrc : ∀ wz, Ext w wz → Sl kFl 81 0 wz (adw p c (plcA l k) 3) (n - plcA l k) (c - plcA l k) ys := fun wz hz => by rw [hys]; exact (hl.ext hz).dropI _ (by omega)
      have hins := ins_putA k (some (a ++ b, a.length)) 0 (.inr ⟨hna, rfl⟩)
      rw [← hys] at hins
      refine c_skip ?_
      refine t_n ?_
      refine c_seq ?_
      refine r_plain ?_
      refine p1 (x_move (by conv => lhs; whnf)) ?_
      refine p1 (x_fieldAddr fo27_1 sz25 rfl) ?_
      refine p1 (x_load1 un25 rfl (hB2.cell (rfl))) ?_
      refine p1 (x_move (by conv => lhs; whnf)) ?_
      refine p1 (x_slice_lN u25 sz81 rfl rfl (by omega)) ?_
      have hq8 := hX.size
      refine o_append (d := kFl) (ys) u25 inf81 rfl kFl_pos rfl rfl hO (src_pure u25 (hsrc _ hX) (by decide)) (hsrc _ hX).len (pure_all _ _ _) (rfl) (by omega) (by omega) (by omega) (by omega) (by decide) ?_
      intro p32 c32 w12 hO hM12
      have hX := hX.mod hM12 (hq5)
      have hB2 := hB2.mod hM12 (by decide)
      have hB3 := hB3.modB hM12 (by omega)
      have hB4 := hB4.mod hM12 (by decide)
      refine p1 (x_fieldAddr fo27_1 sz25 rfl) ?_
      refine o_store1 rfl (by conv => lhs; whnf) rfl rfl sz25 hB2 (by simp) ?_
      intro w13 hP13
      have hX := hX.put hP13 (by rw [hN2.g_eq]; exact hXs2)
      have hB2 := hP13.blk
      simp only [List.setIfInBounds_toArray, List.set_cons_zero, List.set_cons_succ] at hB2
      have hB3 := hP13.keep hB3 (by omega)
      have hB4 := hP13.keep hB4 (by omega)
      have hO := hO.mod (hP13.mod 0 (Nat.zero_le _)) (Nat.zero_le _) (by decide)
      refine r_nil ?_
      refine t_n ?_
      refine c_seq ?_
      refine r_plain ?_
      refine p1 (x_loadB ua27 rfl hB2 (by exact sz27)) ?_
      refine o_storeAll rfl (by conv => lhs; whnf) (by simp [Value.oneCell']) (by exact sz27) hB4 (by rfl) ?_
      intro w14 hP14
      have hX := hX.put hP14 (by rw [hN4.g_eq]; exact hXs4)
      have hB2 := hP14.keep hB2 (by omega)
      have hB3 := hP14.keep hB3 (by omega)
      have hB4 := hP14.blk
      have hO := hO.mod (hP14.mod 0 (Nat.zero_le _)) (Nat.zero_le _) (by decide)
      refine r_nil ?_
      refine t_n ?_
      refine c_ret ?_
      refine end1c rfl ua27 rfl hB4 (by exact sz27) ?_
      exact ⟨⟨_, _, _, rfl, by rw [← hins]; exact hO.sl⟩, hX⟩
  · skip
    refine o_buildSlice u25 inf81 rfl (by decide) (fun base hb => fill_kn [.agg #[.string k, .string (toStr a), .string (toStr b)]] (by intro v hv'; simp only [List.mem_singleton] at hv'; subst hv'; rfl) base hb) ?_
    intro w15 g22 hN22
    have hE15 := hN22.ext
    have hX := hX.ext hE15
    have hB2 := hB2.ext hE15
    have hB3 := hB3.ext hE15
    have hB4 := hB4.ext hE15
    have hSr3 := hSr3.ext hE15
    have hJ : Own kFl 81 0 0 w15 (some ⟨g22, 0, none⟩) 1 1 [(k, (a ++ b, a.length))] := own_lit [(k, (a ++ b, a.length))] (by have h22 : New _ _ g22 #[Value.string k, Value.string (toStr a), Value.string (toStr b)] 81 := hN22; simpa [encF] using h22) (Nat.zero_le _) (by simp)
    refine hop_end hQ7 ⟨hSr3, ?_⟩
    refine h_one 5 _ rfl (by kernel_rfl) (hop_of_list (fun Q5 hQ5 => ?_))
    obtain ⟨B5, hB5⟩ : ∃ B, B = w15.heap.size := ⟨_, rfl⟩
    have hs3 := Nat.le_trans hSr3.size (Nat.le_of_eq hB5.symm)
    have hq5 := Nat.le_trans hX.size (Nat.le_of_eq hB5.symm)
    have h35 := Nat.lt_of_lt_of_le hB3.lt (Nat.le_of_eq hB5.symm)
    have hOn : Own kFl 81 0 B5 w15 none 0 0 [] := Own.nil _ _ _ _ _
    have hl5 := (hl.ext hX).take (plcA l k) (by omega)
    refine o_append (d := kFl) (l.take (plcA l k)) u25 inf81 rfl kFl_pos rfl rfl hOn (src_pure u25 hl5 (by decide)) hl5.len (pure_all _ _ _) rfl (by omega) (by omega) (by omega) (by omega) (by decide) ?_
    intro p20 c20 w16 hO hM16
    have hE16 : Ext w15 w16 := (Ext.refl _).mod hM16 (by rw [hB5]; exact Nat.le_refl _)
    rw [List.nil_append] at hO
    have hG5 := hE16
    have hX := hX.ext hE16
    have hB2 := hB2.ext hE16
    have hB3 := hB3.ext hE16
    have hB4 := hB4.ext hE16
    have hSr3 := hSr3.ext hE16
    have hJ := hJ.ext hE16
    refine hop_end hQ5 ⟨hSr3, ?_⟩
    refine h_one 8 _ rfl (by kernel_rfl) (hop_of_list (fun Q8 hQ8 => ?_))
    have hq8 := hX.size
    have hb8 := hG5.size
    rw [← hB5] at hb8
    refine o_append (d := kFl) ([(k, (a ++ b, a.length))]) u25 inf81 rfl kFl_pos rfl rfl hO (src_pure u25 hJ.sl (by decide)) rfl (pure_all _ _ _) (rfl) (by omega) (by omega) (by omega) (by omega) (by decide) ?_
    intro p23 c23 w17 hO hM17
    have hX := hX.mod hM17 (hq5)
    have hB2 := hB2.mod hM17 (by decide)
    have hB3 := hB3.modB hM17 (by omega)
    have hB4 := hB4.mod hM17 (by decide)
    have hSr3 := hSr3.mod hM17 hs3
    have hz8 := hM17.size
    refine hop_end hQ8 ⟨hSr3, ?_⟩
    refine h_take 9 rfl (by kernel_rfl) (by kernel_rfl) (by kernel_rfl) hSr3 (fun wS hSS => by ( exact (x_assign (by conv => lhs; whnf)))) ?_
    refine h_done (by kernel_rfl) ?_
    refine t_n ?_
    refine c_seq ?_
    refine c_seq ?_
    refine r_plain ?_
    refine p1 (x_move (by conv => lhs; whnf)) ?_
    refine r_nil ?_
    refine t_n ?_
    first | refine c_dec rfl (fun hc24 => ?_) (fun hc24 => ?_) | refine c_if rfl (fun hc24 => ?_) (fun hc24 => ?_)
    · try simp only [decide_eq_true_eq, decide_eq_false_iff_not, Bool.not_eq_true, Bool.not_eq_false, Bool.not_eq_eq_eq_not, Bool.not_true, Bool.not_false, Int.not_lt, Int.not_le] at hc24
      have hat : isAtA l (plcA l k) k := hc24
      have hat1 := hat.1
      obtain ⟨ys, hys⟩ : ∃ ys, ys = l.drop (plcA l k + 1) := ⟨_, rfl⟩
      have hsrc : ∀ wz, Ext w wz → Sl kFl 81 0 wz (adw p c (plcA l k + 1) 3) (n - (plcA l k + 1)) (c - (plcA l k + 1)) ys := fun wz hz => by rw [hys]; exact (hl.ext hz).dropI _ (by omega)
      have hins := ins_putA k (some (a ++ b, a.length)) 1 (.inl ⟨hat, rfl⟩)
      rw [← hys] at hins
      refine r_plain ?_
      refine p1 (x_move (by conv => lhs; whnf)) ?_
      refine p1 ((x_add rfl rfl (fits_i64 (by omega) (by omega))).cast (congrArg (Value.int .i64) (by omega : _ = ((plcA l k + 1 : Nat) : Int)))) ?_
      refine p1 (x_assign (by conv => lhs; whnf)) ?_
      refine r_nil ?_
      refine t_n ?_
      refine c_seq ?_
      refine r_plain ?_
      refine p1 (x_move (by conv => lhs; whnf)) ?_
      refine p1 (x_fieldAddr fo27_1 sz25 rfl) ?_
      refine p1 (x_load1 un25 rfl (hB2.cell (rfl))) ?_
      refine p1 (x_move (by conv => lhs; whnf)) ?_
      refine p1 (x_slice_lN u25 sz81 rfl rfl (by omega)) ?_
      have hq8 := hX.size
      refine o_append (d := kFl) (ys) u25 inf81 rfl kFl_pos rfl rfl hO (src_pure u25 (hsrc _ hX) (by decide)) (hsrc _ hX).len (pure_all _ _ _) (rfl) (by omega) (by omega) (by omega) (by omega) (by decide) ?_
      intro p32 c32 w18 hO hM18
      have hX := hX.mod hM18 (hq5)
      have hB2 := hB2.mod hM18 (by decide)
      have hB3 := hB3.modB hM18 (by omega)
      have hB4 := hB4.mod hM18 (by decide)
      refine p1 (x_fieldAddr fo27_1 sz25 rfl) ?_
      refine o_store1 rfl (by conv => lhs; whnf) rfl rfl sz25 hB2 (by simp) ?_
      intro w19 hP19
      have hX := hX.put hP19 (by rw [hN2.g_eq]; exact hXs2)
      have hB2 := hP19.blk
      simp only [List.setIfInBounds_toArray, List.set_cons_zero, List.set_cons_succ] at hB2
      have hB3 := hP19.keep hB3 (by omega)
      have hB4 := hP19.keep hB4 (by omega)
      have hO := hO.mod (hP19.mod 0 (Nat.zero_le _)) (Nat.zero_le _) (by decide)
      refine r_nil ?_
      refine t_n ?_
      refine c_seq ?_
      refine r_plain ?_
      refine p1 (x_loadB ua27 rfl hB2 (by exact sz27)) ?_
      refine o_storeAll rfl (by conv => lhs; whnf) (by simp [Value.oneCell']) (by exact sz27) hB4 (by rfl) ?_
      intro w20 hP20
      have hX := hX.put hP20 (by rw [hN4.g_eq]; exact hXs4)
      have hB2 := hP20.keep hB2 (by omega)
      have hB3 := hP20.keep hB3 (by omega)
      have hB4 := hP20.blk
      have hO := hO.mod (hP20.mod 0 (Nat.zero_le _)) (Nat.zero_le _) (by decide)
      refine r_nil ?_
      refine t_n ?_
      refine c_ret ?_
      refine end1c rfl ua27 rfl hB4 (by exact sz27) ?_
      exact ⟨⟨_, _, _, rfl, by rw [← hins]; exact hO.sl⟩, hX⟩
    · try simp only [decide_eq_true_eq, decide_eq_false_iff_not, Bool.not_eq_true, Bool.not_eq_false, Bool.not_eq_eq_eq_not, Bool.not_true, Bool.not_false, Int.not_lt, Int.not_le] at hc24
      have hna : ¬ isAtA l (plcA l k) k := hc24
      obtain ⟨ys, hys⟩ : ∃ ys, ys = l.drop (plcA l k + 0) := ⟨_, rfl⟩
      have hsrc : ∀ wz, Ext w wz → Sl kFl 81 0 wz (adw p c (plcA l k) 3) (n - plcA l k) (c - plcA l k) ys := fun wz hz => by rw [hys]; exact (hl.ext hz).dropI _ (by omega)
      have hins := ins_putA k (some (a ++ b, a.length)) 0 (.inr ⟨hna, rfl⟩)
      rw [← hys] at hins
      refine c_skip ?_
      refine t_n ?_
      refine c_seq ?_
      refine r_plain ?_
      refine p1 (x_move (by conv => lhs; whnf)) ?_
      refine p1 (x_fieldAddr fo27_1 sz25 rfl) ?_
      refine p1 (x_load1 un25 rfl (hB2.cell (rfl))) ?_
      refine p1 (x_move (by conv => lhs; whnf)) ?_
      refine p1 (x_slice_lN u25 sz81 rfl rfl (by omega)) ?_
      have hq8 := hX.size
      refine o_append (d := kFl) (ys) u25 inf81 rfl kFl_pos rfl rfl hO (src_pure u25 (hsrc _ hX) (by decide)) (hsrc _ hX).len (pure_all _ _ _) (rfl) (by omega) (by omega) (by omega) (by omega) (by decide) ?_
      intro p32 c32 w21 hO hM21
      have hX := hX.mod hM21 (hq5)
      have hB2 := hB2.mod hM21 (by decide)
      have hB3 := hB3.modB hM21 (by omega)
      have hB4 := hB4.mod hM21 (by decide)
      refine p1 (x_fieldAddr fo27_1 sz25 rfl) ?_
      refine o_store1 rfl (by conv => lhs; whnf) rfl rfl sz25 hB2 (by simp) ?_
      intro w22 hP22
      have hX := hX.put hP22 (by rw [hN2.g_eq]; exact hXs2)
      have hB2 := hP22.blk
      simp only [List.setIfInBounds_toArray, List.set_cons_zero, List.set_cons_succ] at hB2
      have hB3 := hP22.keep hB3 (by omega)
      have hB4 := hP22.keep hB4 (by omega)
      have hO := hO.mod (hP22.mod 0 (Nat.zero_le _)) (Nat.zero_le _) (by decide)
      refine r_nil ?_
      refine t_n ?_
      refine c_seq ?_
      refine r_plain ?_
      refine p1 (x_loadB ua27 rfl hB2 (by exact sz27)) ?_
      refine o_storeAll rfl (by conv => lhs; whnf) (by simp [Value.oneCell']) (by exact sz27) hB4 (by rfl) ?_
      intro w23 hP23
      have hX := hX.put hP23 (by rw [hN4.g_eq]; exact hXs4)
      have hB2 := hP23.keep hB2 (by omega)
      have hB3 := hP23.keep hB3 (by omega)
      have hB4 := hP23.blk
      have hO := hO.mod (hP23.mod 0 (Nat.zero_le _)) (Nat.zero_le _) (by decide)
      refine r_nil ?_
      refine t_n ?_
      refine c_ret ?_
      refine end1c rfl ua27 rfl hB4 (by exact sz27) ?_
      exact ⟨⟨_, _, _, rfl, by rw [← hins]; exact hO.sl⟩, hX⟩
theorem ref_without (a0 a2 a4 : Int) (b3 b5 b6 : Bool) (l : List Fl) (p : Option Addr) (n c : Nat) (w : World) (hl : Sl kFl 81 0 w p n c l) (hn : n ≤ 100000) (hr : RiseNA l) (k : ByteArray) :
    Ret Try.prog 59 [.agg #[.int .i64 a0, .slice p n c, .int .i64 a2, .bool b3, .int .i64 a4, .bool b5, .bool b6], .string k] w (fun v w' => (∃ p' n' c', v = .agg #[.int .i64 a0, .slice p' n' c', .int .i64 a2, .bool b3, .int .i64 a4, .bool b5, .bool b6] ∧ Sl kFl 81 0 w' p' n' c' (insA l k none)) ∧ Ext w w') := by
  have hX := Ext.refl w
  refine enter 30 _ Try.func59 rfl rfl (Nat.le_of_ble_eq_true rfl) rfl ?_
  refine c_seq ?_
  refine r_plain ?_
  have hXs2 := hX.size
  refine o_boxA (by conv => lhs; whnf) ?_
  intro w1 g2 hN2
  have hE1 := hN2.ext
  have hX := hX.ext hE1
  have hB2 := hN2.blk
  have hXs4 := hX.size
  have hlt2 := hB2.lt
  refine o_alloc zr27 ?_
  intro w2 g4 hN4
  have hE2 := hN4.ext
  have hX := hX.ext hE2
  have hB2 := hB2.ext hE2
  have hB4 := hN4.blk
  refine r_nil ?_
  refine t_n ?_
  refine c_seq ?_
  have hg4 := hN4.g_eq
  have hlen := hl.len
  have hcap := hl.cap
  have hple := plc_leA l k
  refine r_plain ?_
  refine p1 (x_loadB ua27 rfl hB2 (by exact sz27)) ?_
  refine p1 (x_move (by conv => lhs; whnf)) ?_
  refine o_call Try.func45 fn45 fb45 (ref_place a0 a2 a4 b3 b5 b6 l p n c _ (hl.ext hX) k hn) rfl ?_
  rintro v3 w3 ⟨rfl, hE3⟩
  have hX := hX.ext hE3
  have hB2 := hB2.ext hE3
  have hB4 := hB4.ext hE3
  refine p1 (x_move (by conv => lhs; whnf)) ?_
  refine p1 (x_extract rfl rfl) ?_
  refine p1 (x_extract rfl rfl) ?_
  refine p1 (x_assign (by conv => lhs; whnf)) ?_
  refine p1 (x_assign (by conv => lhs; whnf)) ?_
  refine r_nil ?_
  refine t_n ?_
  refine c_seq ?_
  refine c_seq ?_
  refine r_plain ?_
  refine p1 (x_move (by conv => lhs; whnf)) ?_
  refine r_nil ?_
  refine t_n ?_
  first | refine c_dec rfl (fun hc14 => ?_) (fun hc14 => ?_) | refine c_if rfl (fun hc14 => ?_) (fun hc14 => ?_)
  · try simp only [decide_eq_true_eq, decide_eq_false_iff_not, Bool.not_eq_true, Bool.not_eq_false, Bool.not_eq_eq_eq_not, Bool.not_true, Bool.not_false, Int.not_lt, Int.not_le] at hc14
    have hat : isAtA l (plcA l k) k := hc14
    have hat1 := hat.1
    have hins := ins_putA k (none : Option Fb) 1 (.inl ⟨hat, rfl⟩)
    refine c_seq ?_
    refine r_plain ?_
    refine p1 (x_assign (by conv => lhs; whnf)) ?_
    refine r_nil ?_
    refine t_n ?_
    refine c_seq ?_
    refine r_plain ?_
    refine p1 (x_move (by conv => lhs; whnf)) ?_
    refine p1 (x_fieldAddr fo27_1 sz25 rfl) ?_
    refine p1 (x_load1 un25 rfl (hB2.cell (rfl))) ?_
    refine p1 (x_move (by conv => lhs; whnf)) ?_
    refine p1 (x_slice_hN u25 sz81 rfl rfl (by omega)) ?_
    have hq5 := hX.size
    have hO : Own kFl 81 0 w.heap.size w3 none 0 0 [] := Own.nil _ _ _ _ _
    refine o_append (d := kFl) (l.take (plcA l k)) u25 inf81 rfl kFl_pos rfl rfl hO (src_pure u25 ((hl.ext hX).take (plcA l k) (by omega)) (by decide)) ((hl.ext hX).take (plcA l k) (by omega)).len (pure_all _ _ _) (rfl) (by omega) (by omega) (by omega) (by omega) (by decide) ?_
    intro p20 c20 w4 hO hM4
    have hX := hX.mod hM4 (Nat.le_refl _)
    have hB2 := hB2.mod hM4 (by decide)
    have hB4 := hB4.mod hM4 (by decide)
    rw [List.nil_append] at hO
    refine p1 (x_assign (by conv => lhs; whnf)) ?_
    refine r_nil ?_
    refine t_n ?_
    refine r_plain ?_
    refine p1 (x_move (by conv => lhs; whnf)) ?_
    refine p1 (x_fieldAddr fo27_1 sz25 rfl) ?_
    refine p1 (x_load1 un25 rfl (hB2.cell (rfl))) ?_
    refine p1 (x_move (by conv => lhs; whnf)) ?_
    refine p1 ((x_add rfl rfl (fits_i64 (by omega) (by omega))).cast (congrArg (Value.int .i64) (by omega : _ = ((plcA l k + 1 : Nat) : Int)))) ?_
    refine p1 (x_slice_lN u25 sz81 rfl rfl (by omega)) ?_
    have hq8 := hX.size
    refine o_append (d := kFl) (l.drop (plcA l k + 1)) u25 inf81 rfl kFl_pos rfl rfl hO (src_pure u25 ((hl.ext hX).dropI (plcA l k + 1) (by omega)) (by decide)) ((hl.ext hX).dropI (plcA l k + 1) (by omega)).len (pure_all _ _ _) (rfl) (by omega) (by omega) (by omega) (by omega) (by decide) ?_
    intro p27 c27 w5 hO hM5
    have hX := hX.mod hM5 (Nat.le_refl _)
    have hB2 := hB2.mod hM5 (by decide)
    have hB4 := hB4.mod hM5 (by decide)
    refine p1 (x_fieldAddr fo27_1 sz25 rfl) ?_
    refine o_store1 rfl (by conv => lhs; whnf) rfl rfl sz25 hB2 (by simp) ?_
    intro w6 hP6
    have hX := hX.put hP6 (by rw [hN2.g_eq]; exact hXs2)
    have hB2 := hP6.blk
    simp only [List.setIfInBounds_toArray, List.set_cons_zero, List.set_cons_succ] at hB2
    have hB4 := hP6.keep hB4 (by omega)
    have hO := hO.mod (hP6.mod 0 (Nat.zero_le _)) (Nat.zero_le _) (by decide)
    refine r_nil ?_
    refine t_n ?_
    refine c_seq ?_
    refine r_plain ?_
    refine p1 (x_loadB ua27 rfl hB2 (by exact sz27)) ?_
    refine o_storeAll rfl (by conv => lhs; whnf) (by simp [Value.oneCell']) (by exact sz27) hB4 (by rfl) ?_
    intro w7 hP7
    have hX := hX.put hP7 (by rw [hN4.g_eq]; exact hXs4)
    have hB2 := hP7.keep hB2 (by omega)
    have hB4 := hP7.blk
    have hO := hO.mod (hP7.mod 0 (Nat.zero_le _)) (Nat.zero_le _) (by decide)
    refine r_nil ?_
    refine t_n ?_
    refine c_ret ?_
    refine end1c rfl ua27 rfl hB4 (by exact sz27) ?_
    first
      | exact ⟨⟨_, _, _, rfl, by rw [← hins]; simp only [put1A, List.append_nil]; exact hO.sl⟩, hX⟩
      | exact ⟨⟨p, n, c, rfl, by rw [hins2]; exact hl.ext hX⟩, hX⟩
  · try simp only [decide_eq_true_eq, decide_eq_false_iff_not, Bool.not_eq_true, Bool.not_eq_false, Bool.not_eq_eq_eq_not, Bool.not_true, Bool.not_false, Int.not_lt, Int.not_le] at hc14
    have hna : ¬ isAtA l (plcA l k) k := hc14
    have hins := ins_putA k (none : Option Fb) 0 (.inr ⟨hna, rfl⟩)
    have hins2 : insA l k none = l := by rw [← hins]; simp [put1A]
    refine c_skip ?_
    refine t_n ?_
    refine c_seq ?_
    refine r_plain ?_
    refine p1 (x_loadB ua27 rfl hB2 (by exact sz27)) ?_
    refine o_storeAll rfl (by conv => lhs; whnf) (by simp [Value.oneCell']) (by exact sz27) hB4 (by rfl) ?_
    intro w8 hP8
    have hX := hX.put hP8 (by rw [hN4.g_eq]; exact hXs4)
    have hB2 := hP8.keep hB2 (by omega)
    have hB4 := hP8.blk
    refine r_nil ?_
    refine t_n ?_
    refine c_ret ?_
    refine end1c rfl ua27 rfl hB4 (by exact sz27) ?_
    first
      | exact ⟨⟨_, _, _, rfl, by rw [← hins]; simp only [put1A, List.append_nil]; exact hO.sl⟩, hX⟩
      | exact ⟨⟨p, n, c, rfl, by rw [hins2]; exact hl.ext hX⟩, hX⟩
end Go.Proofs.Eng
end
section
set_option linter.unusedVariables false
set_option linter.unusedSimpArgs false
namespace Go.Proofs.Eng
open Go.RowKit
open Extern.Stop (cell)
/-! ### the reference's step; its files -/
theorem step_refV {D : DS} {act : List Fl} {fa al : Bool} {w : World} {p py : Option Addr} {n c ny cy : Nat} {lf : Int} (ha : Sl kFl 81 0 w p n c act) (hy : Sl kFl 81 0 w py ny cy (if (fa && (al || D.done)) = true then act else D.l)) (hlf : LfOk D lf) (hok : -1 ≤ D.left) :
    ∃ cs, (if decide (0 ≤ D.left) = true ∧ lf = 0 then Value.tuple #[.agg #[.int .i64 (D.most : Int), .slice py ny cy, .int .i64 (D.steps : Int), .bool false, .int .i64 lf, .bool D.done, .bool true], .int .i64 20] else .tuple #[.agg #[.int .i64 (D.most : Int), .slice p n c, .int .i64 ((D.steps : Int) + 1), .bool (decide (0 ≤ D.left)), .int .i64 (if decide (0 ≤ D.left) = true then lf - 1 else lf), .bool D.done, .bool D.down], .int .i64 0]) = .tuple #[.agg cs, .int .i64 (stepD D act fa al).2] ∧ RefV w cs (stepD D act fa al).1 := by
  obtain ⟨h1, h2, h3⟩ := hlf
  by_cases hl : D.left ≠ 0
  · rw [if_neg (fun h => by have h4 := of_decide_eq_true h.1; have := h1 h4; omega), stepD_go hl]
    refine ⟨_, rfl, p, n, c, (if decide (0 ≤ D.left) = true then lf - 1 else lf), ?_, ha, ?_⟩
    · have e : decide (0 ≤ D.left) = decide (0 ≤ max (-1) (D.left - 1)) := decide_eq_decide.2 (by omega)
      show (#[Value.int .i64 (D.most : Int), .slice p n c, .int .i64 ((D.steps : Int) + 1), .bool (decide (0 ≤ D.left)), _, _, _] : Array Value) = #[.int .i64 (D.most : Int), .slice p n c, .int .i64 ((D.steps + 1 : Nat) : Int), .bool (decide (0 ≤ max (-1) (D.left - 1))), _, _, _]
      rw [← e]; rfl
    · refine ⟨fun h => ?_, ?_, ?_⟩
      · have h : 0 ≤ max (-1) (D.left - 1) := h
        have h5 : 0 ≤ D.left := by omega
        rw [if_pos (decide_eq_true h5), h1 h5]
        show _ = max (-1) (D.left - 1)
        omega
      · split
        · rename_i h; have h6 : 0 ≤ D.left := of_decide_eq_true h; have h7 := h1 h6; rw [h7]; show (-1 : Int) ≤ _; omega
        · exact h2
      · split <;> omega
  · have h0 : D.left = 0 := by omega
    rw [if_pos ⟨decide_eq_true (by omega), by rw [h1 (by omega)]; exact h0⟩]
    unfold stepD
    rw [if_neg hl]
    exact ⟨_, rfl, py, ny, cy, lf, rfl, hy, ⟨fun h => by have h : (0 : Int) ≤ -1 := h; omega, h2, h3⟩⟩
theorem file_at {D : DS} (hok : DOk D) {k : ByteArray} (hat : isAtA D.l (plcA D.l k) k) : ∃ f, ascF D.l k = some f ∧ D.l.getD (plcA D.l k) default = (k, f) ∧ f.1.length ≤ usedL D.l ∧ f.2 ≤ f.1.length ∧ getF D k = f := by
  have h1 := asc_atA hok.rise hat
  have h2 : getF D k = (D.l.getD (plcA D.l k) default).2 := by unfold getF ascF; rw [h1]; rfl
  have h3 := getF_le hok k
  rw [h2] at h3
  exact ⟨_, h1, Prod.ext hat.2 rfl, h3.1, h3.2, h2⟩
theorem file_not {D : DS} (hok : DOk D) {k : ByteArray} (hat : ¬ isAtA D.l (plcA D.l k) k) : ascF D.l k = none := Classical.byContradiction fun h => hat ((isAt_iffA hok.rise k).2 h)
theorem ren_ref {l : List Fl} (hr : RiseNA l) {old now : ByteArray} {f : Fb} (hf : ascA l old = some f) : insA (insA l old none) now (some f) = renL l old now f := by
  have hr1 := rise_insA hr old (none : Option Fb)
  have hr2 := rise_insA hr1 now (some f)
  have key : ∀ m : List Fl, RiseNA m → (∀ z, ascA (insA (insA l old none) now (some f)) z = ascA m z) → insA (insA l old none) now (some f) = m := fun m hm h => riseN_extA hr2 hm fun x => by
    constructor
    · intro hx; have := asc_of_memA hr2 hx; rw [h] at this; exact asc_memA this
    · intro hx; have := asc_of_memA hm hx; rw [← h] at this; exact asc_memA this
  have hz : ∀ z, ascA (insA (insA l old none) now (some f)) z = if z = now then some f else if z = old then none else ascA l z := fun z => by
    rw [← asc_insA hr1]; unfold mset
    split
    · rfl
    · rw [← asc_insA hr]; rfl
  unfold renL
  by_cases e : old = now
  · rw [if_pos e]
    refine key _ hr fun z => ?_
    rw [hz]
    split
    · rename_i h; rw [h, ← e]; exact hf.symm
    · rename_i h; rw [if_neg (by rw [e]; exact h)]
  · rw [if_neg e]
    refine key _ (rise_insA (rise_insA hr _ _) _ _) fun z => ?_
    rw [hz, ← asc_insA (rise_insA hr _ _)]
    unfold mset
    by_cases h1 : z = now
    · rw [if_pos h1, if_neg (fun h => e (h.symm.trans h1)), ← asc_insA hr]; unfold mset; rw [if_pos h1]
    · rw [if_neg h1]
      by_cases h2 : z = old
      · rw [if_pos h2, if_pos h2]
      · rw [if_neg h2, if_neg h2, ← asc_insA hr]; unfold mset; rw [if_neg h1]
section
variable {P : Program} {N : Nat} {f : Nat → Value} {w : World} {dst : Option Nat} {T ty0 : TypeId} {pos : String} {aft : Array Edge} {gd : Option (Nat × Bool)}
theorem x_buildF1 {x : Operand} {z0 z1 z2 : Value} {s : ByteArray} (hP : placed P T = some (.agg #[z0, z1, z2], [(0, 1), (1, 1), (2, 1)])) (hx : ev N f x = .string s) : Ex P w N f ⟨dst, .build T #[(0, x)], ty0, pos, aft, gd⟩ (.agg #[.string s, z1, z2]) :=
  x_build (parts := [(0, x)]) (ps := [(0, .string s)]) hP (by rw [← hx]; rfl) (by show Instr.fill _ #[z0, z1, z2] _ = _; simp [Instr.fill, Value.cells] <;> rfl)
theorem x_buildF3 {x y z : Operand} {z0 z1 z2 : Value} {s t u : ByteArray} (hP : placed P T = some (.agg #[z0, z1, z2], [(0, 1), (1, 1), (2, 1)])) (hx : ev N f x = .string s) (hy : ev N f y = .string t) (hz : ev N f z = .string u) : Ex P w N f ⟨dst, .build T #[(0, x), (1, y), (2, z)], ty0, pos, aft, gd⟩ (.agg #[.string s, .string t, .string u]) :=
  x_build (parts := [(0, x), (1, y), (2, z)]) (ps := [(0, .string s), (1, .string t), (2, .string u)]) hP (by rw [← hx, ← hy, ← hz]; rfl) (by show Instr.fill _ #[z0, z1, z2] _ = _; simp [Instr.fill, Value.cells] <;> rfl)
theorem x_buildR1 {x : Operand} {z0 z1 z2 z3 z4 z5 z6 : Value} {i : Int} (hP : placed P T = some (.agg #[z0, z1, z2, z3, z4, z5, z6], [(0, 1), (1, 1), (2, 1), (3, 1), (4, 1), (5, 1), (6, 1)])) (hx : ev N f x = .int .i64 i) : Ex P w N f ⟨dst, .build T #[(0, x)], ty0, pos, aft, gd⟩ (.agg #[.int .i64 i, z1, z2, z3, z4, z5, z6]) :=
  x_build (parts := [(0, x)]) (ps := [(0, .int .i64 i)]) hP (by rw [← hx]; rfl) (by show Instr.fill _ #[z0, z1, z2, z3, z4, z5, z6] _ = _; simp [Instr.fill, Value.cells] <;> rfl)
end
section
variable {P : Program} {N : Nat} {f : Nat → Value} {w : World} {dst : Option Nat} {T ty0 : TypeId} {pos : String} {aft : Array Edge} {gd : Option (Nat × Bool)}
theorem x_buildR3 {x y z : Operand} {z0 z1 z2 z3 z4 z5 z6 : Value} {i j : Int} {p : Option Addr} {n c : Nat} (hP : placed P T = some (.agg #[z0, z1, z2, z3, z4, z5, z6], [(0, 1), (1, 1), (2, 1), (3, 1), (4, 1), (5, 1), (6, 1)])) (hx : ev N f x = .int .i64 i) (hy : ev N f y = .slice p n c) (hz : ev N f z = .int .i64 j) : Ex P w N f ⟨dst, .build T #[(0, x), (1, y), (2, z)], ty0, pos, aft, gd⟩ (.agg #[.int .i64 i, .slice p n c, .int .i64 j, z3, z4, z5, z6]) :=
  x_build (parts := [(0, x), (1, y), (2, z)]) (ps := [(0, .int .i64 i), (1, .slice p n c), (2, .int .i64 j)]) hP (by rw [← hx, ← hy, ← hz]; rfl) (by show Instr.fill _ #[z0, z1, z2, z3, z4, z5, z6] _ = _; simp [Instr.fill, Value.cells] <;> rfl)
end
theorem wake_snoc {l : List Fl} {i : Nat} (hi : i < l.length) (st : List UInt8) : (wakeL (l.take (i + 1)) st).1 = (wakeL (l.take i) st).1 ++ [((l.getD i default).1, wakeF (l.getD i default).2 (wakeL (l.take i) st).2)] ∧ (wakeL (l.take (i + 1)) st).2 = (wakeR (l.getD i default).2 (wakeL (l.take i) st).2).2.2 := by
  have ht : l.take (i + 1) = l.take i ++ [l.getD i default] := by rw [List.take_add_one, List.getD_eq_getElem?_getD, List.getElem?_eq_getElem hi]; rfl
  rw [ht, wakeL_snoc]
  exact ⟨rfl, rfl⟩
theorem enc_wake {x : Fl} (hx : x.2.2 ≤ x.2.1.length) (st : List UInt8) : encF (x.1, wakeF x.2 st) = [.string x.1, .string (toStr (wakeF x.2 st).1), .string (toStr [])] := by
  obtain ⟨h1, _⟩ := wakeF_len hx st
  unfold encF
  rw [← h1, List.take_length, List.drop_length]
end Go.Proofs.Eng
end
section
set_option linter.unusedVariables false
set_option linter.unusedSimpArgs false
set_option maxRecDepth 100000
set_option maxHeartbeats 4000000
namespace Go.Proofs.Eng
open Go.RowKit
open Extern.Stop (cell)
theorem fb44 : Try.f44.body.isNone = false := by kernel_rfl
theorem fb54 : Try.f54.body.isNone = false := by kernel_rfl
theorem fb56 : Try.f56.body.isNone = false := by kernel_rfl
theorem fb57 : Try.f57.body.isNone = false := by kernel_rfl
theorem fb58 : Try.f58.body.isNone = false := by kernel_rfl
theorem fb59 : Try.f59.body.isNone = false := by kernel_rfl
theorem fn44 : (Try.f44.name == "runtime.NumGoroutine") = false := by kernel_rfl
theorem fn54 : (Try.f54.name == "runtime.NumGoroutine") = false := by kernel_rfl
theorem fn56 : (Try.f56.name == "runtime.NumGoroutine") = false := by kernel_rfl
theorem fn57 : (Try.f57.name == "runtime.NumGoroutine") = false := by kernel_rfl
theorem fn58 : (Try.f58.name == "runtime.NumGoroutine") = false := by kernel_rfl
theorem fn59 : (Try.f59.name == "runtime.NumGoroutine") = false := by kernel_rfl
theorem fo27_0 : fieldOf Try.prog 27 0 = some (3, 0) := by kernel_rfl
theorem pl27 : placed Try.prog 27 = some (.agg #[.int .i64 0, .slice none 0 0, .int .i64 0, .bool false, .int .i64 0, .bool false, .bool false], [(0, 1), (1, 1), (2, 1), (3, 1), (4, 1), (5, 1), (6, 1)]) := by kernel_rfl
theorem pl81 : placed Try.prog 81 = some (.agg #[.string ByteArray.empty, .string ByteArray.empty, .string ByteArray.empty], [(0, 1), (1, 1), (2, 1)]) := by kernel_rfl
theorem zr81 : (Try.prog.info? 81).map (·.zero) = some (some (.agg #[.string ByteArray.empty, .string ByteArray.empty, .string ByteArray.empty])) := by kernel_rfl
end Go.Proofs.Eng
end
section
set_option linter.unusedVariables false
set_option linter.unusedSimpArgs false
set_option maxRecDepth 100000
set_option maxHeartbeats 4000000
namespace Go.Proofs.Eng
open Go.RowKit
open Extern.Stop (cell)
theorem ref_either2 (D : DS) (act : List Fl) (p px : Option Addr) (n c nx cx : Nat) (lf : Int) (w : World) (h1 : Sl kFl 81 0 w p n c D.l) (h2 : Sl kFl 81 0 w px nx cx act) :
    Ret Try.prog 58 [.agg #[.int .i64 (D.most : Int), .slice p n c, .int .i64 (D.steps : Int), .bool (decide (0 ≤ D.left)), .int .i64 lf, .bool D.done, .bool D.down], .agg #[.int .i64 (D.most : Int), .slice px nx cx, .int .i64 (D.steps : Int), .bool (decide (0 ≤ D.left)), .int .i64 lf, .bool D.done, .bool D.down]] w (fun v w' => (∃ py ny cy, v = .agg #[.int .i64 (D.most : Int), .slice py ny cy, .int .i64 (D.steps : Int), .bool (decide (0 ≤ D.left)), .int .i64 lf, .bool D.done, .bool D.down] ∧ Sl kFl 81 0 w' py ny cy (if (true && (false || D.done)) = true then act else D.l)) ∧ Ext w w') := by
  refine ⟨Calls.mono (ref_either _ _ _ _ _ _ _ _ _ _ _ _ p px n c nx cx w).out ?_⟩
  rintro e w' ⟨v, rfl, rfl, hX⟩
  cases hd : D.done with
  | true => exact ⟨_, rfl, ⟨px, nx, cx, by rw [if_pos rfl], by simpa using h2.ext hX⟩, hX⟩
  | false => exact ⟨_, rfl, ⟨p, n, c, by rw [if_neg (by simp)], by simpa using h1.ext hX⟩, hX⟩

theorem ref_stepD (D : DS) (act : List Fl) (fa al : Bool) (p px py : Option Addr) (n c nx cx ny cy : Nat) (lf : Int) (w : World) (h2 : Sl kFl 81 0 w px nx cx act) (hy : Sl kFl 81 0 w py ny cy (if (fa && (al || D.done)) = true then act else D.l)) (hlf : LfOk D lf) (hl : -1 ≤ D.left) (hst : D.steps < 4611686018427387904) (hlo : -9223372036854775807 ≤ lf) :
    Ret Try.prog 57 [.agg #[.int .i64 (D.most : Int), .slice p n c, .int .i64 (D.steps : Int), .bool (decide (0 ≤ D.left)), .int .i64 lf, .bool D.done, .bool D.down], .agg #[.int .i64 (D.most : Int), .slice px nx cx, .int .i64 (D.steps : Int), .bool (decide (0 ≤ D.left)), .int .i64 lf, .bool D.done, .bool D.down], .agg #[.int .i64 (D.most : Int), .slice py ny cy, .int .i64 (D.steps : Int), .bool (decide (0 ≤ D.left)), .int .i64 lf, .bool D.done, .bool D.down]] w (fun v w' => (∃ cs, v = .tuple #[.agg cs, .int .i64 (stepD D act fa al).2] ∧ RefV w' cs (stepD D act fa al).1) ∧ Ext w w') := by
  refine ⟨Calls.mono (ref_step (D.most : Int) (D.steps : Int) lf (D.most : Int) (D.steps : Int) lf (D.most : Int) (D.steps : Int) lf (decide (0 ≤ D.left)) D.done D.down (decide (0 ≤ D.left)) D.done D.down (decide (0 ≤ D.left)) D.done D.down p px py n c nx cx ny cy w hlo hlf.hi (by omega) (by omega)).out ?_⟩
  rintro e w' ⟨v, rfl, rfl, hX⟩
  obtain ⟨cs, h3, h4⟩ := step_refV (h2.ext hX) (hy.ext hX) hlf hl
  exact ⟨_, rfl, ⟨cs, h3, h4⟩, hX⟩

theorem ref_Create (D : DS) (p : Option Addr) (n c : Nat) (lf : Int) (w : World) (hl : Sl kFl 81 0 w p n c D.l) (hlf : LfOk D lf) (hok : DOk D) (hst : D.steps < 4611686018427387904) (k : ByteArray) (hks : k.size ≤ 9223372036854775807) :
    Ret Try.prog 34 [.agg #[.int .i64 (D.most : Int), .slice p n c, .int .i64 (D.steps : Int), .bool (decide (0 ≤ D.left)), .int .i64 lf, .bool D.done, .bool D.down], .string k] w (fun v w' => (∃ cs, v = .tuple #[.agg cs, .int .i64 (createD D k).2] ∧ RefV w' cs (createD D k).1) ∧ Ext w w') := by
  have hX := Ext.refl w
  refine enter 46 _ Try.func34 rfl rfl (Nat.le_of_ble_eq_true rfl) rfl ?_
  refine c_seq ?_
  refine r_plain ?_
  have hXs2 := hX.size
  refine o_boxA (by conv => lhs; whnf) ?_
  intro w1 g2 hN2
  have hE1 := hN2.ext
  have hX := hX.ext hE1
  have hB2 := hN2.blk
  have hXs4 := hX.size
  have hlt2 := hB2.lt
  refine o_alloc zr27 ?_
  intro w2 g4 hN4
  have hE2 := hN4.ext
  have hX := hX.ext hE2
  have hB2 := hB2.ext hE2
  have hB4 := hN4.blk
  refine p1 (x_assign (by conv => lhs; whnf)) ?_
  refine r_nil ?_
  refine t_n ?_
  refine c_seq ?_
  have hg4 := hN4.g_eq
  have hlen := hl.len
  have hcap := hl.cap
  have hple := plc_leA D.l k
  have hfew := hok.few
  have hroom := hok.room
  have hmost := hok.most
  refine r_plain ?_
  refine p1 (x_loadB ua27 rfl hB2 (by exact sz27)) ?_
  refine p1 (x_move (by conv => lhs; whnf)) ?_
  refine o_buildSlice u51 inf9 rfl (by decide) (fun base hb => fill_one (by rfl) base hb) ?_
  intro w3 g12 hN12
  have hE3 := hN12.ext
  have hX := hX.ext hE3
  have hB2 := hB2.ext hE3
  have hB4 := hB4.ext hE3
  have hS12 : Sl kStr 9 0 w3 (some ⟨g12, 0, none⟩) 1 1 [k] := (own_lit (B0 := 0) [k] hN12 (Nat.zero_le _) (by simp)).sl
  refine o_call Try.func44 fn44 fb44 (ref_first (D.most : Int) (D.steps : Int) lf (decide (0 ≤ D.left)) D.done D.down p n c D rfl [k] 0 _ _ _ _ hS12 (by intro s hs'; simp only [List.mem_singleton] at hs'; subst hs'; exact hks)) rfl ?_
  rintro v4 w4 ⟨rfl, hE4⟩
  have hX := hX.ext hE4
  have hB2 := hB2.ext hE4
  have hB4 := hB4.ext hE4
  have hS12 := hS12.ext hE4
  refine p1 (x_assign (by conv => lhs; whnf)) ?_
  refine r_nil ?_
  refine t_n ?_
  refine c_seq ?_
  refine r_plain ?_
  refine p1 (x_loadB ua27 rfl hB2 (by exact sz27)) ?_
  refine p1 (x_move (by conv => lhs; whnf)) ?_
  refine o_call Try.func45 fn45 fb45 (ref_place (D.most : Int) (D.steps : Int) lf (decide (0 ≤ D.left)) D.done D.down D.l p n c _ (hl.ext hX) k (by omega)) rfl ?_
  rintro v5 w5 ⟨rfl, hE5⟩
  have hX := hX.ext hE5
  have hB2 := hB2.ext hE5
  have hB4 := hB4.ext hE5
  refine p1 (x_move (by conv => lhs; whnf)) ?_
  refine p1 (x_extract rfl rfl) ?_
  refine p1 (x_extract rfl rfl) ?_
  refine p1 (x_assign (by conv => lhs; whnf)) ?_
  refine p1 (x_assign (by conv => lhs; whnf)) ?_
  refine r_nil ?_
  refine t_n ?_
  refine c_seq ?_
  refine c_block ?_
  refine c_seq ?_
  refine r_plain ?_
  refine p1 (x_move (by conv => lhs; whnf)) ?_
  refine p1 (x_neq rfl rfl) ?_
  refine p1 (x_assign (by conv => lhs; whnf)) ?_
  refine r_nil ?_
  refine t_n ?_
  first | refine c_dec rfl (fun hc20 => ?_) (fun hc20 => ?_) | refine c_if rfl (fun hc20 => ?_) (fun hc20 => ?_)
  · try simp only [decide_eq_true_eq, decide_eq_false_iff_not, Bool.not_eq_true, Bool.not_eq_false, Bool.not_eq_eq_eq_not, Bool.not_true, Bool.not_false, Int.not_lt, Int.not_le] at hc20
    have hp : createD D k = (D, lookD D [k]) := if_pos hc20
    refine c_seq ?_
    refine r_plain ?_
    refine p1 (x_loadB ua27 rfl hB2 (by exact sz27)) ?_
    refine p1 (x_move (by conv => lhs; whnf)) ?_
    refine o_storeAll rfl (by conv => lhs; whnf) (by simp [Value.oneCell']) (by exact sz27) hB4 (by rfl) ?_
    intro w6 hP6
    have hX := hX.put hP6 (by rw [hN4.g_eq]; exact hXs4)
    have hB2 := hP6.keep hB2 (by omega)
    have hB4 := hP6.blk
    refine p1 (x_assign (by conv => lhs; whnf)) ?_
    refine r_nil ?_
    refine t_n ?_
    refine c_ret ?_
    refine b_r ?_
    refine t_r ?_
    refine end2c rfl ua27 rfl (by conv => lhs; whnf) hB4 (by exact sz27) ?_
    first
      | exact ⟨⟨_, by rw [hp], by rw [hp]; exact ⟨p, n, c, lf, rfl, hl.ext hX, hlf⟩⟩, hX⟩
      | exact ⟨⟨_, by rw [hp], by rw [hp]; exact ⟨p9, n9, c9, lf9, rfl, hl9, hlf9⟩⟩, hX⟩
  · try simp only [decide_eq_true_eq, decide_eq_false_iff_not, Bool.not_eq_true, Bool.not_eq_false, Bool.not_eq_eq_eq_not, Bool.not_true, Bool.not_false, Int.not_lt, Int.not_le] at hc20
    refine c_seq ?_
    refine r_plain ?_
    refine p1 (x_move (by conv => lhs; whnf)) ?_
    refine p1 (x_assign (by conv => lhs; whnf)) ?_
    refine r_nil ?_
    refine t_n ?_
    first | refine c_dec rfl (fun hc25 => ?_) (fun hc25 => ?_) | refine c_if rfl (fun hc25 => ?_) (fun hc25 => ?_)
    · try simp only [decide_eq_true_eq, decide_eq_false_iff_not, Bool.not_eq_true, Bool.not_eq_false, Bool.not_eq_eq_eq_not, Bool.not_true, Bool.not_false, Int.not_lt, Int.not_le] at hc25
      have hp : createD D k = (D, 23) := by unfold createD; rw [if_neg hc20, if_pos (show ascF D.l k ≠ none from (isAt_iffA hok.rise k).1 hc25)]
      refine c_seq ?_
      refine r_plain ?_
      refine p1 (x_loadB ua27 rfl hB2 (by exact sz27)) ?_
      refine o_storeAll rfl (by conv => lhs; whnf) (by simp [Value.oneCell']) (by exact sz27) hB4 (by rfl) ?_
      intro w7 hP7
      have hX := hX.put hP7 (by rw [hN4.g_eq]; exact hXs4)
      have hB2 := hP7.keep hB2 (by omega)
      have hB4 := hP7.blk
      refine p1 (x_assign (by conv => lhs; whnf)) ?_
      refine r_nil ?_
      refine t_n ?_
      refine c_ret ?_
      refine b_r ?_
      refine t_r ?_
      refine end2c rfl ua27 rfl (by conv => lhs; whnf) hB4 (by exact sz27) ?_
      first
        | exact ⟨⟨_, by rw [hp], by rw [hp]; exact ⟨p, n, c, lf, rfl, hl.ext hX, hlf⟩⟩, hX⟩
        | exact ⟨⟨_, by rw [hp], by rw [hp]; exact ⟨p9, n9, c9, lf9, rfl, hl9, hlf9⟩⟩, hX⟩
    · try simp only [decide_eq_true_eq, decide_eq_false_iff_not, Bool.not_eq_true, Bool.not_eq_false, Bool.not_eq_eq_eq_not, Bool.not_true, Bool.not_false, Int.not_lt, Int.not_le] at hc25
      have hnf := file_not hok hc25
      refine c_seq ?_
      refine r_plain ?_
      refine p1 (x_fieldAddr fo27_1 sz25 rfl) ?_
      refine p1 (x_load1 un25 rfl (hB2.cell (rfl))) ?_
      refine p1 (x_len_slice u25 rfl) ?_
      refine p1 (x_geq rfl rfl) ?_
      refine p1 (x_assign (by conv => lhs; whnf)) ?_
      refine r_nil ?_
      refine t_n ?_
      first | refine c_dec rfl (fun hc28 => ?_) (fun hc28 => ?_) | refine c_if rfl (fun hc28 => ?_) (fun hc28 => ?_)
      · try simp only [decide_eq_true_eq, decide_eq_false_iff_not, Bool.not_eq_true, Bool.not_eq_false, Bool.not_eq_eq_eq_not, Bool.not_true, Bool.not_false, Int.not_lt, Int.not_le] at hc28
        have hp : createD D k = (D, 21) := by unfold createD; rw [if_neg hc20, if_neg (by rw [hnf]; simp), if_pos (by omega)]
        refine c_seq ?_
        refine r_plain ?_
        refine p1 (x_loadB ua27 rfl hB2 (by exact sz27)) ?_
        refine o_storeAll rfl (by conv => lhs; whnf) (by simp [Value.oneCell']) (by exact sz27) hB4 (by rfl) ?_
        intro w8 hP8
        have hX := hX.put hP8 (by rw [hN4.g_eq]; exact hXs4)
        have hB2 := hP8.keep hB2 (by omega)
        have hB4 := hP8.blk
        refine p1 (x_assign (by conv => lhs; whnf)) ?_
        refine r_nil ?_
        refine t_n ?_
        refine c_ret ?_
        refine b_r ?_
        refine t_r ?_
        refine end2c rfl ua27 rfl (by conv => lhs; whnf) hB4 (by exact sz27) ?_
        first
          | exact ⟨⟨_, by rw [hp], by rw [hp]; exact ⟨p, n, c, lf, rfl, hl.ext hX, hlf⟩⟩, hX⟩
          | exact ⟨⟨_, by rw [hp], by rw [hp]; exact ⟨p9, n9, c9, lf9, rfl, hl9, hlf9⟩⟩, hX⟩
      · try simp only [decide_eq_true_eq, decide_eq_false_iff_not, Bool.not_eq_true, Bool.not_eq_false, Bool.not_eq_eq_eq_not, Bool.not_true, Bool.not_false, Int.not_lt, Int.not_le] at hc28
        have hp : createD D k = stepD D (insA D.l k (some ([], 0))) true false := by unfold createD; rw [if_neg hc20, if_neg (by rw [hnf]; simp), if_neg (by omega)]
        refine c_skip ?_
        refine b_n ?_
        refine t_n ?_
        refine c_seq ?_
        refine r_plain ?_
        refine p1 (x_loadB ua27 rfl hB2 (by exact sz27)) ?_
        refine p1 (x_move (by conv => lhs; whnf)) ?_
        refine p1 (x_buildF1 pl81 rfl) ?_
        refine o_call Try.func56 fn56 fb56 (ref_with (D.most : Int) (D.steps : Int) lf (decide (0 ≤ D.left)) D.done D.down D.l p n c _ (hl.ext hX) (by omega) k [] []) rfl ?_
        rintro v9 w9 ⟨⟨px, nx, cx, rfl, hlx⟩, hE9⟩
        have hX := hX.ext hE9
        have hB2 := hB2.ext hE9
        have hB4 := hB4.ext hE9
        have hXs9 := hX.size
        have hltc9 := hB4.lt
        have hltb9 := hB2.lt
        refine o_alloc zr27 ?_
        intro w10 g9 hN9
        have hE10 := hN9.ext
        have hX := hX.ext hE10
        have hB2 := hB2.ext hE10
        have hB4 := hB4.ext hE10
        have hlx := hlx.ext hE10
        have hB9 := hN9.blk
        have hg9 := hN9.g_eq
        refine o_storeAll rfl (by conv => lhs; whnf) (by simp [Value.oneCell']) (by exact sz27) hB9 (by rfl) ?_
        intro w11 hP11
        have hX := hX.put hP11 (by rw [hN9.g_eq]; exact hXs9)
        have hB2 := hP11.keep hB2 (by omega)
        have hB4 := hP11.keep hB4 (by omega)
        have hlx := hlx.mod (hP11.mod 0 (Nat.zero_le _)) (Nat.zero_le _) (by decide)
        have hB9 := hP11.blk
        refine r_nil ?_
        refine t_n ?_
        refine c_seq ?_
        refine r_held (fun w1 w2 => ModS (fun j => j = g4) [27] w1 w2) mixed ?_
        intro w12 hE12
        have hX := hX.ext hE12
        have hB2 := hB2.ext hE12
        have hB4 := hB4.ext hE12
        have hlx := hlx.ext hE12
        have hB9 := hB9.ext hE12
        have hSr10 : (fun w1 w2 => ModS (fun j => j = g4) [27] w1 w2) w12 w12 := ModS.refl _ _ _
        refine h_take 0 rfl (by kernel_rfl) (by kernel_rfl) (by kernel_rfl) hSr10 (fun wS hSS => by (have hB2 := hB2.modS hSS (.inl (by omega)); have hB9 := hB9.modS hSS (.inl (by omega)); exact (x_loadB ua27 rfl hB2 (by exact sz27)))) ?_
        refine h_take 1 rfl (by kernel_rfl) (by kernel_rfl) (by kernel_rfl) hSr10 (fun wS hSS => by (have hB2 := hB2.modS hSS (.inl (by omega)); have hB9 := hB9.modS hSS (.inl (by omega)); exact (x_loadB ua27 rfl hB9 (by exact sz27)))) ?_
        refine h_take 2 rfl (by kernel_rfl) (by kernel_rfl) (by kernel_rfl) hSr10 (fun wS hSS => by (have hB2 := hB2.modS hSS (.inl (by omega)); have hB9 := hB9.modS hSS (.inl (by omega)); exact (x_loadB ua27 rfl hB2 (by exact sz27)))) ?_
        refine h_take 3 rfl (by kernel_rfl) (by kernel_rfl) (by kernel_rfl) hSr10 (fun wS hSS => by (have hB2 := hB2.modS hSS (.inl (by omega)); have hB9 := hB9.modS hSS (.inl (by omega)); exact (x_loadB ua27 rfl hB9 (by exact sz27)))) ?_
        refine h_one 4 _ rfl (by kernel_rfl) (hop_of_list (fun Q4 hQ4 => ?_))
        refine o_call Try.func58 fn58 fb58 (ref_either2 D (insA D.l k (some ([], 0))) p px n c nx cx lf _ (hl.ext hX) hlx) rfl ?_
        rintro v13 w13 ⟨⟨py, ny, cy, rfl, hly⟩, hE13⟩
        have hX := hX.ext hE13
        have hB2 := hB2.ext hE13
        have hB4 := hB4.ext hE13
        have hlx := hlx.ext hE13
        have hB9 := hB9.ext hE13
        have hSr10 := hSr10.ext hE13
        refine hop_end hQ4 ⟨hSr10, ?_⟩
        refine h_one 5 _ rfl (by kernel_rfl) (hop_of_list (fun Q5 hQ5 => ?_))
        refine o_call Try.func57 fn57 fb57 (ref_stepD D (insA D.l k (some ([], 0))) true false p px py n c nx cx ny cy lf _ hlx (hly) hlf hok.left hst (by have := hlf.lo; omega)) rfl ?_
        rintro v14 w14 ⟨⟨cs, rfl, p9, n9, c9, lf9, rfl, hl9, hlf9⟩, hE14⟩
        have hX := hX.ext hE14
        have hB2 := hB2.ext hE14
        have hB4 := hB4.ext hE14
        have hlx := hlx.ext hE14
        have hB9 := hB9.ext hE14
        have hSr10 := hSr10.ext hE14
        have hly := hly.ext hE14
        refine hop_end hQ5 ⟨hSr10, ?_⟩
        refine h_take 6 rfl (by kernel_rfl) (by kernel_rfl) (by kernel_rfl) hSr10 (fun wS hSS => by ( exact (x_extract rfl rfl))) ?_
        refine h_take 7 rfl (by kernel_rfl) (by kernel_rfl) (by kernel_rfl) hSr10 (fun wS hSS => by ( exact (x_extract rfl rfl))) ?_
        refine h_one 8 _ rfl (by kernel_rfl) (hop_of_list (fun Q8 hQ8 => ?_))
        refine o_storeAll rfl (by conv => lhs; whnf) (by simp [Value.oneCell']) (by exact sz27) hB4 (by rfl) ?_
        intro w15 hP15
        have hX := hX.put hP15 (by rw [hN4.g_eq]; exact hXs4)
        have hB2 := hP15.keep hB2 (by omega)
        have hB4 := hP15.blk
        have hlx := hlx.mod (hP15.mod 0 (Nat.zero_le _)) (Nat.zero_le _) (by decide)
        have hB9 := hP15.keep hB9 (by omega)
        have hSr10 := hSr10.put hP15 ⟨.inl rfl, by decide⟩
        have hly := hly.mod (hP15.mod 0 (Nat.zero_le _)) (Nat.zero_le _) (by decide)
        have hl9 := hl9.mod (hP15.mod 0 (Nat.zero_le _)) (Nat.zero_le _) (by decide)
        refine hop_end hQ8 ⟨hSr10, ?_⟩
        refine h_take 9 rfl (by kernel_rfl) (by kernel_rfl) (by kernel_rfl) hSr10 (fun wS hSS => by ( exact (x_assign (by conv => lhs; whnf)))) ?_
        refine h_done (by kernel_rfl) ?_
        refine t_n ?_
        refine c_ret ?_
        refine end2c rfl ua27 rfl (by conv => lhs; whnf) hB4 (by exact sz27) ?_
        first
          | exact ⟨⟨_, by rw [hp], by rw [hp]; exact ⟨p, n, c, lf, rfl, hl.ext hX, hlf⟩⟩, hX⟩
          | exact ⟨⟨_, by rw [hp], by rw [hp]; exact ⟨p9, n9, c9, lf9, rfl, hl9, hlf9⟩⟩, hX⟩
theorem ref_Remove (D : DS) (p : Option Addr) (n c : Nat) (lf : Int) (w : World) (hl : Sl kFl 81 0 w p n c D.l) (hlf : LfOk D lf) (hok : DOk D) (hst : D.steps < 4611686018427387904) (k : ByteArray) (hks : k.size ≤ 9223372036854775807) :
    Ret Try.prog 38 [.agg #[.int .i64 (D.most : Int), .slice p n c, .int .i64 (D.steps : Int), .bool (decide (0 ≤ D.left)), .int .i64 lf, .bool D.done, .bool D.down], .string k] w (fun v w' => (∃ cs, v = .tuple #[.agg cs, .int .i64 (removeD D k).2] ∧ RefV w' cs (removeD D k).1) ∧ Ext w w') := by
  have hX := Ext.refl w
  refine enter 40 _ Try.func38 rfl rfl (Nat.le_of_ble_eq_true rfl) rfl ?_
  refine c_seq ?_
  refine r_plain ?_
  have hXs2 := hX.size
  refine o_boxA (by conv => lhs; whnf) ?_
  intro w1 g2 hN2
  have hE1 := hN2.ext
  have hX := hX.ext hE1
  have hB2 := hN2.blk
  have hXs4 := hX.size
  have hlt2 := hB2.lt
  refine o_alloc zr27 ?_
  intro w2 g4 hN4
  have hE2 := hN4.ext
  have hX := hX.ext hE2
  have hB2 := hB2.ext hE2
  have hB4 := hN4.blk
  refine p1 (x_assign (by conv => lhs; whnf)) ?_
  refine r_nil ?_
  refine t_n ?_
  refine c_seq ?_
  have hg4 := hN4.g_eq
  have hlen := hl.len
  have hcap := hl.cap
  have hple := plc_leA D.l k
  have hfew := hok.few
  have hroom := hok.room
  have hmost := hok.most
  refine r_plain ?_
  refine p1 (x_loadB ua27 rfl hB2 (by exact sz27)) ?_
  refine p1 (x_move (by conv => lhs; whnf)) ?_
  refine o_buildSlice u51 inf9 rfl (by decide) (fun base hb => fill_one (by rfl) base hb) ?_
  intro w3 g12 hN12
  have hE3 := hN12.ext
  have hX := hX.ext hE3
  have hB2 := hB2.ext hE3
  have hB4 := hB4.ext hE3
  have hS12 : Sl kStr 9 0 w3 (some ⟨g12, 0, none⟩) 1 1 [k] := (own_lit (B0 := 0) [k] hN12 (Nat.zero_le _) (by simp)).sl
  refine o_call Try.func44 fn44 fb44 (ref_first (D.most : Int) (D.steps : Int) lf (decide (0 ≤ D.left)) D.done D.down p n c D rfl [k] 0 _ _ _ _ hS12 (by intro s hs'; simp only [List.mem_singleton] at hs'; subst hs'; exact hks)) rfl ?_
  rintro v4 w4 ⟨rfl, hE4⟩
  have hX := hX.ext hE4
  have hB2 := hB2.ext hE4
  have hB4 := hB4.ext hE4
  have hS12 := hS12.ext hE4
  refine p1 (x_assign (by conv => lhs; whnf)) ?_
  refine r_nil ?_
  refine t_n ?_
  refine c_seq ?_
  refine r_plain ?_
  refine p1 (x_loadB ua27 rfl hB2 (by exact sz27)) ?_
  refine p1 (x_move (by conv => lhs; whnf)) ?_
  refine o_call Try.func45 fn45 fb45 (ref_place (D.most : Int) (D.steps : Int) lf (decide (0 ≤ D.left)) D.done D.down D.l p n c _ (hl.ext hX) k (by omega)) rfl ?_
  rintro v5 w5 ⟨rfl, hE5⟩
  have hX := hX.ext hE5
  have hB2 := hB2.ext hE5
  have hB4 := hB4.ext hE5
  refine p1 (x_move (by conv => lhs; whnf)) ?_
  refine p1 (x_extract rfl rfl) ?_
  refine p1 (x_extract rfl rfl) ?_
  refine p1 (x_assign (by conv => lhs; whnf)) ?_
  refine p1 (x_assign (by conv => lhs; whnf)) ?_
  refine r_nil ?_
  refine t_n ?_
  refine c_seq ?_
  refine c_block ?_
  refine c_seq ?_
  refine r_plain ?_
  refine p1 (x_move (by conv => lhs; whnf)) ?_
  refine p1 (x_neq rfl rfl) ?_
  refine p1 (x_assign (by conv => lhs; whnf)) ?_
  refine r_nil ?_
  refine t_n ?_
  first | refine c_dec rfl (fun hc20 => ?_) (fun hc20 => ?_) | refine c_if rfl (fun hc20 => ?_) (fun hc20 => ?_)
  · try simp only [decide_eq_true_eq, decide_eq_false_iff_not, Bool.not_eq_true, Bool.not_eq_false, Bool.not_eq_eq_eq_not, Bool.not_true, Bool.not_false, Int.not_lt, Int.not_le] at hc20
    have hp : removeD D k = (D, lookD D [k]) := if_pos hc20
    refine c_seq ?_
    refine r_plain ?_
    refine p1 (x_loadB ua27 rfl hB2 (by exact sz27)) ?_
    refine p1 (x_move (by conv => lhs; whnf)) ?_
    refine o_storeAll rfl (by conv => lhs; whnf) (by simp [Value.oneCell']) (by exact sz27) hB4 (by rfl) ?_
    intro w6 hP6
    have hX := hX.put hP6 (by rw [hN4.g_eq]; exact hXs4)
    have hB2 := hP6.keep hB2 (by omega)
    have hB4 := hP6.blk
    refine p1 (x_assign (by conv => lhs; whnf)) ?_
    refine r_nil ?_
    refine t_n ?_
    refine c_ret ?_
    refine b_r ?_
    refine t_r ?_
    refine end2c rfl ua27 rfl (by conv => lhs; whnf) hB4 (by exact sz27) ?_
    first
      | exact ⟨⟨_, by rw [hp], by rw [hp]; exact ⟨p, n, c, lf, rfl, hl.ext hX, hlf⟩⟩, hX⟩
      | exact ⟨⟨_, by rw [hp], by rw [hp]; exact ⟨p9, n9, c9, lf9, rfl, hl9, hlf9⟩⟩, hX⟩
  · try simp only [decide_eq_true_eq, decide_eq_false_iff_not, Bool.not_eq_true, Bool.not_eq_false, Bool.not_eq_eq_eq_not, Bool.not_true, Bool.not_false, Int.not_lt, Int.not_le] at hc20
    refine c_seq ?_
    refine r_plain ?_
    refine p1 (x_move (by conv => lhs; whnf)) ?_
    first | refine p1 (x_notd rfl) ?_ | refine p1 (x_not rfl) ?_
    refine p1 (x_assign (by conv => lhs; whnf)) ?_
    refine r_nil ?_
    refine t_n ?_
    first | refine c_dec rfl (fun hc25 => ?_) (fun hc25 => ?_) | refine c_if rfl (fun hc25 => ?_) (fun hc25 => ?_)
    · try simp only [decide_eq_true_eq, decide_eq_false_iff_not, Bool.not_eq_true, Bool.not_eq_false, Bool.not_eq_eq_eq_not, Bool.not_true, Bool.not_false, Int.not_lt, Int.not_le] at hc25
      have hnat : ¬ isAtA D.l (plcA D.l k) k := by simpa using hc25
      have hnf := file_not hok hnat
      have hp : removeD D k = (D, 22) := by unfold removeD; rw [if_neg hc20, if_pos hnf]
      refine c_seq ?_
      refine r_plain ?_
      refine p1 (x_loadB ua27 rfl hB2 (by exact sz27)) ?_
      refine o_storeAll rfl (by conv => lhs; whnf) (by simp [Value.oneCell']) (by exact sz27) hB4 (by rfl) ?_
      intro w7 hP7
      have hX := hX.put hP7 (by rw [hN4.g_eq]; exact hXs4)
      have hB2 := hP7.keep hB2 (by omega)
      have hB4 := hP7.blk
      refine p1 (x_assign (by conv => lhs; whnf)) ?_
      refine r_nil ?_
      refine t_n ?_
      refine c_ret ?_
      refine b_r ?_
      refine t_r ?_
      refine end2c rfl ua27 rfl (by conv => lhs; whnf) hB4 (by exact sz27) ?_
      first
        | exact ⟨⟨_, by rw [hp], by rw [hp]; exact ⟨p, n, c, lf, rfl, hl.ext hX, hlf⟩⟩, hX⟩
        | exact ⟨⟨_, by rw [hp], by rw [hp]; exact ⟨p9, n9, c9, lf9, rfl, hl9, hlf9⟩⟩, hX⟩
    · try simp only [decide_eq_true_eq, decide_eq_false_iff_not, Bool.not_eq_true, Bool.not_eq_false, Bool.not_eq_eq_eq_not, Bool.not_true, Bool.not_false, Int.not_lt, Int.not_le] at hc25
      have hat : isAtA D.l (plcA D.l k) k := by simpa using hc25
      obtain ⟨f, hf, hfa, hfu, hfs, hgf⟩ := file_at hok hat
      have hfr : ∀ wz, Ext w wz → wz.rangeAt (ab p) (ao p + plcA D.l k * 3) [.string k, .string (toStr (f.1.take f.2)), .string (toStr (f.1.drop f.2))] := fun wz hz => by have := (hl.ext hz).flRange (plcA D.l k) (by have := (hat).1; omega); rw [hfa] at this; exact this
      have hplt : plcA D.l k < n := by have := (hat).1; omega
      have hne : ¬ ascF D.l k = none := by rw [hf]; simp
      have hp : removeD D k = stepD D (insA D.l k none) true false := by unfold removeD; rw [if_neg hc20, if_neg hne]
      refine c_skip ?_
      refine b_n ?_
      refine t_n ?_
      refine c_seq ?_
      refine r_plain ?_
      refine p1 (x_loadB ua27 rfl hB2 (by exact sz27)) ?_
      refine p1 (x_move (by conv => lhs; whnf)) ?_
      refine o_call Try.func59 fn59 fb59 (ref_without (D.most : Int) (D.steps : Int) lf (decide (0 ≤ D.left)) D.done D.down D.l p n c _ (hl.ext hX) (by omega) hok.rise k) rfl ?_
      rintro v8 w8 ⟨⟨px, nx, cx, rfl, hlx⟩, hE8⟩
      have hX := hX.ext hE8
      have hB2 := hB2.ext hE8
      have hB4 := hB4.ext hE8
      have hXs9 := hX.size
      have hltc9 := hB4.lt
      have hltb9 := hB2.lt
      refine o_alloc zr27 ?_
      intro w9 g9 hN9
      have hE9 := hN9.ext
      have hX := hX.ext hE9
      have hB2 := hB2.ext hE9
      have hB4 := hB4.ext hE9
      have hlx := hlx.ext hE9
      have hB9 := hN9.blk
      have hg9 := hN9.g_eq
      refine o_storeAll rfl (by conv => lhs; whnf) (by simp [Value.oneCell']) (by exact sz27) hB9 (by rfl) ?_
      intro w10 hP10
      have hX := hX.put hP10 (by rw [hN9.g_eq]; exact hXs9)
      have hB2 := hP10.keep hB2 (by omega)
      have hB4 := hP10.keep hB4 (by omega)
      have hlx := hlx.mod (hP10.mod 0 (Nat.zero_le _)) (Nat.zero_le _) (by decide)
      have hB9 := hP10.blk
      refine r_nil ?_
      refine t_n ?_
      refine c_seq ?_
      refine r_held (fun w1 w2 => ModS (fun j => j = g4) [27] w1 w2) mixed ?_
      intro w11 hE11
      have hX := hX.ext hE11
      have hB2 := hB2.ext hE11
      have hB4 := hB4.ext hE11
      have hlx := hlx.ext hE11
      have hB9 := hB9.ext hE11
      have hSr8 : (fun w1 w2 => ModS (fun j => j = g4) [27] w1 w2) w11 w11 := ModS.refl _ _ _
      refine h_take 0 rfl (by kernel_rfl) (by kernel_rfl) (by kernel_rfl) hSr8 (fun wS hSS => by (have hB2 := hB2.modS hSS (.inl (by omega)); have hB9 := hB9.modS hSS (.inl (by omega)); exact (x_loadB ua27 rfl hB2 (by exact sz27)))) ?_
      refine h_take 1 rfl (by kernel_rfl) (by kernel_rfl) (by kernel_rfl) hSr8 (fun wS hSS => by (have hB2 := hB2.modS hSS (.inl (by omega)); have hB9 := hB9.modS hSS (.inl (by omega)); exact (x_loadB ua27 rfl hB9 (by exact sz27)))) ?_
      refine h_take 2 rfl (by kernel_rfl) (by kernel_rfl) (by kernel_rfl) hSr8 (fun wS hSS => by (have hB2 := hB2.modS hSS (.inl (by omega)); have hB9 := hB9.modS hSS (.inl (by omega)); exact (x_loadB ua27 rfl hB2 (by exact sz27)))) ?_
      refine h_take 3 rfl (by kernel_rfl) (by kernel_rfl) (by kernel_rfl) hSr8 (fun wS hSS => by (have hB2 := hB2.modS hSS (.inl (by omega)); have hB9 := hB9.modS hSS (.inl (by omega)); exact (x_loadB ua27 rfl hB9 (by exact sz27)))) ?_
      refine h_one 4 _ rfl (by kernel_rfl) (hop_of_list (fun Q4 hQ4 => ?_))
      refine o_call Try.func58 fn58 fb58 (ref_either2 D (insA D.l k none) p px n c nx cx lf _ (hl.ext hX) hlx) rfl ?_
      rintro v12 w12 ⟨⟨py, ny, cy, rfl, hly⟩, hE12⟩
      have hX := hX.ext hE12
      have hB2 := hB2.ext hE12
      have hB4 := hB4.ext hE12
      have hlx := hlx.ext hE12
      have hB9 := hB9.ext hE12
      have hSr8 := hSr8.ext hE12
      refine hop_end hQ4 ⟨hSr8, ?_⟩
      refine h_one 5 _ rfl (by kernel_rfl) (hop_of_list (fun Q5 hQ5 => ?_))
      refine o_call Try.func57 fn57 fb57 (ref_stepD D (insA D.l k none) true false p px py n c nx cx ny cy lf _ hlx (hly) hlf hok.left hst (by have := hlf.lo; omega)) rfl ?_
      rintro v13 w13 ⟨⟨cs, rfl, p9, n9, c9, lf9, rfl, hl9, hlf9⟩, hE13⟩
      have hX := hX.ext hE13
      have hB2 := hB2.ext hE13
      have hB4 := hB4.ext hE13
      have hlx := hlx.ext hE13
      have hB9 := hB9.ext hE13
      have hSr8 := hSr8.ext hE13
      have hly := hly.ext hE13
      refine hop_end hQ5 ⟨hSr8, ?_⟩
      refine h_take 6 rfl (by kernel_rfl) (by kernel_rfl) (by kernel_rfl) hSr8 (fun wS hSS => by ( exact (x_extract rfl rfl))) ?_
      refine h_take 7 rfl (by kernel_rfl) (by kernel_rfl) (by kernel_rfl) hSr8 (fun wS hSS => by ( exact (x_extract rfl rfl))) ?_
      refine h_one 8 _ rfl (by kernel_rfl) (hop_of_list (fun Q8 hQ8 => ?_))
      refine o_storeAll rfl (by conv => lhs; whnf) (by simp [Value.oneCell']) (by exact sz27) hB4 (by rfl) ?_
      intro w14 hP14
      have hX := hX.put hP14 (by rw [hN4.g_eq]; exact hXs4)
      have hB2 := hP14.keep hB2 (by omega)
      have hB4 := hP14.blk
      have hlx := hlx.mod (hP14.mod 0 (Nat.zero_le _)) (Nat.zero_le _) (by decide)
      have hB9 := hP14.keep hB9 (by omega)
      have hSr8 := hSr8.put hP14 ⟨.inl rfl, by decide⟩
      have hly := hly.mod (hP14.mod 0 (Nat.zero_le _)) (Nat.zero_le _) (by decide)
      have hl9 := hl9.mod (hP14.mod 0 (Nat.zero_le _)) (Nat.zero_le _) (by decide)
      refine hop_end hQ8 ⟨hSr8, ?_⟩
      refine h_take 9 rfl (by kernel_rfl) (by kernel_rfl) (by kernel_rfl) hSr8 (fun wS hSS => by ( exact (x_assign (by conv => lhs; whnf)))) ?_
      refine h_done (by kernel_rfl) ?_
      refine t_n ?_
      refine c_ret ?_
      refine end2c rfl ua27 rfl (by conv => lhs; whnf) hB4 (by exact sz27) ?_
      first
        | exact ⟨⟨_, by rw [hp], by rw [hp]; exact ⟨p, n, c, lf, rfl, hl.ext hX, hlf⟩⟩, hX⟩
        | exact ⟨⟨_, by rw [hp], by rw [hp]; exact ⟨p9, n9, c9, lf9, rfl, hl9, hlf9⟩⟩, hX⟩
theorem ref_Sync (D : DS) (p : Option Addr) (n c : Nat) (lf : Int) (w : World) (hl : Sl kFl 81 0 w p n c D.l) (hlf : LfOk D lf) (hok : DOk D) (hst : D.steps < 4611686018427387904) (k : ByteArray) (hks : k.size ≤ 9223372036854775807) :
    Ret Try.prog 36 [.agg #[.int .i64 (D.most : Int), .slice p n c, .int .i64 (D.steps : Int), .bool (decide (0 ≤ D.left)), .int .i64 lf, .bool D.done, .bool D.down], .string k] w (fun v w' => (∃ cs, v = .tuple #[.agg cs, .int .i64 (syncD D k).2] ∧ RefV w' cs (syncD D k).1) ∧ Ext w w') := by
  have hX := Ext.refl w
  refine enter 49 _ Try.func36 rfl rfl (Nat.le_of_ble_eq_true rfl) rfl ?_
  refine c_seq ?_
  refine r_plain ?_
  have hXs2 := hX.size
  refine o_boxA (by conv => lhs; whnf) ?_
  intro w1 g2 hN2
  have hE1 := hN2.ext
  have hX := hX.ext hE1
  have hB2 := hN2.blk
  have hXs4 := hX.size
  have hlt2 := hB2.lt
  refine o_alloc zr27 ?_
  intro w2 g4 hN4
  have hE2 := hN4.ext
  have hX := hX.ext hE2
  have hB2 := hB2.ext hE2
  have hB4 := hN4.blk
  refine p1 (x_assign (by conv => lhs; whnf)) ?_
  refine r_nil ?_
  refine t_n ?_
  refine c_seq ?_
  have hg4 := hN4.g_eq
  have hlen := hl.len
  have hcap := hl.cap
  have hple := plc_leA D.l k
  have hfew := hok.few
  have hroom := hok.room
  have hmost := hok.most
  refine r_plain ?_
  refine p1 (x_loadB ua27 rfl hB2 (by exact sz27)) ?_
  refine p1 (x_move (by conv => lhs; whnf)) ?_
  refine o_buildSlice u51 inf9 rfl (by decide) (fun base hb => fill_one (by rfl) base hb) ?_
  intro w3 g12 hN12
  have hE3 := hN12.ext
  have hX := hX.ext hE3
  have hB2 := hB2.ext hE3
  have hB4 := hB4.ext hE3
  have hS12 : Sl kStr 9 0 w3 (some ⟨g12, 0, none⟩) 1 1 [k] := (own_lit (B0 := 0) [k] hN12 (Nat.zero_le _) (by simp)).sl
  refine o_call Try.func44 fn44 fb44 (ref_first (D.most : Int) (D.steps : Int) lf (decide (0 ≤ D.left)) D.done D.down p n c D rfl [k] 0 _ _ _ _ hS12 (by intro s hs'; simp only [List.mem_singleton] at hs'; subst hs'; exact hks)) rfl ?_
  rintro v4 w4 ⟨rfl, hE4⟩
  have hX := hX.ext hE4
  have hB2 := hB2.ext hE4
  have hB4 := hB4.ext hE4
  have hS12 := hS12.ext hE4
  refine p1 (x_assign (by conv => lhs; whnf)) ?_
  refine r_nil ?_
  refine t_n ?_
  refine c_seq ?_
  refine r_plain ?_
  refine p1 (x_loadB ua27 rfl hB2 (by exact sz27)) ?_
  refine p1 (x_move (by conv => lhs; whnf)) ?_
  refine o_call Try.func45 fn45 fb45 (ref_place (D.most : Int) (D.steps : Int) lf (decide (0 ≤ D.left)) D.done D.down D.l p n c _ (hl.ext hX) k (by omega)) rfl ?_
  rintro v5 w5 ⟨rfl, hE5⟩
  have hX := hX.ext hE5
  have hB2 := hB2.ext hE5
  have hB4 := hB4.ext hE5
  refine p1 (x_move (by conv => lhs; whnf)) ?_
  refine p1 (x_extract rfl rfl) ?_
  refine p1 (x_extract rfl rfl) ?_
  refine p1 (x_assign (by conv => lhs; whnf)) ?_
  refine p1 (x_assign (by conv => lhs; whnf)) ?_
  refine r_nil ?_
  refine t_n ?_
  refine c_seq ?_
  refine c_block ?_
  refine c_seq ?_
  refine r_plain ?_
  refine p1 (x_move (by conv => lhs; whnf)) ?_
  refine p1 (x_neq rfl rfl) ?_
  refine p1 (x_assign (by conv => lhs; whnf)) ?_
  refine r_nil ?_
  refine t_n ?_
  first | refine c_dec rfl (fun hc20 => ?_) (fun hc20 => ?_) | refine c_if rfl (fun hc20 => ?_) (fun hc20 => ?_)
  · try simp only [decide_eq_true_eq, decide_eq_false_iff_not, Bool.not_eq_true, Bool.not_eq_false, Bool.not_eq_eq_eq_not, Bool.not_true, Bool.not_false, Int.not_lt, Int.not_le] at hc20
    have hp : syncD D k = (D, lookD D [k]) := if_pos hc20
    refine c_seq ?_
    refine r_plain ?_
    refine p1 (x_loadB ua27 rfl hB2 (by exact sz27)) ?_
    refine p1 (x_move (by conv => lhs; whnf)) ?_
    refine o_storeAll rfl (by conv => lhs; whnf) (by simp [Value.oneCell']) (by exact sz27) hB4 (by rfl) ?_
    intro w6 hP6
    have hX := hX.put hP6 (by rw [hN4.g_eq]; exact hXs4)
    have hB2 := hP6.keep hB2 (by omega)
    have hB4 := hP6.blk
    refine p1 (x_assign (by conv => lhs; whnf)) ?_
    refine r_nil ?_
    refine t_n ?_
    refine c_ret ?_
    refine b_r ?_
    refine t_r ?_
    refine end2c rfl ua27 rfl (by conv => lhs; whnf) hB4 (by exact sz27) ?_
    first
      | exact ⟨⟨_, by rw [hp], by rw [hp]; exact ⟨p, n, c, lf, rfl, hl.ext hX, hlf⟩⟩, hX⟩
      | exact ⟨⟨_, by rw [hp], by rw [hp]; exact ⟨p9, n9, c9, lf9, rfl, hl9, hlf9⟩⟩, hX⟩
  · try simp only [decide_eq_true_eq, decide_eq_false_iff_not, Bool.not_eq_true, Bool.not_eq_false, Bool.not_eq_eq_eq_not, Bool.not_true, Bool.not_false, Int.not_lt, Int.not_le] at hc20
    refine c_seq ?_
    refine r_plain ?_
    refine p1 (x_move (by conv => lhs; whnf)) ?_
    first | refine p1 (x_notd rfl) ?_ | refine p1 (x_not rfl) ?_
    refine p1 (x_assign (by conv => lhs; whnf)) ?_
    refine r_nil ?_
    refine t_n ?_
    first | refine c_dec rfl (fun hc25 => ?_) (fun hc25 => ?_) | refine c_if rfl (fun hc25 => ?_) (fun hc25 => ?_)
    · try simp only [decide_eq_true_eq, decide_eq_false_iff_not, Bool.not_eq_true, Bool.not_eq_false, Bool.not_eq_eq_eq_not, Bool.not_true, Bool.not_false, Int.not_lt, Int.not_le] at hc25
      have hnat : ¬ isAtA D.l (plcA D.l k) k := by simpa using hc25
      have hnf := file_not hok hnat
      have hp : syncD D k = (D, 22) := by unfold syncD; rw [if_neg hc20, if_pos hnf]
      refine c_seq ?_
      refine r_plain ?_
      refine p1 (x_loadB ua27 rfl hB2 (by exact sz27)) ?_
      refine o_storeAll rfl (by conv => lhs; whnf) (by simp [Value.oneCell']) (by exact sz27) hB4 (by rfl) ?_
      intro w7 hP7
      have hX := hX.put hP7 (by rw [hN4.g_eq]; exact hXs4)
      have hB2 := hP7.keep hB2 (by omega)
      have hB4 := hP7.blk
      refine p1 (x_assign (by conv => lhs; whnf)) ?_
      refine r_nil ?_
      refine t_n ?_
      refine c_ret ?_
      refine b_r ?_
      refine t_r ?_
      refine end2c rfl ua27 rfl (by conv => lhs; whnf) hB4 (by exact sz27) ?_
      first
        | exact ⟨⟨_, by rw [hp], by rw [hp]; exact ⟨p, n, c, lf, rfl, hl.ext hX, hlf⟩⟩, hX⟩
        | exact ⟨⟨_, by rw [hp], by rw [hp]; exact ⟨p9, n9, c9, lf9, rfl, hl9, hlf9⟩⟩, hX⟩
    · try simp only [decide_eq_true_eq, decide_eq_false_iff_not, Bool.not_eq_true, Bool.not_eq_false, Bool.not_eq_eq_eq_not, Bool.not_true, Bool.not_false, Int.not_lt, Int.not_le] at hc25
      have hat : isAtA D.l (plcA D.l k) k := by simpa using hc25
      obtain ⟨f, hf, hfa, hfu, hfs, hgf⟩ := file_at hok hat
      have hfr : ∀ wz, Ext w wz → wz.rangeAt (ab p) (ao p + plcA D.l k * 3) [.string k, .string (toStr (f.1.take f.2)), .string (toStr (f.1.drop f.2))] := fun wz hz => by have := (hl.ext hz).flRange (plcA D.l k) (by have := (hat).1; omega); rw [hfa] at this; exact this
      have hplt : plcA D.l k < n := by have := (hat).1; omega
      have hne : ¬ ascF D.l k = none := by rw [hf]; simp
      have hp : syncD D k = stepD D (insA D.l k (some (f.1 ++ [], f.1.length))) false false := by unfold syncD; rw [if_neg hc20, if_neg hne, hgf, List.append_nil]
      refine c_skip ?_
      refine b_n ?_
      refine t_n ?_
      refine c_seq ?_
      refine r_plain ?_
      refine p1 (x_fieldAddr fo27_1 sz25 rfl) ?_
      refine p1 (x_load1 un25 rfl (hB2.cell (rfl))) ?_
      refine p1 (x_move (by conv => lhs; whnf)) ?_
      refine p1 (x_ixs u25 sz81 rfl rfl ((hl.ext hX).adr kFl_pos (by omega)) (by omega) (by omega)) ?_
      refine p1 (x_loadN ua81 rfl (by exact sz81) (hfr _ hX)) ?_
      have hXs9 := hX.size
      have hltc9 := hB4.lt
      have hltb9 := hB2.lt
      refine o_alloc zr81 ?_
      intro w8 g9 hN9
      have hE8 := hN9.ext
      have hX := hX.ext hE8
      have hB2 := hB2.ext hE8
      have hB4 := hB4.ext hE8
      have hB9 := hN9.blk
      have hg9 := hN9.g_eq
      refine o_storeAll rfl (by conv => lhs; whnf) (by simp [Value.oneCell']) (by exact sz81) hB9 (by rfl) ?_
      intro w9 hP9
      have hX := hX.put hP9 (by rw [hN9.g_eq]; exact hXs9)
      have hB2 := hP9.keep hB2 (by omega)
      have hB4 := hP9.keep hB4 (by omega)
      have hB9 := hP9.blk
      refine r_nil ?_
      refine t_n ?_
      refine c_seq ?_
      refine r_held (fun w1 w2 => ModS (fun j => j = g4) [27] w1 w2) mixed ?_
      intro w10 hE10
      have hX := hX.ext hE10
      have hB2 := hB2.ext hE10
      have hB4 := hB4.ext hE10
      have hB9 := hB9.ext hE10
      have hSr8 : (fun w1 w2 => ModS (fun j => j = g4) [27] w1 w2) w10 w10 := ModS.refl _ _ _
      refine h_take 0 rfl (by kernel_rfl) (by kernel_rfl) (by kernel_rfl) hSr8 (fun wS hSS => by (have hB2 := hB2.modS hSS (.inl (by omega)); have hB9 := hB9.modS hSS (.inl (by omega)); exact (x_loadB ua27 rfl hB2 (by exact sz27)))) ?_
      refine h_take 1 rfl (by kernel_rfl) (by kernel_rfl) (by kernel_rfl) hSr8 (fun wS hSS => by (have hB2 := hB2.modS hSS (.inl (by omega)); have hB9 := hB9.modS hSS (.inl (by omega)); exact (x_loadB ua27 rfl hB2 (by exact sz27)))) ?_
      refine h_take 2 rfl (by kernel_rfl) (by kernel_rfl) (by kernel_rfl) hSr8 (fun wS hSS => by ( exact (x_fieldAddr fo81_0 sz9 rfl))) ?_
      refine h_take 3 rfl (by kernel_rfl) (by kernel_rfl) (by kernel_rfl) hSr8 (fun wS hSS => by (have hB2 := hB2.modS hSS (.inl (by omega)); have hB9 := hB9.modS hSS (.inl (by omega)); exact (x_load1 un9 rfl (hB9.cell (rfl))))) ?_
      refine h_take 4 rfl (by kernel_rfl) (by kernel_rfl) (by kernel_rfl) hSr8 (fun wS hSS => by ( exact (x_fieldAddr fo81_1 sz9 rfl))) ?_
      refine h_take 5 rfl (by kernel_rfl) (by kernel_rfl) (by kernel_rfl) hSr8 (fun wS hSS => by (have hB2 := hB2.modS hSS (.inl (by omega)); have hB9 := hB9.modS hSS (.inl (by omega)); exact (x_load1 un9 rfl (hB9.cell (rfl))))) ?_
      refine h_take 6 rfl (by kernel_rfl) (by kernel_rfl) (by kernel_rfl) hSr8 (fun wS hSS => by ( exact (x_fieldAddr fo81_2 sz9 rfl))) ?_
      refine h_take 7 rfl (by kernel_rfl) (by kernel_rfl) (by kernel_rfl) hSr8 (fun wS hSS => by (have hB2 := hB2.modS hSS (.inl (by omega)); have hB9 := hB9.modS hSS (.inl (by omega)); exact (x_load1 un9 rfl (hB9.cell (rfl))))) ?_
      refine h_take 8 rfl (by kernel_rfl) (by kernel_rfl) (by kernel_rfl) hSr8 (fun wS hSS => by ( exact ((x_add_str rfl rfl (by rw [toStr_size, toStr_size, List.length_take, List.length_drop]; omega)).cast (by rw [toStr_append, List.take_append_drop])))) ?_
      refine h_take 9 rfl (by kernel_rfl) (by kernel_rfl) (by kernel_rfl) hSr8 (fun wS hSS => by ( exact (x_buildF3 pl81 rfl rfl rfl))) ?_
      refine h_take 11 rfl (by kernel_rfl) (by kernel_rfl) (by kernel_rfl) hSr8 (fun wS hSS => by (have hB2 := hB2.modS hSS (.inl (by omega)); have hB9 := hB9.modS hSS (.inl (by omega)); exact (x_loadB ua27 rfl hB2 (by exact sz27)))) ?_
      refine h_one 10 _ rfl (by kernel_rfl) (hop_of_list (fun Q10 hQ10 => ?_))
      refine o_call Try.func56 fn56 fb56 (ref_with (D.most : Int) (D.steps : Int) lf (decide (0 ≤ D.left)) D.done D.down D.l p n c _ (hl.ext hX) (by omega) k f.1 []) rfl ?_
      rintro v11 w11 ⟨⟨px, nx, cx, rfl, hlx⟩, hE11⟩
      have hX := hX.ext hE11
      have hB2 := hB2.ext hE11
      have hB4 := hB4.ext hE11
      have hB9 := hB9.ext hE11
      have hSr8 := hSr8.ext hE11
      refine hop_end hQ10 ⟨hSr8, ?_⟩
      refine h_one 12 _ rfl (by kernel_rfl) (hop_of_list (fun Q12 hQ12 => ?_))
      refine o_call Try.func57 fn57 fb57 (ref_stepD D (insA D.l k (some (f.1 ++ [], f.1.length))) false false p px p n c nx cx n c lf _ hlx (by simpa using hl.ext hX) hlf hok.left hst (by have := hlf.lo; omega)) rfl ?_
      rintro v12 w12 ⟨⟨cs, rfl, p9, n9, c9, lf9, rfl, hl9, hlf9⟩, hE12⟩
      have hX := hX.ext hE12
      have hB2 := hB2.ext hE12
      have hB4 := hB4.ext hE12
      have hB9 := hB9.ext hE12
      have hSr8 := hSr8.ext hE12
      have hlx := hlx.ext hE12
      refine hop_end hQ12 ⟨hSr8, ?_⟩
      refine h_take 13 rfl (by kernel_rfl) (by kernel_rfl) (by kernel_rfl) hSr8 (fun wS hSS => by ( exact (x_extract rfl rfl))) ?_
      refine h_take 14 rfl (by kernel_rfl) (by kernel_rfl) (by kernel_rfl) hSr8 (fun wS hSS => by ( exact (x_extract rfl rfl))) ?_
      refine h_one 15 _ rfl (by kernel_rfl) (hop_of_list (fun Q15 hQ15 => ?_))
      refine o_storeAll rfl (by conv => lhs; whnf) (by simp [Value.oneCell']) (by exact sz27) hB4 (by rfl) ?_
      intro w13 hP13
      have hX := hX.put hP13 (by rw [hN4.g_eq]; exact hXs4)
      have hB2 := hP13.keep hB2 (by omega)
      have hB4 := hP13.blk
      have hB9 := hP13.keep hB9 (by omega)
      have hSr8 := hSr8.put hP13 ⟨.inl rfl, by decide⟩
      have hlx := hlx.mod (hP13.mod 0 (Nat.zero_le _)) (Nat.zero_le _) (by decide)
      have hl9 := hl9.mod (hP13.mod 0 (Nat.zero_le _)) (Nat.zero_le _) (by decide)
      refine hop_end hQ15 ⟨hSr8, ?_⟩
      refine h_take 16 rfl (by kernel_rfl) (by kernel_rfl) (by kernel_rfl) hSr8 (fun wS hSS => by ( exact (x_assign (by conv => lhs; whnf)))) ?_
      refine h_done (by kernel_rfl) ?_
      refine t_n ?_
      refine c_ret ?_
      refine end2c rfl ua27 rfl (by conv => lhs; whnf) hB4 (by exact sz27) ?_
      first
        | exact ⟨⟨_, by rw [hp], by rw [hp]; exact ⟨p, n, c, lf, rfl, hl.ext hX, hlf⟩⟩, hX⟩
        | exact ⟨⟨_, by rw [hp], by rw [hp]; exact ⟨p9, n9, c9, lf9, rfl, hl9, hlf9⟩⟩, hX⟩
theorem ref_Append (D : DS) (p : Option Addr) (n c : Nat) (lf : Int) (w : World) (hl : Sl kFl 81 0 w p n c D.l) (hlf : LfOk D lf) (hok : DOk D) (hst : D.steps < 4611686018427387904) (k : ByteArray) (hks : k.size ≤ 9223372036854775807) (ys : List UInt8) :
    Ret Try.prog 35 [.agg #[.int .i64 (D.most : Int), .slice p n c, .int .i64 (D.steps : Int), .bool (decide (0 ≤ D.left)), .int .i64 lf, .bool D.done, .bool D.down], .string k, .string (toStr ys)] w (fun v w' => (∃ cs, v = .tuple #[.agg cs, .int .i64 (appendD D k ys).2] ∧ RefV w' cs (appendD D k ys).1) ∧ Ext w w') := by
  have hX := Ext.refl w
  refine enter 64 _ Try.func35 rfl rfl (Nat.le_of_ble_eq_true rfl) rfl ?_
  refine c_seq ?_
  refine r_plain ?_
  have hXs3 := hX.size
  refine o_boxA (by conv => lhs; whnf) ?_
  intro w1 g3 hN3
  have hE1 := hN3.ext
  have hX := hX.ext hE1
  have hB3 := hN3.blk
  have hXs6 := hX.size
  have hlt3 := hB3.lt
  refine o_alloc zr27 ?_
  intro w2 g6 hN6
  have hE2 := hN6.ext
  have hX := hX.ext hE2
  have hB3 := hB3.ext hE2
  have hB6 := hN6.blk
  refine p1 (x_assign (by conv => lhs; whnf)) ?_
  refine r_nil ?_
  refine t_n ?_
  refine c_seq ?_
  have hg6 := hN6.g_eq
  have hlen := hl.len
  have hcap := hl.cap
  have hple := plc_leA D.l k
  have hfew := hok.few
  have hroom := hok.room
  have hmost := hok.most
  refine r_plain ?_
  refine p1 (x_loadB ua27 rfl hB3 (by exact sz27)) ?_
  refine p1 (x_move (by conv => lhs; whnf)) ?_
  refine o_buildSlice u51 inf9 rfl (by decide) (fun base hb => fill_one (by rfl) base hb) ?_
  intro w3 g15 hN15
  have hE3 := hN15.ext
  have hX := hX.ext hE3
  have hB3 := hB3.ext hE3
  have hB6 := hB6.ext hE3
  have hS15 : Sl kStr 9 0 w3 (some ⟨g15, 0, none⟩) 1 1 [k] := (own_lit (B0 := 0) [k] hN15 (Nat.zero_le _) (by simp)).sl
  refine o_call Try.func44 fn44 fb44 (ref_first (D.most : Int) (D.steps : Int) lf (decide (0 ≤ D.left)) D.done D.down p n c D rfl [k] 0 _ _ _ _ hS15 (by intro s hs'; simp only [List.mem_singleton] at hs'; subst hs'; exact hks)) rfl ?_
  rintro v4 w4 ⟨rfl, hE4⟩
  have hX := hX.ext hE4
  have hB3 := hB3.ext hE4
  have hB6 := hB6.ext hE4
  have hS15 := hS15.ext hE4
  refine p1 (x_assign (by conv => lhs; whnf)) ?_
  refine r_nil ?_
  refine t_n ?_
  refine c_seq ?_
  refine r_plain ?_
  refine p1 (x_loadB ua27 rfl hB3 (by exact sz27)) ?_
  refine p1 (x_move (by conv => lhs; whnf)) ?_
  refine o_call Try.func45 fn45 fb45 (ref_place (D.most : Int) (D.steps : Int) lf (decide (0 ≤ D.left)) D.done D.down D.l p n c _ (hl.ext hX) k (by omega)) rfl ?_
  rintro v5 w5 ⟨rfl, hE5⟩
  have hX := hX.ext hE5
  have hB3 := hB3.ext hE5
  have hB6 := hB6.ext hE5
  refine p1 (x_move (by conv => lhs; whnf)) ?_
  refine p1 (x_extract rfl rfl) ?_
  refine p1 (x_extract rfl rfl) ?_
  refine p1 (x_assign (by conv => lhs; whnf)) ?_
  refine p1 (x_assign (by conv => lhs; whnf)) ?_
  refine r_nil ?_
  refine t_n ?_
  refine c_seq ?_
  refine c_block ?_
  refine c_seq ?_
  refine r_plain ?_
  refine p1 (x_move (by conv => lhs; whnf)) ?_
  refine p1 (x_neq rfl rfl) ?_
  refine p1 (x_assign (by conv => lhs; whnf)) ?_
  refine r_nil ?_
  refine t_n ?_
  first | refine c_dec rfl (fun hc23 => ?_) (fun hc23 => ?_) | refine c_if rfl (fun hc23 => ?_) (fun hc23 => ?_)
  · try simp only [decide_eq_true_eq, decide_eq_false_iff_not, Bool.not_eq_true, Bool.not_eq_false, Bool.not_eq_eq_eq_not, Bool.not_true, Bool.not_false, Int.not_lt, Int.not_le] at hc23
    have hp : appendD D k ys = (D, lookD D [k]) := if_pos hc23
    refine c_seq ?_
    refine r_plain ?_
    refine p1 (x_loadB ua27 rfl hB3 (by exact sz27)) ?_
    refine p1 (x_move (by conv => lhs; whnf)) ?_
    refine o_storeAll rfl (by conv => lhs; whnf) (by simp [Value.oneCell']) (by exact sz27) hB6 (by rfl) ?_
    intro w6 hP6
    have hX := hX.put hP6 (by rw [hN6.g_eq]; exact hXs6)
    have hB3 := hP6.keep hB3 (by omega)
    have hB6 := hP6.blk
    refine p1 (x_assign (by conv => lhs; whnf)) ?_
    refine r_nil ?_
    refine t_n ?_
    refine c_ret ?_
    refine b_r ?_
    refine t_r ?_
    refine end2c rfl ua27 rfl (by conv => lhs; whnf) hB6 (by exact sz27) ?_
    first
      | exact ⟨⟨_, by rw [hp], by rw [hp]; exact ⟨p, n, c, lf, rfl, hl.ext hX, hlf⟩⟩, hX⟩
      | exact ⟨⟨_, by rw [hp], by rw [hp]; exact ⟨p9, n9, c9, lf9, rfl, hl9, hlf9⟩⟩, hX⟩
  · try simp only [decide_eq_true_eq, decide_eq_false_iff_not, Bool.not_eq_true, Bool.not_eq_false, Bool.not_eq_eq_eq_not, Bool.not_true, Bool.not_false, Int.not_lt, Int.not_le] at hc23
    refine c_seq ?_
    refine r_plain ?_
    refine p1 (x_move (by conv => lhs; whnf)) ?_
    first | refine p1 (x_notd rfl) ?_ | refine p1 (x_not rfl) ?_
    refine p1 (x_assign (by conv => lhs; whnf)) ?_
    refine r_nil ?_
    refine t_n ?_
    first | refine c_dec rfl (fun hc28 => ?_) (fun hc28 => ?_) | refine c_if rfl (fun hc28 => ?_) (fun hc28 => ?_)
    · try simp only [decide_eq_true_eq, decide_eq_false_iff_not, Bool.not_eq_true, Bool.not_eq_false, Bool.not_eq_eq_eq_not, Bool.not_true, Bool.not_false, Int.not_lt, Int.not_le] at hc28
      have hnat : ¬ isAtA D.l (plcA D.l k) k := by simpa using hc28
      have hnf := file_not hok hnat
      have hp : appendD D k ys = (D, 22) := by unfold appendD; rw [if_neg hc23, if_pos hnf]
      refine c_seq ?_
      refine r_plain ?_
      refine p1 (x_loadB ua27 rfl hB3 (by exact sz27)) ?_
      refine o_storeAll rfl (by conv => lhs; whnf) (by simp [Value.oneCell']) (by exact sz27) hB6 (by rfl) ?_
      intro w7 hP7
      have hX := hX.put hP7 (by rw [hN6.g_eq]; exact hXs6)
      have hB3 := hP7.keep hB3 (by omega)
      have hB6 := hP7.blk
      refine p1 (x_assign (by conv => lhs; whnf)) ?_
      refine r_nil ?_
      refine t_n ?_
      refine c_ret ?_
      refine b_r ?_
      refine t_r ?_
      refine end2c rfl ua27 rfl (by conv => lhs; whnf) hB6 (by exact sz27) ?_
      first
        | exact ⟨⟨_, by rw [hp], by rw [hp]; exact ⟨p, n, c, lf, rfl, hl.ext hX, hlf⟩⟩, hX⟩
        | exact ⟨⟨_, by rw [hp], by rw [hp]; exact ⟨p9, n9, c9, lf9, rfl, hl9, hlf9⟩⟩, hX⟩
    · try simp only [decide_eq_true_eq, decide_eq_false_iff_not, Bool.not_eq_true, Bool.not_eq_false, Bool.not_eq_eq_eq_not, Bool.not_true, Bool.not_false, Int.not_lt, Int.not_le] at hc28
      have hat : isAtA D.l (plcA D.l k) k := by simpa using hc28
      obtain ⟨f, hf, hfa, hfu, hfs, hgf⟩ := file_at hok hat
      have hfr : ∀ wz, Ext w wz → wz.rangeAt (ab p) (ao p + plcA D.l k * 3) [.string k, .string (toStr (f.1.take f.2)), .string (toStr (f.1.drop f.2))] := fun wz hz => by have := (hl.ext hz).flRange (plcA D.l k) (by have := (hat).1; omega); rw [hfa] at this; exact this
      have hplt : plcA D.l k < n := by have := (hat).1; omega
      have hne : ¬ ascF D.l k = none := by rw [hf]; simp
      have hzs := toStr_size ys
      refine c_seq ?_
      refine r_held (fun w1 w2 => Ext w1 w2) mixed ?_
      intro w8 hE8
      have hX := hX.ext hE8
      have hB3 := hB3.ext hE8
      have hB6 := hB6.ext hE8
      have hSr7 : (fun w1 w2 => Ext w1 w2) w8 w8 := Ext.refl w8
      refine h_take 0 rfl (by kernel_rfl) (by kernel_rfl) (by kernel_rfl) hSr7 (fun wS hSS => by (have hX := hX.ext hSS; have hB3 := hB3.ext hSS; have hB6 := hB6.ext hSS; exact (x_move (by conv => lhs; whnf)))) ?_
      refine h_take 1 rfl (by kernel_rfl) (by kernel_rfl) (by kernel_rfl) hSr7 (fun wS hSS => by (have hX := hX.ext hSS; have hB3 := hB3.ext hSS; have hB6 := hB6.ext hSS; exact (x_len_str u9 rfl))) ?_
      refine h_take 2 rfl (by kernel_rfl) (by kernel_rfl) (by kernel_rfl) hSr7 (fun wS hSS => by (have hX := hX.ext hSS; have hB3 := hB3.ext hSS; have hB6 := hB6.ext hSS; exact (x_fieldAddr fo27_0 sz3 rfl))) ?_
      refine h_take 3 rfl (by kernel_rfl) (by kernel_rfl) (by kernel_rfl) hSr7 (fun wS hSS => by (have hX := hX.ext hSS; have hB3 := hB3.ext hSS; have hB6 := hB6.ext hSS; exact (x_load1 un3 rfl (hB3.cell (rfl))))) ?_
      refine h_take 4 rfl (by kernel_rfl) (by kernel_rfl) (by kernel_rfl) hSr7 (fun wS hSS => by (have hX := hX.ext hSS; have hB3 := hB3.ext hSS; have hB6 := hB6.ext hSS; exact (x_loadB ua27 rfl hB3 (by exact sz27)))) ?_
      refine h_one 5 _ rfl (by kernel_rfl) (hop_of_list (fun Q5 hQ5 => ?_))
      refine o_call Try.func54 fn54 fb54 (ref_Used (D.most : Int) (D.steps : Int) lf (decide (0 ≤ D.left)) D.done D.down D.l p n c _ (hl.ext hX) (by omega) (by omega)) rfl ?_
      rintro v9 w9 ⟨rfl, hE9⟩
      have hX := hX.ext hE9
      have hB3 := hB3.ext hE9
      have hB6 := hB6.ext hE9
      have hSr7 := hSr7.ext hE9
      refine hop_end hQ5 ⟨hSr7, ?_⟩
      refine h_take 6 rfl (by kernel_rfl) (by kernel_rfl) (by kernel_rfl) hSr7 (fun wS hSS => by ( exact (x_sub rfl rfl (fits_i64 (by omega) (by omega))))) ?_
      refine h_take 7 rfl (by kernel_rfl) (by kernel_rfl) (by kernel_rfl) hSr7 (fun wS hSS => by ( exact (x_gtr rfl rfl))) ?_
      refine h_take 8 rfl (by kernel_rfl) (by kernel_rfl) (by kernel_rfl) hSr7 (fun wS hSS => by ( exact (x_assign (by conv => lhs; whnf)))) ?_
      refine h_done (by kernel_rfl) ?_
      refine t_n ?_
      first | refine c_dec rfl (fun hc32 => ?_) (fun hc32 => ?_) | refine c_if rfl (fun hc32 => ?_) (fun hc32 => ?_)
      · try simp only [decide_eq_true_eq, decide_eq_false_iff_not, Bool.not_eq_true, Bool.not_eq_false, Bool.not_eq_eq_eq_not, Bool.not_true, Bool.not_false, Int.not_lt, Int.not_le] at hc32
        have hp : appendD D k ys = (D, 21) := by unfold appendD; rw [if_neg hc23, if_neg hne, if_pos (by omega)]
        refine c_seq ?_
        refine r_plain ?_
        refine p1 (x_loadB ua27 rfl hB3 (by exact sz27)) ?_
        refine o_storeAll rfl (by conv => lhs; whnf) (by simp [Value.oneCell']) (by exact sz27) hB6 (by rfl) ?_
        intro w10 hP10
        have hX := hX.put hP10 (by rw [hN6.g_eq]; exact hXs6)
        have hB3 := hP10.keep hB3 (by omega)
        have hB6 := hP10.blk
        refine p1 (x_assign (by conv => lhs; whnf)) ?_
        refine r_nil ?_
        refine t_n ?_
        refine c_ret ?_
        refine b_r ?_
        refine t_r ?_
        refine end2c rfl ua27 rfl (by conv => lhs; whnf) hB6 (by exact sz27) ?_
        first
          | exact ⟨⟨_, by rw [hp], by rw [hp]; exact ⟨p, n, c, lf, rfl, hl.ext hX, hlf⟩⟩, hX⟩
          | exact ⟨⟨_, by rw [hp], by rw [hp]; exact ⟨p9, n9, c9, lf9, rfl, hl9, hlf9⟩⟩, hX⟩
      · try simp only [decide_eq_true_eq, decide_eq_false_iff_not, Bool.not_eq_true, Bool.not_eq_false, Bool.not_eq_eq_eq_not, Bool.not_true, Bool.not_false, Int.not_lt, Int.not_le] at hc32
        have hact : (f.1.take f.2 ++ (f.1.drop f.2 ++ ys), (f.1.take f.2).length) = (f.1 ++ ys, f.2) := by rw [← List.append_assoc, List.take_append_drop, List.length_take, Nat.min_eq_left hfs]
        have hp : appendD D k ys = stepD D (insA D.l k (some (f.1.take f.2 ++ (f.1.drop f.2 ++ ys), (f.1.take f.2).length))) true true := by unfold appendD; rw [if_neg hc23, if_neg hne, if_neg (by omega), hgf, hact]
        refine c_skip ?_
        refine b_n ?_
        refine t_n ?_
        refine c_seq ?_
        refine r_plain ?_
        refine p1 (x_fieldAddr fo27_1 sz25 rfl) ?_
        refine p1 (x_load1 un25 rfl (hB3.cell (rfl))) ?_
        refine p1 (x_move (by conv => lhs; whnf)) ?_
        refine p1 (x_ixs u25 sz81 rfl rfl ((hl.ext hX).adr kFl_pos (by omega)) (by omega) (by omega)) ?_
        refine p1 (x_loadN ua81 rfl (by exact sz81) (hfr _ hX)) ?_
        have hXs11 := hX.size
        have hltc11 := hB6.lt
        have hltb11 := hB3.lt
        refine o_alloc zr81 ?_
        intro w11 g11 hN11
        have hE11 := hN11.ext
        have hX := hX.ext hE11
        have hB3 := hB3.ext hE11
        have hB6 := hB6.ext hE11
        have hB11 := hN11.blk
        have hg11 := hN11.g_eq
        refine o_storeAll rfl (by conv => lhs; whnf) (by simp [Value.oneCell']) (by exact sz81) hB11 (by rfl) ?_
        intro w12 hP12
        have hX := hX.put hP12 (by rw [hN11.g_eq]; exact hXs11)
        have hB3 := hP12.keep hB3 (by omega)
        have hB6 := hP12.keep hB6 (by omega)
        have hB11 := hP12.blk
        refine r_nil ?_
        refine t_n ?_
        refine c_seq ?_
        refine r_plain ?_
        refine p1 (x_loadB ua27 rfl hB3 (by exact sz27)) ?_
        refine p1 (x_fieldAddr fo81_0 sz9 rfl) ?_
        refine p1 (x_load1 un9 rfl (hB11.cell (rfl))) ?_
        refine p1 (x_fieldAddr fo81_1 sz9 rfl) ?_
        refine p1 (x_load1 un9 rfl (hB11.cell (rfl))) ?_
        refine p1 (x_fieldAddr fo81_2 sz9 rfl) ?_
        refine p1 (x_load1 un9 rfl (hB11.cell (rfl))) ?_
        refine p1 (x_move (by conv => lhs; whnf)) ?_
        refine p1 ((x_add_str rfl rfl (by rw [toStr_size, toStr_size, List.length_drop]; omega)).cast (by rw [toStr_append])) ?_
        refine p1 (x_buildF3 pl81 rfl rfl rfl) ?_
        refine o_call Try.func56 fn56 fb56 (ref_with (D.most : Int) (D.steps : Int) lf (decide (0 ≤ D.left)) D.done D.down D.l p n c _ (hl.ext hX) (by omega) k (f.1.take f.2) (f.1.drop f.2 ++ ys)) rfl ?_
        rintro v13 w13 ⟨⟨px, nx, cx, rfl, hlx⟩, hE13⟩
        have hX := hX.ext hE13
        have hB3 := hB3.ext hE13
        have hB6 := hB6.ext hE13
        have hB11 := hB11.ext hE13
        have hXs12 := hX.size
        have hltc12 := hB6.lt
        have hltb12 := hB3.lt
        refine o_alloc zr27 ?_
        intro w14 g12 hN12
        have hE14 := hN12.ext
        have hX := hX.ext hE14
        have hB3 := hB3.ext hE14
        have hB6 := hB6.ext hE14
        have hB11 := hB11.ext hE14
        have hlx := hlx.ext hE14
        have hB12 := hN12.blk
        have hg12 := hN12.g_eq
        refine o_storeAll rfl (by conv => lhs; whnf) (by simp [Value.oneCell']) (by exact sz27) hB12 (by rfl) ?_
        intro w15 hP15
        have hX := hX.put hP15 (by rw [hN12.g_eq]; exact hXs12)
        have hB3 := hP15.keep hB3 (by omega)
        have hB6 := hP15.keep hB6 (by omega)
        have hB11 := hB11.one hP15.one (by decide)
        have hlx := hlx.mod (hP15.mod 0 (Nat.zero_le _)) (Nat.zero_le _) (by decide)
        have hB12 := hP15.blk
        refine r_nil ?_
        refine t_n ?_
        refine c_seq ?_
        refine r_plain ?_
        refine p1 (x_loadB ua27 rfl hB3 (by exact sz27)) ?_
        refine p1 (x_loadB ua27 rfl hB12 (by exact sz27)) ?_
        refine p1 (x_loadB ua27 rfl hB12 (by exact sz27)) ?_
        refine o_call Try.func57 fn57 fb57 (ref_stepD D (insA D.l k (some (f.1.take f.2 ++ (f.1.drop f.2 ++ ys), (f.1.take f.2).length))) true true p px px n c nx cx nx cx lf _ hlx (by simpa using hlx) hlf hok.left hst (by have := hlf.lo; omega)) rfl ?_
        rintro v16 w16 ⟨⟨cs, rfl, p9, n9, c9, lf9, rfl, hl9, hlf9⟩, hE16⟩
        have hX := hX.ext hE16
        have hB3 := hB3.ext hE16
        have hB6 := hB6.ext hE16
        have hB11 := hB11.ext hE16
        have hlx := hlx.ext hE16
        have hB12 := hB12.ext hE16
        refine p1 (x_extract rfl rfl) ?_
        refine p1 (x_extract rfl rfl) ?_
        refine o_storeAll rfl (by conv => lhs; whnf) (by simp [Value.oneCell']) (by exact sz27) hB6 (by rfl) ?_
        intro w17 hP17
        have hX := hX.put hP17 (by rw [hN6.g_eq]; exact hXs6)
        have hB3 := hP17.keep hB3 (by omega)
        have hB6 := hP17.blk
        have hB11 := hB11.one hP17.one (by decide)
        have hlx := hlx.mod (hP17.mod 0 (Nat.zero_le _)) (Nat.zero_le _) (by decide)
        have hB12 := hP17.keep hB12 (by omega)
        have hl9 := hl9.mod (hP17.mod 0 (Nat.zero_le _)) (Nat.zero_le _) (by decide)
        refine p1 (x_assign (by conv => lhs; whnf)) ?_
        refine r_nil ?_
        refine t_n ?_
        refine c_ret ?_
        refine end2c rfl ua27 rfl (by conv => lhs; whnf) hB6 (by exact sz27) ?_
        first
          | exact ⟨⟨_, by rw [hp], by rw [hp]; exact ⟨p, n, c, lf, rfl, hl.ext hX, hlf⟩⟩, hX⟩
          | exact ⟨⟨_, by rw [hp], by rw [hp]; exact ⟨p9, n9, c9, lf9, rfl, hl9, hlf9⟩⟩, hX⟩
theorem ref_Rename (D : DS) (p : Option Addr) (n c : Nat) (lf : Int) (w : World) (hl : Sl kFl 81 0 w p n c D.l) (hlf : LfOk D lf) (hok : DOk D) (hst : D.steps < 4611686018427387904) (old now : ByteArray) (hos : old.size ≤ 9223372036854775807) (hns : now.size ≤ 9223372036854775807) :
    Ret Try.prog 37 [.agg #[.int .i64 (D.most : Int), .slice p n c, .int .i64 (D.steps : Int), .bool (decide (0 ≤ D.left)), .int .i64 lf, .bool D.done, .bool D.down], .string old, .string now] w (fun v w' => (∃ cs, v = .tuple #[.agg cs, .int .i64 (renameD D old now).2] ∧ RefV w' cs (renameD D old now).1) ∧ Ext w w') := by
  have hX := Ext.refl w
  refine enter 56 _ Try.func37 rfl rfl (Nat.le_of_ble_eq_true rfl) rfl ?_
  refine c_seq ?_
  refine r_plain ?_
  have hXs3 := hX.size
  refine o_boxA (by conv => lhs; whnf) ?_
  intro w1 g3 hN3
  have hE1 := hN3.ext
  have hX := hX.ext hE1
  have hB3 := hN3.blk
  have hXs6 := hX.size
  have hlt3 := hB3.lt
  refine o_alloc zr27 ?_
  intro w2 g6 hN6
  have hE2 := hN6.ext
  have hX := hX.ext hE2
  have hB3 := hB3.ext hE2
  have hB6 := hN6.blk
  refine p1 (x_assign (by conv => lhs; whnf)) ?_
  refine r_nil ?_
  refine t_n ?_
  refine c_seq ?_
  have hg6 := hN6.g_eq
  have hlen := hl.len
  have hcap := hl.cap
  have hple := plc_leA D.l old
  have hfew := hok.few
  have hroom := hok.room
  have hmost := hok.most
  refine r_plain ?_
  refine p1 (x_loadB ua27 rfl hB3 (by exact sz27)) ?_
  refine p1 (x_move (by conv => lhs; whnf)) ?_
  refine p1 (x_move (by conv => lhs; whnf)) ?_
  refine o_buildSlice u51 inf9 rfl (by decide) (fun base hb => fill_kn [.string old, .string now] (by intro v hv'; simp only [List.mem_cons, List.not_mem_nil, or_false] at hv'; rcases hv' with rfl | rfl <;> rfl) base hb) ?_
  intro w3 g16 hN16
  have hE3 := hN16.ext
  have hX := hX.ext hE3
  have hB3 := hB3.ext hE3
  have hB6 := hB6.ext hE3
  have hS16 : Sl kStr 9 0 w3 (some ⟨g16, 0, none⟩) 2 2 [old, now] := (own_lit (B0 := 0) [old, now] hN16 (Nat.zero_le _) (by simp)).sl
  refine o_call Try.func44 fn44 fb44 (ref_first (D.most : Int) (D.steps : Int) lf (decide (0 ≤ D.left)) D.done D.down p n c D rfl [old, now] 0 _ _ _ _ hS16 (by intro s hs'; simp only [List.mem_cons, List.not_mem_nil, or_false] at hs'; rcases hs' with rfl | rfl <;> assumption)) rfl ?_
  rintro v4 w4 ⟨rfl, hE4⟩
  have hX := hX.ext hE4
  have hB3 := hB3.ext hE4
  have hB6 := hB6.ext hE4
  have hS16 := hS16.ext hE4
  refine p1 (x_assign (by conv => lhs; whnf)) ?_
  refine r_nil ?_
  refine t_n ?_
  refine c_seq ?_
  refine r_plain ?_
  refine p1 (x_loadB ua27 rfl hB3 (by exact sz27)) ?_
  refine p1 (x_move (by conv => lhs; whnf)) ?_
  refine o_call Try.func45 fn45 fb45 (ref_place (D.most : Int) (D.steps : Int) lf (decide (0 ≤ D.left)) D.done D.down D.l p n c _ (hl.ext hX) old (by omega)) rfl ?_
  rintro v5 w5 ⟨rfl, hE5⟩
  have hX := hX.ext hE5
  have hB3 := hB3.ext hE5
  have hB6 := hB6.ext hE5
  refine p1 (x_move (by conv => lhs; whnf)) ?_
  refine p1 (x_extract rfl rfl) ?_
  refine p1 (x_extract rfl rfl) ?_
  refine p1 (x_assign (by conv => lhs; whnf)) ?_
  refine p1 (x_assign (by conv => lhs; whnf)) ?_
  refine r_nil ?_
  refine t_n ?_
  refine c_seq ?_
  refine c_block ?_
  refine c_seq ?_
  refine r_plain ?_
  refine p1 (x_move (by conv => lhs; whnf)) ?_
  refine p1 (x_neq rfl rfl) ?_
  refine p1 (x_assign (by conv => lhs; whnf)) ?_
  refine r_nil ?_
  refine t_n ?_
  first | refine c_dec rfl (fun hc24 => ?_) (fun hc24 => ?_) | refine c_if rfl (fun hc24 => ?_) (fun hc24 => ?_)
  · try simp only [decide_eq_true_eq, decide_eq_false_iff_not, Bool.not_eq_true, Bool.not_eq_false, Bool.not_eq_eq_eq_not, Bool.not_true, Bool.not_false, Int.not_lt, Int.not_le] at hc24
    have hp : renameD D old now = (D, lookD D [old, now]) := if_pos hc24
    refine c_seq ?_
    refine r_plain ?_
    refine p1 (x_loadB ua27 rfl hB3 (by exact sz27)) ?_
    refine p1 (x_move (by conv => lhs; whnf)) ?_
    refine o_storeAll rfl (by conv => lhs; whnf) (by simp [Value.oneCell']) (by exact sz27) hB6 (by rfl) ?_
    intro w6 hP6
    have hX := hX.put hP6 (by rw [hN6.g_eq]; exact hXs6)
    have hB3 := hP6.keep hB3 (by omega)
    have hB6 := hP6.blk
    refine p1 (x_assign (by conv => lhs; whnf)) ?_
    refine r_nil ?_
    refine t_n ?_
    refine c_ret ?_
    refine b_r ?_
    refine t_r ?_
    refine end2c rfl ua27 rfl (by conv => lhs; whnf) hB6 (by exact sz27) ?_
    first
      | exact ⟨⟨_, by rw [hp], by rw [hp]; exact ⟨p, n, c, lf, rfl, hl.ext hX, hlf⟩⟩, hX⟩
      | exact ⟨⟨_, by rw [hp], by rw [hp]; exact ⟨p9, n9, c9, lf9, rfl, hl9, hlf9⟩⟩, hX⟩
  · try simp only [decide_eq_true_eq, decide_eq_false_iff_not, Bool.not_eq_true, Bool.not_eq_false, Bool.not_eq_eq_eq_not, Bool.not_true, Bool.not_false, Int.not_lt, Int.not_le] at hc24
    refine c_seq ?_
    refine r_plain ?_
    refine p1 (x_move (by conv => lhs; whnf)) ?_
    first | refine p1 (x_notd rfl) ?_ | refine p1 (x_not rfl) ?_
    refine p1 (x_assign (by conv => lhs; whnf)) ?_
    refine r_nil ?_
    refine t_n ?_
    first | refine c_dec rfl (fun hc29 => ?_) (fun hc29 => ?_) | refine c_if rfl (fun hc29 => ?_) (fun hc29 => ?_)
    · try simp only [decide_eq_true_eq, decide_eq_false_iff_not, Bool.not_eq_true, Bool.not_eq_false, Bool.not_eq_eq_eq_not, Bool.not_true, Bool.not_false, Int.not_lt, Int.not_le] at hc29
      have hnat : ¬ isAtA D.l (plcA D.l old) old := by simpa using hc29
      have hnf := file_not hok hnat
      have hp : renameD D old now = (D, 22) := by unfold renameD; rw [if_neg hc24, if_pos hnf]
      refine c_seq ?_
      refine r_plain ?_
      refine p1 (x_loadB ua27 rfl hB3 (by exact sz27)) ?_
      refine o_storeAll rfl (by conv => lhs; whnf) (by simp [Value.oneCell']) (by exact sz27) hB6 (by rfl) ?_
      intro w7 hP7
      have hX := hX.put hP7 (by rw [hN6.g_eq]; exact hXs6)
      have hB3 := hP7.keep hB3 (by omega)
      have hB6 := hP7.blk
      refine p1 (x_assign (by conv => lhs; whnf)) ?_
      refine r_nil ?_
      refine t_n ?_
      refine c_ret ?_
      refine b_r ?_
      refine t_r ?_
      refine end2c rfl ua27 rfl (by conv => lhs; whnf) hB6 (by exact sz27) ?_
      first
        | exact ⟨⟨_, by rw [hp], by rw [hp]; exact ⟨p, n, c, lf, rfl, hl.ext hX, hlf⟩⟩, hX⟩
        | exact ⟨⟨_, by rw [hp], by rw [hp]; exact ⟨p9, n9, c9, lf9, rfl, hl9, hlf9⟩⟩, hX⟩
    · try simp only [decide_eq_true_eq, decide_eq_false_iff_not, Bool.not_eq_true, Bool.not_eq_false, Bool.not_eq_eq_eq_not, Bool.not_true, Bool.not_false, Int.not_lt, Int.not_le] at hc29
      have hat : isAtA D.l (plcA D.l old) old := by simpa using hc29
      obtain ⟨f, hf, hfa, hfu, hfs, hgf⟩ := file_at hok hat
      have hfr : ∀ wz, Ext w wz → wz.rangeAt (ab p) (ao p + plcA D.l old * 3) [.string old, .string (toStr (f.1.take f.2)), .string (toStr (f.1.drop f.2))] := fun wz hz => by have := (hl.ext hz).flRange (plcA D.l old) (by have := (hat).1; omega); rw [hfa] at this; exact this
      have hplt : plcA D.l old < n := by have := (hat).1; omega
      have hne : ¬ ascF D.l old = none := by rw [hf]; simp
      have hTK : (f.1.take f.2 ++ f.1.drop f.2, (f.1.take f.2).length) = f := by rw [List.take_append_drop, List.length_take, Nat.min_eq_left hfs]
      have hp : renameD D old now = stepD D (insA (insA D.l old none) now (some (f.1.take f.2 ++ f.1.drop f.2, (f.1.take f.2).length))) true false := by unfold renameD; rw [if_neg hc24, if_neg hne, hTK, ren_ref hok.rise hf, hgf]
      have hlw64 := there_len hok (k := old) (fun e => hne e) (none : Option Fb)
      refine c_skip ?_
      refine b_n ?_
      refine t_n ?_
      refine c_seq ?_
      refine r_plain ?_
      refine p1 (x_fieldAddr fo27_1 sz25 rfl) ?_
      refine p1 (x_load1 un25 rfl (hB3.cell (rfl))) ?_
      refine p1 (x_move (by conv => lhs; whnf)) ?_
      refine p1 (x_ixs u25 sz81 rfl rfl ((hl.ext hX).adr kFl_pos (by omega)) (by omega) (by omega)) ?_
      refine p1 (x_loadN ua81 rfl (by exact sz81) (hfr _ hX)) ?_
      have hXs11 := hX.size
      have hltc11 := hB6.lt
      have hltb11 := hB3.lt
      refine o_alloc zr81 ?_
      intro w8 g11 hN11
      have hE8 := hN11.ext
      have hX := hX.ext hE8
      have hB3 := hB3.ext hE8
      have hB6 := hB6.ext hE8
      have hB11 := hN11.blk
      have hg11 := hN11.g_eq
      refine o_storeAll rfl (by conv => lhs; whnf) (by simp [Value.oneCell']) (by exact sz81) hB11 (by rfl) ?_
      intro w9 hP9
      have hX := hX.put hP9 (by rw [hN11.g_eq]; exact hXs11)
      have hB3 := hP9.keep hB3 (by omega)
      have hB6 := hP9.keep hB6 (by omega)
      have hB11 := hP9.blk
      refine r_nil ?_
      refine t_n ?_
      refine c_seq ?_
      refine r_held (fun w1 w2 => Ext w1 w2) mixed ?_
      intro w10 hE10
      have hX := hX.ext hE10
      have hB3 := hB3.ext hE10
      have hB6 := hB6.ext hE10
      have hB11 := hB11.ext hE10
      have hSr8 : (fun w1 w2 => Ext w1 w2) w10 w10 := Ext.refl w10
      refine h_take 0 rfl (by kernel_rfl) (by kernel_rfl) (by kernel_rfl) hSr8 (fun wS hSS => by (have hX := hX.ext hSS; have hB3 := hB3.ext hSS; have hB6 := hB6.ext hSS; have hB11 := hB11.ext hSS; exact (x_loadB ua27 rfl hB3 (by exact sz27)))) ?_
      refine h_take 1 rfl (by kernel_rfl) (by kernel_rfl) (by kernel_rfl) hSr8 (fun wS hSS => by (have hX := hX.ext hSS; have hB3 := hB3.ext hSS; have hB6 := hB6.ext hSS; have hB11 := hB11.ext hSS; exact (x_move (by conv => lhs; whnf)))) ?_
      refine h_take 3 rfl (by kernel_rfl) (by kernel_rfl) (by kernel_rfl) hSr8 (fun wS hSS => by (have hX := hX.ext hSS; have hB3 := hB3.ext hSS; have hB6 := hB6.ext hSS; have hB11 := hB11.ext hSS; exact (x_move (by conv => lhs; whnf)))) ?_
      refine h_take 4 rfl (by kernel_rfl) (by kernel_rfl) (by kernel_rfl) hSr8 (fun wS hSS => by (have hX := hX.ext hSS; have hB3 := hB3.ext hSS; have hB6 := hB6.ext hSS; have hB11 := hB11.ext hSS; exact (x_fieldAddr fo81_1 sz9 rfl))) ?_
      refine h_take 5 rfl (by kernel_rfl) (by kernel_rfl) (by kernel_rfl) hSr8 (fun wS hSS => by (have hX := hX.ext hSS; have hB3 := hB3.ext hSS; have hB6 := hB6.ext hSS; have hB11 := hB11.ext hSS; exact (x_load1 un9 rfl (hB11.cell (rfl))))) ?_
      refine h_take 6 rfl (by kernel_rfl) (by kernel_rfl) (by kernel_rfl) hSr8 (fun wS hSS => by (have hX := hX.ext hSS; have hB3 := hB3.ext hSS; have hB6 := hB6.ext hSS; have hB11 := hB11.ext hSS; exact (x_fieldAddr fo81_2 sz9 rfl))) ?_
      refine h_take 7 rfl (by kernel_rfl) (by kernel_rfl) (by kernel_rfl) hSr8 (fun wS hSS => by (have hX := hX.ext hSS; have hB3 := hB3.ext hSS; have hB6 := hB6.ext hSS; have hB11 := hB11.ext hSS; exact (x_load1 un9 rfl (hB11.cell (rfl))))) ?_
      refine h_take 8 rfl (by kernel_rfl) (by kernel_rfl) (by kernel_rfl) hSr8 (fun wS hSS => by (have hX := hX.ext hSS; have hB3 := hB3.ext hSS; have hB6 := hB6.ext hSS; have hB11 := hB11.ext hSS; exact (x_buildF3 pl81 rfl rfl rfl))) ?_
      refine h_two 2 10 _ _ rfl rfl (by kernel_rfl) (hop_of_list (fun Q2 hQ2 => ?_)) (hop_of_list (fun Q10 hQ10 => ?_))
      · skip
        refine o_call Try.func59 fn59 fb59 (ref_without (D.most : Int) (D.steps : Int) lf (decide (0 ≤ D.left)) D.done D.down D.l p n c _ (hl.ext hX) (by omega) hok.rise old) rfl ?_
        rintro v11 w11 ⟨⟨pw, nw, cw, rfl, hlw⟩, hE11⟩
        have hX := hX.ext hE11
        have hB3 := hB3.ext hE11
        have hB6 := hB6.ext hE11
        have hB11 := hB11.ext hE11
        have hSr8 := hSr8.ext hE11
        refine hop_end hQ2 ⟨hSr8, ?_⟩
        refine h_two 9 10 _ _ rfl rfl (by kernel_rfl) (hop_of_list (fun Q9 hQ9 => ?_)) (hop_of_list (fun Q10 hQ10 => ?_))
        · skip
          refine o_call Try.func56 fn56 fb56 (ref_with (D.most : Int) (D.steps : Int) lf (decide (0 ≤ D.left)) D.done D.down (insA D.l old none) pw nw cw _ hlw (by have := hlw.len; omega) now (f.1.take f.2) (f.1.drop f.2)) rfl ?_
          rintro v12 w12 ⟨⟨px, nx, cx, rfl, hlx⟩, hE12⟩
          have hX := hX.ext hE12
          have hB3 := hB3.ext hE12
          have hB6 := hB6.ext hE12
          have hB11 := hB11.ext hE12
          have hSr8 := hSr8.ext hE12
          have hlw := hlw.ext hE12
          refine hop_end hQ9 ⟨hSr8, ?_⟩
          refine h_one 10 _ rfl (by kernel_rfl) (hop_of_list (fun Q10 hQ10 => ?_))
          have hXs12 := hX.size
          have hltc12 := hB6.lt
          have hltb12 := hB3.lt
          have h12 := hSr8.size
          refine o_alloc zr27 ?_
          intro w13 g12 hN12
          have hE13 := hN12.ext
          have hX := hX.ext hE13
          have hB3 := hB3.ext hE13
          have hB6 := hB6.ext hE13
          have hB11 := hB11.ext hE13
          have hSr8 := hSr8.ext hE13
          have hlw := hlw.ext hE13
          have hlx := hlx.ext hE13
          have hB12 := hN12.blk
          refine hop_end hQ10 ⟨hSr8, ?_⟩
          refine h_one 11 _ rfl (by kernel_rfl) (hop_of_list (fun Q11 hQ11 => ?_))
          have hg12 := hN12.g_eq
          refine o_storeAll rfl (by conv => lhs; whnf) (by simp [Value.oneCell']) (by exact sz27) hB12 (by rfl) ?_
          intro w14 hP14
          have hX := hX.put hP14 (by rw [hN12.g_eq]; exact hXs12)
          have hB3 := hP14.keep hB3 (by omega)
          have hB6 := hP14.keep hB6 (by omega)
          have hB11 := hB11.one hP14.one (by decide)
          have hSr8 := hSr8.put hP14 (by rw [hN12.g_eq]; exact h12)
          have hlw := hlw.mod (hP14.mod 0 (Nat.zero_le _)) (Nat.zero_le _) (by decide)
          have hlx := hlx.mod (hP14.mod 0 (Nat.zero_le _)) (Nat.zero_le _) (by decide)
          have hB12 := hP14.blk
          refine hop_end hQ11 ⟨hSr8, ?_⟩
          refine h_done (by kernel_rfl) ?_
          refine t_n ?_
          refine c_seq ?_
          refine r_held (fun w1 w2 => ModS (fun j => j = g6) [27] w1 w2) mixed ?_
          intro w15 hE15
          have hX := hX.ext hE15
          have hB3 := hB3.ext hE15
          have hB6 := hB6.ext hE15
          have hB11 := hB11.ext hE15
          have hlw := hlw.ext hE15
          have hlx := hlx.ext hE15
          have hB12 := hB12.ext hE15
          have hSr9 : (fun w1 w2 => ModS (fun j => j = g6) [27] w1 w2) w15 w15 := ModS.refl _ _ _
          refine h_take 0 rfl (by kernel_rfl) (by kernel_rfl) (by kernel_rfl) hSr9 (fun wS hSS => by (have hB3 := hB3.modS hSS (.inl (by omega)); have hB12 := hB12.modS hSS (.inl (by omega)); exact (x_loadB ua27 rfl hB3 (by exact sz27)))) ?_
          refine h_take 1 rfl (by kernel_rfl) (by kernel_rfl) (by kernel_rfl) hSr9 (fun wS hSS => by (have hB3 := hB3.modS hSS (.inl (by omega)); have hB12 := hB12.modS hSS (.inl (by omega)); exact (x_loadB ua27 rfl hB12 (by exact sz27)))) ?_
          refine h_take 2 rfl (by kernel_rfl) (by kernel_rfl) (by kernel_rfl) hSr9 (fun wS hSS => by (have hB3 := hB3.modS hSS (.inl (by omega)); have hB12 := hB12.modS hSS (.inl (by omega)); exact (x_loadB ua27 rfl hB3 (by exact sz27)))) ?_
          refine h_take 3 rfl (by kernel_rfl) (by kernel_rfl) (by kernel_rfl) hSr9 (fun wS hSS => by (have hB3 := hB3.modS hSS (.inl (by omega)); have hB12 := hB12.modS hSS (.inl (by omega)); exact (x_loadB ua27 rfl hB12 (by exact sz27)))) ?_
          refine h_one 4 _ rfl (by kernel_rfl) (hop_of_list (fun Q4 hQ4 => ?_))
          refine o_call Try.func58 fn58 fb58 (ref_either2 D (insA (insA D.l old none) now (some (f.1.take f.2 ++ f.1.drop f.2, (f.1.take f.2).length))) p px n c nx cx lf _ (hl.ext hX) hlx) rfl ?_
          rintro v16 w16 ⟨⟨py, ny, cy, rfl, hly⟩, hE16⟩
          have hX := hX.ext hE16
          have hB3 := hB3.ext hE16
          have hB6 := hB6.ext hE16
          have hB11 := hB11.ext hE16
          have hlw := hlw.ext hE16
          have hlx := hlx.ext hE16
          have hB12 := hB12.ext hE16
          have hSr9 := hSr9.ext hE16
          refine hop_end hQ4 ⟨hSr9, ?_⟩
          refine h_one 5 _ rfl (by kernel_rfl) (hop_of_list (fun Q5 hQ5 => ?_))
          refine o_call Try.func57 fn57 fb57 (ref_stepD D (insA (insA D.l old none) now (some (f.1.take f.2 ++ f.1.drop f.2, (f.1.take f.2).length))) true false p px py n c nx cx ny cy lf _ hlx (hly) hlf hok.left hst (by have := hlf.lo; omega)) rfl ?_
          rintro v17 w17 ⟨⟨cs, rfl, p9, n9, c9, lf9, rfl, hl9, hlf9⟩, hE17⟩
          have hX := hX.ext hE17
          have hB3 := hB3.ext hE17
          have hB6 := hB6.ext hE17
          have hB11 := hB11.ext hE17
          have hlw := hlw.ext hE17
          have hlx := hlx.ext hE17
          have hB12 := hB12.ext hE17
          have hSr9 := hSr9.ext hE17
          have hly := hly.ext hE17
          refine hop_end hQ5 ⟨hSr9, ?_⟩
          refine h_take 6 rfl (by kernel_rfl) (by kernel_rfl) (by kernel_rfl) hSr9 (fun wS hSS => by ( exact (x_extract rfl rfl))) ?_
          refine h_take 7 rfl (by kernel_rfl) (by kernel_rfl) (by kernel_rfl) hSr9 (fun wS hSS => by ( exact (x_extract rfl rfl))) ?_
          refine h_one 8 _ rfl (by kernel_rfl) (hop_of_list (fun Q8 hQ8 => ?_))
          refine o_storeAll rfl (by conv => lhs; whnf) (by simp [Value.oneCell']) (by exact sz27) hB6 (by rfl) ?_
          intro w18 hP18
          have hX := hX.put hP18 (by rw [hN6.g_eq]; exact hXs6)
          have hB3 := hP18.keep hB3 (by omega)
          have hB6 := hP18.blk
          have hB11 := hB11.one hP18.one (by decide)
          have hlw := hlw.mod (hP18.mod 0 (Nat.zero_le _)) (Nat.zero_le _) (by decide)
          have hlx := hlx.mod (hP18.mod 0 (Nat.zero_le _)) (Nat.zero_le _) (by decide)
          have hB12 := hP18.keep hB12 (by omega)
          have hSr9 := hSr9.put hP18 ⟨.inl rfl, by decide⟩
          have hly := hly.mod (hP18.mod 0 (Nat.zero_le _)) (Nat.zero_le _) (by decide)
          have hl9 := hl9.mod (hP18.mod 0 (Nat.zero_le _)) (Nat.zero_le _) (by decide)
          refine hop_end hQ8 ⟨hSr9, ?_⟩
          refine h_take 9 rfl (by kernel_rfl) (by kernel_rfl) (by kernel_rfl) hSr9 (fun wS hSS => by ( exact (x_assign (by conv => lhs; whnf)))) ?_
          refine h_done (by kernel_rfl) ?_
          refine t_n ?_
          refine c_ret ?_
          refine end2c rfl ua27 rfl (by conv => lhs; whnf) hB6 (by exact sz27) ?_
          first
            | exact ⟨⟨_, by rw [hp], by rw [hp]; exact ⟨p, n, c, lf, rfl, hl.ext hX, hlf⟩⟩, hX⟩
            | exact ⟨⟨_, by rw [hp], by rw [hp]; exact ⟨p9, n9, c9, lf9, rfl, hl9, hlf9⟩⟩, hX⟩
        · skip
          have hXs12 := hX.size
          have hltc12 := hB6.lt
          have hltb12 := hB3.lt
          have h12 := hSr8.size
          refine o_alloc zr27 ?_
          intro w19 g12 hN12
          have hE19 := hN12.ext
          have hX := hX.ext hE19
          have hB3 := hB3.ext hE19
          have hB6 := hB6.ext hE19
          have hB11 := hB11.ext hE19
          have hSr8 := hSr8.ext hE19
          have hlw := hlw.ext hE19
          have hB12 := hN12.blk
          refine hop_end hQ10 ⟨hSr8, ?_⟩
          refine h_one 9 _ rfl (by kernel_rfl) (hop_of_list (fun Q9 hQ9 => ?_))
          refine o_call Try.func56 fn56 fb56 (ref_with (D.most : Int) (D.steps : Int) lf (decide (0 ≤ D.left)) D.done D.down (insA D.l old none) pw nw cw _ hlw (by have := hlw.len; omega) now (f.1.take f.2) (f.1.drop f.2)) rfl ?_
          rintro v20 w20 ⟨⟨px, nx, cx, rfl, hlx⟩, hE20⟩
          have hX := hX.ext hE20
          have hB3 := hB3.ext hE20
          have hB6 := hB6.ext hE20
          have hB11 := hB11.ext hE20
          have hSr8 := hSr8.ext hE20
          have hlw := hlw.ext hE20
          have hB12 := hB12.ext hE20
          refine hop_end hQ9 ⟨hSr8, ?_⟩
          refine h_one 11 _ rfl (by kernel_rfl) (hop_of_list (fun Q11 hQ11 => ?_))
          have hg12 := hN12.g_eq
          refine o_storeAll rfl (by conv => lhs; whnf) (by simp [Value.oneCell']) (by exact sz27) hB12 (by rfl) ?_
          intro w21 hP21
          have hX := hX.put hP21 (by rw [hN12.g_eq]; exact hXs12)
          have hB3 := hP21.keep hB3 (by omega)
          have hB6 := hP21.keep hB6 (by omega)
          have hB11 := hB11.one hP21.one (by decide)
          have hSr8 := hSr8.put hP21 (by rw [hN12.g_eq]; exact h12)
          have hlw := hlw.mod (hP21.mod 0 (Nat.zero_le _)) (Nat.zero_le _) (by decide)
          have hB12 := hP21.blk
          have hlx := hlx.mod (hP21.mod 0 (Nat.zero_le _)) (Nat.zero_le _) (by decide)
          refine hop_end hQ11 ⟨hSr8, ?_⟩
          refine h_done (by kernel_rfl) ?_
          refine t_n ?_
          refine c_seq ?_
          refine r_held (fun w1 w2 => ModS (fun j => j = g6) [27] w1 w2) mixed ?_
          intro w22 hE22
          have hX := hX.ext hE22
          have hB3 := hB3.ext hE22
          have hB6 := hB6.ext hE22
          have hB11 := hB11.ext hE22
          have hlw := hlw.ext hE22
          have hB12 := hB12.ext hE22
          have hlx := hlx.ext hE22
          have hSr9 : (fun w1 w2 => ModS (fun j => j = g6) [27] w1 w2) w22 w22 := ModS.refl _ _ _
          refine h_take 0 rfl (by kernel_rfl) (by kernel_rfl) (by kernel_rfl) hSr9 (fun wS hSS => by (have hB3 := hB3.modS hSS (.inl (by omega)); have hB12 := hB12.modS hSS (.inl (by omega)); exact (x_loadB ua27 rfl hB3 (by exact sz27)))) ?_
          refine h_take 1 rfl (by kernel_rfl) (by kernel_rfl) (by kernel_rfl) hSr9 (fun wS hSS => by (have hB3 := hB3.modS hSS (.inl (by omega)); have hB12 := hB12.modS hSS (.inl (by omega)); exact (x_loadB ua27 rfl hB12 (by exact sz27)))) ?_
          refine h_take 2 rfl (by kernel_rfl) (by kernel_rfl) (by kernel_rfl) hSr9 (fun wS hSS => by (have hB3 := hB3.modS hSS (.inl (by omega)); have hB12 := hB12.modS hSS (.inl (by omega)); exact (x_loadB ua27 rfl hB3 (by exact sz27)))) ?_
          refine h_take 3 rfl (by kernel_rfl) (by kernel_rfl) (by kernel_rfl) hSr9 (fun wS hSS => by (have hB3 := hB3.modS hSS (.inl (by omega)); have hB12 := hB12.modS hSS (.inl (by omega)); exact (x_loadB ua27 rfl hB12 (by exact sz27)))) ?_
          refine h_one 4 _ rfl (by kernel_rfl) (hop_of_list (fun Q4 hQ4 => ?_))
          refine o_call Try.func58 fn58 fb58 (ref_either2 D (insA (insA D.l old none) now (some (f.1.take f.2 ++ f.1.drop f.2, (f.1.take f.2).length))) p px n c nx cx lf _ (hl.ext hX) hlx) rfl ?_
          rintro v23 w23 ⟨⟨py, ny, cy, rfl, hly⟩, hE23⟩
          have hX := hX.ext hE23
          have hB3 := hB3.ext hE23
          have hB6 := hB6.ext hE23
          have hB11 := hB11.ext hE23
          have hlw := hlw.ext hE23
          have hB12 := hB12.ext hE23
          have hlx := hlx.ext hE23
          have hSr9 := hSr9.ext hE23
          refine hop_end hQ4 ⟨hSr9, ?_⟩
          refine h_one 5 _ rfl (by kernel_rfl) (hop_of_list (fun Q5 hQ5 => ?_))
          refine o_call Try.func57 fn57 fb57 (ref_stepD D (insA (insA D.l old none) now (some (f.1.take f.2 ++ f.1.drop f.2, (f.1.take f.2).length))) true false p px py n c nx cx ny cy lf _ hlx (hly) hlf hok.left hst (by have := hlf.lo; omega)) rfl ?_
          rintro v24 w24 ⟨⟨cs, rfl, p9, n9, c9, lf9, rfl, hl9, hlf9⟩, hE24⟩
          have hX := hX.ext hE24
          have hB3 := hB3.ext hE24
          have hB6 := hB6.ext hE24
          have hB11 := hB11.ext hE24
          have hlw := hlw.ext hE24
          have hB12 := hB12.ext hE24
          have hlx := hlx.ext hE24
          have hSr9 := hSr9.ext hE24
          have hly := hly.ext hE24
          refine hop_end hQ5 ⟨hSr9, ?_⟩
          refine h_take 6 rfl (by kernel_rfl) (by kernel_rfl) (by kernel_rfl) hSr9 (fun wS hSS => by ( exact (x_extract rfl rfl))) ?_
          refine h_take 7 rfl (by kernel_rfl) (by kernel_rfl) (by kernel_rfl) hSr9 (fun wS hSS => by ( exact (x_extract rfl rfl))) ?_
          refine h_one 8 _ rfl (by kernel_rfl) (hop_of_list (fun Q8 hQ8 => ?_))
          refine o_storeAll rfl (by conv => lhs; whnf) (by simp [Value.oneCell']) (by exact sz27) hB6 (by rfl) ?_
          intro w25 hP25
          have hX := hX.put hP25 (by rw [hN6.g_eq]; exact hXs6)
          have hB3 := hP25.keep hB3 (by omega)
          have hB6 := hP25.blk
          have hB11 := hB11.one hP25.one (by decide)
          have hlw := hlw.mod (hP25.mod 0 (Nat.zero_le _)) (Nat.zero_le _) (by decide)
          have hB12 := hP25.keep hB12 (by omega)
          have hlx := hlx.mod (hP25.mod 0 (Nat.zero_le _)) (Nat.zero_le _) (by decide)
          have hSr9 := hSr9.put hP25 ⟨.inl rfl, by decide⟩
          have hly := hly.mod (hP25.mod 0 (Nat.zero_le _)) (Nat.zero_le _) (by decide)
          have hl9 := hl9.mod (hP25.mod 0 (Nat.zero_le _)) (Nat.zero_le _) (by decide)
          refine hop_end hQ8 ⟨hSr9, ?_⟩
          refine h_take 9 rfl (by kernel_rfl) (by kernel_rfl) (by kernel_rfl) hSr9 (fun wS hSS => by ( exact (x_assign (by conv => lhs; whnf)))) ?_
          refine h_done (by kernel_rfl) ?_
          refine t_n ?_
          refine c_ret ?_
          refine end2c rfl ua27 rfl (by conv => lhs; whnf) hB6 (by exact sz27) ?_
          first
            | exact ⟨⟨_, by rw [hp], by rw [hp]; exact ⟨p, n, c, lf, rfl, hl.ext hX, hlf⟩⟩, hX⟩
            | exact ⟨⟨_, by rw [hp], by rw [hp]; exact ⟨p9, n9, c9, lf9, rfl, hl9, hlf9⟩⟩, hX⟩
      · skip
        have hXs12 := hX.size
        have hltc12 := hB6.lt
        have hltb12 := hB3.lt
        have h12 := hSr8.size
        refine o_alloc zr27 ?_
        intro w26 g12 hN12
        have hE26 := hN12.ext
        have hX := hX.ext hE26
        have hB3 := hB3.ext hE26
        have hB6 := hB6.ext hE26
        have hB11 := hB11.ext hE26
        have hSr8 := hSr8.ext hE26
        have hB12 := hN12.blk
        refine hop_end hQ10 ⟨hSr8, ?_⟩
        refine h_one 2 _ rfl (by kernel_rfl) (hop_of_list (fun Q2 hQ2 => ?_))
        refine o_call Try.func59 fn59 fb59 (ref_without (D.most : Int) (D.steps : Int) lf (decide (0 ≤ D.left)) D.done D.down D.l p n c _ (hl.ext hX) (by omega) hok.rise old) rfl ?_
        rintro v27 w27 ⟨⟨pw, nw, cw, rfl, hlw⟩, hE27⟩
        have hX := hX.ext hE27
        have hB3 := hB3.ext hE27
        have hB6 := hB6.ext hE27
        have hB11 := hB11.ext hE27
        have hSr8 := hSr8.ext hE27
        have hB12 := hB12.ext hE27
        refine hop_end hQ2 ⟨hSr8, ?_⟩
        refine h_one 9 _ rfl (by kernel_rfl) (hop_of_list (fun Q9 hQ9 => ?_))
        refine o_call Try.func56 fn56 fb56 (ref_with (D.most : Int) (D.steps : Int) lf (decide (0 ≤ D.left)) D.done D.down (insA D.l old none) pw nw cw _ hlw (by have := hlw.len; omega) now (f.1.take f.2) (f.1.drop f.2)) rfl ?_
        rintro v28 w28 ⟨⟨px, nx, cx, rfl, hlx⟩, hE28⟩
        have hX := hX.ext hE28
        have hB3 := hB3.ext hE28
        have hB6 := hB6.ext hE28
        have hB11 := hB11.ext hE28
        have hSr8 := hSr8.ext hE28
        have hB12 := hB12.ext hE28
        have hlw := hlw.ext hE28
        refine hop_end hQ9 ⟨hSr8, ?_⟩
        refine h_one 11 _ rfl (by kernel_rfl) (hop_of_list (fun Q11 hQ11 => ?_))
        have hg12 := hN12.g_eq
        refine o_storeAll rfl (by conv => lhs; whnf) (by simp [Value.oneCell']) (by exact sz27) hB12 (by rfl) ?_
        intro w29 hP29
        have hX := hX.put hP29 (by rw [hN12.g_eq]; exact hXs12)
        have hB3 := hP29.keep hB3 (by omega)
        have hB6 := hP29.keep hB6 (by omega)
        have hB11 := hB11.one hP29.one (by decide)
        have hSr8 := hSr8.put hP29 (by rw [hN12.g_eq]; exact h12)
        have hB12 := hP29.blk
        have hlw := hlw.mod (hP29.mod 0 (Nat.zero_le _)) (Nat.zero_le _) (by decide)
        have hlx := hlx.mod (hP29.mod 0 (Nat.zero_le _)) (Nat.zero_le _) (by decide)
        refine hop_end hQ11 ⟨hSr8, ?_⟩
        refine h_done (by kernel_rfl) ?_
        refine t_n ?_
        refine c_seq ?_
        refine r_held (fun w1 w2 => ModS (fun j => j = g6) [27] w1 w2) mixed ?_
        intro w30 hE30
        have hX := hX.ext hE30
        have hB3 := hB3.ext hE30
        have hB6 := hB6.ext hE30
        have hB11 := hB11.ext hE30
        have hB12 := hB12.ext hE30
        have hlw := hlw.ext hE30
        have hlx := hlx.ext hE30
        have hSr9 : (fun w1 w2 => ModS (fun j => j = g6) [27] w1 w2) w30 w30 := ModS.refl _ _ _
        refine h_take 0 rfl (by kernel_rfl) (by kernel_rfl) (by kernel_rfl) hSr9 (fun wS hSS => by (have hB3 := hB3.modS hSS (.inl (by omega)); have hB12 := hB12.modS hSS (.inl (by omega)); exact (x_loadB ua27 rfl hB3 (by exact sz27)))) ?_
        refine h_take 1 rfl (by kernel_rfl) (by kernel_rfl) (by kernel_rfl) hSr9 (fun wS hSS => by (have hB3 := hB3.modS hSS (.inl (by omega)); have hB12 := hB12.modS hSS (.inl (by omega)); exact (x_loadB ua27 rfl hB12 (by exact sz27)))) ?_
        refine h_take 2 rfl (by kernel_rfl) (by kernel_rfl) (by kernel_rfl) hSr9 (fun wS hSS => by (have hB3 := hB3.modS hSS (.inl (by omega)); have hB12 := hB12.modS hSS (.inl (by omega)); exact (x_loadB ua27 rfl hB3 (by exact sz27)))) ?_
        refine h_take 3 rfl (by kernel_rfl) (by kernel_rfl) (by kernel_rfl) hSr9 (fun wS hSS => by (have hB3 := hB3.modS hSS (.inl (by omega)); have hB12 := hB12.modS hSS (.inl (by omega)); exact (x_loadB ua27 rfl hB12 (by exact sz27)))) ?_
        refine h_one 4 _ rfl (by kernel_rfl) (hop_of_list (fun Q4 hQ4 => ?_))
        refine o_call Try.func58 fn58 fb58 (ref_either2 D (insA (insA D.l old none) now (some (f.1.take f.2 ++ f.1.drop f.2, (f.1.take f.2).length))) p px n c nx cx lf _ (hl.ext hX) hlx) rfl ?_
        rintro v31 w31 ⟨⟨py, ny, cy, rfl, hly⟩, hE31⟩
        have hX := hX.ext hE31
        have hB3 := hB3.ext hE31
        have hB6 := hB6.ext hE31
        have hB11 := hB11.ext hE31
        have hB12 := hB12.ext hE31
        have hlw := hlw.ext hE31
        have hlx := hlx.ext hE31
        have hSr9 := hSr9.ext hE31
        refine hop_end hQ4 ⟨hSr9, ?_⟩
        refine h_one 5 _ rfl (by kernel_rfl) (hop_of_list (fun Q5 hQ5 => ?_))
        refine o_call Try.func57 fn57 fb57 (ref_stepD D (insA (insA D.l old none) now (some (f.1.take f.2 ++ f.1.drop f.2, (f.1.take f.2).length))) true false p px py n c nx cx ny cy lf _ hlx (hly) hlf hok.left hst (by have := hlf.lo; omega)) rfl ?_
        rintro v32 w32 ⟨⟨cs, rfl, p9, n9, c9, lf9, rfl, hl9, hlf9⟩, hE32⟩
        have hX := hX.ext hE32
        have hB3 := hB3.ext hE32
        have hB6 := hB6.ext hE32
        have hB11 := hB11.ext hE32
        have hB12 := hB12.ext hE32
        have hlw := hlw.ext hE32
        have hlx := hlx.ext hE32
        have hSr9 := hSr9.ext hE32
        have hly := hly.ext hE32
        refine hop_end hQ5 ⟨hSr9, ?_⟩
        refine h_take 6 rfl (by kernel_rfl) (by kernel_rfl) (by kernel_rfl) hSr9 (fun wS hSS => by ( exact (x_extract rfl rfl))) ?_
        refine h_take 7 rfl (by kernel_rfl) (by kernel_rfl) (by kernel_rfl) hSr9 (fun wS hSS => by ( exact (x_extract rfl rfl))) ?_
        refine h_one 8 _ rfl (by kernel_rfl) (hop_of_list (fun Q8 hQ8 => ?_))
        refine o_storeAll rfl (by conv => lhs; whnf) (by simp [Value.oneCell']) (by exact sz27) hB6 (by rfl) ?_
        intro w33 hP33
        have hX := hX.put hP33 (by rw [hN6.g_eq]; exact hXs6)
        have hB3 := hP33.keep hB3 (by omega)
        have hB6 := hP33.blk
        have hB11 := hB11.one hP33.one (by decide)
        have hB12 := hP33.keep hB12 (by omega)
        have hlw := hlw.mod (hP33.mod 0 (Nat.zero_le _)) (Nat.zero_le _) (by decide)
        have hlx := hlx.mod (hP33.mod 0 (Nat.zero_le _)) (Nat.zero_le _) (by decide)
        have hSr9 := hSr9.put hP33 ⟨.inl rfl, by decide⟩
        have hly := hly.mod (hP33.mod 0 (Nat.zero_le _)) (Nat.zero_le _) (by decide)
        have hl9 := hl9.mod (hP33.mod 0 (Nat.zero_le _)) (Nat.zero_le _) (by decide)
        refine hop_end hQ8 ⟨hSr9, ?_⟩
        refine h_take 9 rfl (by kernel_rfl) (by kernel_rfl) (by kernel_rfl) hSr9 (fun wS hSS => by ( exact (x_assign (by conv => lhs; whnf)))) ?_
        refine h_done (by kernel_rfl) ?_
        refine t_n ?_
        refine c_ret ?_
        refine end2c rfl ua27 rfl (by conv => lhs; whnf) hB6 (by exact sz27) ?_
        first
          | exact ⟨⟨_, by rw [hp], by rw [hp]; exact ⟨p, n, c, lf, rfl, hl.ext hX, hlf⟩⟩, hX⟩
          | exact ⟨⟨_, by rw [hp], by rw [hp]; exact ⟨p9, n9, c9, lf9, rfl, hl9, hlf9⟩⟩, hX⟩
theorem ref_Cut (D : DS) (p : Option Addr) (n c : Nat) (lf : Int) (w : World) (hl : Sl kFl 81 0 w p n c D.l) (hlf : LfOk D lf) (hok : DOk D) (hst : D.steps < 4611686018427387904) (k : ByteArray) (hks : k.size ≤ 9223372036854775807) (m : Int) (hm1 : -9223372036854775808 ≤ m) (hm2 : m ≤ 9223372036854775807) :
    Ret Try.prog 40 [.agg #[.int .i64 (D.most : Int), .slice p n c, .int .i64 (D.steps : Int), .bool (decide (0 ≤ D.left)), .int .i64 lf, .bool D.done, .bool D.down], .string k, .int .i64 m] w (fun v w' => (∃ cs, v = .tuple #[.agg cs, .int .i64 (cutD D k m).2] ∧ RefV w' cs (cutD D k m).1) ∧ Ext w w') := by
  have hX := Ext.refl w
  refine enter 69 _ Try.func40 rfl rfl (Nat.le_of_ble_eq_true rfl) rfl ?_
  refine c_seq ?_
  refine r_plain ?_
  have hXs3 := hX.size
  refine o_boxA (by conv => lhs; whnf) ?_
  intro w1 g3 hN3
  have hE1 := hN3.ext
  have hX := hX.ext hE1
  have hB3 := hN3.blk
  have hXs6 := hX.size
  have hlt3 := hB3.lt
  refine o_alloc zr27 ?_
  intro w2 g6 hN6
  have hE2 := hN6.ext
  have hX := hX.ext hE2
  have hB3 := hB3.ext hE2
  have hB6 := hN6.blk
  refine p1 (x_assign (by conv => lhs; whnf)) ?_
  refine r_nil ?_
  refine t_n ?_
  refine c_seq ?_
  have hg6 := hN6.g_eq
  have hlen := hl.len
  have hcap := hl.cap
  have hple := plc_leA D.l k
  have hfew := hok.few
  have hroom := hok.room
  have hmost := hok.most
  refine r_plain ?_
  refine p1 (x_loadB ua27 rfl hB3 (by exact sz27)) ?_
  refine p1 (x_move (by conv => lhs; whnf)) ?_
  refine o_buildSlice u51 inf9 rfl (by decide) (fun base hb => fill_one (by rfl) base hb) ?_
  intro w3 g15 hN15
  have hE3 := hN15.ext
  have hX := hX.ext hE3
  have hB3 := hB3.ext hE3
  have hB6 := hB6.ext hE3
  have hS15 : Sl kStr 9 0 w3 (some ⟨g15, 0, none⟩) 1 1 [k] := (own_lit (B0 := 0) [k] hN15 (Nat.zero_le _) (by simp)).sl
  refine o_call Try.func44 fn44 fb44 (ref_first (D.most : Int) (D.steps : Int) lf (decide (0 ≤ D.left)) D.done D.down p n c D rfl [k] 0 _ _ _ _ hS15 (by intro s hs'; simp only [List.mem_singleton] at hs'; subst hs'; exact hks)) rfl ?_
  rintro v4 w4 ⟨rfl, hE4⟩
  have hX := hX.ext hE4
  have hB3 := hB3.ext hE4
  have hB6 := hB6.ext hE4
  have hS15 := hS15.ext hE4
  refine p1 (x_assign (by conv => lhs; whnf)) ?_
  refine r_nil ?_
  refine t_n ?_
  refine c_seq ?_
  refine r_plain ?_
  refine p1 (x_loadB ua27 rfl hB3 (by exact sz27)) ?_
  refine p1 (x_move (by conv => lhs; whnf)) ?_
  refine o_call Try.func45 fn45 fb45 (ref_place (D.most : Int) (D.steps : Int) lf (decide (0 ≤ D.left)) D.done D.down D.l p n c _ (hl.ext hX) k (by omega)) rfl ?_
  rintro v5 w5 ⟨rfl, hE5⟩
  have hX := hX.ext hE5
  have hB3 := hB3.ext hE5
  have hB6 := hB6.ext hE5
  refine p1 (x_move (by conv => lhs; whnf)) ?_
  refine p1 (x_extract rfl rfl) ?_
  refine p1 (x_extract rfl rfl) ?_
  refine p1 (x_assign (by conv => lhs; whnf)) ?_
  refine p1 (x_assign (by conv => lhs; whnf)) ?_
  refine r_nil ?_
  refine t_n ?_
  refine c_seq ?_
  refine c_block ?_
  refine c_seq ?_
  refine r_plain ?_
  refine p1 (x_move (by conv => lhs; whnf)) ?_
  refine p1 (x_neq rfl rfl) ?_
  refine p1 (x_assign (by conv => lhs; whnf)) ?_
  refine r_nil ?_
  refine t_n ?_
  first | refine c_dec rfl (fun hc23 => ?_) (fun hc23 => ?_) | refine c_if rfl (fun hc23 => ?_) (fun hc23 => ?_)
  · try simp only [decide_eq_true_eq, decide_eq_false_iff_not, Bool.not_eq_true, Bool.not_eq_false, Bool.not_eq_eq_eq_not, Bool.not_true, Bool.not_false, Int.not_lt, Int.not_le] at hc23
    have hp : cutD D k m = (D, lookD D [k]) := if_pos hc23
    refine c_seq ?_
    refine r_plain ?_
    refine p1 (x_loadB ua27 rfl hB3 (by exact sz27)) ?_
    refine p1 (x_move (by conv => lhs; whnf)) ?_
    refine o_storeAll rfl (by conv => lhs; whnf) (by simp [Value.oneCell']) (by exact sz27) hB6 (by rfl) ?_
    intro w6 hP6
    have hX := hX.put hP6 (by rw [hN6.g_eq]; exact hXs6)
    have hB3 := hP6.keep hB3 (by omega)
    have hB6 := hP6.blk
    refine p1 (x_assign (by conv => lhs; whnf)) ?_
    refine r_nil ?_
    refine t_n ?_
    refine c_ret ?_
    refine b_r ?_
    refine t_r ?_
    refine end2c rfl ua27 rfl (by conv => lhs; whnf) hB6 (by exact sz27) ?_
    first
      | exact ⟨⟨_, by rw [hp], by rw [hp]; exact ⟨p, n, c, lf, rfl, hl.ext hX, hlf⟩⟩, hX⟩
      | exact ⟨⟨_, by rw [hp], by rw [hp]; exact ⟨p9, n9, c9, lf9, rfl, hl9, hlf9⟩⟩, hX⟩
  · try simp only [decide_eq_true_eq, decide_eq_false_iff_not, Bool.not_eq_true, Bool.not_eq_false, Bool.not_eq_eq_eq_not, Bool.not_true, Bool.not_false, Int.not_lt, Int.not_le] at hc23
    refine c_seq ?_
    refine r_plain ?_
    refine p1 (x_move (by conv => lhs; whnf)) ?_
    first | refine p1 (x_notd rfl) ?_ | refine p1 (x_not rfl) ?_
    refine p1 (x_assign (by conv => lhs; whnf)) ?_
    refine r_nil ?_
    refine t_n ?_
    first | refine c_dec rfl (fun hc28 => ?_) (fun hc28 => ?_) | refine c_if rfl (fun hc28 => ?_) (fun hc28 => ?_)
    · try simp only [decide_eq_true_eq, decide_eq_false_iff_not, Bool.not_eq_true, Bool.not_eq_false, Bool.not_eq_eq_eq_not, Bool.not_true, Bool.not_false, Int.not_lt, Int.not_le] at hc28
      have hnat : ¬ isAtA D.l (plcA D.l k) k := by simpa using hc28
      have hnf := file_not hok hnat
      have hp : cutD D k m = (D, 22) := by unfold cutD; rw [if_neg hc23, if_pos hnf]
      refine c_seq ?_
      refine r_plain ?_
      refine p1 (x_loadB ua27 rfl hB3 (by exact sz27)) ?_
      refine o_storeAll rfl (by conv => lhs; whnf) (by simp [Value.oneCell']) (by exact sz27) hB6 (by rfl) ?_
      intro w7 hP7
      have hX := hX.put hP7 (by rw [hN6.g_eq]; exact hXs6)
      have hB3 := hP7.keep hB3 (by omega)
      have hB6 := hP7.blk
      refine p1 (x_assign (by conv => lhs; whnf)) ?_
      refine r_nil ?_
      refine t_n ?_
      refine c_ret ?_
      refine b_r ?_
      refine t_r ?_
      refine end2c rfl ua27 rfl (by conv => lhs; whnf) hB6 (by exact sz27) ?_
      first
        | exact ⟨⟨_, by rw [hp], by rw [hp]; exact ⟨p, n, c, lf, rfl, hl.ext hX, hlf⟩⟩, hX⟩
        | exact ⟨⟨_, by rw [hp], by rw [hp]; exact ⟨p9, n9, c9, lf9, rfl, hl9, hlf9⟩⟩, hX⟩
    · try simp only [decide_eq_true_eq, decide_eq_false_iff_not, Bool.not_eq_true, Bool.not_eq_false, Bool.not_eq_eq_eq_not, Bool.not_true, Bool.not_false, Int.not_lt, Int.not_le] at hc28
      have hat : isAtA D.l (plcA D.l k) k := by simpa using hc28
      obtain ⟨f, hf, hfa, hfu, hfs, hgf⟩ := file_at hok hat
      have hfr : ∀ wz, Ext w wz → wz.rangeAt (ab p) (ao p + plcA D.l k * 3) [.string k, .string (toStr (f.1.take f.2)), .string (toStr (f.1.drop f.2))] := fun wz hz => by have := (hl.ext hz).flRange (plcA D.l k) (by have := (hat).1; omega); rw [hfa] at this; exact this
      have hplt : plcA D.l k < n := by have := (hat).1; omega
      have hne : ¬ ascF D.l k = none := by rw [hf]; simp
      have hzs := toStr_size f.1
      refine c_skip ?_
      refine b_n ?_
      refine t_n ?_
      refine c_seq ?_
      refine r_still mixed (by kernel_rfl) ?_
      intro w8 hE8
      have hX := hX.ext hE8
      have hB3 := hB3.ext hE8
      have hB6 := hB6.ext hE8
      refine s1 (x_fieldAddr fo27_1 sz25 rfl) ?_
      refine s1 (x_load1 un25 rfl (hB3.cell (rfl))) ?_
      refine s1 (x_move (by conv => lhs; whnf)) ?_
      refine s1 (x_ixs u25 sz81 rfl rfl ((hl.ext hX).adr kFl_pos (by omega)) (by omega) (by omega)) ?_
      refine s1 (x_fieldAddr fo81_1 sz9 rfl) ?_
      refine s1 (x_load1 un9 rfl (hfr _ hX 1 _ rfl)) ?_
      refine s1 (x_fieldAddr fo27_1 sz25 rfl) ?_
      refine s1 (x_load1 un25 rfl (hB3.cell (rfl))) ?_
      refine s1 (x_move (by conv => lhs; whnf)) ?_
      refine s1 (x_ixs u25 sz81 rfl rfl ((hl.ext hX).adr kFl_pos (by omega)) (by omega) (by omega)) ?_
      refine s1 (x_fieldAddr fo81_2 sz9 rfl) ?_
      refine s1 (x_load1 un9 rfl (hfr _ hX 2 _ rfl)) ?_
      refine s1 ((x_add_str rfl rfl (by rw [toStr_size, toStr_size, List.length_take, List.length_drop]; omega)).cast (by rw [toStr_append, List.take_append_drop])) ?_
      refine s1 (x_assign (by conv => lhs; whnf)) ?_
      refine s_nil ?_
      refine t_n ?_
      refine c_seq ?_
      refine c_seq ?_
      have hWr8 := Ext.refl w8
      refine c_cut (ι := Unit) [45, 46, 47, 48, 49, 50, 51, 52] (fun _ => [(52, .bool (decide (m < 0 ∨ (f.1.length : Int) < m)))]) (fun _ w' => Ext w8 w') ?_ ?_
      · skip
        refine r_plain ?_
        refine p1 (x_move (by conv => lhs; whnf)) ?_
        refine p1 (x_lss rfl rfl) ?_
        refine p1b (x_move (by conv => lhs; whnf)) (fun hb8_2 => ?_) (fun hb8_2 => ?_)
        · try simp only [decide_eq_true_eq, decide_eq_false_iff_not, Bool.not_eq_true, Bool.not_eq_false, Bool.not_eq_eq_eq_not, Bool.not_true, Bool.not_false, Int.not_lt, Int.not_le] at hb8_2
          refine g0 47 rfl (by first | exact .inl rfl | exact .inr rfl) ?_
          refine g0 47 rfl (by first | exact .inl rfl | exact .inr rfl) ?_
          refine g0 47 rfl (by first | exact .inl rfl | exact .inr rfl) ?_
          refine g0 47 rfl (by first | exact .inl rfl | exact .inr rfl) ?_
          refine p1 (x_pick_t rfl (by conv => lhs; whnf)) ?_
          refine r_nil ?_
          refine t_n (At.mk () (by repeat (first | exact Agr.refl _ _ | exact Agr.hav _ _ _ | refine Agr.upd rfl ?_ | refine Agr.updR rfl ?_ | refine Agr.updL ?_ _ rfl | refine Agr.hav' rfl ?_)) ⟨congrArg Value.bool (by first | rfl | exact (decide_eq_true (by omega)).symm | exact (decide_eq_false (by omega)).symm | exact decide_eq_decide.2 (by omega) | (simp_all; done) | grind), trivial⟩ hWr8)
        · try simp only [decide_eq_true_eq, decide_eq_false_iff_not, Bool.not_eq_true, Bool.not_eq_false, Bool.not_eq_eq_eq_not, Bool.not_true, Bool.not_false, Int.not_lt, Int.not_le] at hb8_2
          refine g1 47 rfl rfl (x_move (by conv => lhs; whnf)) ?_
          refine g1 47 rfl rfl (x_move (by conv => lhs; whnf)) ?_
          refine g1 47 rfl rfl (x_len_str u9 rfl) ?_
          refine g1 47 rfl rfl (x_gtr rfl rfl) ?_
          refine p1 (x_pick_f rfl (by conv => lhs; whnf)) ?_
          refine r_nil ?_
          refine t_n (At.mk () (by repeat (first | exact Agr.refl _ _ | exact Agr.hav _ _ _ | refine Agr.upd rfl ?_ | refine Agr.updR rfl ?_ | refine Agr.updL ?_ _ rfl | refine Agr.hav' rfl ?_)) ⟨congrArg Value.bool (by first | rfl | exact (decide_eq_true (by omega)).symm | exact (decide_eq_false (by omega)).symm | exact decide_eq_decide.2 (by omega) | (simp_all; done) | grind), trivial⟩ hWr8)
      · rintro _ Gr8 w9 hE9
        have hX := hX.ext hE9
        have hB3 := hB3.ext hE9
        have hB6 := hB6.ext hE9
        refine t_n ?_
        first | refine c_dec rfl (fun hc52 => ?_) (fun hc52 => ?_) | refine c_if rfl (fun hc52 => ?_) (fun hc52 => ?_)
        · try simp only [decide_eq_true_eq, decide_eq_false_iff_not, Bool.not_eq_true, Bool.not_eq_false, Bool.not_eq_eq_eq_not, Bool.not_true, Bool.not_false, Int.not_lt, Int.not_le] at hc52
          have hp : cutD D k m = (D, 2) := by unfold cutD; rw [if_neg hc23, if_neg hne, hgf, if_pos hc52]
          refine c_seq ?_
          refine r_plain ?_
          refine p1 (x_loadB ua27 rfl hB3 (by exact sz27)) ?_
          refine o_storeAll rfl (by conv => lhs; whnf) (by simp [Value.oneCell']) (by exact sz27) hB6 (by rfl) ?_
          intro w10 hP10
          have hX := hX.put hP10 (by rw [hN6.g_eq]; exact hXs6)
          have hB3 := hP10.keep hB3 (by omega)
          have hB6 := hP10.blk
          refine p1 (x_assign (by conv => lhs; whnf)) ?_
          refine r_nil ?_
          refine t_n ?_
          refine c_ret ?_
          refine t_r ?_
          refine end2c rfl ua27 rfl (by conv => lhs; whnf) hB6 (by exact sz27) ?_
          first
            | exact ⟨⟨_, by rw [hp], by rw [hp]; exact ⟨p, n, c, lf, rfl, hl.ext hX, hlf⟩⟩, hX⟩
            | exact ⟨⟨_, by rw [hp], by rw [hp]; exact ⟨p9, n9, c9, lf9, rfl, hl9, hlf9⟩⟩, hX⟩
        · try simp only [decide_eq_true_eq, decide_eq_false_iff_not, Bool.not_eq_true, Bool.not_eq_false, Bool.not_eq_eq_eq_not, Bool.not_true, Bool.not_false, Int.not_lt, Int.not_le] at hc52
          have hp : cutD D k m = stepD D (insA D.l k (some (f.1.take m.toNat ++ [], (f.1.take m.toNat).length))) true false := by unfold cutD; rw [if_neg hc23, if_neg hne, hgf, if_neg hc52, List.append_nil, List.length_take, Nat.min_eq_left (by omega)]
          refine c_skip ?_
          refine t_n ?_
          refine c_seq ?_
          refine r_held (fun w1 w2 => Ext w1 w2) mixed ?_
          intro w11 hE11
          have hX := hX.ext hE11
          have hB3 := hB3.ext hE11
          have hB6 := hB6.ext hE11
          have hSr10 : (fun w1 w2 => Ext w1 w2) w11 w11 := Ext.refl w11
          refine h_take 0 rfl (by kernel_rfl) (by kernel_rfl) (by kernel_rfl) hSr10 (fun wS hSS => by (have hX := hX.ext hSS; have hB3 := hB3.ext hSS; have hB6 := hB6.ext hSS; exact (x_loadB ua27 rfl hB3 (by exact sz27)))) ?_
          refine h_take 1 rfl (by kernel_rfl) (by kernel_rfl) (by kernel_rfl) hSr10 (fun wS hSS => by (have hX := hX.ext hSS; have hB3 := hB3.ext hSS; have hB6 := hB6.ext hSS; exact (x_move (by conv => lhs; whnf)))) ?_
          refine h_take 2 rfl (by kernel_rfl) (by kernel_rfl) (by kernel_rfl) hSr10 (fun wS hSS => by (have hX := hX.ext hSS; have hB3 := hB3.ext hSS; have hB6 := hB6.ext hSS; exact (x_move (by conv => lhs; whnf)))) ?_
          refine h_take 3 rfl (by kernel_rfl) (by kernel_rfl) (by kernel_rfl) hSr10 (fun wS hSS => by (have hX := hX.ext hSS; have hB3 := hB3.ext hSS; have hB6 := hB6.ext hSS; exact (x_move (by conv => lhs; whnf)))) ?_
          refine h_take 4 rfl (by kernel_rfl) (by kernel_rfl) (by kernel_rfl) hSr10 (fun wS hSS => by (have hX := hX.ext hSS; have hB3 := hB3.ext hSS; have hB6 := hB6.ext hSS; exact (x_slice_str_h u9 rfl rfl (by omega) (by omega)))) ?_
          refine h_take 5 rfl (by kernel_rfl) (by kernel_rfl) (by kernel_rfl) hSr10 (fun wS hSS => by (have hX := hX.ext hSS; have hB3 := hB3.ext hSS; have hB6 := hB6.ext hSS; exact (x_buildF3 pl81 rfl rfl rfl))) ?_
          refine h_two 6 7 _ _ rfl rfl (by kernel_rfl) (hop_of_list (fun Q6 hQ6 => ?_)) (hop_of_list (fun Q7 hQ7 => ?_))
          · skip
            refine o_call Try.func56 fn56 fb56 (ref_with (D.most : Int) (D.steps : Int) lf (decide (0 ≤ D.left)) D.done D.down D.l p n c _ (hl.ext hX) (by omega) k (f.1.take m.toNat) []) rfl ?_
            rintro v12 w12 ⟨⟨px, nx, cx, rfl, hlx⟩, hE12⟩
            have hX := hX.ext hE12
            have hB3 := hB3.ext hE12
            have hB6 := hB6.ext hE12
            have hSr10 := hSr10.ext hE12
            refine hop_end hQ6 ⟨hSr10, ?_⟩
            refine h_one 7 _ rfl (by kernel_rfl) (hop_of_list (fun Q7 hQ7 => ?_))
            have hXs12 := hX.size
            have hltc12 := hB6.lt
            have hltb12 := hB3.lt
            have h12 := hSr10.size
            refine o_alloc zr27 ?_
            intro w13 g12 hN12
            have hE13 := hN12.ext
            have hX := hX.ext hE13
            have hB3 := hB3.ext hE13
            have hB6 := hB6.ext hE13
            have hSr10 := hSr10.ext hE13
            have hlx := hlx.ext hE13
            have hB12 := hN12.blk
            refine hop_end hQ7 ⟨hSr10, ?_⟩
            refine h_one 8 _ rfl (by kernel_rfl) (hop_of_list (fun Q8 hQ8 => ?_))
            have hg12 := hN12.g_eq
            refine o_storeAll rfl (by conv => lhs; whnf) (by simp [Value.oneCell']) (by exact sz27) hB12 (by rfl) ?_
            intro w14 hP14
            have hX := hX.put hP14 (by rw [hN12.g_eq]; exact hXs12)
            have hB3 := hP14.keep hB3 (by omega)
            have hB6 := hP14.keep hB6 (by omega)
            have hSr10 := hSr10.put hP14 (by rw [hN12.g_eq]; exact h12)
            have hlx := hlx.mod (hP14.mod 0 (Nat.zero_le _)) (Nat.zero_le _) (by decide)
            have hB12 := hP14.blk
            refine hop_end hQ8 ⟨hSr10, ?_⟩
            refine h_done (by kernel_rfl) ?_
            refine t_n ?_
            refine c_seq ?_
            refine r_held (fun w1 w2 => ModS (fun j => j = g6) [27] w1 w2) mixed ?_
            intro w15 hE15
            have hX := hX.ext hE15
            have hB3 := hB3.ext hE15
            have hB6 := hB6.ext hE15
            have hlx := hlx.ext hE15
            have hB12 := hB12.ext hE15
            have hSr11 : (fun w1 w2 => ModS (fun j => j = g6) [27] w1 w2) w15 w15 := ModS.refl _ _ _
            refine h_take 0 rfl (by kernel_rfl) (by kernel_rfl) (by kernel_rfl) hSr11 (fun wS hSS => by (have hB3 := hB3.modS hSS (.inl (by omega)); have hB12 := hB12.modS hSS (.inl (by omega)); exact (x_loadB ua27 rfl hB3 (by exact sz27)))) ?_
            refine h_take 1 rfl (by kernel_rfl) (by kernel_rfl) (by kernel_rfl) hSr11 (fun wS hSS => by (have hB3 := hB3.modS hSS (.inl (by omega)); have hB12 := hB12.modS hSS (.inl (by omega)); exact (x_loadB ua27 rfl hB12 (by exact sz27)))) ?_
            refine h_take 2 rfl (by kernel_rfl) (by kernel_rfl) (by kernel_rfl) hSr11 (fun wS hSS => by (have hB3 := hB3.modS hSS (.inl (by omega)); have hB12 := hB12.modS hSS (.inl (by omega)); exact (x_loadB ua27 rfl hB3 (by exact sz27)))) ?_
            refine h_take 3 rfl (by kernel_rfl) (by kernel_rfl) (by kernel_rfl) hSr11 (fun wS hSS => by (have hB3 := hB3.modS hSS (.inl (by omega)); have hB12 := hB12.modS hSS (.inl (by omega)); exact (x_loadB ua27 rfl hB12 (by exact sz27)))) ?_
            refine h_one 4 _ rfl (by kernel_rfl) (hop_of_list (fun Q4 hQ4 => ?_))
            refine o_call Try.func58 fn58 fb58 (ref_either2 D (insA D.l k (some (f.1.take m.toNat ++ [], (f.1.take m.toNat).length))) p px n c nx cx lf _ (hl.ext hX) hlx) rfl ?_
            rintro v16 w16 ⟨⟨py, ny, cy, rfl, hly⟩, hE16⟩
            have hX := hX.ext hE16
            have hB3 := hB3.ext hE16
            have hB6 := hB6.ext hE16
            have hlx := hlx.ext hE16
            have hB12 := hB12.ext hE16
            have hSr11 := hSr11.ext hE16
            refine hop_end hQ4 ⟨hSr11, ?_⟩
            refine h_one 5 _ rfl (by kernel_rfl) (hop_of_list (fun Q5 hQ5 => ?_))
            refine o_call Try.func57 fn57 fb57 (ref_stepD D (insA D.l k (some (f.1.take m.toNat ++ [], (f.1.take m.toNat).length))) true false p px py n c nx cx ny cy lf _ hlx (hly) hlf hok.left hst (by have := hlf.lo; omega)) rfl ?_
            rintro v17 w17 ⟨⟨cs, rfl, p9, n9, c9, lf9, rfl, hl9, hlf9⟩, hE17⟩
            have hX := hX.ext hE17
            have hB3 := hB3.ext hE17
            have hB6 := hB6.ext hE17
            have hlx := hlx.ext hE17
            have hB12 := hB12.ext hE17
            have hSr11 := hSr11.ext hE17
            have hly := hly.ext hE17
            refine hop_end hQ5 ⟨hSr11, ?_⟩
            refine h_take 6 rfl (by kernel_rfl) (by kernel_rfl) (by kernel_rfl) hSr11 (fun wS hSS => by ( exact (x_extract rfl rfl))) ?_
            refine h_take 7 rfl (by kernel_rfl) (by kernel_rfl) (by kernel_rfl) hSr11 (fun wS hSS => by ( exact (x_extract rfl rfl))) ?_
            refine h_one 8 _ rfl (by kernel_rfl) (hop_of_list (fun Q8 hQ8 => ?_))
            refine o_storeAll rfl (by conv => lhs; whnf) (by simp [Value.oneCell']) (by exact sz27) hB6 (by rfl) ?_
            intro w18 hP18
            have hX := hX.put hP18 (by rw [hN6.g_eq]; exact hXs6)
            have hB3 := hP18.keep hB3 (by omega)
            have hB6 := hP18.blk
            have hlx := hlx.mod (hP18.mod 0 (Nat.zero_le _)) (Nat.zero_le _) (by decide)
            have hB12 := hP18.keep hB12 (by omega)
            have hSr11 := hSr11.put hP18 ⟨.inl rfl, by decide⟩
            have hly := hly.mod (hP18.mod 0 (Nat.zero_le _)) (Nat.zero_le _) (by decide)
            have hl9 := hl9.mod (hP18.mod 0 (Nat.zero_le _)) (Nat.zero_le _) (by decide)
            refine hop_end hQ8 ⟨hSr11, ?_⟩
            refine h_take 9 rfl (by kernel_rfl) (by kernel_rfl) (by kernel_rfl) hSr11 (fun wS hSS => by ( exact (x_assign (by conv => lhs; whnf)))) ?_
            refine h_done (by kernel_rfl) ?_
            refine t_n ?_
            refine c_ret ?_
            refine end2c rfl ua27 rfl (by conv => lhs; whnf) hB6 (by exact sz27) ?_
            first
              | exact ⟨⟨_, by rw [hp], by rw [hp]; exact ⟨p, n, c, lf, rfl, hl.ext hX, hlf⟩⟩, hX⟩
              | exact ⟨⟨_, by rw [hp], by rw [hp]; exact ⟨p9, n9, c9, lf9, rfl, hl9, hlf9⟩⟩, hX⟩
          · skip
            have hXs12 := hX.size
            have hltc12 := hB6.lt
            have hltb12 := hB3.lt
            have h12 := hSr10.size
            refine o_alloc zr27 ?_
            intro w19 g12 hN12
            have hE19 := hN12.ext
            have hX := hX.ext hE19
            have hB3 := hB3.ext hE19
            have hB6 := hB6.ext hE19
            have hSr10 := hSr10.ext hE19
            have hB12 := hN12.blk
            refine hop_end hQ7 ⟨hSr10, ?_⟩
            refine h_one 6 _ rfl (by kernel_rfl) (hop_of_list (fun Q6 hQ6 => ?_))
            refine o_call Try.func56 fn56 fb56 (ref_with (D.most : Int) (D.steps : Int) lf (decide (0 ≤ D.left)) D.done D.down D.l p n c _ (hl.ext hX) (by omega) k (f.1.take m.toNat) []) rfl ?_
            rintro v20 w20 ⟨⟨px, nx, cx, rfl, hlx⟩, hE20⟩
            have hX := hX.ext hE20
            have hB3 := hB3.ext hE20
            have hB6 := hB6.ext hE20
            have hSr10 := hSr10.ext hE20
            have hB12 := hB12.ext hE20
            refine hop_end hQ6 ⟨hSr10, ?_⟩
            refine h_one 8 _ rfl (by kernel_rfl) (hop_of_list (fun Q8 hQ8 => ?_))
            have hg12 := hN12.g_eq
            refine o_storeAll rfl (by conv => lhs; whnf) (by simp [Value.oneCell']) (by exact sz27) hB12 (by rfl) ?_
            intro w21 hP21
            have hX := hX.put hP21 (by rw [hN12.g_eq]; exact hXs12)
            have hB3 := hP21.keep hB3 (by omega)
            have hB6 := hP21.keep hB6 (by omega)
            have hSr10 := hSr10.put hP21 (by rw [hN12.g_eq]; exact h12)
            have hB12 := hP21.blk
            have hlx := hlx.mod (hP21.mod 0 (Nat.zero_le _)) (Nat.zero_le _) (by decide)
            refine hop_end hQ8 ⟨hSr10, ?_⟩
            refine h_done (by kernel_rfl) ?_
            refine t_n ?_
            refine c_seq ?_
            refine r_held (fun w1 w2 => ModS (fun j => j = g6) [27] w1 w2) mixed ?_
            intro w22 hE22
            have hX := hX.ext hE22
            have hB3 := hB3.ext hE22
            have hB6 := hB6.ext hE22
            have hB12 := hB12.ext hE22
            have hlx := hlx.ext hE22
            have hSr11 : (fun w1 w2 => ModS (fun j => j = g6) [27] w1 w2) w22 w22 := ModS.refl _ _ _
            refine h_take 0 rfl (by kernel_rfl) (by kernel_rfl) (by kernel_rfl) hSr11 (fun wS hSS => by (have hB3 := hB3.modS hSS (.inl (by omega)); have hB12 := hB12.modS hSS (.inl (by omega)); exact (x_loadB ua27 rfl hB3 (by exact sz27)))) ?_
            refine h_take 1 rfl (by kernel_rfl) (by kernel_rfl) (by kernel_rfl) hSr11 (fun wS hSS => by (have hB3 := hB3.modS hSS (.inl (by omega)); have hB12 := hB12.modS hSS (.inl (by omega)); exact (x_loadB ua27 rfl hB12 (by exact sz27)))) ?_
            refine h_take 2 rfl (by kernel_rfl) (by kernel_rfl) (by kernel_rfl) hSr11 (fun wS hSS => by (have hB3 := hB3.modS hSS (.inl (by omega)); have hB12 := hB12.modS hSS (.inl (by omega)); exact (x_loadB ua27 rfl hB3 (by exact sz27)))) ?_
            refine h_take 3 rfl (by kernel_rfl) (by kernel_rfl) (by kernel_rfl) hSr11 (fun wS hSS => by (have hB3 := hB3.modS hSS (.inl (by omega)); have hB12 := hB12.modS hSS (.inl (by omega)); exact (x_loadB ua27 rfl hB12 (by exact sz27)))) ?_
            refine h_one 4 _ rfl (by kernel_rfl) (hop_of_list (fun Q4 hQ4 => ?_))
            refine o_call Try.func58 fn58 fb58 (ref_either2 D (insA D.l k (some (f.1.take m.toNat ++ [], (f.1.take m.toNat).length))) p px n c nx cx lf _ (hl.ext hX) hlx) rfl ?_
            rintro v23 w23 ⟨⟨py, ny, cy, rfl, hly⟩, hE23⟩
            have hX := hX.ext hE23
            have hB3 := hB3.ext hE23
            have hB6 := hB6.ext hE23
            have hB12 := hB12.ext hE23
            have hlx := hlx.ext hE23
            have hSr11 := hSr11.ext hE23
            refine hop_end hQ4 ⟨hSr11, ?_⟩
            refine h_one 5 _ rfl (by kernel_rfl) (hop_of_list (fun Q5 hQ5 => ?_))
            refine o_call Try.func57 fn57 fb57 (ref_stepD D (insA D.l k (some (f.1.take m.toNat ++ [], (f.1.take m.toNat).length))) true false p px py n c nx cx ny cy lf _ hlx (hly) hlf hok.left hst (by have := hlf.lo; omega)) rfl ?_
            rintro v24 w24 ⟨⟨cs, rfl, p9, n9, c9, lf9, rfl, hl9, hlf9⟩, hE24⟩
            have hX := hX.ext hE24
            have hB3 := hB3.ext hE24
            have hB6 := hB6.ext hE24
            have hB12 := hB12.ext hE24
            have hlx := hlx.ext hE24
            have hSr11 := hSr11.ext hE24
            have hly := hly.ext hE24
            refine hop_end hQ5 ⟨hSr11, ?_⟩
            refine h_take 6 rfl (by kernel_rfl) (by kernel_rfl) (by kernel_rfl) hSr11 (fun wS hSS => by ( exact (x_extract rfl rfl))) ?_
            refine h_take 7 rfl (by kernel_rfl) (by kernel_rfl) (by kernel_rfl) hSr11 (fun wS hSS => by ( exact (x_extract rfl rfl))) ?_
            refine h_one 8 _ rfl (by kernel_rfl) (hop_of_list (fun Q8 hQ8 => ?_))
            refine o_storeAll rfl (by conv => lhs; whnf) (by simp [Value.oneCell']) (by exact sz27) hB6 (by rfl) ?_
            intro w25 hP25
            have hX := hX.put hP25 (by rw [hN6.g_eq]; exact hXs6)
            have hB3 := hP25.keep hB3 (by omega)
            have hB6 := hP25.blk
            have hB12 := hP25.keep hB12 (by omega)
            have hlx := hlx.mod (hP25.mod 0 (Nat.zero_le _)) (Nat.zero_le _) (by decide)
            have hSr11 := hSr11.put hP25 ⟨.inl rfl, by decide⟩
            have hly := hly.mod (hP25.mod 0 (Nat.zero_le _)) (Nat.zero_le _) (by decide)
            have hl9 := hl9.mod (hP25.mod 0 (Nat.zero_le _)) (Nat.zero_le _) (by decide)
            refine hop_end hQ8 ⟨hSr11, ?_⟩
            refine h_take 9 rfl (by kernel_rfl) (by kernel_rfl) (by kernel_rfl) hSr11 (fun wS hSS => by ( exact (x_assign (by conv => lhs; whnf)))) ?_
            refine h_done (by kernel_rfl) ?_
            refine t_n ?_
            refine c_ret ?_
            refine end2c rfl ua27 rfl (by conv => lhs; whnf) hB6 (by exact sz27) ?_
            first
              | exact ⟨⟨_, by rw [hp], by rw [hp]; exact ⟨p, n, c, lf, rfl, hl.ext hX, hlf⟩⟩, hX⟩
              | exact ⟨⟨_, by rw [hp], by rw [hp]; exact ⟨p9, n9, c9, lf9, rfl, hl9, hlf9⟩⟩, hX⟩
theorem ref_Fail (D : DS) (p : Option Addr) (n c : Nat) (lf : Int) (w : World) (hl : Sl kFl 81 0 w p n c D.l) (hlf : LfOk D lf) (hok : DOk D) (hst : D.steps < 4611686018427387904) (m : Int) (hm1 : -9223372036854775808 ≤ m) (hm2 : m ≤ 9223372036854775807) (dn : Bool) :
    Ret Try.prog 39 [.agg #[.int .i64 (D.most : Int), .slice p n c, .int .i64 (D.steps : Int), .bool (decide (0 ≤ D.left)), .int .i64 lf, .bool D.done, .bool D.down], .int .i64 m, .bool dn] w (fun v w' => (∃ cs, v = .tuple #[.agg cs, .int .i64 (failD D m dn).2] ∧ RefV w' cs (failD D m dn).1) ∧ Ext w w') := by
  have hX := Ext.refl w
  refine enter 20 _ Try.func39 rfl rfl (Nat.le_of_ble_eq_true rfl) rfl ?_
  refine c_seq ?_
  refine r_plain ?_
  have hXs3 := hX.size
  refine o_boxA (by conv => lhs; whnf) ?_
  intro w1 g3 hN3
  have hE1 := hN3.ext
  have hX := hX.ext hE1
  have hB3 := hN3.blk
  have hXs6 := hX.size
  have hlt3 := hB3.lt
  refine o_alloc zr27 ?_
  intro w2 g6 hN6
  have hE2 := hN6.ext
  have hX := hX.ext hE2
  have hB3 := hB3.ext hE2
  have hB6 := hN6.blk
  refine p1 (x_assign (by conv => lhs; whnf)) ?_
  refine r_nil ?_
  refine t_n ?_
  refine c_seq ?_
  refine c_seq ?_
  have hg6 := hN6.g_eq
  refine r_plain ?_
  refine p1 (x_fieldAddr fo27_6 sz4 rfl) ?_
  refine p1 (x_load1 un4 rfl (hB3.cell (rfl))) ?_
  refine r_nil ?_
  refine t_n ?_
  first | refine c_dec rfl (fun hc9 => ?_) (fun hc9 => ?_) | refine c_if rfl (fun hc9 => ?_) (fun hc9 => ?_)
  · try simp only [decide_eq_true_eq, decide_eq_false_iff_not, Bool.not_eq_true, Bool.not_eq_false, Bool.not_eq_eq_eq_not, Bool.not_true, Bool.not_false, Int.not_lt, Int.not_le] at hc9
    have hp : failD D m dn = (D, 20) := if_pos hc9
    refine c_seq ?_
    refine r_plain ?_
    refine p1 (x_loadB ua27 rfl hB3 (by exact sz27)) ?_
    refine o_storeAll rfl (by conv => lhs; whnf) (by simp [Value.oneCell']) (by exact sz27) hB6 (by rfl) ?_
    intro w3 hP3
    have hX := hX.put hP3 (by rw [hN6.g_eq]; exact hXs6)
    have hB3 := hP3.keep hB3 (by omega)
    have hB6 := hP3.blk
    refine p1 (x_assign (by conv => lhs; whnf)) ?_
    refine r_nil ?_
    refine t_n ?_
    refine c_ret ?_
    refine t_r ?_
    refine end2c rfl ua27 rfl (by conv => lhs; whnf) hB6 (by exact sz27) ?_
    first
      | exact ⟨⟨_, by rw [hp], by rw [hp]; exact ⟨p, n, c, lf, rfl, hl.ext hX, hlf⟩⟩, hX⟩
      | exact ⟨⟨_, by rw [hp], by rw [hp]; exact ⟨p, n, c, m, by rw [← harm], hl.ext hX, ⟨fun _ => rfl, by omega, hm2⟩⟩⟩, hX⟩
  · try simp only [decide_eq_true_eq, decide_eq_false_iff_not, Bool.not_eq_true, Bool.not_eq_false, Bool.not_eq_eq_eq_not, Bool.not_true, Bool.not_false, Int.not_lt, Int.not_le] at hc9
    have hnd : ¬ D.down = true := by simpa using hc9
    refine c_skip ?_
    refine t_n ?_
    refine c_seq ?_
    refine c_seq ?_
    refine r_plain ?_
    refine p1 (x_move (by conv => lhs; whnf)) ?_
    refine p1 (x_lss rfl rfl) ?_
    refine r_nil ?_
    refine t_n ?_
    first | refine c_dec rfl (fun hc12 => ?_) (fun hc12 => ?_) | refine c_if rfl (fun hc12 => ?_) (fun hc12 => ?_)
    · try simp only [decide_eq_true_eq, decide_eq_false_iff_not, Bool.not_eq_true, Bool.not_eq_false, Bool.not_eq_eq_eq_not, Bool.not_true, Bool.not_false, Int.not_lt, Int.not_le] at hc12
      have hp : failD D m dn = (D, 2) := by unfold failD; rw [if_neg hnd, if_pos hc12]
      refine c_seq ?_
      refine r_plain ?_
      refine p1 (x_loadB ua27 rfl hB3 (by exact sz27)) ?_
      refine o_storeAll rfl (by conv => lhs; whnf) (by simp [Value.oneCell']) (by exact sz27) hB6 (by rfl) ?_
      intro w4 hP4
      have hX := hX.put hP4 (by rw [hN6.g_eq]; exact hXs6)
      have hB3 := hP4.keep hB3 (by omega)
      have hB6 := hP4.blk
      refine p1 (x_assign (by conv => lhs; whnf)) ?_
      refine r_nil ?_
      refine t_n ?_
      refine c_ret ?_
      refine t_r ?_
      refine end2c rfl ua27 rfl (by conv => lhs; whnf) hB6 (by exact sz27) ?_
      first
        | exact ⟨⟨_, by rw [hp], by rw [hp]; exact ⟨p, n, c, lf, rfl, hl.ext hX, hlf⟩⟩, hX⟩
        | exact ⟨⟨_, by rw [hp], by rw [hp]; exact ⟨p, n, c, m, by rw [← harm], hl.ext hX, ⟨fun _ => rfl, by omega, hm2⟩⟩⟩, hX⟩
    · try simp only [decide_eq_true_eq, decide_eq_false_iff_not, Bool.not_eq_true, Bool.not_eq_false, Bool.not_eq_eq_eq_not, Bool.not_true, Bool.not_false, Int.not_lt, Int.not_le] at hc12
      have hp : failD D m dn = ({ D with left := m, done := dn }, 0) := by unfold failD; rw [if_neg hnd, if_neg (by omega)]
      have harm : decide (0 ≤ m) = true := decide_eq_true (by omega)
      refine c_skip ?_
      refine t_n ?_
      refine c_seq ?_
      refine r_plain ?_
      refine p1 (x_fieldAddr fo27_3 sz4 rfl) ?_
      refine o_store1 rfl (by conv => lhs; whnf) rfl rfl sz4 hB3 (by simp) ?_
      intro w5 hP5
      have hX := hX.put hP5 (by rw [hN3.g_eq]; exact hXs3)
      have hB3 := hP5.blk
      simp only [List.setIfInBounds_toArray, List.set_cons_zero, List.set_cons_succ] at hB3
      have hB6 := hP5.keep hB6 (by omega)
      refine r_nil ?_
      refine t_n ?_
      refine c_seq ?_
      refine r_plain ?_
      refine p1 (x_move (by conv => lhs; whnf)) ?_
      refine p1 (x_fieldAddr fo27_4 sz3 rfl) ?_
      refine o_store1 rfl (by conv => lhs; whnf) rfl rfl sz3 hB3 (by simp) ?_
      intro w6 hP6
      have hX := hX.put hP6 (by rw [hN3.g_eq]; exact hXs3)
      have hB3 := hP6.blk
      simp only [List.setIfInBounds_toArray, List.set_cons_zero, List.set_cons_succ] at hB3
      have hB6 := hP6.keep hB6 (by omega)
      refine r_nil ?_
      refine t_n ?_
      refine c_seq ?_
      refine r_plain ?_
      refine p1 (x_move (by conv => lhs; whnf)) ?_
      refine p1 (x_fieldAddr fo27_5 sz4 rfl) ?_
      refine o_store1 rfl (by conv => lhs; whnf) rfl rfl sz4 hB3 (by simp) ?_
      intro w7 hP7
      have hX := hX.put hP7 (by rw [hN3.g_eq]; exact hXs3)
      have hB3 := hP7.blk
      simp only [List.setIfInBounds_toArray, List.set_cons_zero, List.set_cons_succ] at hB3
      have hB6 := hP7.keep hB6 (by omega)
      refine r_nil ?_
      refine t_n ?_
      refine c_seq ?_
      refine r_plain ?_
      refine p1 (x_loadB ua27 rfl hB3 (by exact sz27)) ?_
      refine o_storeAll rfl (by conv => lhs; whnf) (by simp [Value.oneCell']) (by exact sz27) hB6 (by rfl) ?_
      intro w8 hP8
      have hX := hX.put hP8 (by rw [hN6.g_eq]; exact hXs6)
      have hB3 := hP8.keep hB3 (by omega)
      have hB6 := hP8.blk
      refine p1 (x_assign (by conv => lhs; whnf)) ?_
      refine r_nil ?_
      refine t_n ?_
      refine c_ret ?_
      refine end2c rfl ua27 rfl (by conv => lhs; whnf) hB6 (by exact sz27) ?_
      first
        | exact ⟨⟨_, by rw [hp], by rw [hp]; exact ⟨p, n, c, lf, rfl, hl.ext hX, hlf⟩⟩, hX⟩
        | exact ⟨⟨_, by rw [hp], by rw [hp]; exact ⟨p, n, c, m, by rw [← harm], hl.ext hX, ⟨fun _ => rfl, by omega, hm2⟩⟩⟩, hX⟩
theorem ref_Read (D : DS) (p : Option Addr) (n c : Nat) (lf : Int) (w : World) (hl : Sl kFl 81 0 w p n c D.l) (hlf : LfOk D lf) (hok : DOk D) (hst : D.steps < 4611686018427387904) (k : ByteArray) (hks : k.size ≤ 9223372036854775807) :
    Ret Try.prog 15 [.agg #[.int .i64 (D.most : Int), .slice p n c, .int .i64 (D.steps : Int), .bool (decide (0 ≤ D.left)), .int .i64 lf, .bool D.done, .bool D.down], .string k] w (fun v w' => v = .tuple #[.string (toStr (readD D k).1), .int .i64 (readD D k).2] ∧ Ext w w') := by
  have hX := Ext.refl w
  refine enter 39 _ Try.func15 rfl rfl (Nat.le_of_ble_eq_true rfl) rfl ?_
  refine c_seq ?_
  refine r_plain ?_
  refine o_boxA (by conv => lhs; whnf) ?_
  intro w1 g2 hN2
  have hE1 := hN2.ext
  have hX := hX.ext hE1
  have hB2 := hN2.blk
  refine p1 (x_assign (by conv => lhs; whnf)) ?_
  refine p1 (x_assign (by conv => lhs; whnf)) ?_
  refine r_nil ?_
  refine t_n ?_
  refine c_seq ?_
  have hlen := hl.len
  have hcap := hl.cap
  have hple := plc_leA D.l k
  have hfew := hok.few
  have hroom := hok.room
  have hmost := hok.most
  refine r_plain ?_
  refine p1 (x_loadB ua27 rfl hB2 (by exact sz27)) ?_
  refine p1 (x_move (by conv => lhs; whnf)) ?_
  refine o_buildSlice u51 inf9 rfl (by decide) (fun base hb => fill_one (by rfl) base hb) ?_
  intro w2 g11 hN11
  have hE2 := hN11.ext
  have hX := hX.ext hE2
  have hB2 := hB2.ext hE2
  have hS11 : Sl kStr 9 0 w2 (some ⟨g11, 0, none⟩) 1 1 [k] := (own_lit (B0 := 0) [k] hN11 (Nat.zero_le _) (by simp)).sl
  refine o_call Try.func44 fn44 fb44 (ref_first (D.most : Int) (D.steps : Int) lf (decide (0 ≤ D.left)) D.done D.down p n c D rfl [k] 0 _ _ _ _ hS11 (by intro s hs'; simp only [List.mem_singleton] at hs'; subst hs'; exact hks)) rfl ?_
  rintro v3 w3 ⟨rfl, hE3⟩
  have hX := hX.ext hE3
  have hB2 := hB2.ext hE3
  have hS11 := hS11.ext hE3
  refine p1 (x_assign (by conv => lhs; whnf)) ?_
  refine r_nil ?_
  refine t_n ?_
  refine c_seq ?_
  refine r_plain ?_
  refine p1 (x_loadB ua27 rfl hB2 (by exact sz27)) ?_
  refine p1 (x_move (by conv => lhs; whnf)) ?_
  refine o_call Try.func45 fn45 fb45 (ref_place (D.most : Int) (D.steps : Int) lf (decide (0 ≤ D.left)) D.done D.down D.l p n c _ (hl.ext hX) k (by omega)) rfl ?_
  rintro v4 w4 ⟨rfl, hE4⟩
  have hX := hX.ext hE4
  have hB2 := hB2.ext hE4
  refine p1 (x_move (by conv => lhs; whnf)) ?_
  refine p1 (x_extract rfl rfl) ?_
  refine p1 (x_extract rfl rfl) ?_
  refine p1 (x_assign (by conv => lhs; whnf)) ?_
  refine p1 (x_assign (by conv => lhs; whnf)) ?_
  refine r_nil ?_
  refine t_n ?_
  refine c_seq ?_
  refine c_block ?_
  refine c_seq ?_
  refine r_plain ?_
  refine p1 (x_move (by conv => lhs; whnf)) ?_
  refine p1 (x_neq rfl rfl) ?_
  refine p1 (x_assign (by conv => lhs; whnf)) ?_
  refine r_nil ?_
  refine t_n ?_
  first | refine c_dec rfl (fun hc19 => ?_) (fun hc19 => ?_) | refine c_if rfl (fun hc19 => ?_) (fun hc19 => ?_)
  · try simp only [decide_eq_true_eq, decide_eq_false_iff_not, Bool.not_eq_true, Bool.not_eq_false, Bool.not_eq_eq_eq_not, Bool.not_true, Bool.not_false, Int.not_lt, Int.not_le] at hc19
    have hp : readD D k = ([], lookD D [k]) := if_pos hc19
    refine c_seq ?_
    refine r_plain ?_
    refine p1 (x_move (by conv => lhs; whnf)) ?_
    refine p1 (x_assign (by conv => lhs; whnf)) ?_
    refine p1 (x_assign (by conv => lhs; whnf)) ?_
    refine r_nil ?_
    refine t_n ?_
    refine c_ret ?_
    refine b_r ?_
    refine t_r ?_
    refine end2 rfl (by conv => lhs; whnf) (by conv => lhs; whnf) ?_
    refine ⟨?_, hX⟩
    rw [hp]
    try rfl
  · try simp only [decide_eq_true_eq, decide_eq_false_iff_not, Bool.not_eq_true, Bool.not_eq_false, Bool.not_eq_eq_eq_not, Bool.not_true, Bool.not_false, Int.not_lt, Int.not_le] at hc19
    refine c_seq ?_
    refine r_plain ?_
    refine p1 (x_move (by conv => lhs; whnf)) ?_
    first | refine p1 (x_notd rfl) ?_ | refine p1 (x_not rfl) ?_
    refine p1 (x_assign (by conv => lhs; whnf)) ?_
    refine r_nil ?_
    refine t_n ?_
    first | refine c_dec rfl (fun hc23 => ?_) (fun hc23 => ?_) | refine c_if rfl (fun hc23 => ?_) (fun hc23 => ?_)
    · try simp only [decide_eq_true_eq, decide_eq_false_iff_not, Bool.not_eq_true, Bool.not_eq_false, Bool.not_eq_eq_eq_not, Bool.not_true, Bool.not_false, Int.not_lt, Int.not_le] at hc23
      have hnat : ¬ isAtA D.l (plcA D.l k) k := by simpa using hc23
      have hnf := file_not hok hnat
      have hp : readD D k = ([], 22) := by unfold readD; rw [if_neg hc19, if_pos hnf]
      refine c_seq ?_
      refine r_plain ?_
      refine p1 (x_assign (by conv => lhs; whnf)) ?_
      refine p1 (x_assign (by conv => lhs; whnf)) ?_
      refine r_nil ?_
      refine t_n ?_
      refine c_ret ?_
      refine b_r ?_
      refine t_r ?_
      refine end2 rfl (by conv => lhs; whnf) (by conv => lhs; whnf) ?_
      refine ⟨?_, hX⟩
      rw [hp]
      try rfl
    · try simp only [decide_eq_true_eq, decide_eq_false_iff_not, Bool.not_eq_true, Bool.not_eq_false, Bool.not_eq_eq_eq_not, Bool.not_true, Bool.not_false, Int.not_lt, Int.not_le] at hc23
      have hat : isAtA D.l (plcA D.l k) k := by simpa using hc23
      obtain ⟨f, hf, hfa, hfu, hfs, hgf⟩ := file_at hok hat
      have hfr : ∀ wz, Ext w wz → wz.rangeAt (ab p) (ao p + plcA D.l k * 3) [.string k, .string (toStr (f.1.take f.2)), .string (toStr (f.1.drop f.2))] := fun wz hz => by have := (hl.ext hz).flRange (plcA D.l k) (by have := (hat).1; omega); rw [hfa] at this; exact this
      have hplt : plcA D.l k < n := by have := (hat).1; omega
      have hne : ¬ ascF D.l k = none := by rw [hf]; simp
      have hp : readD D k = (f.1, 0) := by unfold readD; rw [if_neg hc19, if_neg hne, hgf]
      refine c_skip ?_
      refine b_n ?_
      refine t_n ?_
      refine c_seq ?_
      refine r_still mixed (by kernel_rfl) ?_
      intro w5 hE5
      have hX := hX.ext hE5
      have hB2 := hB2.ext hE5
      refine s1 (x_fieldAddr fo27_1 sz25 rfl) ?_
      refine s1 (x_load1 un25 rfl (hB2.cell (rfl))) ?_
      refine s1 (x_move (by conv => lhs; whnf)) ?_
      refine s1 (x_ixs u25 sz81 rfl rfl ((hl.ext hX).adr kFl_pos (by omega)) (by omega) (by omega)) ?_
      refine s1 (x_fieldAddr fo81_1 sz9 rfl) ?_
      refine s1 (x_load1 un9 rfl (hfr _ hX 1 _ rfl)) ?_
      refine s1 (x_fieldAddr fo27_1 sz25 rfl) ?_
      refine s1 (x_load1 un25 rfl (hB2.cell (rfl))) ?_
      refine s1 (x_move (by conv => lhs; whnf)) ?_
      refine s1 (x_ixs u25 sz81 rfl rfl ((hl.ext hX).adr kFl_pos (by omega)) (by omega) (by omega)) ?_
      refine s1 (x_fieldAddr fo81_2 sz9 rfl) ?_
      refine s1 (x_load1 un9 rfl (hfr _ hX 2 _ rfl)) ?_
      refine s1 ((x_add_str rfl rfl (by rw [toStr_size, toStr_size, List.length_take, List.length_drop]; omega)).cast (by rw [toStr_append, List.take_append_drop])) ?_
      refine s1 (x_assign (by conv => lhs; whnf)) ?_
      refine s1 (x_assign (by conv => lhs; whnf)) ?_
      refine s_nil ?_
      refine t_n ?_
      refine c_ret ?_
      refine end2 rfl (by conv => lhs; whnf) (by conv => lhs; whnf) ?_
      refine ⟨?_, hX⟩
      rw [hp]
      try rfl
theorem ref_New (most : Int) (w : World) :
    Ret Try.prog 12 [.int .i64 most] w (fun v w' => (∃ cs, v = .agg cs ∧ RefV w' cs (newD most)) ∧ Ext w w') := by
  have hX := Ext.refl w
  refine enter 7 _ Try.func12 rfl rfl (Nat.le_of_ble_eq_true rfl) rfl ?_
  refine c_seq ?_
  refine r_plain ?_
  have hXs2 := hX.size
  refine o_alloc zr27 ?_
  intro w1 g2 hN2
  have hE1 := hN2.ext
  have hX := hX.ext hE1
  have hB2 := hN2.blk
  refine r_nil ?_
  refine t_n ?_
  refine c_seq ?_
  refine r_plain ?_
  refine p1 (x_move (by conv => lhs; whnf)) ?_
  refine p1 ((x_min rfl rfl).cast (congrArg (Value.int .i64) (by split <;> omega : _ = min most 16777216))) ?_
  have hmx : (((newD most).most : Nat) : Int) = max 0 (min most 16777216) := by show (((max 0 (min most 16777216)).toNat : Nat) : Int) = _; omega
  refine p1 ((x_max rfl rfl).cast (congrArg (Value.int .i64) (by split <;> omega : _ = (((newD most).most : Nat) : Int)))) ?_
  refine p1 (x_buildR1 pl27 rfl) ?_
  refine o_storeAll rfl (by conv => lhs; whnf) (by simp [Value.oneCell']) (by exact sz27) hB2 (by rfl) ?_
  intro w2 hP2
  have hX := hX.put hP2 (by rw [hN2.g_eq]; exact hXs2)
  have hB2 := hP2.blk
  refine r_nil ?_
  refine t_n ?_
  refine c_ret ?_
  refine end1c rfl ua27 rfl hB2 (by exact sz27) ?_
  exact ⟨⟨_, rfl, none, 0, 0, 0, rfl, Sl.nil _ _ _ _ _ _ (by omega), ⟨fun h => by have h : (0 : Int) ≤ -1 := h; omega, by omega, by omega⟩⟩, hX⟩
end Go.Proofs.Eng
end
section
set_option linter.unusedVariables false
set_option linter.unusedSimpArgs false
namespace Go.Proofs.Eng
open Go.RowKit
open Extern.Stop (cell)
/-! ### rows that came of strings: marked behind their end -/
structure FBm (B : Nat) (w : World) (p : Option Addr) (n c : Nat) (xs : List UInt8) : Prop where
  len : xs.length = n
  ok : ∃ g cur m, p = some ⟨g, 0, none⟩ ∧ B ≤ g ∧ w.heap[g]? = some (.cells cur 5 m) ∧ (cur.size ≤ m.1 ∨ m = (0, 0)) ∧ n ≤ c ∧ c ≤ cur.size ∧ c ≤ 9223372036854775807 ∧ cur.toList.take n = xs.map cell
namespace FBm
variable {B : Nat} {w w' : World} {p : Option Addr} {n c : Nat} {xs : List UInt8}
theorem keep (h : FBm B w p n c xs) (hb : ∀ g, p = some ⟨g, 0, none⟩ → g < w.heap.size → w'.heap[g]? = w.heap[g]?) : FBm B w' p n c xs := by
  obtain ⟨g, cur, m, h1, h2, h3, h4⟩ := h.ok
  exact ⟨h.len, g, cur, m, h1, h2, (hb g h1 (Array.getElem?_eq_some_iff.1 h3).1).trans h3, h4⟩
theorem ext (h : FBm B w p n c xs) (x : Ext w w') : FBm B w' p n c xs := h.keep fun g _ hg => x.old g hg
theorem cap (h : FBm B w p n c xs) : n ≤ c ∧ c ≤ 9223372036854775807 := by
  obtain ⟨g, cur, m, _, _, _, _, h1, _, h2, _⟩ := h.ok
  exact ⟨h1, h2⟩
theorem row (h : FBm B w p n c xs) : Row w p (xs.map cell) := by
  obtain ⟨g, cur, m, h1, h2, h3, h4, h5, h6, h7, h8⟩ := h.ok
  subst h1
  refine ⟨fun _ => rfl, fun j v hv => ?_⟩
  rw [← h8, List.getElem?_take] at hv
  split at hv
  · show w.cell? ⟨g, 0 + j, none⟩ = _
    rw [Nat.zero_add]
    unfold World.cell?
    simp only [h3]
    simpa using hv
  · cases hv
theorem sl (h : FBm B w p n c xs) : Sl kByte fk w.heap.size w p n c xs :=
  Out.sl (S := fun _ => False) ⟨h.len, h.cap.1, h.cap.2, h.row, fun _ => id⟩
end FBm
theorem setCell_at {w : World} {g o : Nat} {v : Value} {cur : Array Value} {t : TypeId} {m : Nat × Nat} (h : w.heap[g]? = some (.cells cur t m)) : (w.setCell ⟨g, o, none⟩ v).heap[g]? = some (.cells (cur.setIfInBounds o v) t m) := by
  unfold World.setCell
  simp only [Array.getElem?_modify, h]
  simp
section
variable {P : Program} {ops : Array Oper} {Q : Exit → Act → World → Prop} {rest : List Oper} {N : Nat} {f : Nat → Value} {w : World}
variable {t0 ty0 : TypeId} {pos : String} {aft : Array Edge} {dst : Nat} {x y : Operand} {T T' tx : TypeId} {p : Option Addr} {n c B : Nat} {xs : List UInt8}
/-- '[]byte(s)' -/
theorem o_convSB {xs : List UInt8} (hs : P.underlying T = some .string) (hd : P.underlying T' = some (.slice 5)) (he : P.underlying 5 = some (.int .u8)) (hx : ev N f x = .string (toStr xs)) (hlen : xs.length ≤ 281474976710656)
    (k : ∀ p' c' w', Ext w w' → FBm w.heap.size w' p' xs.length c' xs → Lst P ops Q rest (fr N (upd f dst (.slice p' xs.length c'))) w') :
    Lst P ops Q (⟨some dst, .convert T T' x, ty0, pos, aft, none⟩ :: rest) (fr N f) w := by
  have hr := run_bytes_of_string (P := P) w T T' 5 (toStr xs) hs hd he
  have hz := toStr_size xs
  rw [hz] at hr
  have hge := grownCap_ge w xs.length 0 5
  have hcm : grownCap w xs.length 0 5 ≤ maxLen := grownCap_le_maxLen w xs.length 0 5 (by unfold maxLen; omega)
  have hsz : (bytesRow (toStr xs) (grownCap w xs.length 0 5)).size = grownCap w xs.length 0 5 := by
    unfold bytesRow
    have : (toStr xs).data.size = xs.length := by simp [toStr]
    rw [Array.size_append, Array.size_map, Array.size_replicate, this, hz]; omega
  have hX := (Ext.drew w).trans (Ext.alloc w.drew (.cells (bytesRow (toStr xs) (grownCap w xs.length 0 5)) 5 ((bytesRow (toStr xs) (grownCap w xs.length 0 5)).size, (bytesRow (toStr xs) (grownCap w xs.length 0 5)).size + 1)))
  refine l1 (w' := w.drew.alloc (.cells (bytesRow (toStr xs) (grownCap w xs.length 0 5)) 5 ((bytesRow (toStr xs) (grownCap w xs.length 0 5)).size, (bytesRow (toStr xs) (grownCap w xs.length 0 5)).size + 1))) (v := .slice (some ⟨w.heap.size, 0, none⟩) xs.length (grownCap w xs.length 0 5)) ?_ (k _ _ _ hX ⟨rfl, w.heap.size, _, _, rfl, Nat.le_refl _, heap_alloc_new w.drew _, .inl (Nat.le_refl _), hge, by rw [hsz]; exact Nat.le_refl _, by unfold maxLen at hcm; omega, ?_⟩)
  · simp only [execOp, hx, Sem.run_bind, hr, Result.andThen_ok]; rfl
  · unfold bytesRow
    rw [Array.toList_append, List.take_append_of_le_length (by simp [toStr]), List.take_of_length_le (by simp [toStr])]
    simp [toStr, cell]
theorem run_appendM {b : UInt8} {v : Value} (hT : P.underlying T = some (.slice 5)) (hi : (P.info? 5).map (fun i => (i.zero, i.size, i.bytes)) = some (some (.int .u8 0), 1, 1)) (hF : FBm B w p n c xs) (hs : Src P 1 tx v 1 [cell b] w) (hn : n ≤ 100000000) (hB : B ≤ w.heap.size) :
    ∃ p' c' w', (Builtin.append_ #[T, tx] t0 #[.slice p n c, v]).run P w = .ok (.slice p' (n + 1) c') w' ∧ FBm B w' p' (n + 1) c' (xs ++ [b]) ∧ Mod B 5 w w' := by
  obtain ⟨i, hi0, hi1⟩ := Option.map_eq_some_iff.1 hi
  simp only [Prod.mk.injEq] at hi1
  obtain ⟨hiz, his, hib⟩ := hi1
  have hl := hF.len
  have hrow := hF.row
  obtain ⟨g, cur, m, h1, h2, h3, h4, h5, h6, h7, h8⟩ := hF.ok
  subst h1
  have hlt : g < w.heap.size := (Array.getElem?_eq_some_iff.1 h3).1
  have hty : ty w g = some 5 := by unfold Eng.ty; rw [h3]
  have hcl : (xs.map cell).length = n := by rw [List.length_map, hl]
  by_cases hroom : n + 1 ≤ c
  · have hcell : (w.cell? ⟨g, n, none⟩).isSome = true := by
      unfold World.cell?
      simp only [h3]
      rw [show cur[n]? = some (cur[n]'(by omega)) from Array.getElem?_eq_getElem (by omega)]; rfl
    have hfz : w.frozen? ⟨g, n, none⟩ = false := by
      unfold World.frozen?
      simp only [h3]
      rcases h4 with h4 | h4
      · have : ¬ m.1 ≤ n := by omega
        simp [this]
      · rw [h4]; simp
    have hr := run_append_room_src (P := P) w T tx t0 5 i hT hi0 g 0 n c v 1 [cell b] (by rw [his]; exact hs) hroom
      (fun j hj => by
        have : j = 0 := by simpa using hj
        subst this
        rw [his, Nat.mul_one, Nat.zero_add, Nat.add_zero]; exact hcell)
      (fun j hj => by
        have : j = 0 := by simpa using hj
        subst this
        rw [his, Nat.mul_one, Nat.zero_add, Nat.add_zero]; exact hfz)
    rw [his, Nat.zero_add, Nat.mul_one] at hr
    have hw : w.setCells g n [cell b] = w.setCell ⟨g, n, none⟩ (cell b) := rfl
    rw [hw] at hr
    have hat := setCell_at (o := n) (v := cell b) h3
    have hne : ∀ k, k ≠ g → (w.setCell ⟨g, n, none⟩ (cell b)).heap[k]? = w.heap[k]? := fun k hk => Below.heap_setCell w ⟨g, n, none⟩ (cell b) k hk
    refine ⟨_, _, _, hr, ⟨by simp [hl], g, _, m, rfl, h2, hat, h4.imp (fun h => by simpa using h) id, hroom, by simpa using h6, h7, ?_⟩, ⟨by simp [World.setCell], fun k hk ho => hne k fun e => ?_, fun k hk => ?_, Nat.le_refl _, rfl, rfl, rfl⟩⟩
    · rw [Array.toList_setIfInBounds, List.map_append, ← h8]
      apply List.ext_getElem?
      intro j
      rw [List.getElem?_take, List.getElem?_set]
      by_cases hj : j < n
      · rw [if_pos (by omega), if_neg (by omega), List.getElem?_append_left (by rw [List.length_take]; simp; omega), List.getElem?_take, if_pos hj]
      · by_cases hj2 : j = n
        · subst hj2
          rw [if_pos (by omega), if_pos rfl, if_pos (by simp; omega), List.getElem?_append_right (by rw [List.length_take]; simp; omega), List.length_take]
          rw [show j - min j cur.toList.length = 0 from by simp; omega]; rfl
        · rw [if_neg (by omega), List.getElem?_eq_none (by rw [List.length_append, List.length_take]; simp; omega)]
    · subst e
      rcases ho with ho | ho
      · omega
      · exact ho hty
    · by_cases e : k = g
      · subst e; rw [hty]; unfold Eng.ty; rw [hat]
      · exact ty_of_heap (hne k e)
  · have hfc : (Builtin.firstCells 1 n (.slice (some ⟨g, 0, none⟩) n c)).run P w.drew = .ok (xs.map cell).toArray w.drew :=
      run_firstCells_some w.drew 1 n ⟨g, 0, none⟩ n c (xs.map cell) (by rw [hcl, Nat.mul_one]) (fun j u hu => by
        have := hrow.at_ j u hu
        rw [Addr.add_mid]
        exact this)
    have hr := run_append_grow_src (P := P) w T tx t0 5 i (.int .u8 0) hT hi0 hiz (some ⟨g, 0, none⟩) n c (xs.map cell) (by rw [his]; exact hfc) v 1 [cell b] (by rw [his]; exact hs) (by omega) (by omega) (growslice_fits_wide (by omega) (by rw [hib, Nat.mul_one]; omega))
    have hge := grownCap_ge w (n + 1) c 5
    have hcm : grownCap w (n + 1) c 5 ≤ maxLen := grownCap_le_maxLen w (n + 1) c 5 (by unfold maxLen; omega)
    refine ⟨_, _, _, hr, ⟨by simp [hl], w.heap.size, _, (0, 0), rfl, hB, heap_alloc_new w.drew _, .inr rfl, hge, ?_, by unfold maxLen at hcm; omega, ?_⟩, Mod.ofExt ((Ext.drew w).trans (Ext.alloc _ _))⟩
    · simp only [Array.size_append, List.size_toArray, size_zeroCells, List.length_append, List.length_map, Value.cells]
      simp; omega
    · rw [Array.toList_append, List.take_append_of_le_length (by simp; omega)]
      rw [List.take_of_length_le (by simp; omega)]; simp
theorem o_appendM {b : UInt8} {v : Value} (hT : P.underlying T = some (.slice 5)) (hi : (P.info? 5).map (fun i => (i.zero, i.size, i.bytes)) = some (some (.int .u8 0), 1, 1)) (hx : ev N f x = .slice p n c) (hy : ev N f y = v) (hF : FBm B w p n c xs) (hs : Src P 1 tx v 1 [cell b] w) (hn : n ≤ 100000000) (hB : B ≤ w.heap.size)
    (k : ∀ p' c' w', FBm B w' p' (n + 1) c' (xs ++ [b]) → Mod B 5 w w' → Lst P ops Q rest (fr N (upd f dst (.slice p' (n + 1) c'))) w') :
    Lst P ops Q (⟨some dst, .call ⟨.builtin .append, #[x, y], #[T, tx]⟩, t0, pos, aft, none⟩ :: rest) (fr N f) w := by
  obtain ⟨p', c', w', hr, h1, h2⟩ := run_appendM (t0 := t0) hT hi hF hs hn hB
  refine l1 (w' := w') (v := .slice p' (n + 1) c') ?_ (k p' c' w' h1 h2)
  simp only [execOp, resolve, invoke, builtin, Sem.run_bind, Sem.run_pure, Result.andThen_ok, List.map_toArray, List.map_cons, List.map_nil, hx, hy, hr]
end
theorem FBm.low {B : Nat} {w : World} {p : Option Addr} {n c : Nat} {xs : List UInt8} (h : FBm B w p n c xs) : B ≤ w.heap.size := by
  obtain ⟨g, cur, m, h1, h2, h3, _⟩ := h.ok
  have := (Array.getElem?_eq_some_iff.1 h3).1
  omega
theorem keptJ_lt {kept D : List UInt8} {j T : Nat} (hj : j < T) (hT : T ≤ D.length) : (kept ++ D.take (min j T) ++ List.replicate (j - T) 0) ++ [D.getD j 0] = kept ++ D.take (min (j + 1) T) ++ List.replicate (j + 1 - T) 0 := by
  rw [show min j T = j from by omega, show min (j + 1) T = j + 1 from by omega, show j - T = 0 from by omega, show j + 1 - T = 0 from by omega, List.replicate_zero, List.append_nil, List.append_nil, List.take_add_one, List.append_assoc, List.getD_eq_getElem?_getD, List.getElem?_eq_getElem (show j < D.length by omega)]; rfl
theorem keptJ_ge {kept D : List UInt8} {j T : Nat} (hj : T ≤ j) : (kept ++ D.take (min j T) ++ List.replicate (j - T) 0) ++ [(0 : UInt8)] = kept ++ D.take (min (j + 1) T) ++ List.replicate (j + 1 - T) 0 := by
  rw [show min j T = T from by omega, show min (j + 1) T = T from by omega, show j + 1 - T = (j - T) + 1 from by omega, List.append_assoc, List.replicate_succ']
theorem btAt_toStr (xs : List UInt8) (i : Nat) : btAt (toStr xs) i = xs.getD i 0 := by unfold btAt toStr; simp
theorem drop_getD {s d : List UInt8} {i j ln : Nat} (h : ln = s.length + i) : ((s ++ d).drop ln).getD j 0 = d.getD (i + j) 0 := by
  subst h
  simp only [List.getD_eq_getElem?_getD]
  rw [List.getElem?_drop, List.getElem?_append_right (by omega)]
  rw [show s.length + i + j - s.length = i + j from by omega]
theorem drop_head {st : List UInt8} {u : Nat} (h : u < st.length) : st.drop u = st.getD u 0 :: st.drop (u + 1) := by
  rw [List.drop_eq_getElem_cons h, List.getD_eq_getElem?_getD, List.getElem?_eq_getElem h]; rfl
end Go.Proofs.Eng
end
