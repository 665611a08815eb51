import Derived.Test.YtjbfgmkemideiaaC7
import Derived.Test.YtjbfgmkemideiaaF4
import Derived.Test.YtjbfgmkemideiaaT6
set_option linter.unusedVariables false
set_option linter.unusedSimpArgs false
set_option maxRecDepth 100000
set_option maxHeartbeats 4000000
namespace Go.Proofs.Eng
open Go.RowKit
open Extern.Stop (cell)
theorem maps_Clone (S : Nat → Prop) (B0 r : Nat) (μ : ByteArray → Option (List Hash)) (w : World) (hM : Mp kkStr (vHs S) 0 B0 w r μ) :
    Ret Try.prog 105 [.map (some r)] w (fun v w' => (∃ r2, v = .map (some r2) ∧ Mp kkStr (vHs S) 0 w.heap.size w' r2 μ) ∧ Ext w w') := by
  have hX := Ext.refl w
  refine enter 9 _ Try.func105 rfl rfl (Nat.le_of_ble_eq_true rfl) ?_
  refine c_seq ?_
  refine r_plain ?_
  refine p1 (x_assign (by conv => lhs; whnf)) ?_
  refine r_nil ?_
  refine t_n ?_
  refine c_seq ?_
  refine c_seq ?_
  refine r_plain ?_
  refine p1 (x_move (by conv => lhs; whnf)) ?_
  refine p1 ((x_eql_mapnil u122 rfl rfl).cast (congrArg Value.bool (decide_eq_false (by simp)))) ?_
  refine r_nil ?_
  refine t_n ?_
  refine c_f rfl ?_
  refine c_skip ?_
  refine t_n ?_
  refine c_seq ?_
  refine r_plain ?_
  refine p1 (x_move (by conv => lhs; whnf)) ?_
  refine p1 (x_iface u122 rfl rfl) ?_
  have hXs := hX.size
  obtain ⟨es1, ck1, hb1, hcl1⟩ := hM.clone
  refine o_extern Try.func125 (by kernel_rfl) (by kernel_rfl) (by kernel_rfl) (by kernel_rfl) rfl (run_clone 122 hb1) ?_
  have hE1 := Ext.alloc w (.map es1 ck1)
  obtain ⟨w1, hw1⟩ : ∃ x, x = World.alloc w (.map es1 ck1) := ⟨_, rfl⟩
  rw [← hw1] at hE1 hcl1 ⊢
  have hC := hcl1 w.heap.size hXs
  have hX := hX.ext hE1
  have hM := hM.ext hE1
  refine p1 (x_assert_map u122 rfl) ?_
  refine p1 (x_assign (by conv => lhs; whnf)) ?_
  refine r_nil ?_
  refine t_n ?_
  refine c_ret ?_
  refine end1 rfl (by conv => lhs; whnf) ?_
  exact ⟨⟨_, rfl, hC⟩, hX⟩
theorem branch_Fork (S : Nat → Prop) (B0 g r : Nat) (l : List Br) (w : World) (hT : Tbl S B0 w g r l) :
    Ret Try.prog 54 [.pointer (some ⟨g, 0, none⟩)] w (fun v w' => (∃ g2 r2, v = .pointer (some ⟨g2, 0, none⟩) ∧ Tbl S w.heap.size w' g2 r2 l) ∧ Ext w w') := by
  have hTb := hT.blk
  have hX := Ext.refl w
  refine enter 12 _ Try.func54 rfl rfl (Nat.le_of_ble_eq_true rfl) ?_
  refine c_seq ?_
  refine r_plain ?_
  refine p1 (x_assign (by conv => lhs; whnf)) ?_
  refine r_nil ?_
  refine t_n ?_
  refine c_seq ?_
  refine c_seq ?_
  refine r_plain ?_
  refine p1 (x_move (by conv => lhs; whnf)) ?_
  refine p1 ((x_eql_ptrnil u59 rfl rfl).cast (congrArg Value.bool (decide_eq_false (by simp)))) ?_
  refine r_nil ?_
  refine t_n ?_
  refine c_f rfl ?_
  refine c_skip ?_
  refine t_n ?_
  refine c_seq ?_
  refine r_plain ?_
  refine p1 (x_move (by conv => lhs; whnf)) ?_
  refine p1 (x_nilCheck rfl) ?_
  refine p1 (x_fieldAddr fo124_0 sz122 rfl) ?_
  refine p1 (x_load1 un122 rfl (hTb.cell (rfl))) ?_
  have hXs := hX.size
  refine o_call Try.func105 fn105 fb105 (maps_Clone S B0 r (asc l) _ hT.map) rfl ?_
  rintro v1 w1 ⟨⟨r2, rfl, hC⟩, hE1⟩
  have hX := hX.ext hE1
  have hT := hT.ext hE1
  have hTb := hTb.ext hE1
  have hC := hC.lower hXs
  refine p1 (x_build1 pl124 (by conv => lhs; whnf) rfl) ?_
  refine o_boxA (by conv => lhs; whnf) ?_
  intro w2 g11 hN11
  have hE2 := hN11.ext
  have hX := hX.ext hE2
  have hT := hT.ext hE2
  have hTb := hTb.ext hE2
  have hC := hC.ext hE2
  have hB11 := hN11.blk
  refine p1 (x_assign (by conv => lhs; whnf)) ?_
  refine r_nil ?_
  refine t_n ?_
  refine c_ret ?_
  refine end1 rfl (by conv => lhs; whnf) ?_
  exact ⟨⟨_, _, rfl, ⟨hB11, hC, hT.rise, hT.few, hT.ok⟩⟩, hX⟩
end Go.Proofs.Eng
