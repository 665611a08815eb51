import Derived.Test.YtjbfgmkemideiaaA12
import Derived.Test.YtjbfgmkemideiaaA11
import Derived.Test.YtjbfgmkemideiaaA4
set_option linter.unusedVariables false
set_option linter.unusedSimpArgs false
set_option maxRecDepth 100000
set_option maxHeartbeats 4000000
namespace Go.Proofs.Eng
open Go.RowKit
open Extern.Stop (cell)
theorem law_HashesGets (xs : List UInt8) (most : Int) (B : Nat) (p : Option Addr) (n c : Nat) (w : World) (hl : Sl kByte 5 B w p n c xs) (hmost : -9223372036854775808 ≤ most ∧ most ≤ 9223372036854775807) (hs : n ≤ 140737488351232) :
    Ret Try.prog 8 [.slice p n c, .int .i64 most] w (fun v w' => v = .bool true ∧ Ext w w') := by
  have hX := Ext.refl w
  refine enter 52 _ Try.func8 rfl rfl (Nat.le_of_ble_eq_true rfl) ?_
  refine c_seq ?_
  refine r_plain ?_
  refine p1 (x_assign (by conv => lhs; whnf)) ?_
  refine r_nil ?_
  refine t_n ?_
  refine c_seq ?_
  refine r_plain ?_
  have hXs := hX.size
  refine o_buildSlice u22 inf5 rfl (by decide) (fun base hb => by have h0 : base = #[] := Array.eq_empty_of_size_eq_zero (by simpa using hb); subst h0; rfl) ?_
  intro w1 g12 hN12
  have hE1 := hN12.ext
  have hX := hX.ext hE1
  have hO : Own kByte 5 0 w.heap.size w1 (some ⟨g12, 0, none⟩) 0 0 [] := Own.made kByte 5 0 _ hN12 [] [] 0 0 rfl trivial hXs (by omega) (by omega) (by rfl) (by simp)
  refine p1 (x_move (by conv => lhs; whnf)) ?_
  have hB0 := hX.size
  have hl2 := hl.ext hX
  refine o_append (d := kByte) (xs) u22 inf5 rfl kByte_pos rfl rfl hO (src_pure u22 hl2 (by decide)) hl.len (byte_all _ _ _) (rfl) (by omega) (by omega) (by omega) (by omega) (by decide) ?_
  intro p14 c14 w2 hO hM2
  have hX := hX.mod hM2 (Nat.le_refl _)
  rw [List.nil_append] at hO
  refine p1 (x_assign (by conv => lhs; whnf)) ?_
  refine r_nil ?_
  refine t_n ?_
  refine c_seq ?_
  refine r_plain ?_
  refine p1 (x_move (by conv => lhs; whnf)) ?_
  refine p1 (x_move (by conv => lhs; whnf)) ?_
  refine o_call Try.func43 fn43 fb43 (hashes_Get xs most _ _ _ _ _ hO.sl hmost (by omega)) rfl ?_
  rintro v3 w3 ⟨⟨q1, m1, c1, rfl, hA⟩, hE3⟩
  have hX := hX.ext hE3
  have hO := hO.ext hE3
  refine p1 (x_move (by conv => lhs; whnf)) ?_
  refine p1 (x_extract rfl rfl) ?_
  refine p1 (x_extract rfl rfl) ?_
  refine p1 (x_extract rfl rfl) ?_
  refine p1 (x_assign (by conv => lhs; whnf)) ?_
  refine p1 (x_assign (by conv => lhs; whnf)) ?_
  refine p1 (x_assign (by conv => lhs; whnf)) ?_
  refine r_nil ?_
  refine t_n ?_
  refine c_seq ?_
  refine r_plain ?_
  refine p1 (x_move (by conv => lhs; whnf)) ?_
  refine p1 (x_move (by conv => lhs; whnf)) ?_
  refine o_call Try.func44 fn44 fb44 (ref06_Get xs most _ _ _ _ _ (hl.ext hX) hmost hs) rfl ?_
  rintro v4 w4 ⟨⟨q2, m2, c2, rfl, hR⟩, hE4⟩
  have hX := hX.ext hE4
  have hO := hO.ext hE4
  have hA := hA.ext hE4
  refine p1 (x_move (by conv => lhs; whnf)) ?_
  refine p1 (x_extract rfl rfl) ?_
  refine p1 (x_extract rfl rfl) ?_
  refine p1 (x_extract rfl rfl) ?_
  refine p1 (x_assign (by conv => lhs; whnf)) ?_
  refine p1 (x_assign (by conv => lhs; whnf)) ?_
  refine p1 (x_assign (by conv => lhs; whnf)) ?_
  refine r_nil ?_
  refine t_n ?_
  refine c_seq ?_
  refine r_plain ?_
  refine p1 (x_move (by conv => lhs; whnf)) ?_
  refine p1 (x_move (by conv => lhs; whnf)) ?_
  refine o_call Try.func36 fn36 fb36 ((ref06_Same (gets xs most).1 (gets xs most).1 _ _ _ _ _ _ _ _ _ hA.sl hR.sl).known (c := .bool true) (congrArg Value.bool (decide_eq_true rfl))) rfl ?_
  rintro v5 w5 ⟨rfl, hE5⟩
  have hX := hX.ext hE5
  have hO := hO.ext hE5
  have hA := hA.ext hE5
  have hR := hR.ext hE5
  refine p1 (x_move (by conv => lhs; whnf)) ?_
  refine g1 32 rfl rfl (x_move (by conv => lhs; whnf)) ?_
  refine g1 32 rfl rfl (x_move (by conv => lhs; whnf)) ?_
  refine g1 32 rfl rfl ((x_eql rfl rfl).cast (congrArg _ (decide_eq_true rfl))) ?_
  refine p1 (x_pick_t rfl (by conv => lhs; whnf)) ?_
  refine p1 (x_move (by conv => lhs; whnf)) ?_
  refine g1 37 rfl rfl (x_move (by conv => lhs; whnf)) ?_
  refine g1 37 rfl rfl (x_move (by conv => lhs; whnf)) ?_
  refine g1 37 rfl rfl ((x_eql rfl rfl).cast (congrArg _ (decide_eq_true rfl))) ?_
  refine p1 (x_pick_t rfl (by conv => lhs; whnf)) ?_
  refine p1 (x_move (by conv => lhs; whnf)) ?_
  refine g1 42 rfl rfl (x_move (by conv => lhs; whnf)) ?_
  refine g1 42 rfl rfl (x_bytes_str u22 u5 u9 rfl hO.sl) ?_
  refine g1 42 rfl rfl (x_move (by conv => lhs; whnf)) ?_
  refine g1 42 rfl rfl (x_bytes_str u22 u5 u9 rfl (hl.ext hX)) ?_
  refine g1 42 rfl rfl ((x_eql_str rfl rfl).cast (congrArg _ (decide_eq_true rfl))) ?_
  refine p1 (x_pick_t rfl (by conv => lhs; whnf)) ?_
  refine p1 (x_move (by conv => lhs; whnf)) ?_
  refine g_drop 49 rfl rfl ?_
  refine o_call Try.func33 fn33 fb33 (law06_awake _) rfl ?_
  rintro v6 w6 ⟨rfl, hE6⟩
  have hX := hX.ext hE6
  have hO := hO.ext hE6
  have hA := hA.ext hE6
  have hR := hR.ext hE6
  refine p1 (x_pick_t rfl (by conv => lhs; whnf)) ?_
  refine p1 (x_assign (by conv => lhs; whnf)) ?_
  refine r_nil ?_
  refine t_n ?_
  refine c_ret ?_
  refine end1 rfl (by conv => lhs; whnf) ?_
  exact ⟨rfl, hX⟩
end Go.Proofs.Eng
