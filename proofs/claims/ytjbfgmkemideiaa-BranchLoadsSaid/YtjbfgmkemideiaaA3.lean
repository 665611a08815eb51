import Derived.Test.YtjbfgmkemideiaaS0
import Derived.Test.YtjbfgmkemideiaaE9
import Derived.Test.YtjbfgmkemideiaaT0
set_option linter.unusedVariables false
set_option linter.unusedSimpArgs false
set_option maxRecDepth 100000
set_option maxHeartbeats 4000000
namespace Go.Proofs.Eng
open Go.RowKit
open Extern.Stop (cell)
theorem slices_Clone_hash (xs : List Hash) (B : Nat) (p : Option Addr) (n c : Nat) (w : World) (hl : Sl kHash 35 B w p n c xs) (hs : n ≤ 4194304000) :
    Ret Try.prog 89 [.slice p n c] w (fun v w' => (∃ q c', v = .slice q n c' ∧ Own kHash 35 0 w.heap.size w' q n c' xs) ∧ Ext w w') := by
  have hX := Ext.refl w
  refine enter 8 _ Try.func89 rfl rfl (Nat.le_of_ble_eq_true rfl) ?_
  refine c_seq ?_
  refine r_plain ?_
  refine p1 (x_assign (by conv => lhs; whnf)) ?_
  refine r_nil ?_
  refine t_n ?_
  refine c_seq ?_
  refine c_seq ?_
  refine r_plain ?_
  refine p1 (x_move (by conv => lhs; whnf)) ?_
  refine p1 (x_eql_slnil u31 rfl rfl) ?_
  refine r_nil ?_
  refine t_n ?_
  first | refine c_dec rfl (fun hc4 => ?_) (fun hc4 => ?_) | refine c_if rfl (fun hc4 => ?_) (fun hc4 => ?_)
  · try simp only [decide_eq_true_eq, decide_eq_false_iff_not, Bool.not_eq_true, Bool.not_eq_false, Bool.not_eq_eq_eq_not, Bool.not_true, Bool.not_false, Int.not_lt, Int.not_le] at hc4
    have hn : n = 0 := by
      rcases Nat.eq_zero_or_pos n with h | h
      · exact h
      · have := hl.adr kHash_pos h; rw [hc4] at this; cases this
    have hx0 : xs = [] := List.eq_nil_of_length_eq_zero (by rw [hl.len, hn])
    have hp : Own kHash 35 0 w.heap.size w none 0 0 xs := by rw [hx0]; exact Own.nil _ _ _ _ _
    refine c_seq ?_
    refine r_plain ?_
    refine p1 (x_assign (by conv => lhs; whnf)) ?_
    refine r_nil ?_
    refine t_n ?_
    refine c_ret ?_
    refine t_r ?_
    refine end1 rfl (by conv => lhs; whnf) ?_
    first | (subst hn; exact ⟨⟨none, 0, rfl, hp⟩, hX⟩) | exact ⟨⟨_, _, by rw [Nat.zero_add], by rw [List.nil_append, Nat.zero_add] at hO; exact hO⟩, hX⟩
  · try simp only [decide_eq_true_eq, decide_eq_false_iff_not, Bool.not_eq_true, Bool.not_eq_false, Bool.not_eq_eq_eq_not, Bool.not_true, Bool.not_false, Int.not_lt, Int.not_le] at hc4
    refine c_skip ?_
    refine t_n ?_
    refine c_seq ?_
    refine r_plain ?_
    refine o_buildSlice u31 inf35 rfl (by decide) (fun base hb => by have h0 : base = #[] := Array.eq_empty_of_size_eq_zero (by simpa using hb); subst h0; rfl) ?_
    intro w1 g5 hN5
    have hE1 := hN5.ext
    have hX := hX.ext hE1
    have hO : Own kHash 35 0 w.heap.size w1 (some ⟨g5, 0, none⟩) 0 0 [] := Own.made kHash 35 0 _ hN5 [] [] 0 0 rfl trivial (by have := hX.size; have := hN5.g_eq; have := hN5.ext.size; omega) (by omega) (by omega) (by rfl) (by simp)
    refine p1 (x_move (by conv => lhs; whnf)) ?_
    have hB0 := hX.size
    have hl2 := hl.ext hX
    refine o_append (d := kHash) (xs) u31 inf35 rfl kHash_pos rfl rfl hO (src_pure u31 hl2 (by decide)) hl.len (hash_all _ _ _) (rfl) (by omega) (by omega) (by omega) (by omega) (by decide) ?_
    intro p7 c7 w2 hO hM2
    have hX := hX.mod hM2 (Nat.le_refl _)
    refine p1 (x_assign (by conv => lhs; whnf)) ?_
    refine r_nil ?_
    refine t_n ?_
    refine c_ret ?_
    refine end1 rfl (by conv => lhs; whnf) ?_
    first | (subst hn; exact ⟨⟨none, 0, rfl, hp⟩, hX⟩) | exact ⟨⟨_, _, by rw [Nat.zero_add], by rw [List.nil_append, Nat.zero_add] at hO; exact hO⟩, hX⟩
theorem slices_Compact_hash (xs : List Hash) (B0 : Nat) (p : Option Addr) (n c : Nat) (w : World) (hO : Own kHash 35 0 B0 w p n c xs) :
    Ret Try.prog 92 [.slice p n c] w (fun v w' => ∃ m, m ≤ n ∧ v = .slice p m c ∧ Own kHash 35 0 B0 w' p m c (cpt xs n) ∧ Mod B0 35 w w') := by
  have hX := Mod.refl B0 35 w
  refine enter 61 _ Try.func92 rfl rfl (Nat.le_of_ble_eq_true rfl) ?_
  refine c_seq ?_
  refine r_plain ?_
  refine p1 (x_assign (by conv => lhs; whnf)) ?_
  refine r_nil ?_
  refine t_n ?_
  refine c_seq ?_
  refine c_seq ?_
  have hlen := hO.len
  have hsm := hO.small
  refine r_plain ?_
  refine p1 (x_move (by conv => lhs; whnf)) ?_
  refine p1 (x_len_slice u31 rfl) ?_
  refine p1 (x_lss rfl rfl) ?_
  refine r_nil ?_
  refine t_n ?_
  first | refine c_dec rfl (fun hc8 => ?_) (fun hc8 => ?_) | refine c_if rfl (fun hc8 => ?_) (fun hc8 => ?_)
  · try simp only [decide_eq_true_eq, decide_eq_false_iff_not, Bool.not_eq_true, Bool.not_eq_false, Bool.not_eq_eq_eq_not, Bool.not_true, Bool.not_false, Int.not_lt, Int.not_le] at hc8
    have hp : cpt xs n = xs := by rw [cpt_take n (by omega) (fun i h1 h2 => by omega), List.take_of_length_le (by omega)]
    refine c_seq ?_
    refine r_plain ?_
    refine p1 (x_move (by conv => lhs; whnf)) ?_
    refine p1 (x_assign (by conv => lhs; whnf)) ?_
    refine r_nil ?_
    refine t_n ?_
    refine c_ret ?_
    refine t_r ?_
    refine end1 rfl (by conv => lhs; whnf) ?_
    first | exact ⟨n, Nat.le_refl _, rfl, (by rw [hp]; exact hO), hX⟩ | exact ⟨m, by omega, rfl, (by rw [← hmt]; exact hO), hX⟩
  · try simp only [decide_eq_true_eq, decide_eq_false_iff_not, Bool.not_eq_true, Bool.not_eq_false, Bool.not_eq_eq_eq_not, Bool.not_true, Bool.not_false, Int.not_lt, Int.not_le] at hc8
    refine c_skip ?_
    refine t_n ?_
    refine c_seq ?_
    refine c_seq ?_
    refine r_plain ?_
    refine p1 (x_assign (by conv => lhs; whnf)) ?_
    refine r_nil ?_
    refine t_n ?_
    refine c_block ?_
    have hWL0 := Ext.refl w
    refine c_loop (ι := Nat) [2, 3, 4, 5, 10, 11, 12, 13, 14, 15, 16, 17, 18, 19, 20, 21, 22, 23, 24, 25, 26, 27, 28, 29, 30, 31, 32, 33, 34, 35, 36, 37, 38, 39, 40, 41, 42, 43, 44, 45, 46, 47, 48, 49, 50, 51, 52, 53, 54, 55, 56, 57, 58, 59] (fun k => [(3, .int .i64 (k : Int))]) (fun k w' => Ext w w' ∧ (1 ≤ k ∧ k ≤ n ∧ ∀ i, 0 < i → i < k → xs.getD i default ≠ xs.getD (i - 1) default)) (fun k => n - k) (1) ⟨rfl, trivial⟩ ⟨Ext.refl _, ⟨by omega, by omega, fun i h1 h2 => by omega⟩⟩ ?_
    rintro k GL0 w1 ⟨hE1, hk1, hkn, hL⟩
    have hX := hX.ext hE1
    have hO := hO.ext hE1
    have hWL0 := hE1
    refine c_seq ?_
    refine c_seq ?_
    refine r_plain ?_
    refine p1 (x_move (by conv => lhs; whnf)) ?_
    refine p1 (x_move (by conv => lhs; whnf)) ?_
    refine p1 (x_len_slice u31 rfl) ?_
    refine p1 (x_lss rfl rfl) ?_
    refine r_nil ?_
    refine t_n ?_
    first | refine c_dec rfl (fun hc13 => ?_) (fun hc13 => ?_) | refine c_if rfl (fun hc13 => ?_) (fun hc13 => ?_)
    · try simp only [decide_eq_true_eq, decide_eq_false_iff_not, Bool.not_eq_true, Bool.not_eq_false, Bool.not_eq_eq_eq_not, Bool.not_true, Bool.not_false, Int.not_lt, Int.not_le] at hc13
      refine c_skip ?_
      refine t_n ?_
      refine c_seq ?_
      refine c_block ?_
      refine c_seq ?_
      refine r_still mixed (by kernel_rfl) ?_
      intro w2 hE2
      have hX := hX.ext hE2
      have hO := hO.ext hE2
      have hWL0 := hWL0.ext hE2
      refine s1 (x_move (by conv => lhs; whnf)) ?_
      refine s1 (x_move (by conv => lhs; whnf)) ?_
      refine s1 (x_ixs u31 sz35 rfl rfl (hO.sl.adr kHash_pos (by omega)) (by omega) (by omega)) ?_
      refine s1 (x_loadN ua35 rfl (hcs_sz sz35 _) (hO.sl.hashAt _ (by omega) (by omega))) ?_
      refine s1 (x_move (by conv => lhs; whnf)) ?_
      refine s1 (x_move (by conv => lhs; whnf)) ?_
      refine s1 (x_sub rfl rfl (fits_i64 (by omega) (by omega))) ?_
      refine s1 (x_ixs u31 sz35 rfl rfl (hO.sl.adr kHash_pos (by omega)) (by omega) (by omega)) ?_
      refine s1 (x_loadN ua35 rfl (hcs_sz sz35 _) (hO.sl.hashAt _ (by omega) (by omega))) ?_
      refine s1 (x_eql_bytes u35 u5 sz5 eg35 rfl rfl (xs.getD _ default).2 (xs.getD _ default).2) ?_
      refine s_nil ?_
      refine t_n ?_
      first | refine c_dec rfl (fun hc25 => ?_) (fun hc25 => ?_) | refine c_if rfl (fun hc25 => ?_) (fun hc25 => ?_)
      · try simp only [decide_eq_true_eq, decide_eq_false_iff_not, Bool.not_eq_true, Bool.not_eq_false, Bool.not_eq_eq_eq_not, Bool.not_true, Bool.not_false, Int.not_lt, Int.not_le] at hc25
        have hq : xs.getD k default = xs.getD (k - 1) default := by have := Subtype.ext hc25; rw [show ((k : Int) - 1).toNat = k - 1 from by omega, Int.toNat_natCast] at this; exact this
        have hq2 : cpt xs (k + 1) = xs.take k := by rw [cpt_eq (by omega) hq, cpt_take k (by omega) hL]
        refine c_seq ?_
        refine r_plain ?_
        refine p1 (x_move (by conv => lhs; whnf)) ?_
        refine p1 (x_move (by conv => lhs; whnf)) ?_
        refine p1 (x_slice_lN u31 sz35 rfl rfl (by omega)) ?_
        refine p1 (x_assign (by conv => lhs; whnf)) ?_
        refine r_nil ?_
        refine t_n ?_
        refine c_seq ?_
        refine c_seq ?_
        refine r_plain ?_
        refine p1 (x_assign (by conv => lhs; whnf)) ?_
        refine r_nil ?_
        refine t_n ?_
        refine c_block ?_
        refine c_loop (ι := Nat × Nat × List Hash) [3, 5, 29, 30, 31, 32, 33, 34, 35, 36, 37, 38, 39, 40, 41, 42, 43, 44, 45, 46, 47, 48, 49, 50, 51, 52, 53] (fun (j, m, zs) => [(3, .int .i64 (m : Int)), (5, .int .i64 (j : Int))]) (fun (j, m, zs) w' => Mod B0 35 w w' ∧ (Own kHash 35 0 B0 w' p n c zs ∧ 1 ≤ j ∧ k + j ≤ n ∧ m < k + j ∧ m = (cpt xs (k + j)).length ∧ zs.take m = cpt xs (k + j) ∧ zs.drop (k + j - 1) = xs.drop (k + j - 1))) (fun (j, m, zs) => n - k - j) ((1, k, xs)) ⟨rfl, rfl, trivial⟩ ⟨hX, ⟨hO, by omega, by omega, by omega, by rw [hq2, List.length_take]; omega, hq2.symm, rfl⟩⟩ ?_
        rintro ⟨j, m, zs⟩ GL2 w3 ⟨hE3, hO, hj1, hjn, hmk, hml, hmt, hmd⟩
        have hX := hE3
        refine c_seq ?_
        refine c_seq ?_
        refine r_plain ?_
        refine p1 (x_move (by conv => lhs; whnf)) ?_
        refine p1 (x_move (by conv => lhs; whnf)) ?_
        refine p1 (x_len_slice u31 rfl) ?_
        refine p1 (x_lss rfl rfl) ?_
        refine r_nil ?_
        refine t_n ?_
        first | refine c_dec rfl (fun hc32 => ?_) (fun hc32 => ?_) | refine c_if rfl (fun hc32 => ?_) (fun hc32 => ?_)
        · try simp only [decide_eq_true_eq, decide_eq_false_iff_not, Bool.not_eq_true, Bool.not_eq_false, Bool.not_eq_eq_eq_not, Bool.not_true, Bool.not_false, Int.not_lt, Int.not_le] at hc32
          refine c_skip ?_
          refine t_n ?_
          refine c_seq ?_
          refine c_block ?_
          refine c_seq ?_
          have hlz := hO.len
          have ez : ∀ i, k + j - 1 ≤ k + i → (zs.drop k).getD i default = xs.getD (k + i) default := fun i hi => by
            have h1 := congrArg (fun l => l.getD (k + i - (k + j - 1)) default) hmd
            simp only [List.getD_eq_getElem?_getD, List.getElem?_drop] at h1 ⊢
            rw [show k + j - 1 + (k + i - (k + j - 1)) = k + i from by omega] at h1
            exact h1
          refine r_still mixed (by kernel_rfl) ?_
          intro w4 hE4
          have hX := hX.ext hE4
          have hO := hO.ext hE4
          refine s1 (x_move (by conv => lhs; whnf)) ?_
          refine s1 (x_move (by conv => lhs; whnf)) ?_
          refine s1 (x_ixs u31 sz35 rfl rfl ((hO.sl.dropI k (by omega)).adr kHash_pos (by omega)) (by omega) (by omega)) ?_
          refine s1 (x_loadN ua35 rfl (hcs_sz sz35 _) ((hO.sl.dropI k (by omega)).hashAt _ (by omega) (by omega))) ?_
          refine s1 (x_move (by conv => lhs; whnf)) ?_
          refine s1 (x_move (by conv => lhs; whnf)) ?_
          refine s1 (x_sub rfl rfl (fits_i64 (by omega) (by omega))) ?_
          refine s1 (x_ixs u31 sz35 rfl rfl ((hO.sl.dropI k (by omega)).adr kHash_pos (by omega)) (by omega) (by omega)) ?_
          refine s1 (x_loadN ua35 rfl (hcs_sz sz35 _) ((hO.sl.dropI k (by omega)).hashAt _ (by omega) (by omega))) ?_
          refine s1 (x_neq_bytes u35 u5 sz5 eg35 rfl rfl ((zs.drop k).getD _ default).2 ((zs.drop k).getD _ default).2) ?_
          refine s_nil ?_
          refine t_n ?_
          first | refine c_dec rfl (fun hc44 => ?_) (fun hc44 => ?_) | refine c_if rfl (fun hc44 => ?_) (fun hc44 => ?_)
          · try simp only [decide_eq_true_eq, decide_eq_false_iff_not, Bool.not_eq_true, Bool.not_eq_false, Bool.not_eq_eq_eq_not, Bool.not_true, Bool.not_false, Int.not_lt, Int.not_le] at hc44
            have hne : xs.getD (k + j) default ≠ xs.getD (k + j - 1) default := fun e => hc44 (by rw [show ((j : Int) - 1).toNat = j - 1 from by omega, Int.toNat_natCast, ez j (by omega), ez (j - 1) (by omega), show k + (j - 1) = k + j - 1 from by omega, e])
            have hcp : cpt xs (k + j + 1) = cpt xs (k + j) ++ [xs.getD (k + j) default] := cpt_ne hne
            have ey : (zs.drop k).getD ((j : Int)).toNat default = xs.getD (k + j) default := by rw [Int.toNat_natCast, ez j (by omega)]
            refine c_seq ?_
            refine r_plain ?_
            refine p1 (x_move (by conv => lhs; whnf)) ?_
            refine p1 (x_move (by conv => lhs; whnf)) ?_
            refine p1 (x_move (by conv => lhs; whnf)) ?_
            refine p1 (x_move (by conv => lhs; whnf)) ?_
            refine p1 (x_ixs u31 sz35 rfl rfl ((hO.sl.dropI k (by omega)).adr kHash_pos (by omega)) (by omega) (by omega)) ?_
            refine p1 (x_loadN ua35 rfl (hcs_sz sz35 _) ((hO.sl.dropI k (by omega)).hashAt _ (by omega) (by omega))) ?_
            refine p1 (x_ixs u31 sz35 rfl rfl (hO.sl.adr kHash_pos (by omega)) (by omega) (by omega)) ?_
            refine o_storeSl (d := kHash) (i := m) ((zs.drop k).getD ((j : Int)).toNat default) rfl rfl hO (by omega) rfl sz35 (Nat.zero_le _) (by decide) ?_
            intro w5 hO hM5
            have hX := hX.mod hM5 (trivial)
            refine r_nil ?_
            refine t_n ?_
            refine r_plain ?_
            refine p1 (x_move (by conv => lhs; whnf)) ?_
            refine p1 (x_add rfl rfl (fits_i64 (by omega) (by omega))) ?_
            refine p1 (x_assign (by conv => lhs; whnf)) ?_
            refine r_nil ?_
            refine b_n ?_
            refine t_n ?_
            refine r_plain ?_
            refine p1 (x_move (by conv => lhs; whnf)) ?_
            refine p1 (x_add rfl rfl (fits_i64 (by omega) (by omega))) ?_
            refine p1 (x_assign (by conv => lhs; whnf)) ?_
            refine r_nil ?_
            first
              | exact t_n (At.mk ((j + 1, m + 1, zs.set m ((zs.drop k).getD ((j : Int)).toNat default))) (by repeat (first | exact Agr.refl _ _ | exact Agr.hav _ _ _ | refine Agr.upd rfl ?_ | refine Agr.updL ?_ _ rfl | refine Agr.hav' rfl ?_)) ⟨rfl, rfl, trivial⟩ ⟨⟨hX, hO, by omega, by omega, by omega, by rw [← Nat.add_assoc, hcp, List.length_append, ← hml]; rfl, by rw [← Nat.add_assoc, hcp, ey, List.take_succ_eq_append_getElem (by rw [List.length_set]; omega), List.getElem_set_self, List.take_set_of_le (Nat.le_refl _), hmt], by rw [List.drop_set_of_lt (by omega)]; exact drop_more hmd (by omega)⟩, by first | (dsimp only; omega) | ((show _ < _); omega)⟩)
              | exact t_n (At.mk ((j + 1, m, zs)) (by repeat (first | exact Agr.refl _ _ | exact Agr.hav _ _ _ | refine Agr.upd rfl ?_ | refine Agr.updL ?_ _ rfl | refine Agr.hav' rfl ?_)) ⟨rfl, rfl, trivial⟩ ⟨⟨hX, hO, by omega, by omega, by omega, by rw [← Nat.add_assoc, hcp]; exact hml, by rw [← Nat.add_assoc, hcp]; exact hmt, drop_more hmd (by omega)⟩, by first | (dsimp only; omega) | ((show _ < _); omega)⟩)
          · try simp only [decide_eq_true_eq, decide_eq_false_iff_not, Bool.not_eq_true, Bool.not_eq_false, Bool.not_eq_eq_eq_not, Bool.not_true, Bool.not_false, Int.not_lt, Int.not_le] at hc44
            have heq : xs.getD (k + j) default = xs.getD (k + j - 1) default := by
              have h1 := Subtype.ext (Classical.byContradiction hc44)
              rw [show ((j : Int) - 1).toNat = j - 1 from by omega, Int.toNat_natCast, ez j (by omega), ez (j - 1) (by omega), show k + (j - 1) = k + j - 1 from by omega] at h1
              exact h1
            have hcp : cpt xs (k + j + 1) = cpt xs (k + j) := cpt_eq (by omega) heq
            refine c_skip ?_
            refine b_n ?_
            refine t_n ?_
            refine r_plain ?_
            refine p1 (x_move (by conv => lhs; whnf)) ?_
            refine p1 (x_add rfl rfl (fits_i64 (by omega) (by omega))) ?_
            refine p1 (x_assign (by conv => lhs; whnf)) ?_
            refine r_nil ?_
            first
              | exact t_n (At.mk ((j + 1, m + 1, zs.set m ((zs.drop k).getD ((j : Int)).toNat default))) (by repeat (first | exact Agr.refl _ _ | exact Agr.hav _ _ _ | refine Agr.upd rfl ?_ | refine Agr.updL ?_ _ rfl | refine Agr.hav' rfl ?_)) ⟨rfl, rfl, trivial⟩ ⟨⟨hX, hO, by omega, by omega, by omega, by rw [← Nat.add_assoc, hcp, List.length_append, ← hml]; rfl, by rw [← Nat.add_assoc, hcp, ey, List.take_succ_eq_append_getElem (by rw [List.length_set]; omega), List.getElem_set_self, List.take_set_of_le (Nat.le_refl _), hmt], by rw [List.drop_set_of_lt (by omega)]; exact drop_more hmd (by omega)⟩, by first | (dsimp only; omega) | ((show _ < _); omega)⟩)
              | exact t_n (At.mk ((j + 1, m, zs)) (by repeat (first | exact Agr.refl _ _ | exact Agr.hav _ _ _ | refine Agr.upd rfl ?_ | refine Agr.updL ?_ _ rfl | refine Agr.hav' rfl ?_)) ⟨rfl, rfl, trivial⟩ ⟨⟨hX, hO, by omega, by omega, by omega, by rw [← Nat.add_assoc, hcp]; exact hml, by rw [← Nat.add_assoc, hcp]; exact hmt, drop_more hmd (by omega)⟩, by first | (dsimp only; omega) | ((show _ < _); omega)⟩)
        · try simp only [decide_eq_true_eq, decide_eq_false_iff_not, Bool.not_eq_true, Bool.not_eq_false, Bool.not_eq_eq_eq_not, Bool.not_true, Bool.not_false, Int.not_lt, Int.not_le] at hc32
          have hjj : k + j = n := by omega
          have hlz := hO.len
          rw [hjj] at hmt
          refine c_exit ?_
          refine t_e ?_
          refine t_e ?_
          refine b_hit ?_
          refine t_n ?_
          refine c_seq ?_
          refine r_plain ?_
          refine p1 (x_move (by conv => lhs; whnf)) ?_
          refine p1 (x_move (by conv => lhs; whnf)) ?_
          refine p1 (x_slice_lN u31 sz35 rfl rfl (by omega)) ?_
          refine o_clear (d := kHash) u31 inf35 rfl (by decide) kHash_pos rfl hO (by omega) (Nat.zero_le _) (by decide) ?_
          intro w6 hO hM6
          have hX := hX.mod hM6 (trivial)
          refine r_nil ?_
          refine t_n ?_
          refine c_seq ?_
          refine r_plain ?_
          refine p1 (x_move (by conv => lhs; whnf)) ?_
          refine p1 (x_move (by conv => lhs; whnf)) ?_
          refine p1 (x_slice_hN u31 sz35 rfl rfl (by omega)) ?_
          refine p1 (x_assign (by conv => lhs; whnf)) ?_
          refine r_nil ?_
          refine t_n ?_
          refine c_ret ?_
          refine b_r ?_
          refine t_r ?_
          refine t_r ?_
          refine b_r ?_
          refine t_r ?_
          refine end1 rfl (by conv => lhs; whnf) ?_
          first | exact ⟨n, Nat.le_refl _, rfl, (by rw [hp]; exact hO), hX⟩ | exact ⟨m, by omega, rfl, (by rw [← hmt]; exact hO), hX⟩
      · try simp only [decide_eq_true_eq, decide_eq_false_iff_not, Bool.not_eq_true, Bool.not_eq_false, Bool.not_eq_eq_eq_not, Bool.not_true, Bool.not_false, Int.not_lt, Int.not_le] at hc25
        have hq : xs.getD k default ≠ xs.getD (k - 1) default := fun e => hc25 (by rw [show ((k : Int) - 1).toNat = k - 1 from by omega, Int.toNat_natCast, e])
        refine c_skip ?_
        refine b_n ?_
        refine t_n ?_
        refine r_plain ?_
        refine p1 (x_move (by conv => lhs; whnf)) ?_
        refine p1 (x_add rfl rfl (fits_i64 (by omega) (by omega))) ?_
        refine p1 (x_assign (by conv => lhs; whnf)) ?_
        refine r_nil ?_
        refine t_n (At.mk (k + 1) (by repeat (first | exact Agr.refl _ _ | exact Agr.hav _ _ _ | refine Agr.upd rfl ?_ | refine Agr.updL ?_ _ rfl | refine Agr.hav' rfl ?_)) ⟨rfl, trivial⟩ ?_)
        exact ⟨⟨hWL0, ⟨by omega, by omega, fun i h1 h2 => if h : i < k then hL i h1 h else by rw [show i = k from by omega]; exact hq⟩⟩, by first | (dsimp only; omega) | ((show _ < _); omega)⟩
    · try simp only [decide_eq_true_eq, decide_eq_false_iff_not, Bool.not_eq_true, Bool.not_eq_false, Bool.not_eq_eq_eq_not, Bool.not_true, Bool.not_false, Int.not_lt, Int.not_le] at hc13
      have hp : cpt xs n = xs := by rw [cpt_take n (by omega) (fun i h1 h2 => hL i h1 (by omega)), List.take_of_length_le (by omega)]
      refine c_exit ?_
      refine t_e ?_
      refine t_e ?_
      refine b_hit ?_
      refine t_n ?_
      refine c_seq ?_
      refine r_plain ?_
      refine p1 (x_move (by conv => lhs; whnf)) ?_
      refine p1 (x_assign (by conv => lhs; whnf)) ?_
      refine r_nil ?_
      refine t_n ?_
      refine c_ret ?_
      refine end1 rfl (by conv => lhs; whnf) ?_
      first | exact ⟨n, Nat.le_refl _, rfl, (by rw [hp]; exact hO), hX⟩ | exact ⟨m, by omega, rfl, (by rw [← hmt]; exact hO), hX⟩
end Go.Proofs.Eng
