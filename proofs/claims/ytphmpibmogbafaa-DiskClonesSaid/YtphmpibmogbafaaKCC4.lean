import Derived.Test.YtphmpibmogbafaaKCC3
/- Merged: KF QZ KG T14 KH QO T15 -/
section
set_option linter.unusedVariables false
set_option linter.unusedSimpArgs false
set_option maxRecDepth 100000
set_option maxHeartbeats 4000000
namespace Go.Proofs.Eng
open Go.RowKit
open Extern.Stop (cell)
theorem ref_either2 (D : DS) (act : List Fl) (p px : Option Addr) (n c nx cx : Nat) (lf : Int) (w : World) (h1 : Sl kFl 81 0 w p n c D.l) (h2 : Sl kFl 81 0 w px nx cx act) :
    Ret Try.prog 58 [.agg #[.int .i64 (D.most : Int), .slice p n c, .int .i64 (D.steps : Int), .bool (decide (0 ≤ D.left)), .int .i64 lf, .bool D.done, .bool D.down], .agg #[.int .i64 (D.most : Int), .slice px nx cx, .int .i64 (D.steps : Int), .bool (decide (0 ≤ D.left)), .int .i64 lf, .bool D.done, .bool D.down]] w (fun v w' => (∃ py ny cy, v = .agg #[.int .i64 (D.most : Int), .slice py ny cy, .int .i64 (D.steps : Int), .bool (decide (0 ≤ D.left)), .int .i64 lf, .bool D.done, .bool D.down] ∧ Sl kFl 81 0 w' py ny cy (if (true && (false || D.done)) = true then act else D.l)) ∧ Ext w w') := by
  refine ⟨Calls.mono (ref_either _ _ _ _ _ _ _ _ _ _ _ _ p px n c nx cx w).out ?_⟩
  rintro e w' ⟨v, rfl, rfl, hX⟩
  cases hd : D.done with
  | true => exact ⟨_, rfl, ⟨px, nx, cx, by rw [if_pos rfl], by simpa using h2.ext hX⟩, hX⟩
  | false => exact ⟨_, rfl, ⟨p, n, c, by rw [if_neg (by simp)], by simpa using h1.ext hX⟩, hX⟩

theorem ref_stepD (D : DS) (act : List Fl) (fa al : Bool) (p px py : Option Addr) (n c nx cx ny cy : Nat) (lf : Int) (w : World) (h2 : Sl kFl 81 0 w px nx cx act) (hy : Sl kFl 81 0 w py ny cy (if (fa && (al || D.done)) = true then act else D.l)) (hlf : LfOk D lf) (hl : -1 ≤ D.left) (hst : D.steps < 4611686018427387904) (hlo : -9223372036854775807 ≤ lf) :
    Ret Try.prog 57 [.agg #[.int .i64 (D.most : Int), .slice p n c, .int .i64 (D.steps : Int), .bool (decide (0 ≤ D.left)), .int .i64 lf, .bool D.done, .bool D.down], .agg #[.int .i64 (D.most : Int), .slice px nx cx, .int .i64 (D.steps : Int), .bool (decide (0 ≤ D.left)), .int .i64 lf, .bool D.done, .bool D.down], .agg #[.int .i64 (D.most : Int), .slice py ny cy, .int .i64 (D.steps : Int), .bool (decide (0 ≤ D.left)), .int .i64 lf, .bool D.done, .bool D.down]] w (fun v w' => (∃ cs, v = .tuple #[.agg cs, .int .i64 (stepD D act fa al).2] ∧ RefV w' cs (stepD D act fa al).1) ∧ Ext w w') := by
  refine ⟨Calls.mono (ref_step (D.most : Int) (D.steps : Int) lf (D.most : Int) (D.steps : Int) lf (D.most : Int) (D.steps : Int) lf (decide (0 ≤ D.left)) D.done D.down (decide (0 ≤ D.left)) D.done D.down (decide (0 ≤ D.left)) D.done D.down p px py n c nx cx ny cy w hlo hlf.hi (by omega) (by omega)).out ?_⟩
  rintro e w' ⟨v, rfl, rfl, hX⟩
  obtain ⟨cs, h3, h4⟩ := step_refV (h2.ext hX) (hy.ext hX) hlf hl
  exact ⟨_, rfl, ⟨cs, h3, h4⟩, hX⟩

theorem ref_Create (D : DS) (p : Option Addr) (n c : Nat) (lf : Int) (w : World) (hl : Sl kFl 81 0 w p n c D.l) (hlf : LfOk D lf) (hok : DOk D) (hst : D.steps < 4611686018427387904) (k : ByteArray) (hks : k.size ≤ 9223372036854775807) :
    Ret Try.prog 34 [.agg #[.int .i64 (D.most : Int), .slice p n c, .int .i64 (D.steps : Int), .bool (decide (0 ≤ D.left)), .int .i64 lf, .bool D.done, .bool D.down], .string k] w (fun v w' => (∃ cs, v = .tuple #[.agg cs, .int .i64 (createD D k).2] ∧ RefV w' cs (createD D k).1) ∧ Ext w w') := by
  have hX := Ext.refl w
  refine enter 46 _ Try.func34 rfl rfl (Nat.le_of_ble_eq_true rfl) rfl ?_
  refine c_seq ?_
  refine r_plain ?_
  have hXs2 := hX.size
  refine o_boxA (by conv => lhs; whnf) ?_
  intro w1 g2 hN2
  have hE1 := hN2.ext
  have hX := hX.ext hE1
  have hB2 := hN2.blk
  have hXs4 := hX.size
  have hlt2 := hB2.lt
  refine o_alloc zr27 ?_
  intro w2 g4 hN4
  have hE2 := hN4.ext
  have hX := hX.ext hE2
  have hB2 := hB2.ext hE2
  have hB4 := hN4.blk
  refine p1 (x_assign (by conv => lhs; whnf)) ?_
  refine r_nil ?_
  refine t_n ?_
  refine c_seq ?_
  have hg4 := hN4.g_eq
  have hlen := hl.len
  have hcap := hl.cap
  have hple := plc_leA D.l k
  have hfew := hok.few
  have hroom := hok.room
  have hmost := hok.most
  refine r_plain ?_
  refine p1 (x_loadB ua27 rfl hB2 (by exact sz27)) ?_
  refine p1 (x_move (by conv => lhs; whnf)) ?_
  refine o_buildSlice u51 inf9 rfl (by decide) (fun base hb => fill_one (by rfl) base hb) ?_
  intro w3 g12 hN12
  have hE3 := hN12.ext
  have hX := hX.ext hE3
  have hB2 := hB2.ext hE3
  have hB4 := hB4.ext hE3
  have hS12 : Sl kStr 9 0 w3 (some ⟨g12, 0, none⟩) 1 1 [k] := (own_lit (B0 := 0) [k] hN12 (Nat.zero_le _) (by simp)).sl
  refine o_call Try.func44 fn44 fb44 (ref_first (D.most : Int) (D.steps : Int) lf (decide (0 ≤ D.left)) D.done D.down p n c D rfl [k] 0 _ _ _ _ hS12 (by intro s hs'; simp only [List.mem_singleton] at hs'; subst hs'; exact hks)) rfl ?_
  rintro v4 w4 ⟨rfl, hE4⟩
  have hX := hX.ext hE4
  have hB2 := hB2.ext hE4
  have hB4 := hB4.ext hE4
  have hS12 := hS12.ext hE4
  refine p1 (x_assign (by conv => lhs; whnf)) ?_
  refine r_nil ?_
  refine t_n ?_
  refine c_seq ?_
  refine r_plain ?_
  refine p1 (x_loadB ua27 rfl hB2 (by exact sz27)) ?_
  refine p1 (x_move (by conv => lhs; whnf)) ?_
  refine o_call Try.func45 fn45 fb45 (ref_place (D.most : Int) (D.steps : Int) lf (decide (0 ≤ D.left)) D.done D.down D.l p n c _ (hl.ext hX) k (by omega)) rfl ?_
  rintro v5 w5 ⟨rfl, hE5⟩
  have hX := hX.ext hE5
  have hB2 := hB2.ext hE5
  have hB4 := hB4.ext hE5
  refine p1 (x_move (by conv => lhs; whnf)) ?_
  refine p1 (x_extract rfl rfl) ?_
  refine p1 (x_extract rfl rfl) ?_
  refine p1 (x_assign (by conv => lhs; whnf)) ?_
  refine p1 (x_assign (by conv => lhs; whnf)) ?_
  refine r_nil ?_
  refine t_n ?_
  refine c_seq ?_
  refine c_block ?_
  refine c_seq ?_
  refine r_plain ?_
  refine p1 (x_move (by conv => lhs; whnf)) ?_
  refine p1 (x_neq rfl rfl) ?_
  refine p1 (x_assign (by conv => lhs; whnf)) ?_
  refine r_nil ?_
  refine t_n ?_
  first | refine c_dec rfl (fun hc20 => ?_) (fun hc20 => ?_) | refine c_if rfl (fun hc20 => ?_) (fun hc20 => ?_)
  · try simp only [decide_eq_true_eq, decide_eq_false_iff_not, Bool.not_eq_true, Bool.not_eq_false, Bool.not_eq_eq_eq_not, Bool.not_true, Bool.not_false, Int.not_lt, Int.not_le] at hc20
    have hp : createD D k = (D, lookD D [k]) := if_pos hc20
    refine c_seq ?_
    refine r_plain ?_
    refine p1 (x_loadB ua27 rfl hB2 (by exact sz27)) ?_
    refine p1 (x_move (by conv => lhs; whnf)) ?_
    refine o_storeAll rfl (by conv => lhs; whnf) (by simp [Value.oneCell']) (by exact sz27) hB4 (by rfl) ?_
    intro w6 hP6
    have hX := hX.put hP6 (by rw [hN4.g_eq]; exact hXs4)
    have hB2 := hP6.keep hB2 (by omega)
    have hB4 := hP6.blk
    refine p1 (x_assign (by conv => lhs; whnf)) ?_
    refine r_nil ?_
    refine t_n ?_
    refine c_ret ?_
    refine b_r ?_
    refine t_r ?_
    refine end2c rfl ua27 rfl (by conv => lhs; whnf) hB4 (by exact sz27) ?_
    first
      | exact ⟨⟨_, by rw [hp], by rw [hp]; exact ⟨p, n, c, lf, rfl, hl.ext hX, hlf⟩⟩, hX⟩
      | exact ⟨⟨_, by rw [hp], by rw [hp]; exact ⟨p9, n9, c9, lf9, rfl, hl9, hlf9⟩⟩, hX⟩
  · try simp only [decide_eq_true_eq, decide_eq_false_iff_not, Bool.not_eq_true, Bool.not_eq_false, Bool.not_eq_eq_eq_not, Bool.not_true, Bool.not_false, Int.not_lt, Int.not_le] at hc20
    refine c_seq ?_
    refine r_plain ?_
    refine p1 (x_move (by conv => lhs; whnf)) ?_
    refine p1 (x_assign (by conv => lhs; whnf)) ?_
    refine r_nil ?_
    refine t_n ?_
    first | refine c_dec rfl (fun hc25 => ?_) (fun hc25 => ?_) | refine c_if rfl (fun hc25 => ?_) (fun hc25 => ?_)
    · try simp only [decide_eq_true_eq, decide_eq_false_iff_not, Bool.not_eq_true, Bool.not_eq_false, Bool.not_eq_eq_eq_not, Bool.not_true, Bool.not_false, Int.not_lt, Int.not_le] at hc25
      have hp : createD D k = (D, 23) := by unfold createD; rw [if_neg hc20, if_pos (show ascF D.l k ≠ none from (isAt_iffA hok.rise k).1 hc25)]
      refine c_seq ?_
      refine r_plain ?_
      refine p1 (x_loadB ua27 rfl hB2 (by exact sz27)) ?_
      refine o_storeAll rfl (by conv => lhs; whnf) (by simp [Value.oneCell']) (by exact sz27) hB4 (by rfl) ?_
      intro w7 hP7
      have hX := hX.put hP7 (by rw [hN4.g_eq]; exact hXs4)
      have hB2 := hP7.keep hB2 (by omega)
      have hB4 := hP7.blk
      refine p1 (x_assign (by conv => lhs; whnf)) ?_
      refine r_nil ?_
      refine t_n ?_
      refine c_ret ?_
      refine b_r ?_
      refine t_r ?_
      refine end2c rfl ua27 rfl (by conv => lhs; whnf) hB4 (by exact sz27) ?_
      first
        | exact ⟨⟨_, by rw [hp], by rw [hp]; exact ⟨p, n, c, lf, rfl, hl.ext hX, hlf⟩⟩, hX⟩
        | exact ⟨⟨_, by rw [hp], by rw [hp]; exact ⟨p9, n9, c9, lf9, rfl, hl9, hlf9⟩⟩, hX⟩
    · try simp only [decide_eq_true_eq, decide_eq_false_iff_not, Bool.not_eq_true, Bool.not_eq_false, Bool.not_eq_eq_eq_not, Bool.not_true, Bool.not_false, Int.not_lt, Int.not_le] at hc25
      have hnf := file_not hok hc25
      refine c_seq ?_
      refine r_plain ?_
      refine p1 (x_fieldAddr fo27_1 sz25 rfl) ?_
      refine p1 (x_load1 un25 rfl (hB2.cell (rfl))) ?_
      refine p1 (x_len_slice u25 rfl) ?_
      refine p1 (x_geq rfl rfl) ?_
      refine p1 (x_assign (by conv => lhs; whnf)) ?_
      refine r_nil ?_
      refine t_n ?_
      first | refine c_dec rfl (fun hc28 => ?_) (fun hc28 => ?_) | refine c_if rfl (fun hc28 => ?_) (fun hc28 => ?_)
      · try simp only [decide_eq_true_eq, decide_eq_false_iff_not, Bool.not_eq_true, Bool.not_eq_false, Bool.not_eq_eq_eq_not, Bool.not_true, Bool.not_false, Int.not_lt, Int.not_le] at hc28
        have hp : createD D k = (D, 21) := by unfold createD; rw [if_neg hc20, if_neg (by rw [hnf]; simp), if_pos (by omega)]
        refine c_seq ?_
        refine r_plain ?_
        refine p1 (x_loadB ua27 rfl hB2 (by exact sz27)) ?_
        refine o_storeAll rfl (by conv => lhs; whnf) (by simp [Value.oneCell']) (by exact sz27) hB4 (by rfl) ?_
        intro w8 hP8
        have hX := hX.put hP8 (by rw [hN4.g_eq]; exact hXs4)
        have hB2 := hP8.keep hB2 (by omega)
        have hB4 := hP8.blk
        refine p1 (x_assign (by conv => lhs; whnf)) ?_
        refine r_nil ?_
        refine t_n ?_
        refine c_ret ?_
        refine b_r ?_
        refine t_r ?_
        refine end2c rfl ua27 rfl (by conv => lhs; whnf) hB4 (by exact sz27) ?_
        first
          | exact ⟨⟨_, by rw [hp], by rw [hp]; exact ⟨p, n, c, lf, rfl, hl.ext hX, hlf⟩⟩, hX⟩
          | exact ⟨⟨_, by rw [hp], by rw [hp]; exact ⟨p9, n9, c9, lf9, rfl, hl9, hlf9⟩⟩, hX⟩
      · try simp only [decide_eq_true_eq, decide_eq_false_iff_not, Bool.not_eq_true, Bool.not_eq_false, Bool.not_eq_eq_eq_not, Bool.not_true, Bool.not_false, Int.not_lt, Int.not_le] at hc28
        have hp : createD D k = stepD D (insA D.l k (some ([], 0))) true false := by unfold createD; rw [if_neg hc20, if_neg (by rw [hnf]; simp), if_neg (by omega)]
        refine c_skip ?_
        refine b_n ?_
        refine t_n ?_
        refine c_seq ?_
        refine r_plain ?_
        refine p1 (x_loadB ua27 rfl hB2 (by exact sz27)) ?_
        refine p1 (x_move (by conv => lhs; whnf)) ?_
        refine p1 (x_buildF1 pl81 rfl) ?_
        refine o_call Try.func56 fn56 fb56 (ref_with (D.most : Int) (D.steps : Int) lf (decide (0 ≤ D.left)) D.done D.down D.l p n c _ (hl.ext hX) (by omega) k [] []) rfl ?_
        rintro v9 w9 ⟨⟨px, nx, cx, rfl, hlx⟩, hE9⟩
        have hX := hX.ext hE9
        have hB2 := hB2.ext hE9
        have hB4 := hB4.ext hE9
        have hXs9 := hX.size
        have hltc9 := hB4.lt
        have hltb9 := hB2.lt
        refine o_alloc zr27 ?_
        intro w10 g9 hN9
        have hE10 := hN9.ext
        have hX := hX.ext hE10
        have hB2 := hB2.ext hE10
        have hB4 := hB4.ext hE10
        have hlx := hlx.ext hE10
        have hB9 := hN9.blk
        have hg9 := hN9.g_eq
        refine o_storeAll rfl (by conv => lhs; whnf) (by simp [Value.oneCell']) (by exact sz27) hB9 (by rfl) ?_
        intro w11 hP11
        have hX := hX.put hP11 (by rw [hN9.g_eq]; exact hXs9)
        have hB2 := hP11.keep hB2 (by omega)
        have hB4 := hP11.keep hB4 (by omega)
        have hlx := hlx.mod (hP11.mod 0 (Nat.zero_le _)) (Nat.zero_le _) (by decide)
        have hB9 := hP11.blk
        refine r_nil ?_
        refine t_n ?_
        refine c_seq ?_
        refine r_held (fun w1 w2 => ModS (fun j => j = g4) [27] w1 w2) mixed ?_
        intro w12 hE12
        have hX := hX.ext hE12
        have hB2 := hB2.ext hE12
        have hB4 := hB4.ext hE12
        have hlx := hlx.ext hE12
        have hB9 := hB9.ext hE12
        have hSr10 : (fun w1 w2 => ModS (fun j => j = g4) [27] w1 w2) w12 w12 := ModS.refl _ _ _
        refine h_take 0 rfl (by kernel_rfl) (by kernel_rfl) (by kernel_rfl) hSr10 (fun wS hSS => by (have hB2 := hB2.modS hSS (.inl (by omega)); have hB9 := hB9.modS hSS (.inl (by omega)); exact (x_loadB ua27 rfl hB2 (by exact sz27)))) ?_
        refine h_take 1 rfl (by kernel_rfl) (by kernel_rfl) (by kernel_rfl) hSr10 (fun wS hSS => by (have hB2 := hB2.modS hSS (.inl (by omega)); have hB9 := hB9.modS hSS (.inl (by omega)); exact (x_loadB ua27 rfl hB9 (by exact sz27)))) ?_
        refine h_take 2 rfl (by kernel_rfl) (by kernel_rfl) (by kernel_rfl) hSr10 (fun wS hSS => by (have hB2 := hB2.modS hSS (.inl (by omega)); have hB9 := hB9.modS hSS (.inl (by omega)); exact (x_loadB ua27 rfl hB2 (by exact sz27)))) ?_
        refine h_take 3 rfl (by kernel_rfl) (by kernel_rfl) (by kernel_rfl) hSr10 (fun wS hSS => by (have hB2 := hB2.modS hSS (.inl (by omega)); have hB9 := hB9.modS hSS (.inl (by omega)); exact (x_loadB ua27 rfl hB9 (by exact sz27)))) ?_
        refine h_one 4 _ rfl (by kernel_rfl) (hop_of_list (fun Q4 hQ4 => ?_))
        refine o_call Try.func58 fn58 fb58 (ref_either2 D (insA D.l k (some ([], 0))) p px n c nx cx lf _ (hl.ext hX) hlx) rfl ?_
        rintro v13 w13 ⟨⟨py, ny, cy, rfl, hly⟩, hE13⟩
        have hX := hX.ext hE13
        have hB2 := hB2.ext hE13
        have hB4 := hB4.ext hE13
        have hlx := hlx.ext hE13
        have hB9 := hB9.ext hE13
        have hSr10 := hSr10.ext hE13
        refine hop_end hQ4 ⟨hSr10, ?_⟩
        refine h_one 5 _ rfl (by kernel_rfl) (hop_of_list (fun Q5 hQ5 => ?_))
        refine o_call Try.func57 fn57 fb57 (ref_stepD D (insA D.l k (some ([], 0))) true false p px py n c nx cx ny cy lf _ hlx (hly) hlf hok.left hst (by have := hlf.lo; omega)) rfl ?_
        rintro v14 w14 ⟨⟨cs, rfl, p9, n9, c9, lf9, rfl, hl9, hlf9⟩, hE14⟩
        have hX := hX.ext hE14
        have hB2 := hB2.ext hE14
        have hB4 := hB4.ext hE14
        have hlx := hlx.ext hE14
        have hB9 := hB9.ext hE14
        have hSr10 := hSr10.ext hE14
        have hly := hly.ext hE14
        refine hop_end hQ5 ⟨hSr10, ?_⟩
        refine h_take 6 rfl (by kernel_rfl) (by kernel_rfl) (by kernel_rfl) hSr10 (fun wS hSS => by ( exact (x_extract rfl rfl))) ?_
        refine h_take 7 rfl (by kernel_rfl) (by kernel_rfl) (by kernel_rfl) hSr10 (fun wS hSS => by ( exact (x_extract rfl rfl))) ?_
        refine h_one 8 _ rfl (by kernel_rfl) (hop_of_list (fun Q8 hQ8 => ?_))
        refine o_storeAll rfl (by conv => lhs; whnf) (by simp [Value.oneCell']) (by exact sz27) hB4 (by rfl) ?_
        intro w15 hP15
        have hX := hX.put hP15 (by rw [hN4.g_eq]; exact hXs4)
        have hB2 := hP15.keep hB2 (by omega)
        have hB4 := hP15.blk
        have hlx := hlx.mod (hP15.mod 0 (Nat.zero_le _)) (Nat.zero_le _) (by decide)
        have hB9 := hP15.keep hB9 (by omega)
        have hSr10 := hSr10.put hP15 ⟨.inl rfl, by decide⟩
        have hly := hly.mod (hP15.mod 0 (Nat.zero_le _)) (Nat.zero_le _) (by decide)
        have hl9 := hl9.mod (hP15.mod 0 (Nat.zero_le _)) (Nat.zero_le _) (by decide)
        refine hop_end hQ8 ⟨hSr10, ?_⟩
        refine h_take 9 rfl (by kernel_rfl) (by kernel_rfl) (by kernel_rfl) hSr10 (fun wS hSS => by ( exact (x_assign (by conv => lhs; whnf)))) ?_
        refine h_done (by kernel_rfl) ?_
        refine t_n ?_
        refine c_ret ?_
        refine end2c rfl ua27 rfl (by conv => lhs; whnf) hB4 (by exact sz27) ?_
        first
          | exact ⟨⟨_, by rw [hp], by rw [hp]; exact ⟨p, n, c, lf, rfl, hl.ext hX, hlf⟩⟩, hX⟩
          | exact ⟨⟨_, by rw [hp], by rw [hp]; exact ⟨p9, n9, c9, lf9, rfl, hl9, hlf9⟩⟩, hX⟩
theorem ref_Remove (D : DS) (p : Option Addr) (n c : Nat) (lf : Int) (w : World) (hl : Sl kFl 81 0 w p n c D.l) (hlf : LfOk D lf) (hok : DOk D) (hst : D.steps < 4611686018427387904) (k : ByteArray) (hks : k.size ≤ 9223372036854775807) :
    Ret Try.prog 38 [.agg #[.int .i64 (D.most : Int), .slice p n c, .int .i64 (D.steps : Int), .bool (decide (0 ≤ D.left)), .int .i64 lf, .bool D.done, .bool D.down], .string k] w (fun v w' => (∃ cs, v = .tuple #[.agg cs, .int .i64 (removeD D k).2] ∧ RefV w' cs (removeD D k).1) ∧ Ext w w') := by
  have hX := Ext.refl w
  refine enter 40 _ Try.func38 rfl rfl (Nat.le_of_ble_eq_true rfl) rfl ?_
  refine c_seq ?_
  refine r_plain ?_
  have hXs2 := hX.size
  refine o_boxA (by conv => lhs; whnf) ?_
  intro w1 g2 hN2
  have hE1 := hN2.ext
  have hX := hX.ext hE1
  have hB2 := hN2.blk
  have hXs4 := hX.size
  have hlt2 := hB2.lt
  refine o_alloc zr27 ?_
  intro w2 g4 hN4
  have hE2 := hN4.ext
  have hX := hX.ext hE2
  have hB2 := hB2.ext hE2
  have hB4 := hN4.blk
  refine p1 (x_assign (by conv => lhs; whnf)) ?_
  refine r_nil ?_
  refine t_n ?_
  refine c_seq ?_
  have hg4 := hN4.g_eq
  have hlen := hl.len
  have hcap := hl.cap
  have hple := plc_leA D.l k
  have hfew := hok.few
  have hroom := hok.room
  have hmost := hok.most
  refine r_plain ?_
  refine p1 (x_loadB ua27 rfl hB2 (by exact sz27)) ?_
  refine p1 (x_move (by conv => lhs; whnf)) ?_
  refine o_buildSlice u51 inf9 rfl (by decide) (fun base hb => fill_one (by rfl) base hb) ?_
  intro w3 g12 hN12
  have hE3 := hN12.ext
  have hX := hX.ext hE3
  have hB2 := hB2.ext hE3
  have hB4 := hB4.ext hE3
  have hS12 : Sl kStr 9 0 w3 (some ⟨g12, 0, none⟩) 1 1 [k] := (own_lit (B0 := 0) [k] hN12 (Nat.zero_le _) (by simp)).sl
  refine o_call Try.func44 fn44 fb44 (ref_first (D.most : Int) (D.steps : Int) lf (decide (0 ≤ D.left)) D.done D.down p n c D rfl [k] 0 _ _ _ _ hS12 (by intro s hs'; simp only [List.mem_singleton] at hs'; subst hs'; exact hks)) rfl ?_
  rintro v4 w4 ⟨rfl, hE4⟩
  have hX := hX.ext hE4
  have hB2 := hB2.ext hE4
  have hB4 := hB4.ext hE4
  have hS12 := hS12.ext hE4
  refine p1 (x_assign (by conv => lhs; whnf)) ?_
  refine r_nil ?_
  refine t_n ?_
  refine c_seq ?_
  refine r_plain ?_
  refine p1 (x_loadB ua27 rfl hB2 (by exact sz27)) ?_
  refine p1 (x_move (by conv => lhs; whnf)) ?_
  refine o_call Try.func45 fn45 fb45 (ref_place (D.most : Int) (D.steps : Int) lf (decide (0 ≤ D.left)) D.done D.down D.l p n c _ (hl.ext hX) k (by omega)) rfl ?_
  rintro v5 w5 ⟨rfl, hE5⟩
  have hX := hX.ext hE5
  have hB2 := hB2.ext hE5
  have hB4 := hB4.ext hE5
  refine p1 (x_move (by conv => lhs; whnf)) ?_
  refine p1 (x_extract rfl rfl) ?_
  refine p1 (x_extract rfl rfl) ?_
  refine p1 (x_assign (by conv => lhs; whnf)) ?_
  refine p1 (x_assign (by conv => lhs; whnf)) ?_
  refine r_nil ?_
  refine t_n ?_
  refine c_seq ?_
  refine c_block ?_
  refine c_seq ?_
  refine r_plain ?_
  refine p1 (x_move (by conv => lhs; whnf)) ?_
  refine p1 (x_neq rfl rfl) ?_
  refine p1 (x_assign (by conv => lhs; whnf)) ?_
  refine r_nil ?_
  refine t_n ?_
  first | refine c_dec rfl (fun hc20 => ?_) (fun hc20 => ?_) | refine c_if rfl (fun hc20 => ?_) (fun hc20 => ?_)
  · try simp only [decide_eq_true_eq, decide_eq_false_iff_not, Bool.not_eq_true, Bool.not_eq_false, Bool.not_eq_eq_eq_not, Bool.not_true, Bool.not_false, Int.not_lt, Int.not_le] at hc20
    have hp : removeD D k = (D, lookD D [k]) := if_pos hc20
    refine c_seq ?_
    refine r_plain ?_
    refine p1 (x_loadB ua27 rfl hB2 (by exact sz27)) ?_
    refine p1 (x_move (by conv => lhs; whnf)) ?_
    refine o_storeAll rfl (by conv => lhs; whnf) (by simp [Value.oneCell']) (by exact sz27) hB4 (by rfl) ?_
    intro w6 hP6
    have hX := hX.put hP6 (by rw [hN4.g_eq]; exact hXs4)
    have hB2 := hP6.keep hB2 (by omega)
    have hB4 := hP6.blk
    refine p1 (x_assign (by conv => lhs; whnf)) ?_
    refine r_nil ?_
    refine t_n ?_
    refine c_ret ?_
    refine b_r ?_
    refine t_r ?_
    refine end2c rfl ua27 rfl (by conv => lhs; whnf) hB4 (by exact sz27) ?_
    first
      | exact ⟨⟨_, by rw [hp], by rw [hp]; exact ⟨p, n, c, lf, rfl, hl.ext hX, hlf⟩⟩, hX⟩
      | exact ⟨⟨_, by rw [hp], by rw [hp]; exact ⟨p9, n9, c9, lf9, rfl, hl9, hlf9⟩⟩, hX⟩
  · try simp only [decide_eq_true_eq, decide_eq_false_iff_not, Bool.not_eq_true, Bool.not_eq_false, Bool.not_eq_eq_eq_not, Bool.not_true, Bool.not_false, Int.not_lt, Int.not_le] at hc20
    refine c_seq ?_
    refine r_plain ?_
    refine p1 (x_move (by conv => lhs; whnf)) ?_
    first | refine p1 (x_notd rfl) ?_ | refine p1 (x_not rfl) ?_
    refine p1 (x_assign (by conv => lhs; whnf)) ?_
    refine r_nil ?_
    refine t_n ?_
    first | refine c_dec rfl (fun hc25 => ?_) (fun hc25 => ?_) | refine c_if rfl (fun hc25 => ?_) (fun hc25 => ?_)
    · try simp only [decide_eq_true_eq, decide_eq_false_iff_not, Bool.not_eq_true, Bool.not_eq_false, Bool.not_eq_eq_eq_not, Bool.not_true, Bool.not_false, Int.not_lt, Int.not_le] at hc25
      have hnat : ¬ isAtA D.l (plcA D.l k) k := by simpa using hc25
      have hnf := file_not hok hnat
      have hp : removeD D k = (D, 22) := by unfold removeD; rw [if_neg hc20, if_pos hnf]
      refine c_seq ?_
      refine r_plain ?_
      refine p1 (x_loadB ua27 rfl hB2 (by exact sz27)) ?_
      refine o_storeAll rfl (by conv => lhs; whnf) (by simp [Value.oneCell']) (by exact sz27) hB4 (by rfl) ?_
      intro w7 hP7
      have hX := hX.put hP7 (by rw [hN4.g_eq]; exact hXs4)
      have hB2 := hP7.keep hB2 (by omega)
      have hB4 := hP7.blk
      refine p1 (x_assign (by conv => lhs; whnf)) ?_
      refine r_nil ?_
      refine t_n ?_
      refine c_ret ?_
      refine b_r ?_
      refine t_r ?_
      refine end2c rfl ua27 rfl (by conv => lhs; whnf) hB4 (by exact sz27) ?_
      first
        | exact ⟨⟨_, by rw [hp], by rw [hp]; exact ⟨p, n, c, lf, rfl, hl.ext hX, hlf⟩⟩, hX⟩
        | exact ⟨⟨_, by rw [hp], by rw [hp]; exact ⟨p9, n9, c9, lf9, rfl, hl9, hlf9⟩⟩, hX⟩
    · try simp only [decide_eq_true_eq, decide_eq_false_iff_not, Bool.not_eq_true, Bool.not_eq_false, Bool.not_eq_eq_eq_not, Bool.not_true, Bool.not_false, Int.not_lt, Int.not_le] at hc25
      have hat : isAtA D.l (plcA D.l k) k := by simpa using hc25
      obtain ⟨f, hf, hfa, hfu, hfs, hgf⟩ := file_at hok hat
      have hfr : ∀ wz, Ext w wz → wz.rangeAt (ab p) (ao p + plcA D.l k * 3) [.string k, .string (toStr (f.1.take f.2)), .string (toStr (f.1.drop f.2))] := fun wz hz => by have := (hl.ext hz).flRange (plcA D.l k) (by have := (hat).1; omega); rw [hfa] at this; exact this
      have hplt : plcA D.l k < n := by have := (hat).1; omega
      have hne : ¬ ascF D.l k = none := by rw [hf]; simp
      have hp : removeD D k = stepD D (insA D.l k none) true false := by unfold removeD; rw [if_neg hc20, if_neg hne]
      refine c_skip ?_
      refine b_n ?_
      refine t_n ?_
      refine c_seq ?_
      refine r_plain ?_
      refine p1 (x_loadB ua27 rfl hB2 (by exact sz27)) ?_
      refine p1 (x_move (by conv => lhs; whnf)) ?_
      refine o_call Try.func59 fn59 fb59 (ref_without (D.most : Int) (D.steps : Int) lf (decide (0 ≤ D.left)) D.done D.down D.l p n c _ (hl.ext hX) (by omega) hok.rise k) rfl ?_
      rintro v8 w8 ⟨⟨px, nx, cx, rfl, hlx⟩, hE8⟩
      have hX := hX.ext hE8
      have hB2 := hB2.ext hE8
      have hB4 := hB4.ext hE8
      have hXs9 := hX.size
      have hltc9 := hB4.lt
      have hltb9 := hB2.lt
      refine o_alloc zr27 ?_
      intro w9 g9 hN9
      have hE9 := hN9.ext
      have hX := hX.ext hE9
      have hB2 := hB2.ext hE9
      have hB4 := hB4.ext hE9
      have hlx := hlx.ext hE9
      have hB9 := hN9.blk
      have hg9 := hN9.g_eq
      refine o_storeAll rfl (by conv => lhs; whnf) (by simp [Value.oneCell']) (by exact sz27) hB9 (by rfl) ?_
      intro w10 hP10
      have hX := hX.put hP10 (by rw [hN9.g_eq]; exact hXs9)
      have hB2 := hP10.keep hB2 (by omega)
      have hB4 := hP10.keep hB4 (by omega)
      have hlx := hlx.mod (hP10.mod 0 (Nat.zero_le _)) (Nat.zero_le _) (by decide)
      have hB9 := hP10.blk
      refine r_nil ?_
      refine t_n ?_
      refine c_seq ?_
      refine r_held (fun w1 w2 => ModS (fun j => j = g4) [27] w1 w2) mixed ?_
      intro w11 hE11
      have hX := hX.ext hE11
      have hB2 := hB2.ext hE11
      have hB4 := hB4.ext hE11
      have hlx := hlx.ext hE11
      have hB9 := hB9.ext hE11
      have hSr8 : (fun w1 w2 => ModS (fun j => j = g4) [27] w1 w2) w11 w11 := ModS.refl _ _ _
      refine h_take 0 rfl (by kernel_rfl) (by kernel_rfl) (by kernel_rfl) hSr8 (fun wS hSS => by (have hB2 := hB2.modS hSS (.inl (by omega)); have hB9 := hB9.modS hSS (.inl (by omega)); exact (x_loadB ua27 rfl hB2 (by exact sz27)))) ?_
      refine h_take 1 rfl (by kernel_rfl) (by kernel_rfl) (by kernel_rfl) hSr8 (fun wS hSS => by (have hB2 := hB2.modS hSS (.inl (by omega)); have hB9 := hB9.modS hSS (.inl (by omega)); exact (x_loadB ua27 rfl hB9 (by exact sz27)))) ?_
      refine h_take 2 rfl (by kernel_rfl) (by kernel_rfl) (by kernel_rfl) hSr8 (fun wS hSS => by (have hB2 := hB2.modS hSS (.inl (by omega)); have hB9 := hB9.modS hSS (.inl (by omega)); exact (x_loadB ua27 rfl hB2 (by exact sz27)))) ?_
      refine h_take 3 rfl (by kernel_rfl) (by kernel_rfl) (by kernel_rfl) hSr8 (fun wS hSS => by (have hB2 := hB2.modS hSS (.inl (by omega)); have hB9 := hB9.modS hSS (.inl (by omega)); exact (x_loadB ua27 rfl hB9 (by exact sz27)))) ?_
      refine h_one 4 _ rfl (by kernel_rfl) (hop_of_list (fun Q4 hQ4 => ?_))
      refine o_call Try.func58 fn58 fb58 (ref_either2 D (insA D.l k none) p px n c nx cx lf _ (hl.ext hX) hlx) rfl ?_
      rintro v12 w12 ⟨⟨py, ny, cy, rfl, hly⟩, hE12⟩
      have hX := hX.ext hE12
      have hB2 := hB2.ext hE12
      have hB4 := hB4.ext hE12
      have hlx := hlx.ext hE12
      have hB9 := hB9.ext hE12
      have hSr8 := hSr8.ext hE12
      refine hop_end hQ4 ⟨hSr8, ?_⟩
      refine h_one 5 _ rfl (by kernel_rfl) (hop_of_list (fun Q5 hQ5 => ?_))
      refine o_call Try.func57 fn57 fb57 (ref_stepD D (insA D.l k none) true false p px py n c nx cx ny cy lf _ hlx (hly) hlf hok.left hst (by have := hlf.lo; omega)) rfl ?_
      rintro v13 w13 ⟨⟨cs, rfl, p9, n9, c9, lf9, rfl, hl9, hlf9⟩, hE13⟩
      have hX := hX.ext hE13
      have hB2 := hB2.ext hE13
      have hB4 := hB4.ext hE13
      have hlx := hlx.ext hE13
      have hB9 := hB9.ext hE13
      have hSr8 := hSr8.ext hE13
      have hly := hly.ext hE13
      refine hop_end hQ5 ⟨hSr8, ?_⟩
      refine h_take 6 rfl (by kernel_rfl) (by kernel_rfl) (by kernel_rfl) hSr8 (fun wS hSS => by ( exact (x_extract rfl rfl))) ?_
      refine h_take 7 rfl (by kernel_rfl) (by kernel_rfl) (by kernel_rfl) hSr8 (fun wS hSS => by ( exact (x_extract rfl rfl))) ?_
      refine h_one 8 _ rfl (by kernel_rfl) (hop_of_list (fun Q8 hQ8 => ?_))
      refine o_storeAll rfl (by conv => lhs; whnf) (by simp [Value.oneCell']) (by exact sz27) hB4 (by rfl) ?_
      intro w14 hP14
      have hX := hX.put hP14 (by rw [hN4.g_eq]; exact hXs4)
      have hB2 := hP14.keep hB2 (by omega)
      have hB4 := hP14.blk
      have hlx := hlx.mod (hP14.mod 0 (Nat.zero_le _)) (Nat.zero_le _) (by decide)
      have hB9 := hP14.keep hB9 (by omega)
      have hSr8 := hSr8.put hP14 ⟨.inl rfl, by decide⟩
      have hly := hly.mod (hP14.mod 0 (Nat.zero_le _)) (Nat.zero_le _) (by decide)
      have hl9 := hl9.mod (hP14.mod 0 (Nat.zero_le _)) (Nat.zero_le _) (by decide)
      refine hop_end hQ8 ⟨hSr8, ?_⟩
      refine h_take 9 rfl (by kernel_rfl) (by kernel_rfl) (by kernel_rfl) hSr8 (fun wS hSS => by ( exact (x_assign (by conv => lhs; whnf)))) ?_
      refine h_done (by kernel_rfl) ?_
      refine t_n ?_
      refine c_ret ?_
      refine end2c rfl ua27 rfl (by conv => lhs; whnf) hB4 (by exact sz27) ?_
      first
        | exact ⟨⟨_, by rw [hp], by rw [hp]; exact ⟨p, n, c, lf, rfl, hl.ext hX, hlf⟩⟩, hX⟩
        | exact ⟨⟨_, by rw [hp], by rw [hp]; exact ⟨p9, n9, c9, lf9, rfl, hl9, hlf9⟩⟩, hX⟩
theorem ref_Sync (D : DS) (p : Option Addr) (n c : Nat) (lf : Int) (w : World) (hl : Sl kFl 81 0 w p n c D.l) (hlf : LfOk D lf) (hok : DOk D) (hst : D.steps < 4611686018427387904) (k : ByteArray) (hks : k.size ≤ 9223372036854775807) :
    Ret Try.prog 36 [.agg #[.int .i64 (D.most : Int), .slice p n c, .int .i64 (D.steps : Int), .bool (decide (0 ≤ D.left)), .int .i64 lf, .bool D.done, .bool D.down], .string k] w (fun v w' => (∃ cs, v = .tuple #[.agg cs, .int .i64 (syncD D k).2] ∧ RefV w' cs (syncD D k).1) ∧ Ext w w') := by
  have hX := Ext.refl w
  refine enter 49 _ Try.func36 rfl rfl (Nat.le_of_ble_eq_true rfl) rfl ?_
  refine c_seq ?_
  refine r_plain ?_
  have hXs2 := hX.size
  refine o_boxA (by conv => lhs; whnf) ?_
  intro w1 g2 hN2
  have hE1 := hN2.ext
  have hX := hX.ext hE1
  have hB2 := hN2.blk
  have hXs4 := hX.size
  have hlt2 := hB2.lt
  refine o_alloc zr27 ?_
  intro w2 g4 hN4
  have hE2 := hN4.ext
  have hX := hX.ext hE2
  have hB2 := hB2.ext hE2
  have hB4 := hN4.blk
  refine p1 (x_assign (by conv => lhs; whnf)) ?_
  refine r_nil ?_
  refine t_n ?_
  refine c_seq ?_
  have hg4 := hN4.g_eq
  have hlen := hl.len
  have hcap := hl.cap
  have hple := plc_leA D.l k
  have hfew := hok.few
  have hroom := hok.room
  have hmost := hok.most
  refine r_plain ?_
  refine p1 (x_loadB ua27 rfl hB2 (by exact sz27)) ?_
  refine p1 (x_move (by conv => lhs; whnf)) ?_
  refine o_buildSlice u51 inf9 rfl (by decide) (fun base hb => fill_one (by rfl) base hb) ?_
  intro w3 g12 hN12
  have hE3 := hN12.ext
  have hX := hX.ext hE3
  have hB2 := hB2.ext hE3
  have hB4 := hB4.ext hE3
  have hS12 : Sl kStr 9 0 w3 (some ⟨g12, 0, none⟩) 1 1 [k] := (own_lit (B0 := 0) [k] hN12 (Nat.zero_le _) (by simp)).sl
  refine o_call Try.func44 fn44 fb44 (ref_first (D.most : Int) (D.steps : Int) lf (decide (0 ≤ D.left)) D.done D.down p n c D rfl [k] 0 _ _ _ _ hS12 (by intro s hs'; simp only [List.mem_singleton] at hs'; subst hs'; exact hks)) rfl ?_
  rintro v4 w4 ⟨rfl, hE4⟩
  have hX := hX.ext hE4
  have hB2 := hB2.ext hE4
  have hB4 := hB4.ext hE4
  have hS12 := hS12.ext hE4
  refine p1 (x_assign (by conv => lhs; whnf)) ?_
  refine r_nil ?_
  refine t_n ?_
  refine c_seq ?_
  refine r_plain ?_
  refine p1 (x_loadB ua27 rfl hB2 (by exact sz27)) ?_
  refine p1 (x_move (by conv => lhs; whnf)) ?_
  refine o_call Try.func45 fn45 fb45 (ref_place (D.most : Int) (D.steps : Int) lf (decide (0 ≤ D.left)) D.done D.down D.l p n c _ (hl.ext hX) k (by omega)) rfl ?_
  rintro v5 w5 ⟨rfl, hE5⟩
  have hX := hX.ext hE5
  have hB2 := hB2.ext hE5
  have hB4 := hB4.ext hE5
  refine p1 (x_move (by conv => lhs; whnf)) ?_
  refine p1 (x_extract rfl rfl) ?_
  refine p1 (x_extract rfl rfl) ?_
  refine p1 (x_assign (by conv => lhs; whnf)) ?_
  refine p1 (x_assign (by conv => lhs; whnf)) ?_
  refine r_nil ?_
  refine t_n ?_
  refine c_seq ?_
  refine c_block ?_
  refine c_seq ?_
  refine r_plain ?_
  refine p1 (x_move (by conv => lhs; whnf)) ?_
  refine p1 (x_neq rfl rfl) ?_
  refine p1 (x_assign (by conv => lhs; whnf)) ?_
  refine r_nil ?_
  refine t_n ?_
  first | refine c_dec rfl (fun hc20 => ?_) (fun hc20 => ?_) | refine c_if rfl (fun hc20 => ?_) (fun hc20 => ?_)
  · try simp only [decide_eq_true_eq, decide_eq_false_iff_not, Bool.not_eq_true, Bool.not_eq_false, Bool.not_eq_eq_eq_not, Bool.not_true, Bool.not_false, Int.not_lt, Int.not_le] at hc20
    have hp : syncD D k = (D, lookD D [k]) := if_pos hc20
    refine c_seq ?_
    refine r_plain ?_
    refine p1 (x_loadB ua27 rfl hB2 (by exact sz27)) ?_
    refine p1 (x_move (by conv => lhs; whnf)) ?_
    refine o_storeAll rfl (by conv => lhs; whnf) (by simp [Value.oneCell']) (by exact sz27) hB4 (by rfl) ?_
    intro w6 hP6
    have hX := hX.put hP6 (by rw [hN4.g_eq]; exact hXs4)
    have hB2 := hP6.keep hB2 (by omega)
    have hB4 := hP6.blk
    refine p1 (x_assign (by conv => lhs; whnf)) ?_
    refine r_nil ?_
    refine t_n ?_
    refine c_ret ?_
    refine b_r ?_
    refine t_r ?_
    refine end2c rfl ua27 rfl (by conv => lhs; whnf) hB4 (by exact sz27) ?_
    first
      | exact ⟨⟨_, by rw [hp], by rw [hp]; exact ⟨p, n, c, lf, rfl, hl.ext hX, hlf⟩⟩, hX⟩
      | exact ⟨⟨_, by rw [hp], by rw [hp]; exact ⟨p9, n9, c9, lf9, rfl, hl9, hlf9⟩⟩, hX⟩
  · try simp only [decide_eq_true_eq, decide_eq_false_iff_not, Bool.not_eq_true, Bool.not_eq_false, Bool.not_eq_eq_eq_not, Bool.not_true, Bool.not_false, Int.not_lt, Int.not_le] at hc20
    refine c_seq ?_
    refine r_plain ?_
    refine p1 (x_move (by conv => lhs; whnf)) ?_
    first | refine p1 (x_notd rfl) ?_ | refine p1 (x_not rfl) ?_
    refine p1 (x_assign (by conv => lhs; whnf)) ?_
    refine r_nil ?_
    refine t_n ?_
    first | refine c_dec rfl (fun hc25 => ?_) (fun hc25 => ?_) | refine c_if rfl (fun hc25 => ?_) (fun hc25 => ?_)
    · try simp only [decide_eq_true_eq, decide_eq_false_iff_not, Bool.not_eq_true, Bool.not_eq_false, Bool.not_eq_eq_eq_not, Bool.not_true, Bool.not_false, Int.not_lt, Int.not_le] at hc25
      have hnat : ¬ isAtA D.l (plcA D.l k) k := by simpa using hc25
      have hnf := file_not hok hnat
      have hp : syncD D k = (D, 22) := by unfold syncD; rw [if_neg hc20, if_pos hnf]
      refine c_seq ?_
      refine r_plain ?_
      refine p1 (x_loadB ua27 rfl hB2 (by exact sz27)) ?_
      refine o_storeAll rfl (by conv => lhs; whnf) (by simp [Value.oneCell']) (by exact sz27) hB4 (by rfl) ?_
      intro w7 hP7
      have hX := hX.put hP7 (by rw [hN4.g_eq]; exact hXs4)
      have hB2 := hP7.keep hB2 (by omega)
      have hB4 := hP7.blk
      refine p1 (x_assign (by conv => lhs; whnf)) ?_
      refine r_nil ?_
      refine t_n ?_
      refine c_ret ?_
      refine b_r ?_
      refine t_r ?_
      refine end2c rfl ua27 rfl (by conv => lhs; whnf) hB4 (by exact sz27) ?_
      first
        | exact ⟨⟨_, by rw [hp], by rw [hp]; exact ⟨p, n, c, lf, rfl, hl.ext hX, hlf⟩⟩, hX⟩
        | exact ⟨⟨_, by rw [hp], by rw [hp]; exact ⟨p9, n9, c9, lf9, rfl, hl9, hlf9⟩⟩, hX⟩
    · try simp only [decide_eq_true_eq, decide_eq_false_iff_not, Bool.not_eq_true, Bool.not_eq_false, Bool.not_eq_eq_eq_not, Bool.not_true, Bool.not_false, Int.not_lt, Int.not_le] at hc25
      have hat : isAtA D.l (plcA D.l k) k := by simpa using hc25
      obtain ⟨f, hf, hfa, hfu, hfs, hgf⟩ := file_at hok hat
      have hfr : ∀ wz, Ext w wz → wz.rangeAt (ab p) (ao p + plcA D.l k * 3) [.string k, .string (toStr (f.1.take f.2)), .string (toStr (f.1.drop f.2))] := fun wz hz => by have := (hl.ext hz).flRange (plcA D.l k) (by have := (hat).1; omega); rw [hfa] at this; exact this
      have hplt : plcA D.l k < n := by have := (hat).1; omega
      have hne : ¬ ascF D.l k = none := by rw [hf]; simp
      have hp : syncD D k = stepD D (insA D.l k (some (f.1 ++ [], f.1.length))) false false := by unfold syncD; rw [if_neg hc20, if_neg hne, hgf, List.append_nil]
      refine c_skip ?_
      refine b_n ?_
      refine t_n ?_
      refine c_seq ?_
      refine r_plain ?_
      refine p1 (x_fieldAddr fo27_1 sz25 rfl) ?_
      refine p1 (x_load1 un25 rfl (hB2.cell (rfl))) ?_
      refine p1 (x_move (by conv => lhs; whnf)) ?_
      refine p1 (x_ixs u25 sz81 rfl rfl ((hl.ext hX).adr kFl_pos (by omega)) (by omega) (by omega)) ?_
      refine p1 (x_loadN ua81 rfl (by exact sz81) (hfr _ hX)) ?_
      have hXs9 := hX.size
      have hltc9 := hB4.lt
      have hltb9 := hB2.lt
      refine o_alloc zr81 ?_
      intro w8 g9 hN9
      have hE8 := hN9.ext
      have hX := hX.ext hE8
      have hB2 := hB2.ext hE8
      have hB4 := hB4.ext hE8
      have hB9 := hN9.blk
      have hg9 := hN9.g_eq
      refine o_storeAll rfl (by conv => lhs; whnf) (by simp [Value.oneCell']) (by exact sz81) hB9 (by rfl) ?_
      intro w9 hP9
      have hX := hX.put hP9 (by rw [hN9.g_eq]; exact hXs9)
      have hB2 := hP9.keep hB2 (by omega)
      have hB4 := hP9.keep hB4 (by omega)
      have hB9 := hP9.blk
      refine r_nil ?_
      refine t_n ?_
      refine c_seq ?_
      refine r_held (fun w1 w2 => ModS (fun j => j = g4) [27] w1 w2) mixed ?_
      intro w10 hE10
      have hX := hX.ext hE10
      have hB2 := hB2.ext hE10
      have hB4 := hB4.ext hE10
      have hB9 := hB9.ext hE10
      have hSr8 : (fun w1 w2 => ModS (fun j => j = g4) [27] w1 w2) w10 w10 := ModS.refl _ _ _
      refine h_take 0 rfl (by kernel_rfl) (by kernel_rfl) (by kernel_rfl) hSr8 (fun wS hSS => by (have hB2 := hB2.modS hSS (.inl (by omega)); have hB9 := hB9.modS hSS (.inl (by omega)); exact (x_loadB ua27 rfl hB2 (by exact sz27)))) ?_
      refine h_take 1 rfl (by kernel_rfl) (by kernel_rfl) (by kernel_rfl) hSr8 (fun wS hSS => by (have hB2 := hB2.modS hSS (.inl (by omega)); have hB9 := hB9.modS hSS (.inl (by omega)); exact (x_loadB ua27 rfl hB2 (by exact sz27)))) ?_
      refine h_take 2 rfl (by kernel_rfl) (by kernel_rfl) (by kernel_rfl) hSr8 (fun wS hSS => by ( exact (x_fieldAddr fo81_0 sz9 rfl))) ?_
      refine h_take 3 rfl (by kernel_rfl) (by kernel_rfl) (by kernel_rfl) hSr8 (fun wS hSS => by (have hB2 := hB2.modS hSS (.inl (by omega)); have hB9 := hB9.modS hSS (.inl (by omega)); exact (x_load1 un9 rfl (hB9.cell (rfl))))) ?_
      refine h_take 4 rfl (by kernel_rfl) (by kernel_rfl) (by kernel_rfl) hSr8 (fun wS hSS => by ( exact (x_fieldAddr fo81_1 sz9 rfl))) ?_
      refine h_take 5 rfl (by kernel_rfl) (by kernel_rfl) (by kernel_rfl) hSr8 (fun wS hSS => by (have hB2 := hB2.modS hSS (.inl (by omega)); have hB9 := hB9.modS hSS (.inl (by omega)); exact (x_load1 un9 rfl (hB9.cell (rfl))))) ?_
      refine h_take 6 rfl (by kernel_rfl) (by kernel_rfl) (by kernel_rfl) hSr8 (fun wS hSS => by ( exact (x_fieldAddr fo81_2 sz9 rfl))) ?_
      refine h_take 7 rfl (by kernel_rfl) (by kernel_rfl) (by kernel_rfl) hSr8 (fun wS hSS => by (have hB2 := hB2.modS hSS (.inl (by omega)); have hB9 := hB9.modS hSS (.inl (by omega)); exact (x_load1 un9 rfl (hB9.cell (rfl))))) ?_
      refine h_take 8 rfl (by kernel_rfl) (by kernel_rfl) (by kernel_rfl) hSr8 (fun wS hSS => by ( exact ((x_add_str rfl rfl (by rw [toStr_size, toStr_size, List.length_take, List.length_drop]; omega)).cast (by rw [toStr_append, List.take_append_drop])))) ?_
      refine h_take 9 rfl (by kernel_rfl) (by kernel_rfl) (by kernel_rfl) hSr8 (fun wS hSS => by ( exact (x_buildF3 pl81 rfl rfl rfl))) ?_
      refine h_take 11 rfl (by kernel_rfl) (by kernel_rfl) (by kernel_rfl) hSr8 (fun wS hSS => by (have hB2 := hB2.modS hSS (.inl (by omega)); have hB9 := hB9.modS hSS (.inl (by omega)); exact (x_loadB ua27 rfl hB2 (by exact sz27)))) ?_
      refine h_one 10 _ rfl (by kernel_rfl) (hop_of_list (fun Q10 hQ10 => ?_))
      refine o_call Try.func56 fn56 fb56 (ref_with (D.most : Int) (D.steps : Int) lf (decide (0 ≤ D.left)) D.done D.down D.l p n c _ (hl.ext hX) (by omega) k f.1 []) rfl ?_
      rintro v11 w11 ⟨⟨px, nx, cx, rfl, hlx⟩, hE11⟩
      have hX := hX.ext hE11
      have hB2 := hB2.ext hE11
      have hB4 := hB4.ext hE11
      have hB9 := hB9.ext hE11
      have hSr8 := hSr8.ext hE11
      refine hop_end hQ10 ⟨hSr8, ?_⟩
      refine h_one 12 _ rfl (by kernel_rfl) (hop_of_list (fun Q12 hQ12 => ?_))
      refine o_call Try.func57 fn57 fb57 (ref_stepD D (insA D.l k (some (f.1 ++ [], f.1.length))) false false p px p n c nx cx n c lf _ hlx (by simpa using hl.ext hX) hlf hok.left hst (by have := hlf.lo; omega)) rfl ?_
      rintro v12 w12 ⟨⟨cs, rfl, p9, n9, c9, lf9, rfl, hl9, hlf9⟩, hE12⟩
      have hX := hX.ext hE12
      have hB2 := hB2.ext hE12
      have hB4 := hB4.ext hE12
      have hB9 := hB9.ext hE12
      have hSr8 := hSr8.ext hE12
      have hlx := hlx.ext hE12
      refine hop_end hQ12 ⟨hSr8, ?_⟩
      refine h_take 13 rfl (by kernel_rfl) (by kernel_rfl) (by kernel_rfl) hSr8 (fun wS hSS => by ( exact (x_extract rfl rfl))) ?_
      refine h_take 14 rfl (by kernel_rfl) (by kernel_rfl) (by kernel_rfl) hSr8 (fun wS hSS => by ( exact (x_extract rfl rfl))) ?_
      refine h_one 15 _ rfl (by kernel_rfl) (hop_of_list (fun Q15 hQ15 => ?_))
      refine o_storeAll rfl (by conv => lhs; whnf) (by simp [Value.oneCell']) (by exact sz27) hB4 (by rfl) ?_
      intro w13 hP13
      have hX := hX.put hP13 (by rw [hN4.g_eq]; exact hXs4)
      have hB2 := hP13.keep hB2 (by omega)
      have hB4 := hP13.blk
      have hB9 := hP13.keep hB9 (by omega)
      have hSr8 := hSr8.put hP13 ⟨.inl rfl, by decide⟩
      have hlx := hlx.mod (hP13.mod 0 (Nat.zero_le _)) (Nat.zero_le _) (by decide)
      have hl9 := hl9.mod (hP13.mod 0 (Nat.zero_le _)) (Nat.zero_le _) (by decide)
      refine hop_end hQ15 ⟨hSr8, ?_⟩
      refine h_take 16 rfl (by kernel_rfl) (by kernel_rfl) (by kernel_rfl) hSr8 (fun wS hSS => by ( exact (x_assign (by conv => lhs; whnf)))) ?_
      refine h_done (by kernel_rfl) ?_
      refine t_n ?_
      refine c_ret ?_
      refine end2c rfl ua27 rfl (by conv => lhs; whnf) hB4 (by exact sz27) ?_
      first
        | exact ⟨⟨_, by rw [hp], by rw [hp]; exact ⟨p, n, c, lf, rfl, hl.ext hX, hlf⟩⟩, hX⟩
        | exact ⟨⟨_, by rw [hp], by rw [hp]; exact ⟨p9, n9, c9, lf9, rfl, hl9, hlf9⟩⟩, hX⟩
theorem ref_Append (D : DS) (p : Option Addr) (n c : Nat) (lf : Int) (w : World) (hl : Sl kFl 81 0 w p n c D.l) (hlf : LfOk D lf) (hok : DOk D) (hst : D.steps < 4611686018427387904) (k : ByteArray) (hks : k.size ≤ 9223372036854775807) (ys : List UInt8) :
    Ret Try.prog 35 [.agg #[.int .i64 (D.most : Int), .slice p n c, .int .i64 (D.steps : Int), .bool (decide (0 ≤ D.left)), .int .i64 lf, .bool D.done, .bool D.down], .string k, .string (toStr ys)] w (fun v w' => (∃ cs, v = .tuple #[.agg cs, .int .i64 (appendD D k ys).2] ∧ RefV w' cs (appendD D k ys).1) ∧ Ext w w') := by
  have hX := Ext.refl w
  refine enter 64 _ Try.func35 rfl rfl (Nat.le_of_ble_eq_true rfl) rfl ?_
  refine c_seq ?_
  refine r_plain ?_
  have hXs3 := hX.size
  refine o_boxA (by conv => lhs; whnf) ?_
  intro w1 g3 hN3
  have hE1 := hN3.ext
  have hX := hX.ext hE1
  have hB3 := hN3.blk
  have hXs6 := hX.size
  have hlt3 := hB3.lt
  refine o_alloc zr27 ?_
  intro w2 g6 hN6
  have hE2 := hN6.ext
  have hX := hX.ext hE2
  have hB3 := hB3.ext hE2
  have hB6 := hN6.blk
  refine p1 (x_assign (by conv => lhs; whnf)) ?_
  refine r_nil ?_
  refine t_n ?_
  refine c_seq ?_
  have hg6 := hN6.g_eq
  have hlen := hl.len
  have hcap := hl.cap
  have hple := plc_leA D.l k
  have hfew := hok.few
  have hroom := hok.room
  have hmost := hok.most
  refine r_plain ?_
  refine p1 (x_loadB ua27 rfl hB3 (by exact sz27)) ?_
  refine p1 (x_move (by conv => lhs; whnf)) ?_
  refine o_buildSlice u51 inf9 rfl (by decide) (fun base hb => fill_one (by rfl) base hb) ?_
  intro w3 g15 hN15
  have hE3 := hN15.ext
  have hX := hX.ext hE3
  have hB3 := hB3.ext hE3
  have hB6 := hB6.ext hE3
  have hS15 : Sl kStr 9 0 w3 (some ⟨g15, 0, none⟩) 1 1 [k] := (own_lit (B0 := 0) [k] hN15 (Nat.zero_le _) (by simp)).sl
  refine o_call Try.func44 fn44 fb44 (ref_first (D.most : Int) (D.steps : Int) lf (decide (0 ≤ D.left)) D.done D.down p n c D rfl [k] 0 _ _ _ _ hS15 (by intro s hs'; simp only [List.mem_singleton] at hs'; subst hs'; exact hks)) rfl ?_
  rintro v4 w4 ⟨rfl, hE4⟩
  have hX := hX.ext hE4
  have hB3 := hB3.ext hE4
  have hB6 := hB6.ext hE4
  have hS15 := hS15.ext hE4
  refine p1 (x_assign (by conv => lhs; whnf)) ?_
  refine r_nil ?_
  refine t_n ?_
  refine c_seq ?_
  refine r_plain ?_
  refine p1 (x_loadB ua27 rfl hB3 (by exact sz27)) ?_
  refine p1 (x_move (by conv => lhs; whnf)) ?_
  refine o_call Try.func45 fn45 fb45 (ref_place (D.most : Int) (D.steps : Int) lf (decide (0 ≤ D.left)) D.done D.down D.l p n c _ (hl.ext hX) k (by omega)) rfl ?_
  rintro v5 w5 ⟨rfl, hE5⟩
  have hX := hX.ext hE5
  have hB3 := hB3.ext hE5
  have hB6 := hB6.ext hE5
  refine p1 (x_move (by conv => lhs; whnf)) ?_
  refine p1 (x_extract rfl rfl) ?_
  refine p1 (x_extract rfl rfl) ?_
  refine p1 (x_assign (by conv => lhs; whnf)) ?_
  refine p1 (x_assign (by conv => lhs; whnf)) ?_
  refine r_nil ?_
  refine t_n ?_
  refine c_seq ?_
  refine c_block ?_
  refine c_seq ?_
  refine r_plain ?_
  refine p1 (x_move (by conv => lhs; whnf)) ?_
  refine p1 (x_neq rfl rfl) ?_
  refine p1 (x_assign (by conv => lhs; whnf)) ?_
  refine r_nil ?_
  refine t_n ?_
  first | refine c_dec rfl (fun hc23 => ?_) (fun hc23 => ?_) | refine c_if rfl (fun hc23 => ?_) (fun hc23 => ?_)
  · try simp only [decide_eq_true_eq, decide_eq_false_iff_not, Bool.not_eq_true, Bool.not_eq_false, Bool.not_eq_eq_eq_not, Bool.not_true, Bool.not_false, Int.not_lt, Int.not_le] at hc23
    have hp : appendD D k ys = (D, lookD D [k]) := if_pos hc23
    refine c_seq ?_
    refine r_plain ?_
    refine p1 (x_loadB ua27 rfl hB3 (by exact sz27)) ?_
    refine p1 (x_move (by conv => lhs; whnf)) ?_
    refine o_storeAll rfl (by conv => lhs; whnf) (by simp [Value.oneCell']) (by exact sz27) hB6 (by rfl) ?_
    intro w6 hP6
    have hX := hX.put hP6 (by rw [hN6.g_eq]; exact hXs6)
    have hB3 := hP6.keep hB3 (by omega)
    have hB6 := hP6.blk
    refine p1 (x_assign (by conv => lhs; whnf)) ?_
    refine r_nil ?_
    refine t_n ?_
    refine c_ret ?_
    refine b_r ?_
    refine t_r ?_
    refine end2c rfl ua27 rfl (by conv => lhs; whnf) hB6 (by exact sz27) ?_
    first
      | exact ⟨⟨_, by rw [hp], by rw [hp]; exact ⟨p, n, c, lf, rfl, hl.ext hX, hlf⟩⟩, hX⟩
      | exact ⟨⟨_, by rw [hp], by rw [hp]; exact ⟨p9, n9, c9, lf9, rfl, hl9, hlf9⟩⟩, hX⟩
  · try simp only [decide_eq_true_eq, decide_eq_false_iff_not, Bool.not_eq_true, Bool.not_eq_false, Bool.not_eq_eq_eq_not, Bool.not_true, Bool.not_false, Int.not_lt, Int.not_le] at hc23
    refine c_seq ?_
    refine r_plain ?_
    refine p1 (x_move (by conv => lhs; whnf)) ?_
    first | refine p1 (x_notd rfl) ?_ | refine p1 (x_not rfl) ?_
    refine p1 (x_assign (by conv => lhs; whnf)) ?_
    refine r_nil ?_
    refine t_n ?_
    first | refine c_dec rfl (fun hc28 => ?_) (fun hc28 => ?_) | refine c_if rfl (fun hc28 => ?_) (fun hc28 => ?_)
    · try simp only [decide_eq_true_eq, decide_eq_false_iff_not, Bool.not_eq_true, Bool.not_eq_false, Bool.not_eq_eq_eq_not, Bool.not_true, Bool.not_false, Int.not_lt, Int.not_le] at hc28
      have hnat : ¬ isAtA D.l (plcA D.l k) k := by simpa using hc28
      have hnf := file_not hok hnat
      have hp : appendD D k ys = (D, 22) := by unfold appendD; rw [if_neg hc23, if_pos hnf]
      refine c_seq ?_
      refine r_plain ?_
      refine p1 (x_loadB ua27 rfl hB3 (by exact sz27)) ?_
      refine o_storeAll rfl (by conv => lhs; whnf) (by simp [Value.oneCell']) (by exact sz27) hB6 (by rfl) ?_
      intro w7 hP7
      have hX := hX.put hP7 (by rw [hN6.g_eq]; exact hXs6)
      have hB3 := hP7.keep hB3 (by omega)
      have hB6 := hP7.blk
      refine p1 (x_assign (by conv => lhs; whnf)) ?_
      refine r_nil ?_
      refine t_n ?_
      refine c_ret ?_
      refine b_r ?_
      refine t_r ?_
      refine end2c rfl ua27 rfl (by conv => lhs; whnf) hB6 (by exact sz27) ?_
      first
        | exact ⟨⟨_, by rw [hp], by rw [hp]; exact ⟨p, n, c, lf, rfl, hl.ext hX, hlf⟩⟩, hX⟩
        | exact ⟨⟨_, by rw [hp], by rw [hp]; exact ⟨p9, n9, c9, lf9, rfl, hl9, hlf9⟩⟩, hX⟩
    · try simp only [decide_eq_true_eq, decide_eq_false_iff_not, Bool.not_eq_true, Bool.not_eq_false, Bool.not_eq_eq_eq_not, Bool.not_true, Bool.not_false, Int.not_lt, Int.not_le] at hc28
      have hat : isAtA D.l (plcA D.l k) k := by simpa using hc28
      obtain ⟨f, hf, hfa, hfu, hfs, hgf⟩ := file_at hok hat
      have hfr : ∀ wz, Ext w wz → wz.rangeAt (ab p) (ao p + plcA D.l k * 3) [.string k, .string (toStr (f.1.take f.2)), .string (toStr (f.1.drop f.2))] := fun wz hz => by have := (hl.ext hz).flRange (plcA D.l k) (by have := (hat).1; omega); rw [hfa] at this; exact this
      have hplt : plcA D.l k < n := by have := (hat).1; omega
      have hne : ¬ ascF D.l k = none := by rw [hf]; simp
      have hzs := toStr_size ys
      refine c_seq ?_
      refine r_held (fun w1 w2 => Ext w1 w2) mixed ?_
      intro w8 hE8
      have hX := hX.ext hE8
      have hB3 := hB3.ext hE8
      have hB6 := hB6.ext hE8
      have hSr7 : (fun w1 w2 => Ext w1 w2) w8 w8 := Ext.refl w8
      refine h_take 0 rfl (by kernel_rfl) (by kernel_rfl) (by kernel_rfl) hSr7 (fun wS hSS => by (have hX := hX.ext hSS; have hB3 := hB3.ext hSS; have hB6 := hB6.ext hSS; exact (x_move (by conv => lhs; whnf)))) ?_
      refine h_take 1 rfl (by kernel_rfl) (by kernel_rfl) (by kernel_rfl) hSr7 (fun wS hSS => by (have hX := hX.ext hSS; have hB3 := hB3.ext hSS; have hB6 := hB6.ext hSS; exact (x_len_str u9 rfl))) ?_
      refine h_take 2 rfl (by kernel_rfl) (by kernel_rfl) (by kernel_rfl) hSr7 (fun wS hSS => by (have hX := hX.ext hSS; have hB3 := hB3.ext hSS; have hB6 := hB6.ext hSS; exact (x_fieldAddr fo27_0 sz3 rfl))) ?_
      refine h_take 3 rfl (by kernel_rfl) (by kernel_rfl) (by kernel_rfl) hSr7 (fun wS hSS => by (have hX := hX.ext hSS; have hB3 := hB3.ext hSS; have hB6 := hB6.ext hSS; exact (x_load1 un3 rfl (hB3.cell (rfl))))) ?_
      refine h_take 4 rfl (by kernel_rfl) (by kernel_rfl) (by kernel_rfl) hSr7 (fun wS hSS => by (have hX := hX.ext hSS; have hB3 := hB3.ext hSS; have hB6 := hB6.ext hSS; exact (x_loadB ua27 rfl hB3 (by exact sz27)))) ?_
      refine h_one 5 _ rfl (by kernel_rfl) (hop_of_list (fun Q5 hQ5 => ?_))
      refine o_call Try.func54 fn54 fb54 (ref_Used (D.most : Int) (D.steps : Int) lf (decide (0 ≤ D.left)) D.done D.down D.l p n c _ (hl.ext hX) (by omega) (by omega)) rfl ?_
      rintro v9 w9 ⟨rfl, hE9⟩
      have hX := hX.ext hE9
      have hB3 := hB3.ext hE9
      have hB6 := hB6.ext hE9
      have hSr7 := hSr7.ext hE9
      refine hop_end hQ5 ⟨hSr7, ?_⟩
      refine h_take 6 rfl (by kernel_rfl) (by kernel_rfl) (by kernel_rfl) hSr7 (fun wS hSS => by ( exact (x_sub rfl rfl (fits_i64 (by omega) (by omega))))) ?_
      refine h_take 7 rfl (by kernel_rfl) (by kernel_rfl) (by kernel_rfl) hSr7 (fun wS hSS => by ( exact (x_gtr rfl rfl))) ?_
      refine h_take 8 rfl (by kernel_rfl) (by kernel_rfl) (by kernel_rfl) hSr7 (fun wS hSS => by ( exact (x_assign (by conv => lhs; whnf)))) ?_
      refine h_done (by kernel_rfl) ?_
      refine t_n ?_
      first | refine c_dec rfl (fun hc32 => ?_) (fun hc32 => ?_) | refine c_if rfl (fun hc32 => ?_) (fun hc32 => ?_)
      · try simp only [decide_eq_true_eq, decide_eq_false_iff_not, Bool.not_eq_true, Bool.not_eq_false, Bool.not_eq_eq_eq_not, Bool.not_true, Bool.not_false, Int.not_lt, Int.not_le] at hc32
        have hp : appendD D k ys = (D, 21) := by unfold appendD; rw [if_neg hc23, if_neg hne, if_pos (by omega)]
        refine c_seq ?_
        refine r_plain ?_
        refine p1 (x_loadB ua27 rfl hB3 (by exact sz27)) ?_
        refine o_storeAll rfl (by conv => lhs; whnf) (by simp [Value.oneCell']) (by exact sz27) hB6 (by rfl) ?_
        intro w10 hP10
        have hX := hX.put hP10 (by rw [hN6.g_eq]; exact hXs6)
        have hB3 := hP10.keep hB3 (by omega)
        have hB6 := hP10.blk
        refine p1 (x_assign (by conv => lhs; whnf)) ?_
        refine r_nil ?_
        refine t_n ?_
        refine c_ret ?_
        refine b_r ?_
        refine t_r ?_
        refine end2c rfl ua27 rfl (by conv => lhs; whnf) hB6 (by exact sz27) ?_
        first
          | exact ⟨⟨_, by rw [hp], by rw [hp]; exact ⟨p, n, c, lf, rfl, hl.ext hX, hlf⟩⟩, hX⟩
          | exact ⟨⟨_, by rw [hp], by rw [hp]; exact ⟨p9, n9, c9, lf9, rfl, hl9, hlf9⟩⟩, hX⟩
      · try simp only [decide_eq_true_eq, decide_eq_false_iff_not, Bool.not_eq_true, Bool.not_eq_false, Bool.not_eq_eq_eq_not, Bool.not_true, Bool.not_false, Int.not_lt, Int.not_le] at hc32
        have hact : (f.1.take f.2 ++ (f.1.drop f.2 ++ ys), (f.1.take f.2).length) = (f.1 ++ ys, f.2) := by rw [← List.append_assoc, List.take_append_drop, List.length_take, Nat.min_eq_left hfs]
        have hp : appendD D k ys = stepD D (insA D.l k (some (f.1.take f.2 ++ (f.1.drop f.2 ++ ys), (f.1.take f.2).length))) true true := by unfold appendD; rw [if_neg hc23, if_neg hne, if_neg (by omega), hgf, hact]
        refine c_skip ?_
        refine b_n ?_
        refine t_n ?_
        refine c_seq ?_
        refine r_plain ?_
        refine p1 (x_fieldAddr fo27_1 sz25 rfl) ?_
        refine p1 (x_load1 un25 rfl (hB3.cell (rfl))) ?_
        refine p1 (x_move (by conv => lhs; whnf)) ?_
        refine p1 (x_ixs u25 sz81 rfl rfl ((hl.ext hX).adr kFl_pos (by omega)) (by omega) (by omega)) ?_
        refine p1 (x_loadN ua81 rfl (by exact sz81) (hfr _ hX)) ?_
        have hXs11 := hX.size
        have hltc11 := hB6.lt
        have hltb11 := hB3.lt
        refine o_alloc zr81 ?_
        intro w11 g11 hN11
        have hE11 := hN11.ext
        have hX := hX.ext hE11
        have hB3 := hB3.ext hE11
        have hB6 := hB6.ext hE11
        have hB11 := hN11.blk
        have hg11 := hN11.g_eq
        refine o_storeAll rfl (by conv => lhs; whnf) (by simp [Value.oneCell']) (by exact sz81) hB11 (by rfl) ?_
        intro w12 hP12
        have hX := hX.put hP12 (by rw [hN11.g_eq]; exact hXs11)
        have hB3 := hP12.keep hB3 (by omega)
        have hB6 := hP12.keep hB6 (by omega)
        have hB11 := hP12.blk
        refine r_nil ?_
        refine t_n ?_
        refine c_seq ?_
        refine r_plain ?_
        refine p1 (x_loadB ua27 rfl hB3 (by exact sz27)) ?_
        refine p1 (x_fieldAddr fo81_0 sz9 rfl) ?_
        refine p1 (x_load1 un9 rfl (hB11.cell (rfl))) ?_
        refine p1 (x_fieldAddr fo81_1 sz9 rfl) ?_
        refine p1 (x_load1 un9 rfl (hB11.cell (rfl))) ?_
        refine p1 (x_fieldAddr fo81_2 sz9 rfl) ?_
        refine p1 (x_load1 un9 rfl (hB11.cell (rfl))) ?_
        refine p1 (x_move (by conv => lhs; whnf)) ?_
        refine p1 ((x_add_str rfl rfl (by rw [toStr_size, toStr_size, List.length_drop]; omega)).cast (by rw [toStr_append])) ?_
        refine p1 (x_buildF3 pl81 rfl rfl rfl) ?_
        refine o_call Try.func56 fn56 fb56 (ref_with (D.most : Int) (D.steps : Int) lf (decide (0 ≤ D.left)) D.done D.down D.l p n c _ (hl.ext hX) (by omega) k (f.1.take f.2) (f.1.drop f.2 ++ ys)) rfl ?_
        rintro v13 w13 ⟨⟨px, nx, cx, rfl, hlx⟩, hE13⟩
        have hX := hX.ext hE13
        have hB3 := hB3.ext hE13
        have hB6 := hB6.ext hE13
        have hB11 := hB11.ext hE13
        have hXs12 := hX.size
        have hltc12 := hB6.lt
        have hltb12 := hB3.lt
        refine o_alloc zr27 ?_
        intro w14 g12 hN12
        have hE14 := hN12.ext
        have hX := hX.ext hE14
        have hB3 := hB3.ext hE14
        have hB6 := hB6.ext hE14
        have hB11 := hB11.ext hE14
        have hlx := hlx.ext hE14
        have hB12 := hN12.blk
        have hg12 := hN12.g_eq
        refine o_storeAll rfl (by conv => lhs; whnf) (by simp [Value.oneCell']) (by exact sz27) hB12 (by rfl) ?_
        intro w15 hP15
        have hX := hX.put hP15 (by rw [hN12.g_eq]; exact hXs12)
        have hB3 := hP15.keep hB3 (by omega)
        have hB6 := hP15.keep hB6 (by omega)
        have hB11 := hB11.one hP15.one (by decide)
        have hlx := hlx.mod (hP15.mod 0 (Nat.zero_le _)) (Nat.zero_le _) (by decide)
        have hB12 := hP15.blk
        refine r_nil ?_
        refine t_n ?_
        refine c_seq ?_
        refine r_plain ?_
        refine p1 (x_loadB ua27 rfl hB3 (by exact sz27)) ?_
        refine p1 (x_loadB ua27 rfl hB12 (by exact sz27)) ?_
        refine p1 (x_loadB ua27 rfl hB12 (by exact sz27)) ?_
        refine o_call Try.func57 fn57 fb57 (ref_stepD D (insA D.l k (some (f.1.take f.2 ++ (f.1.drop f.2 ++ ys), (f.1.take f.2).length))) true true p px px n c nx cx nx cx lf _ hlx (by simpa using hlx) hlf hok.left hst (by have := hlf.lo; omega)) rfl ?_
        rintro v16 w16 ⟨⟨cs, rfl, p9, n9, c9, lf9, rfl, hl9, hlf9⟩, hE16⟩
        have hX := hX.ext hE16
        have hB3 := hB3.ext hE16
        have hB6 := hB6.ext hE16
        have hB11 := hB11.ext hE16
        have hlx := hlx.ext hE16
        have hB12 := hB12.ext hE16
        refine p1 (x_extract rfl rfl) ?_
        refine p1 (x_extract rfl rfl) ?_
        refine o_storeAll rfl (by conv => lhs; whnf) (by simp [Value.oneCell']) (by exact sz27) hB6 (by rfl) ?_
        intro w17 hP17
        have hX := hX.put hP17 (by rw [hN6.g_eq]; exact hXs6)
        have hB3 := hP17.keep hB3 (by omega)
        have hB6 := hP17.blk
        have hB11 := hB11.one hP17.one (by decide)
        have hlx := hlx.mod (hP17.mod 0 (Nat.zero_le _)) (Nat.zero_le _) (by decide)
        have hB12 := hP17.keep hB12 (by omega)
        have hl9 := hl9.mod (hP17.mod 0 (Nat.zero_le _)) (Nat.zero_le _) (by decide)
        refine p1 (x_assign (by conv => lhs; whnf)) ?_
        refine r_nil ?_
        refine t_n ?_
        refine c_ret ?_
        refine end2c rfl ua27 rfl (by conv => lhs; whnf) hB6 (by exact sz27) ?_
        first
          | exact ⟨⟨_, by rw [hp], by rw [hp]; exact ⟨p, n, c, lf, rfl, hl.ext hX, hlf⟩⟩, hX⟩
          | exact ⟨⟨_, by rw [hp], by rw [hp]; exact ⟨p9, n9, c9, lf9, rfl, hl9, hlf9⟩⟩, hX⟩
theorem ref_Rename (D : DS) (p : Option Addr) (n c : Nat) (lf : Int) (w : World) (hl : Sl kFl 81 0 w p n c D.l) (hlf : LfOk D lf) (hok : DOk D) (hst : D.steps < 4611686018427387904) (old now : ByteArray) (hos : old.size ≤ 9223372036854775807) (hns : now.size ≤ 9223372036854775807) :
    Ret Try.prog 37 [.agg #[.int .i64 (D.most : Int), .slice p n c, .int .i64 (D.steps : Int), .bool (decide (0 ≤ D.left)), .int .i64 lf, .bool D.done, .bool D.down], .string old, .string now] w (fun v w' => (∃ cs, v = .tuple #[.agg cs, .int .i64 (renameD D old now).2] ∧ RefV w' cs (renameD D old now).1) ∧ Ext w w') := by
  have hX := Ext.refl w
  refine enter 56 _ Try.func37 rfl rfl (Nat.le_of_ble_eq_true rfl) rfl ?_
  refine c_seq ?_
  refine r_plain ?_
  have hXs3 := hX.size
  refine o_boxA (by conv => lhs; whnf) ?_
  intro w1 g3 hN3
  have hE1 := hN3.ext
  have hX := hX.ext hE1
  have hB3 := hN3.blk
  have hXs6 := hX.size
  have hlt3 := hB3.lt
  refine o_alloc zr27 ?_
  intro w2 g6 hN6
  have hE2 := hN6.ext
  have hX := hX.ext hE2
  have hB3 := hB3.ext hE2
  have hB6 := hN6.blk
  refine p1 (x_assign (by conv => lhs; whnf)) ?_
  refine r_nil ?_
  refine t_n ?_
  refine c_seq ?_
  have hg6 := hN6.g_eq
  have hlen := hl.len
  have hcap := hl.cap
  have hple := plc_leA D.l old
  have hfew := hok.few
  have hroom := hok.room
  have hmost := hok.most
  refine r_plain ?_
  refine p1 (x_loadB ua27 rfl hB3 (by exact sz27)) ?_
  refine p1 (x_move (by conv => lhs; whnf)) ?_
  refine p1 (x_move (by conv => lhs; whnf)) ?_
  refine o_buildSlice u51 inf9 rfl (by decide) (fun base hb => fill_kn [.string old, .string now] (by intro v hv'; simp only [List.mem_cons, List.not_mem_nil, or_false] at hv'; rcases hv' with rfl | rfl <;> rfl) base hb) ?_
  intro w3 g16 hN16
  have hE3 := hN16.ext
  have hX := hX.ext hE3
  have hB3 := hB3.ext hE3
  have hB6 := hB6.ext hE3
  have hS16 : Sl kStr 9 0 w3 (some ⟨g16, 0, none⟩) 2 2 [old, now] := (own_lit (B0 := 0) [old, now] hN16 (Nat.zero_le _) (by simp)).sl
  refine o_call Try.func44 fn44 fb44 (ref_first (D.most : Int) (D.steps : Int) lf (decide (0 ≤ D.left)) D.done D.down p n c D rfl [old, now] 0 _ _ _ _ hS16 (by intro s hs'; simp only [List.mem_cons, List.not_mem_nil, or_false] at hs'; rcases hs' with rfl | rfl <;> assumption)) rfl ?_
  rintro v4 w4 ⟨rfl, hE4⟩
  have hX := hX.ext hE4
  have hB3 := hB3.ext hE4
  have hB6 := hB6.ext hE4
  have hS16 := hS16.ext hE4
  refine p1 (x_assign (by conv => lhs; whnf)) ?_
  refine r_nil ?_
  refine t_n ?_
  refine c_seq ?_
  refine r_plain ?_
  refine p1 (x_loadB ua27 rfl hB3 (by exact sz27)) ?_
  refine p1 (x_move (by conv => lhs; whnf)) ?_
  refine o_call Try.func45 fn45 fb45 (ref_place (D.most : Int) (D.steps : Int) lf (decide (0 ≤ D.left)) D.done D.down D.l p n c _ (hl.ext hX) old (by omega)) rfl ?_
  rintro v5 w5 ⟨rfl, hE5⟩
  have hX := hX.ext hE5
  have hB3 := hB3.ext hE5
  have hB6 := hB6.ext hE5
  refine p1 (x_move (by conv => lhs; whnf)) ?_
  refine p1 (x_extract rfl rfl) ?_
  refine p1 (x_extract rfl rfl) ?_
  refine p1 (x_assign (by conv => lhs; whnf)) ?_
  refine p1 (x_assign (by conv => lhs; whnf)) ?_
  refine r_nil ?_
  refine t_n ?_
  refine c_seq ?_
  refine c_block ?_
  refine c_seq ?_
  refine r_plain ?_
  refine p1 (x_move (by conv => lhs; whnf)) ?_
  refine p1 (x_neq rfl rfl) ?_
  refine p1 (x_assign (by conv => lhs; whnf)) ?_
  refine r_nil ?_
  refine t_n ?_
  first | refine c_dec rfl (fun hc24 => ?_) (fun hc24 => ?_) | refine c_if rfl (fun hc24 => ?_) (fun hc24 => ?_)
  · try simp only [decide_eq_true_eq, decide_eq_false_iff_not, Bool.not_eq_true, Bool.not_eq_false, Bool.not_eq_eq_eq_not, Bool.not_true, Bool.not_false, Int.not_lt, Int.not_le] at hc24
    have hp : renameD D old now = (D, lookD D [old, now]) := if_pos hc24
    refine c_seq ?_
    refine r_plain ?_
    refine p1 (x_loadB ua27 rfl hB3 (by exact sz27)) ?_
    refine p1 (x_move (by conv => lhs; whnf)) ?_
    refine o_storeAll rfl (by conv => lhs; whnf) (by simp [Value.oneCell']) (by exact sz27) hB6 (by rfl) ?_
    intro w6 hP6
    have hX := hX.put hP6 (by rw [hN6.g_eq]; exact hXs6)
    have hB3 := hP6.keep hB3 (by omega)
    have hB6 := hP6.blk
    refine p1 (x_assign (by conv => lhs; whnf)) ?_
    refine r_nil ?_
    refine t_n ?_
    refine c_ret ?_
    refine b_r ?_
    refine t_r ?_
    refine end2c rfl ua27 rfl (by conv => lhs; whnf) hB6 (by exact sz27) ?_
    first
      | exact ⟨⟨_, by rw [hp], by rw [hp]; exact ⟨p, n, c, lf, rfl, hl.ext hX, hlf⟩⟩, hX⟩
      | exact ⟨⟨_, by rw [hp], by rw [hp]; exact ⟨p9, n9, c9, lf9, rfl, hl9, hlf9⟩⟩, hX⟩
  · try simp only [decide_eq_true_eq, decide_eq_false_iff_not, Bool.not_eq_true, Bool.not_eq_false, Bool.not_eq_eq_eq_not, Bool.not_true, Bool.not_false, Int.not_lt, Int.not_le] at hc24
    refine c_seq ?_
    refine r_plain ?_
    refine p1 (x_move (by conv => lhs; whnf)) ?_
    first | refine p1 (x_notd rfl) ?_ | refine p1 (x_not rfl) ?_
    refine p1 (x_assign (by conv => lhs; whnf)) ?_
    refine r_nil ?_
    refine t_n ?_
    first | refine c_dec rfl (fun hc29 => ?_) (fun hc29 => ?_) | refine c_if rfl (fun hc29 => ?_) (fun hc29 => ?_)
    · try simp only [decide_eq_true_eq, decide_eq_false_iff_not, Bool.not_eq_true, Bool.not_eq_false, Bool.not_eq_eq_eq_not, Bool.not_true, Bool.not_false, Int.not_lt, Int.not_le] at hc29
      have hnat : ¬ isAtA D.l (plcA D.l old) old := by simpa using hc29
      have hnf := file_not hok hnat
      have hp : renameD D old now = (D, 22) := by unfold renameD; rw [if_neg hc24, if_pos hnf]
      refine c_seq ?_
      refine r_plain ?_
      refine p1 (x_loadB ua27 rfl hB3 (by exact sz27)) ?_
      refine o_storeAll rfl (by conv => lhs; whnf) (by simp [Value.oneCell']) (by exact sz27) hB6 (by rfl) ?_
      intro w7 hP7
      have hX := hX.put hP7 (by rw [hN6.g_eq]; exact hXs6)
      have hB3 := hP7.keep hB3 (by omega)
      have hB6 := hP7.blk
      refine p1 (x_assign (by conv => lhs; whnf)) ?_
      refine r_nil ?_
      refine t_n ?_
      refine c_ret ?_
      refine b_r ?_
      refine t_r ?_
      refine end2c rfl ua27 rfl (by conv => lhs; whnf) hB6 (by exact sz27) ?_
      first
        | exact ⟨⟨_, by rw [hp], by rw [hp]; exact ⟨p, n, c, lf, rfl, hl.ext hX, hlf⟩⟩, hX⟩
        | exact ⟨⟨_, by rw [hp], by rw [hp]; exact ⟨p9, n9, c9, lf9, rfl, hl9, hlf9⟩⟩, hX⟩
    · try simp only [decide_eq_true_eq, decide_eq_false_iff_not, Bool.not_eq_true, Bool.not_eq_false, Bool.not_eq_eq_eq_not, Bool.not_true, Bool.not_false, Int.not_lt, Int.not_le] at hc29
      have hat : isAtA D.l (plcA D.l old) old := by simpa using hc29
      obtain ⟨f, hf, hfa, hfu, hfs, hgf⟩ := file_at hok hat
      have hfr : ∀ wz, Ext w wz → wz.rangeAt (ab p) (ao p + plcA D.l old * 3) [.string old, .string (toStr (f.1.take f.2)), .string (toStr (f.1.drop f.2))] := fun wz hz => by have := (hl.ext hz).flRange (plcA D.l old) (by have := (hat).1; omega); rw [hfa] at this; exact this
      have hplt : plcA D.l old < n := by have := (hat).1; omega
      have hne : ¬ ascF D.l old = none := by rw [hf]; simp
      have hTK : (f.1.take f.2 ++ f.1.drop f.2, (f.1.take f.2).length) = f := by rw [List.take_append_drop, List.length_take, Nat.min_eq_left hfs]
      have hp : renameD D old now = stepD D (insA (insA D.l old none) now (some (f.1.take f.2 ++ f.1.drop f.2, (f.1.take f.2).length))) true false := by unfold renameD; rw [if_neg hc24, if_neg hne, hTK, ren_ref hok.rise hf, hgf]
      have hlw64 := there_len hok (k := old) (fun e => hne e) (none : Option Fb)
      refine c_skip ?_
      refine b_n ?_
      refine t_n ?_
      refine c_seq ?_
      refine r_plain ?_
      refine p1 (x_fieldAddr fo27_1 sz25 rfl) ?_
      refine p1 (x_load1 un25 rfl (hB3.cell (rfl))) ?_
      refine p1 (x_move (by conv => lhs; whnf)) ?_
      refine p1 (x_ixs u25 sz81 rfl rfl ((hl.ext hX).adr kFl_pos (by omega)) (by omega) (by omega)) ?_
      refine p1 (x_loadN ua81 rfl (by exact sz81) (hfr _ hX)) ?_
      have hXs11 := hX.size
      have hltc11 := hB6.lt
      have hltb11 := hB3.lt
      refine o_alloc zr81 ?_
      intro w8 g11 hN11
      have hE8 := hN11.ext
      have hX := hX.ext hE8
      have hB3 := hB3.ext hE8
      have hB6 := hB6.ext hE8
      have hB11 := hN11.blk
      have hg11 := hN11.g_eq
      refine o_storeAll rfl (by conv => lhs; whnf) (by simp [Value.oneCell']) (by exact sz81) hB11 (by rfl) ?_
      intro w9 hP9
      have hX := hX.put hP9 (by rw [hN11.g_eq]; exact hXs11)
      have hB3 := hP9.keep hB3 (by omega)
      have hB6 := hP9.keep hB6 (by omega)
      have hB11 := hP9.blk
      refine r_nil ?_
      refine t_n ?_
      refine c_seq ?_
      refine r_held (fun w1 w2 => Ext w1 w2) mixed ?_
      intro w10 hE10
      have hX := hX.ext hE10
      have hB3 := hB3.ext hE10
      have hB6 := hB6.ext hE10
      have hB11 := hB11.ext hE10
      have hSr8 : (fun w1 w2 => Ext w1 w2) w10 w10 := Ext.refl w10
      refine h_take 0 rfl (by kernel_rfl) (by kernel_rfl) (by kernel_rfl) hSr8 (fun wS hSS => by (have hX := hX.ext hSS; have hB3 := hB3.ext hSS; have hB6 := hB6.ext hSS; have hB11 := hB11.ext hSS; exact (x_loadB ua27 rfl hB3 (by exact sz27)))) ?_
      refine h_take 1 rfl (by kernel_rfl) (by kernel_rfl) (by kernel_rfl) hSr8 (fun wS hSS => by (have hX := hX.ext hSS; have hB3 := hB3.ext hSS; have hB6 := hB6.ext hSS; have hB11 := hB11.ext hSS; exact (x_move (by conv => lhs; whnf)))) ?_
      refine h_take 3 rfl (by kernel_rfl) (by kernel_rfl) (by kernel_rfl) hSr8 (fun wS hSS => by (have hX := hX.ext hSS; have hB3 := hB3.ext hSS; have hB6 := hB6.ext hSS; have hB11 := hB11.ext hSS; exact (x_move (by conv => lhs; whnf)))) ?_
      refine h_take 4 rfl (by kernel_rfl) (by kernel_rfl) (by kernel_rfl) hSr8 (fun wS hSS => by (have hX := hX.ext hSS; have hB3 := hB3.ext hSS; have hB6 := hB6.ext hSS; have hB11 := hB11.ext hSS; exact (x_fieldAddr fo81_1 sz9 rfl))) ?_
      refine h_take 5 rfl (by kernel_rfl) (by kernel_rfl) (by kernel_rfl) hSr8 (fun wS hSS => by (have hX := hX.ext hSS; have hB3 := hB3.ext hSS; have hB6 := hB6.ext hSS; have hB11 := hB11.ext hSS; exact (x_load1 un9 rfl (hB11.cell (rfl))))) ?_
      refine h_take 6 rfl (by kernel_rfl) (by kernel_rfl) (by kernel_rfl) hSr8 (fun wS hSS => by (have hX := hX.ext hSS; have hB3 := hB3.ext hSS; have hB6 := hB6.ext hSS; have hB11 := hB11.ext hSS; exact (x_fieldAddr fo81_2 sz9 rfl))) ?_
      refine h_take 7 rfl (by kernel_rfl) (by kernel_rfl) (by kernel_rfl) hSr8 (fun wS hSS => by (have hX := hX.ext hSS; have hB3 := hB3.ext hSS; have hB6 := hB6.ext hSS; have hB11 := hB11.ext hSS; exact (x_load1 un9 rfl (hB11.cell (rfl))))) ?_
      refine h_take 8 rfl (by kernel_rfl) (by kernel_rfl) (by kernel_rfl) hSr8 (fun wS hSS => by (have hX := hX.ext hSS; have hB3 := hB3.ext hSS; have hB6 := hB6.ext hSS; have hB11 := hB11.ext hSS; exact (x_buildF3 pl81 rfl rfl rfl))) ?_
      refine h_two 2 10 _ _ rfl rfl (by kernel_rfl) (hop_of_list (fun Q2 hQ2 => ?_)) (hop_of_list (fun Q10 hQ10 => ?_))
      · skip
        refine o_call Try.func59 fn59 fb59 (ref_without (D.most : Int) (D.steps : Int) lf (decide (0 ≤ D.left)) D.done D.down D.l p n c _ (hl.ext hX) (by omega) hok.rise old) rfl ?_
        rintro v11 w11 ⟨⟨pw, nw, cw, rfl, hlw⟩, hE11⟩
        have hX := hX.ext hE11
        have hB3 := hB3.ext hE11
        have hB6 := hB6.ext hE11
        have hB11 := hB11.ext hE11
        have hSr8 := hSr8.ext hE11
        refine hop_end hQ2 ⟨hSr8, ?_⟩
        refine h_two 9 10 _ _ rfl rfl (by kernel_rfl) (hop_of_list (fun Q9 hQ9 => ?_)) (hop_of_list (fun Q10 hQ10 => ?_))
        · skip
          refine o_call Try.func56 fn56 fb56 (ref_with (D.most : Int) (D.steps : Int) lf (decide (0 ≤ D.left)) D.done D.down (insA D.l old none) pw nw cw _ hlw (by have := hlw.len; omega) now (f.1.take f.2) (f.1.drop f.2)) rfl ?_
          rintro v12 w12 ⟨⟨px, nx, cx, rfl, hlx⟩, hE12⟩
          have hX := hX.ext hE12
          have hB3 := hB3.ext hE12
          have hB6 := hB6.ext hE12
          have hB11 := hB11.ext hE12
          have hSr8 := hSr8.ext hE12
          have hlw := hlw.ext hE12
          refine hop_end hQ9 ⟨hSr8, ?_⟩
          refine h_one 10 _ rfl (by kernel_rfl) (hop_of_list (fun Q10 hQ10 => ?_))
          have hXs12 := hX.size
          have hltc12 := hB6.lt
          have hltb12 := hB3.lt
          have h12 := hSr8.size
          refine o_alloc zr27 ?_
          intro w13 g12 hN12
          have hE13 := hN12.ext
          have hX := hX.ext hE13
          have hB3 := hB3.ext hE13
          have hB6 := hB6.ext hE13
          have hB11 := hB11.ext hE13
          have hSr8 := hSr8.ext hE13
          have hlw := hlw.ext hE13
          have hlx := hlx.ext hE13
          have hB12 := hN12.blk
          refine hop_end hQ10 ⟨hSr8, ?_⟩
          refine h_one 11 _ rfl (by kernel_rfl) (hop_of_list (fun Q11 hQ11 => ?_))
          have hg12 := hN12.g_eq
          refine o_storeAll rfl (by conv => lhs; whnf) (by simp [Value.oneCell']) (by exact sz27) hB12 (by rfl) ?_
          intro w14 hP14
          have hX := hX.put hP14 (by rw [hN12.g_eq]; exact hXs12)
          have hB3 := hP14.keep hB3 (by omega)
          have hB6 := hP14.keep hB6 (by omega)
          have hB11 := hB11.one hP14.one (by decide)
          have hSr8 := hSr8.put hP14 (by rw [hN12.g_eq]; exact h12)
          have hlw := hlw.mod (hP14.mod 0 (Nat.zero_le _)) (Nat.zero_le _) (by decide)
          have hlx := hlx.mod (hP14.mod 0 (Nat.zero_le _)) (Nat.zero_le _) (by decide)
          have hB12 := hP14.blk
          refine hop_end hQ11 ⟨hSr8, ?_⟩
          refine h_done (by kernel_rfl) ?_
          refine t_n ?_
          refine c_seq ?_
          refine r_held (fun w1 w2 => ModS (fun j => j = g6) [27] w1 w2) mixed ?_
          intro w15 hE15
          have hX := hX.ext hE15
          have hB3 := hB3.ext hE15
          have hB6 := hB6.ext hE15
          have hB11 := hB11.ext hE15
          have hlw := hlw.ext hE15
          have hlx := hlx.ext hE15
          have hB12 := hB12.ext hE15
          have hSr9 : (fun w1 w2 => ModS (fun j => j = g6) [27] w1 w2) w15 w15 := ModS.refl _ _ _
          refine h_take 0 rfl (by kernel_rfl) (by kernel_rfl) (by kernel_rfl) hSr9 (fun wS hSS => by (have hB3 := hB3.modS hSS (.inl (by omega)); have hB12 := hB12.modS hSS (.inl (by omega)); exact (x_loadB ua27 rfl hB3 (by exact sz27)))) ?_
          refine h_take 1 rfl (by kernel_rfl) (by kernel_rfl) (by kernel_rfl) hSr9 (fun wS hSS => by (have hB3 := hB3.modS hSS (.inl (by omega)); have hB12 := hB12.modS hSS (.inl (by omega)); exact (x_loadB ua27 rfl hB12 (by exact sz27)))) ?_
          refine h_take 2 rfl (by kernel_rfl) (by kernel_rfl) (by kernel_rfl) hSr9 (fun wS hSS => by (have hB3 := hB3.modS hSS (.inl (by omega)); have hB12 := hB12.modS hSS (.inl (by omega)); exact (x_loadB ua27 rfl hB3 (by exact sz27)))) ?_
          refine h_take 3 rfl (by kernel_rfl) (by kernel_rfl) (by kernel_rfl) hSr9 (fun wS hSS => by (have hB3 := hB3.modS hSS (.inl (by omega)); have hB12 := hB12.modS hSS (.inl (by omega)); exact (x_loadB ua27 rfl hB12 (by exact sz27)))) ?_
          refine h_one 4 _ rfl (by kernel_rfl) (hop_of_list (fun Q4 hQ4 => ?_))
          refine o_call Try.func58 fn58 fb58 (ref_either2 D (insA (insA D.l old none) now (some (f.1.take f.2 ++ f.1.drop f.2, (f.1.take f.2).length))) p px n c nx cx lf _ (hl.ext hX) hlx) rfl ?_
          rintro v16 w16 ⟨⟨py, ny, cy, rfl, hly⟩, hE16⟩
          have hX := hX.ext hE16
          have hB3 := hB3.ext hE16
          have hB6 := hB6.ext hE16
          have hB11 := hB11.ext hE16
          have hlw := hlw.ext hE16
          have hlx := hlx.ext hE16
          have hB12 := hB12.ext hE16
          have hSr9 := hSr9.ext hE16
          refine hop_end hQ4 ⟨hSr9, ?_⟩
          refine h_one 5 _ rfl (by kernel_rfl) (hop_of_list (fun Q5 hQ5 => ?_))
          refine o_call Try.func57 fn57 fb57 (ref_stepD D (insA (insA D.l old none) now (some (f.1.take f.2 ++ f.1.drop f.2, (f.1.take f.2).length))) true false p px py n c nx cx ny cy lf _ hlx (hly) hlf hok.left hst (by have := hlf.lo; omega)) rfl ?_
          rintro v17 w17 ⟨⟨cs, rfl, p9, n9, c9, lf9, rfl, hl9, hlf9⟩, hE17⟩
          have hX := hX.ext hE17
          have hB3 := hB3.ext hE17
          have hB6 := hB6.ext hE17
          have hB11 := hB11.ext hE17
          have hlw := hlw.ext hE17
          have hlx := hlx.ext hE17
          have hB12 := hB12.ext hE17
          have hSr9 := hSr9.ext hE17
          have hly := hly.ext hE17
          refine hop_end hQ5 ⟨hSr9, ?_⟩
          refine h_take 6 rfl (by kernel_rfl) (by kernel_rfl) (by kernel_rfl) hSr9 (fun wS hSS => by ( exact (x_extract rfl rfl))) ?_
          refine h_take 7 rfl (by kernel_rfl) (by kernel_rfl) (by kernel_rfl) hSr9 (fun wS hSS => by ( exact (x_extract rfl rfl))) ?_
          refine h_one 8 _ rfl (by kernel_rfl) (hop_of_list (fun Q8 hQ8 => ?_))
          refine o_storeAll rfl (by conv => lhs; whnf) (by simp [Value.oneCell']) (by exact sz27) hB6 (by rfl) ?_
          intro w18 hP18
          have hX := hX.put hP18 (by rw [hN6.g_eq]; exact hXs6)
          have hB3 := hP18.keep hB3 (by omega)
          have hB6 := hP18.blk
          have hB11 := hB11.one hP18.one (by decide)
          have hlw := hlw.mod (hP18.mod 0 (Nat.zero_le _)) (Nat.zero_le _) (by decide)
          have hlx := hlx.mod (hP18.mod 0 (Nat.zero_le _)) (Nat.zero_le _) (by decide)
          have hB12 := hP18.keep hB12 (by omega)
          have hSr9 := hSr9.put hP18 ⟨.inl rfl, by decide⟩
          have hly := hly.mod (hP18.mod 0 (Nat.zero_le _)) (Nat.zero_le _) (by decide)
          have hl9 := hl9.mod (hP18.mod 0 (Nat.zero_le _)) (Nat.zero_le _) (by decide)
          refine hop_end hQ8 ⟨hSr9, ?_⟩
          refine h_take 9 rfl (by kernel_rfl) (by kernel_rfl) (by kernel_rfl) hSr9 (fun wS hSS => by ( exact (x_assign (by conv => lhs; whnf)))) ?_
          refine h_done (by kernel_rfl) ?_
          refine t_n ?_
          refine c_ret ?_
          refine end2c rfl ua27 rfl (by conv => lhs; whnf) hB6 (by exact sz27) ?_
          first
            | exact ⟨⟨_, by rw [hp], by rw [hp]; exact ⟨p, n, c, lf, rfl, hl.ext hX, hlf⟩⟩, hX⟩
            | exact ⟨⟨_, by rw [hp], by rw [hp]; exact ⟨p9, n9, c9, lf9, rfl, hl9, hlf9⟩⟩, hX⟩
        · skip
          have hXs12 := hX.size
          have hltc12 := hB6.lt
          have hltb12 := hB3.lt
          have h12 := hSr8.size
          refine o_alloc zr27 ?_
          intro w19 g12 hN12
          have hE19 := hN12.ext
          have hX := hX.ext hE19
          have hB3 := hB3.ext hE19
          have hB6 := hB6.ext hE19
          have hB11 := hB11.ext hE19
          have hSr8 := hSr8.ext hE19
          have hlw := hlw.ext hE19
          have hB12 := hN12.blk
          refine hop_end hQ10 ⟨hSr8, ?_⟩
          refine h_one 9 _ rfl (by kernel_rfl) (hop_of_list (fun Q9 hQ9 => ?_))
          refine o_call Try.func56 fn56 fb56 (ref_with (D.most : Int) (D.steps : Int) lf (decide (0 ≤ D.left)) D.done D.down (insA D.l old none) pw nw cw _ hlw (by have := hlw.len; omega) now (f.1.take f.2) (f.1.drop f.2)) rfl ?_
          rintro v20 w20 ⟨⟨px, nx, cx, rfl, hlx⟩, hE20⟩
          have hX := hX.ext hE20
          have hB3 := hB3.ext hE20
          have hB6 := hB6.ext hE20
          have hB11 := hB11.ext hE20
          have hSr8 := hSr8.ext hE20
          have hlw := hlw.ext hE20
          have hB12 := hB12.ext hE20
          refine hop_end hQ9 ⟨hSr8, ?_⟩
          refine h_one 11 _ rfl (by kernel_rfl) (hop_of_list (fun Q11 hQ11 => ?_))
          have hg12 := hN12.g_eq
          refine o_storeAll rfl (by conv => lhs; whnf) (by simp [Value.oneCell']) (by exact sz27) hB12 (by rfl) ?_
          intro w21 hP21
          have hX := hX.put hP21 (by rw [hN12.g_eq]; exact hXs12)
          have hB3 := hP21.keep hB3 (by omega)
          have hB6 := hP21.keep hB6 (by omega)
          have hB11 := hB11.one hP21.one (by decide)
          have hSr8 := hSr8.put hP21 (by rw [hN12.g_eq]; exact h12)
          have hlw := hlw.mod (hP21.mod 0 (Nat.zero_le _)) (Nat.zero_le _) (by decide)
          have hB12 := hP21.blk
          have hlx := hlx.mod (hP21.mod 0 (Nat.zero_le _)) (Nat.zero_le _) (by decide)
          refine hop_end hQ11 ⟨hSr8, ?_⟩
          refine h_done (by kernel_rfl) ?_
          refine t_n ?_
          refine c_seq ?_
          refine r_held (fun w1 w2 => ModS (fun j => j = g6) [27] w1 w2) mixed ?_
          intro w22 hE22
          have hX := hX.ext hE22
          have hB3 := hB3.ext hE22
          have hB6 := hB6.ext hE22
          have hB11 := hB11.ext hE22
          have hlw := hlw.ext hE22
          have hB12 := hB12.ext hE22
          have hlx := hlx.ext hE22
          have hSr9 : (fun w1 w2 => ModS (fun j => j = g6) [27] w1 w2) w22 w22 := ModS.refl _ _ _
          refine h_take 0 rfl (by kernel_rfl) (by kernel_rfl) (by kernel_rfl) hSr9 (fun wS hSS => by (have hB3 := hB3.modS hSS (.inl (by omega)); have hB12 := hB12.modS hSS (.inl (by omega)); exact (x_loadB ua27 rfl hB3 (by exact sz27)))) ?_
          refine h_take 1 rfl (by kernel_rfl) (by kernel_rfl) (by kernel_rfl) hSr9 (fun wS hSS => by (have hB3 := hB3.modS hSS (.inl (by omega)); have hB12 := hB12.modS hSS (.inl (by omega)); exact (x_loadB ua27 rfl hB12 (by exact sz27)))) ?_
          refine h_take 2 rfl (by kernel_rfl) (by kernel_rfl) (by kernel_rfl) hSr9 (fun wS hSS => by (have hB3 := hB3.modS hSS (.inl (by omega)); have hB12 := hB12.modS hSS (.inl (by omega)); exact (x_loadB ua27 rfl hB3 (by exact sz27)))) ?_
          refine h_take 3 rfl (by kernel_rfl) (by kernel_rfl) (by kernel_rfl) hSr9 (fun wS hSS => by (have hB3 := hB3.modS hSS (.inl (by omega)); have hB12 := hB12.modS hSS (.inl (by omega)); exact (x_loadB ua27 rfl hB12 (by exact sz27)))) ?_
          refine h_one 4 _ rfl (by kernel_rfl) (hop_of_list (fun Q4 hQ4 => ?_))
          refine o_call Try.func58 fn58 fb58 (ref_either2 D (insA (insA D.l old none) now (some (f.1.take f.2 ++ f.1.drop f.2, (f.1.take f.2).length))) p px n c nx cx lf _ (hl.ext hX) hlx) rfl ?_
          rintro v23 w23 ⟨⟨py, ny, cy, rfl, hly⟩, hE23⟩
          have hX := hX.ext hE23
          have hB3 := hB3.ext hE23
          have hB6 := hB6.ext hE23
          have hB11 := hB11.ext hE23
          have hlw := hlw.ext hE23
          have hB12 := hB12.ext hE23
          have hlx := hlx.ext hE23
          have hSr9 := hSr9.ext hE23
          refine hop_end hQ4 ⟨hSr9, ?_⟩
          refine h_one 5 _ rfl (by kernel_rfl) (hop_of_list (fun Q5 hQ5 => ?_))
          refine o_call Try.func57 fn57 fb57 (ref_stepD D (insA (insA D.l old none) now (some (f.1.take f.2 ++ f.1.drop f.2, (f.1.take f.2).length))) true false p px py n c nx cx ny cy lf _ hlx (hly) hlf hok.left hst (by have := hlf.lo; omega)) rfl ?_
          rintro v24 w24 ⟨⟨cs, rfl, p9, n9, c9, lf9, rfl, hl9, hlf9⟩, hE24⟩
          have hX := hX.ext hE24
          have hB3 := hB3.ext hE24
          have hB6 := hB6.ext hE24
          have hB11 := hB11.ext hE24
          have hlw := hlw.ext hE24
          have hB12 := hB12.ext hE24
          have hlx := hlx.ext hE24
          have hSr9 := hSr9.ext hE24
          have hly := hly.ext hE24
          refine hop_end hQ5 ⟨hSr9, ?_⟩
          refine h_take 6 rfl (by kernel_rfl) (by kernel_rfl) (by kernel_rfl) hSr9 (fun wS hSS => by ( exact (x_extract rfl rfl))) ?_
          refine h_take 7 rfl (by kernel_rfl) (by kernel_rfl) (by kernel_rfl) hSr9 (fun wS hSS => by ( exact (x_extract rfl rfl))) ?_
          refine h_one 8 _ rfl (by kernel_rfl) (hop_of_list (fun Q8 hQ8 => ?_))
          refine o_storeAll rfl (by conv => lhs; whnf) (by simp [Value.oneCell']) (by exact sz27) hB6 (by rfl) ?_
          intro w25 hP25
          have hX := hX.put hP25 (by rw [hN6.g_eq]; exact hXs6)
          have hB3 := hP25.keep hB3 (by omega)
          have hB6 := hP25.blk
          have hB11 := hB11.one hP25.one (by decide)
          have hlw := hlw.mod (hP25.mod 0 (Nat.zero_le _)) (Nat.zero_le _) (by decide)
          have hB12 := hP25.keep hB12 (by omega)
          have hlx := hlx.mod (hP25.mod 0 (Nat.zero_le _)) (Nat.zero_le _) (by decide)
          have hSr9 := hSr9.put hP25 ⟨.inl rfl, by decide⟩
          have hly := hly.mod (hP25.mod 0 (Nat.zero_le _)) (Nat.zero_le _) (by decide)
          have hl9 := hl9.mod (hP25.mod 0 (Nat.zero_le _)) (Nat.zero_le _) (by decide)
          refine hop_end hQ8 ⟨hSr9, ?_⟩
          refine h_take 9 rfl (by kernel_rfl) (by kernel_rfl) (by kernel_rfl) hSr9 (fun wS hSS => by ( exact (x_assign (by conv => lhs; whnf)))) ?_
          refine h_done (by kernel_rfl) ?_
          refine t_n ?_
          refine c_ret ?_
          refine end2c rfl ua27 rfl (by conv => lhs; whnf) hB6 (by exact sz27) ?_
          first
            | exact ⟨⟨_, by rw [hp], by rw [hp]; exact ⟨p, n, c, lf, rfl, hl.ext hX, hlf⟩⟩, hX⟩
            | exact ⟨⟨_, by rw [hp], by rw [hp]; exact ⟨p9, n9, c9, lf9, rfl, hl9, hlf9⟩⟩, hX⟩
      · skip
        have hXs12 := hX.size
        have hltc12 := hB6.lt
        have hltb12 := hB3.lt
        have h12 := hSr8.size
        refine o_alloc zr27 ?_
        intro w26 g12 hN12
        have hE26 := hN12.ext
        have hX := hX.ext hE26
        have hB3 := hB3.ext hE26
        have hB6 := hB6.ext hE26
        have hB11 := hB11.ext hE26
        have hSr8 := hSr8.ext hE26
        have hB12 := hN12.blk
        refine hop_end hQ10 ⟨hSr8, ?_⟩
        refine h_one 2 _ rfl (by kernel_rfl) (hop_of_list (fun Q2 hQ2 => ?_))
        refine o_call Try.func59 fn59 fb59 (ref_without (D.most : Int) (D.steps : Int) lf (decide (0 ≤ D.left)) D.done D.down D.l p n c _ (hl.ext hX) (by omega) hok.rise old) rfl ?_
        rintro v27 w27 ⟨⟨pw, nw, cw, rfl, hlw⟩, hE27⟩
        have hX := hX.ext hE27
        have hB3 := hB3.ext hE27
        have hB6 := hB6.ext hE27
        have hB11 := hB11.ext hE27
        have hSr8 := hSr8.ext hE27
        have hB12 := hB12.ext hE27
        refine hop_end hQ2 ⟨hSr8, ?_⟩
        refine h_one 9 _ rfl (by kernel_rfl) (hop_of_list (fun Q9 hQ9 => ?_))
        refine o_call Try.func56 fn56 fb56 (ref_with (D.most : Int) (D.steps : Int) lf (decide (0 ≤ D.left)) D.done D.down (insA D.l old none) pw nw cw _ hlw (by have := hlw.len; omega) now (f.1.take f.2) (f.1.drop f.2)) rfl ?_
        rintro v28 w28 ⟨⟨px, nx, cx, rfl, hlx⟩, hE28⟩
        have hX := hX.ext hE28
        have hB3 := hB3.ext hE28
        have hB6 := hB6.ext hE28
        have hB11 := hB11.ext hE28
        have hSr8 := hSr8.ext hE28
        have hB12 := hB12.ext hE28
        have hlw := hlw.ext hE28
        refine hop_end hQ9 ⟨hSr8, ?_⟩
        refine h_one 11 _ rfl (by kernel_rfl) (hop_of_list (fun Q11 hQ11 => ?_))
        have hg12 := hN12.g_eq
        refine o_storeAll rfl (by conv => lhs; whnf) (by simp [Value.oneCell']) (by exact sz27) hB12 (by rfl) ?_
        intro w29 hP29
        have hX := hX.put hP29 (by rw [hN12.g_eq]; exact hXs12)
        have hB3 := hP29.keep hB3 (by omega)
        have hB6 := hP29.keep hB6 (by omega)
        have hB11 := hB11.one hP29.one (by decide)
        have hSr8 := hSr8.put hP29 (by rw [hN12.g_eq]; exact h12)
        have hB12 := hP29.blk
        have hlw := hlw.mod (hP29.mod 0 (Nat.zero_le _)) (Nat.zero_le _) (by decide)
        have hlx := hlx.mod (hP29.mod 0 (Nat.zero_le _)) (Nat.zero_le _) (by decide)
        refine hop_end hQ11 ⟨hSr8, ?_⟩
        refine h_done (by kernel_rfl) ?_
        refine t_n ?_
        refine c_seq ?_
        refine r_held (fun w1 w2 => ModS (fun j => j = g6) [27] w1 w2) mixed ?_
        intro w30 hE30
        have hX := hX.ext hE30
        have hB3 := hB3.ext hE30
        have hB6 := hB6.ext hE30
        have hB11 := hB11.ext hE30
        have hB12 := hB12.ext hE30
        have hlw := hlw.ext hE30
        have hlx := hlx.ext hE30
        have hSr9 : (fun w1 w2 => ModS (fun j => j = g6) [27] w1 w2) w30 w30 := ModS.refl _ _ _
        refine h_take 0 rfl (by kernel_rfl) (by kernel_rfl) (by kernel_rfl) hSr9 (fun wS hSS => by (have hB3 := hB3.modS hSS (.inl (by omega)); have hB12 := hB12.modS hSS (.inl (by omega)); exact (x_loadB ua27 rfl hB3 (by exact sz27)))) ?_
        refine h_take 1 rfl (by kernel_rfl) (by kernel_rfl) (by kernel_rfl) hSr9 (fun wS hSS => by (have hB3 := hB3.modS hSS (.inl (by omega)); have hB12 := hB12.modS hSS (.inl (by omega)); exact (x_loadB ua27 rfl hB12 (by exact sz27)))) ?_
        refine h_take 2 rfl (by kernel_rfl) (by kernel_rfl) (by kernel_rfl) hSr9 (fun wS hSS => by (have hB3 := hB3.modS hSS (.inl (by omega)); have hB12 := hB12.modS hSS (.inl (by omega)); exact (x_loadB ua27 rfl hB3 (by exact sz27)))) ?_
        refine h_take 3 rfl (by kernel_rfl) (by kernel_rfl) (by kernel_rfl) hSr9 (fun wS hSS => by (have hB3 := hB3.modS hSS (.inl (by omega)); have hB12 := hB12.modS hSS (.inl (by omega)); exact (x_loadB ua27 rfl hB12 (by exact sz27)))) ?_
        refine h_one 4 _ rfl (by kernel_rfl) (hop_of_list (fun Q4 hQ4 => ?_))
        refine o_call Try.func58 fn58 fb58 (ref_either2 D (insA (insA D.l old none) now (some (f.1.take f.2 ++ f.1.drop f.2, (f.1.take f.2).length))) p px n c nx cx lf _ (hl.ext hX) hlx) rfl ?_
        rintro v31 w31 ⟨⟨py, ny, cy, rfl, hly⟩, hE31⟩
        have hX := hX.ext hE31
        have hB3 := hB3.ext hE31
        have hB6 := hB6.ext hE31
        have hB11 := hB11.ext hE31
        have hB12 := hB12.ext hE31
        have hlw := hlw.ext hE31
        have hlx := hlx.ext hE31
        have hSr9 := hSr9.ext hE31
        refine hop_end hQ4 ⟨hSr9, ?_⟩
        refine h_one 5 _ rfl (by kernel_rfl) (hop_of_list (fun Q5 hQ5 => ?_))
        refine o_call Try.func57 fn57 fb57 (ref_stepD D (insA (insA D.l old none) now (some (f.1.take f.2 ++ f.1.drop f.2, (f.1.take f.2).length))) true false p px py n c nx cx ny cy lf _ hlx (hly) hlf hok.left hst (by have := hlf.lo; omega)) rfl ?_
        rintro v32 w32 ⟨⟨cs, rfl, p9, n9, c9, lf9, rfl, hl9, hlf9⟩, hE32⟩
        have hX := hX.ext hE32
        have hB3 := hB3.ext hE32
        have hB6 := hB6.ext hE32
        have hB11 := hB11.ext hE32
        have hB12 := hB12.ext hE32
        have hlw := hlw.ext hE32
        have hlx := hlx.ext hE32
        have hSr9 := hSr9.ext hE32
        have hly := hly.ext hE32
        refine hop_end hQ5 ⟨hSr9, ?_⟩
        refine h_take 6 rfl (by kernel_rfl) (by kernel_rfl) (by kernel_rfl) hSr9 (fun wS hSS => by ( exact (x_extract rfl rfl))) ?_
        refine h_take 7 rfl (by kernel_rfl) (by kernel_rfl) (by kernel_rfl) hSr9 (fun wS hSS => by ( exact (x_extract rfl rfl))) ?_
        refine h_one 8 _ rfl (by kernel_rfl) (hop_of_list (fun Q8 hQ8 => ?_))
        refine o_storeAll rfl (by conv => lhs; whnf) (by simp [Value.oneCell']) (by exact sz27) hB6 (by rfl) ?_
        intro w33 hP33
        have hX := hX.put hP33 (by rw [hN6.g_eq]; exact hXs6)
        have hB3 := hP33.keep hB3 (by omega)
        have hB6 := hP33.blk
        have hB11 := hB11.one hP33.one (by decide)
        have hB12 := hP33.keep hB12 (by omega)
        have hlw := hlw.mod (hP33.mod 0 (Nat.zero_le _)) (Nat.zero_le _) (by decide)
        have hlx := hlx.mod (hP33.mod 0 (Nat.zero_le _)) (Nat.zero_le _) (by decide)
        have hSr9 := hSr9.put hP33 ⟨.inl rfl, by decide⟩
        have hly := hly.mod (hP33.mod 0 (Nat.zero_le _)) (Nat.zero_le _) (by decide)
        have hl9 := hl9.mod (hP33.mod 0 (Nat.zero_le _)) (Nat.zero_le _) (by decide)
        refine hop_end hQ8 ⟨hSr9, ?_⟩
        refine h_take 9 rfl (by kernel_rfl) (by kernel_rfl) (by kernel_rfl) hSr9 (fun wS hSS => by ( exact (x_assign (by conv => lhs; whnf)))) ?_
        refine h_done (by kernel_rfl) ?_
        refine t_n ?_
        refine c_ret ?_
        refine end2c rfl ua27 rfl (by conv => lhs; whnf) hB6 (by exact sz27) ?_
        first
          | exact ⟨⟨_, by rw [hp], by rw [hp]; exact ⟨p, n, c, lf, rfl, hl.ext hX, hlf⟩⟩, hX⟩
          | exact ⟨⟨_, by rw [hp], by rw [hp]; exact ⟨p9, n9, c9, lf9, rfl, hl9, hlf9⟩⟩, hX⟩
theorem ref_Cut (D : DS) (p : Option Addr) (n c : Nat) (lf : Int) (w : World) (hl : Sl kFl 81 0 w p n c D.l) (hlf : LfOk D lf) (hok : DOk D) (hst : D.steps < 4611686018427387904) (k : ByteArray) (hks : k.size ≤ 9223372036854775807) (m : Int) (hm1 : -9223372036854775808 ≤ m) (hm2 : m ≤ 9223372036854775807) :
    Ret Try.prog 40 [.agg #[.int .i64 (D.most : Int), .slice p n c, .int .i64 (D.steps : Int), .bool (decide (0 ≤ D.left)), .int .i64 lf, .bool D.done, .bool D.down], .string k, .int .i64 m] w (fun v w' => (∃ cs, v = .tuple #[.agg cs, .int .i64 (cutD D k m).2] ∧ RefV w' cs (cutD D k m).1) ∧ Ext w w') := by
  have hX := Ext.refl w
  refine enter 69 _ Try.func40 rfl rfl (Nat.le_of_ble_eq_true rfl) rfl ?_
  refine c_seq ?_
  refine r_plain ?_
  have hXs3 := hX.size
  refine o_boxA (by conv => lhs; whnf) ?_
  intro w1 g3 hN3
  have hE1 := hN3.ext
  have hX := hX.ext hE1
  have hB3 := hN3.blk
  have hXs6 := hX.size
  have hlt3 := hB3.lt
  refine o_alloc zr27 ?_
  intro w2 g6 hN6
  have hE2 := hN6.ext
  have hX := hX.ext hE2
  have hB3 := hB3.ext hE2
  have hB6 := hN6.blk
  refine p1 (x_assign (by conv => lhs; whnf)) ?_
  refine r_nil ?_
  refine t_n ?_
  refine c_seq ?_
  have hg6 := hN6.g_eq
  have hlen := hl.len
  have hcap := hl.cap
  have hple := plc_leA D.l k
  have hfew := hok.few
  have hroom := hok.room
  have hmost := hok.most
  refine r_plain ?_
  refine p1 (x_loadB ua27 rfl hB3 (by exact sz27)) ?_
  refine p1 (x_move (by conv => lhs; whnf)) ?_
  refine o_buildSlice u51 inf9 rfl (by decide) (fun base hb => fill_one (by rfl) base hb) ?_
  intro w3 g15 hN15
  have hE3 := hN15.ext
  have hX := hX.ext hE3
  have hB3 := hB3.ext hE3
  have hB6 := hB6.ext hE3
  have hS15 : Sl kStr 9 0 w3 (some ⟨g15, 0, none⟩) 1 1 [k] := (own_lit (B0 := 0) [k] hN15 (Nat.zero_le _) (by simp)).sl
  refine o_call Try.func44 fn44 fb44 (ref_first (D.most : Int) (D.steps : Int) lf (decide (0 ≤ D.left)) D.done D.down p n c D rfl [k] 0 _ _ _ _ hS15 (by intro s hs'; simp only [List.mem_singleton] at hs'; subst hs'; exact hks)) rfl ?_
  rintro v4 w4 ⟨rfl, hE4⟩
  have hX := hX.ext hE4
  have hB3 := hB3.ext hE4
  have hB6 := hB6.ext hE4
  have hS15 := hS15.ext hE4
  refine p1 (x_assign (by conv => lhs; whnf)) ?_
  refine r_nil ?_
  refine t_n ?_
  refine c_seq ?_
  refine r_plain ?_
  refine p1 (x_loadB ua27 rfl hB3 (by exact sz27)) ?_
  refine p1 (x_move (by conv => lhs; whnf)) ?_
  refine o_call Try.func45 fn45 fb45 (ref_place (D.most : Int) (D.steps : Int) lf (decide (0 ≤ D.left)) D.done D.down D.l p n c _ (hl.ext hX) k (by omega)) rfl ?_
  rintro v5 w5 ⟨rfl, hE5⟩
  have hX := hX.ext hE5
  have hB3 := hB3.ext hE5
  have hB6 := hB6.ext hE5
  refine p1 (x_move (by conv => lhs; whnf)) ?_
  refine p1 (x_extract rfl rfl) ?_
  refine p1 (x_extract rfl rfl) ?_
  refine p1 (x_assign (by conv => lhs; whnf)) ?_
  refine p1 (x_assign (by conv => lhs; whnf)) ?_
  refine r_nil ?_
  refine t_n ?_
  refine c_seq ?_
  refine c_block ?_
  refine c_seq ?_
  refine r_plain ?_
  refine p1 (x_move (by conv => lhs; whnf)) ?_
  refine p1 (x_neq rfl rfl) ?_
  refine p1 (x_assign (by conv => lhs; whnf)) ?_
  refine r_nil ?_
  refine t_n ?_
  first | refine c_dec rfl (fun hc23 => ?_) (fun hc23 => ?_) | refine c_if rfl (fun hc23 => ?_) (fun hc23 => ?_)
  · try simp only [decide_eq_true_eq, decide_eq_false_iff_not, Bool.not_eq_true, Bool.not_eq_false, Bool.not_eq_eq_eq_not, Bool.not_true, Bool.not_false, Int.not_lt, Int.not_le] at hc23
    have hp : cutD D k m = (D, lookD D [k]) := if_pos hc23
    refine c_seq ?_
    refine r_plain ?_
    refine p1 (x_loadB ua27 rfl hB3 (by exact sz27)) ?_
    refine p1 (x_move (by conv => lhs; whnf)) ?_
    refine o_storeAll rfl (by conv => lhs; whnf) (by simp [Value.oneCell']) (by exact sz27) hB6 (by rfl) ?_
    intro w6 hP6
    have hX := hX.put hP6 (by rw [hN6.g_eq]; exact hXs6)
    have hB3 := hP6.keep hB3 (by omega)
    have hB6 := hP6.blk
    refine p1 (x_assign (by conv => lhs; whnf)) ?_
    refine r_nil ?_
    refine t_n ?_
    refine c_ret ?_
    refine b_r ?_
    refine t_r ?_
    refine end2c rfl ua27 rfl (by conv => lhs; whnf) hB6 (by exact sz27) ?_
    first
      | exact ⟨⟨_, by rw [hp], by rw [hp]; exact ⟨p, n, c, lf, rfl, hl.ext hX, hlf⟩⟩, hX⟩
      | exact ⟨⟨_, by rw [hp], by rw [hp]; exact ⟨p9, n9, c9, lf9, rfl, hl9, hlf9⟩⟩, hX⟩
  · try simp only [decide_eq_true_eq, decide_eq_false_iff_not, Bool.not_eq_true, Bool.not_eq_false, Bool.not_eq_eq_eq_not, Bool.not_true, Bool.not_false, Int.not_lt, Int.not_le] at hc23
    refine c_seq ?_
    refine r_plain ?_
    refine p1 (x_move (by conv => lhs; whnf)) ?_
    first | refine p1 (x_notd rfl) ?_ | refine p1 (x_not rfl) ?_
    refine p1 (x_assign (by conv => lhs; whnf)) ?_
    refine r_nil ?_
    refine t_n ?_
    first | refine c_dec rfl (fun hc28 => ?_) (fun hc28 => ?_) | refine c_if rfl (fun hc28 => ?_) (fun hc28 => ?_)
    · try simp only [decide_eq_true_eq, decide_eq_false_iff_not, Bool.not_eq_true, Bool.not_eq_false, Bool.not_eq_eq_eq_not, Bool.not_true, Bool.not_false, Int.not_lt, Int.not_le] at hc28
      have hnat : ¬ isAtA D.l (plcA D.l k) k := by simpa using hc28
      have hnf := file_not hok hnat
      have hp : cutD D k m = (D, 22) := by unfold cutD; rw [if_neg hc23, if_pos hnf]
      refine c_seq ?_
      refine r_plain ?_
      refine p1 (x_loadB ua27 rfl hB3 (by exact sz27)) ?_
      refine o_storeAll rfl (by conv => lhs; whnf) (by simp [Value.oneCell']) (by exact sz27) hB6 (by rfl) ?_
      intro w7 hP7
      have hX := hX.put hP7 (by rw [hN6.g_eq]; exact hXs6)
      have hB3 := hP7.keep hB3 (by omega)
      have hB6 := hP7.blk
      refine p1 (x_assign (by conv => lhs; whnf)) ?_
      refine r_nil ?_
      refine t_n ?_
      refine c_ret ?_
      refine b_r ?_
      refine t_r ?_
      refine end2c rfl ua27 rfl (by conv => lhs; whnf) hB6 (by exact sz27) ?_
      first
        | exact ⟨⟨_, by rw [hp], by rw [hp]; exact ⟨p, n, c, lf, rfl, hl.ext hX, hlf⟩⟩, hX⟩
        | exact ⟨⟨_, by rw [hp], by rw [hp]; exact ⟨p9, n9, c9, lf9, rfl, hl9, hlf9⟩⟩, hX⟩
    · try simp only [decide_eq_true_eq, decide_eq_false_iff_not, Bool.not_eq_true, Bool.not_eq_false, Bool.not_eq_eq_eq_not, Bool.not_true, Bool.not_false, Int.not_lt, Int.not_le] at hc28
      have hat : isAtA D.l (plcA D.l k) k := by simpa using hc28
      obtain ⟨f, hf, hfa, hfu, hfs, hgf⟩ := file_at hok hat
      have hfr : ∀ wz, Ext w wz → wz.rangeAt (ab p) (ao p + plcA D.l k * 3) [.string k, .string (toStr (f.1.take f.2)), .string (toStr (f.1.drop f.2))] := fun wz hz => by have := (hl.ext hz).flRange (plcA D.l k) (by have := (hat).1; omega); rw [hfa] at this; exact this
      have hplt : plcA D.l k < n := by have := (hat).1; omega
      have hne : ¬ ascF D.l k = none := by rw [hf]; simp
      have hzs := toStr_size f.1
      refine c_skip ?_
      refine b_n ?_
      refine t_n ?_
      refine c_seq ?_
      refine r_still mixed (by kernel_rfl) ?_
      intro w8 hE8
      have hX := hX.ext hE8
      have hB3 := hB3.ext hE8
      have hB6 := hB6.ext hE8
      refine s1 (x_fieldAddr fo27_1 sz25 rfl) ?_
      refine s1 (x_load1 un25 rfl (hB3.cell (rfl))) ?_
      refine s1 (x_move (by conv => lhs; whnf)) ?_
      refine s1 (x_ixs u25 sz81 rfl rfl ((hl.ext hX).adr kFl_pos (by omega)) (by omega) (by omega)) ?_
      refine s1 (x_fieldAddr fo81_1 sz9 rfl) ?_
      refine s1 (x_load1 un9 rfl (hfr _ hX 1 _ rfl)) ?_
      refine s1 (x_fieldAddr fo27_1 sz25 rfl) ?_
      refine s1 (x_load1 un25 rfl (hB3.cell (rfl))) ?_
      refine s1 (x_move (by conv => lhs; whnf)) ?_
      refine s1 (x_ixs u25 sz81 rfl rfl ((hl.ext hX).adr kFl_pos (by omega)) (by omega) (by omega)) ?_
      refine s1 (x_fieldAddr fo81_2 sz9 rfl) ?_
      refine s1 (x_load1 un9 rfl (hfr _ hX 2 _ rfl)) ?_
      refine s1 ((x_add_str rfl rfl (by rw [toStr_size, toStr_size, List.length_take, List.length_drop]; omega)).cast (by rw [toStr_append, List.take_append_drop])) ?_
      refine s1 (x_assign (by conv => lhs; whnf)) ?_
      refine s_nil ?_
      refine t_n ?_
      refine c_seq ?_
      refine c_seq ?_
      have hWr8 := Ext.refl w8
      refine c_cut (ι := Unit) [45, 46, 47, 48, 49, 50, 51, 52] (fun _ => [(52, .bool (decide (m < 0 ∨ (f.1.length : Int) < m)))]) (fun _ w' => Ext w8 w') ?_ ?_
      · skip
        refine r_plain ?_
        refine p1 (x_move (by conv => lhs; whnf)) ?_
        refine p1 (x_lss rfl rfl) ?_
        refine p1b (x_move (by conv => lhs; whnf)) (fun hb8_2 => ?_) (fun hb8_2 => ?_)
        · try simp only [decide_eq_true_eq, decide_eq_false_iff_not, Bool.not_eq_true, Bool.not_eq_false, Bool.not_eq_eq_eq_not, Bool.not_true, Bool.not_false, Int.not_lt, Int.not_le] at hb8_2
          refine g0 47 rfl (by first | exact .inl rfl | exact .inr rfl) ?_
          refine g0 47 rfl (by first | exact .inl rfl | exact .inr rfl) ?_
          refine g0 47 rfl (by first | exact .inl rfl | exact .inr rfl) ?_
          refine g0 47 rfl (by first | exact .inl rfl | exact .inr rfl) ?_
          refine p1 (x_pick_t rfl (by conv => lhs; whnf)) ?_
          refine r_nil ?_
          refine t_n (At.mk () (by repeat (first | exact Agr.refl _ _ | exact Agr.hav _ _ _ | refine Agr.upd rfl ?_ | refine Agr.updR rfl ?_ | refine Agr.updL ?_ _ rfl | refine Agr.hav' rfl ?_)) ⟨congrArg Value.bool (by first | rfl | exact (decide_eq_true (by omega)).symm | exact (decide_eq_false (by omega)).symm | exact decide_eq_decide.2 (by omega) | (simp_all; done) | grind), trivial⟩ hWr8)
        · try simp only [decide_eq_true_eq, decide_eq_false_iff_not, Bool.not_eq_true, Bool.not_eq_false, Bool.not_eq_eq_eq_not, Bool.not_true, Bool.not_false, Int.not_lt, Int.not_le] at hb8_2
          refine g1 47 rfl rfl (x_move (by conv => lhs; whnf)) ?_
          refine g1 47 rfl rfl (x_move (by conv => lhs; whnf)) ?_
          refine g1 47 rfl rfl (x_len_str u9 rfl) ?_
          refine g1 47 rfl rfl (x_gtr rfl rfl) ?_
          refine p1 (x_pick_f rfl (by conv => lhs; whnf)) ?_
          refine r_nil ?_
          refine t_n (At.mk () (by repeat (first | exact Agr.refl _ _ | exact Agr.hav _ _ _ | refine Agr.upd rfl ?_ | refine Agr.updR rfl ?_ | refine Agr.updL ?_ _ rfl | refine Agr.hav' rfl ?_)) ⟨congrArg Value.bool (by first | rfl | exact (decide_eq_true (by omega)).symm | exact (decide_eq_false (by omega)).symm | exact decide_eq_decide.2 (by omega) | (simp_all; done) | grind), trivial⟩ hWr8)
      · rintro _ Gr8 w9 hE9
        have hX := hX.ext hE9
        have hB3 := hB3.ext hE9
        have hB6 := hB6.ext hE9
        refine t_n ?_
        first | refine c_dec rfl (fun hc52 => ?_) (fun hc52 => ?_) | refine c_if rfl (fun hc52 => ?_) (fun hc52 => ?_)
        · try simp only [decide_eq_true_eq, decide_eq_false_iff_not, Bool.not_eq_true, Bool.not_eq_false, Bool.not_eq_eq_eq_not, Bool.not_true, Bool.not_false, Int.not_lt, Int.not_le] at hc52
          have hp : cutD D k m = (D, 2) := by unfold cutD; rw [if_neg hc23, if_neg hne, hgf, if_pos hc52]
          refine c_seq ?_
          refine r_plain ?_
          refine p1 (x_loadB ua27 rfl hB3 (by exact sz27)) ?_
          refine o_storeAll rfl (by conv => lhs; whnf) (by simp [Value.oneCell']) (by exact sz27) hB6 (by rfl) ?_
          intro w10 hP10
          have hX := hX.put hP10 (by rw [hN6.g_eq]; exact hXs6)
          have hB3 := hP10.keep hB3 (by omega)
          have hB6 := hP10.blk
          refine p1 (x_assign (by conv => lhs; whnf)) ?_
          refine r_nil ?_
          refine t_n ?_
          refine c_ret ?_
          refine t_r ?_
          refine end2c rfl ua27 rfl (by conv => lhs; whnf) hB6 (by exact sz27) ?_
          first
            | exact ⟨⟨_, by rw [hp], by rw [hp]; exact ⟨p, n, c, lf, rfl, hl.ext hX, hlf⟩⟩, hX⟩
            | exact ⟨⟨_, by rw [hp], by rw [hp]; exact ⟨p9, n9, c9, lf9, rfl, hl9, hlf9⟩⟩, hX⟩
        · try simp only [decide_eq_true_eq, decide_eq_false_iff_not, Bool.not_eq_true, Bool.not_eq_false, Bool.not_eq_eq_eq_not, Bool.not_true, Bool.not_false, Int.not_lt, Int.not_le] at hc52
          have hp : cutD D k m = stepD D (insA D.l k (some (f.1.take m.toNat ++ [], (f.1.take m.toNat).length))) true false := by unfold cutD; rw [if_neg hc23, if_neg hne, hgf, if_neg hc52, List.append_nil, List.length_take, Nat.min_eq_left (by omega)]
          refine c_skip ?_
          refine t_n ?_
          refine c_seq ?_
          refine r_held (fun w1 w2 => Ext w1 w2) mixed ?_
          intro w11 hE11
          have hX := hX.ext hE11
          have hB3 := hB3.ext hE11
          have hB6 := hB6.ext hE11
          have hSr10 : (fun w1 w2 => Ext w1 w2) w11 w11 := Ext.refl w11
          refine h_take 0 rfl (by kernel_rfl) (by kernel_rfl) (by kernel_rfl) hSr10 (fun wS hSS => by (have hX := hX.ext hSS; have hB3 := hB3.ext hSS; have hB6 := hB6.ext hSS; exact (x_loadB ua27 rfl hB3 (by exact sz27)))) ?_
          refine h_take 1 rfl (by kernel_rfl) (by kernel_rfl) (by kernel_rfl) hSr10 (fun wS hSS => by (have hX := hX.ext hSS; have hB3 := hB3.ext hSS; have hB6 := hB6.ext hSS; exact (x_move (by conv => lhs; whnf)))) ?_
          refine h_take 2 rfl (by kernel_rfl) (by kernel_rfl) (by kernel_rfl) hSr10 (fun wS hSS => by (have hX := hX.ext hSS; have hB3 := hB3.ext hSS; have hB6 := hB6.ext hSS; exact (x_move (by conv => lhs; whnf)))) ?_
          refine h_take 3 rfl (by kernel_rfl) (by kernel_rfl) (by kernel_rfl) hSr10 (fun wS hSS => by (have hX := hX.ext hSS; have hB3 := hB3.ext hSS; have hB6 := hB6.ext hSS; exact (x_move (by conv => lhs; whnf)))) ?_
          refine h_take 4 rfl (by kernel_rfl) (by kernel_rfl) (by kernel_rfl) hSr10 (fun wS hSS => by (have hX := hX.ext hSS; have hB3 := hB3.ext hSS; have hB6 := hB6.ext hSS; exact (x_slice_str_h u9 rfl rfl (by omega) (by omega)))) ?_
          refine h_take 5 rfl (by kernel_rfl) (by kernel_rfl) (by kernel_rfl) hSr10 (fun wS hSS => by (have hX := hX.ext hSS; have hB3 := hB3.ext hSS; have hB6 := hB6.ext hSS; exact (x_buildF3 pl81 rfl rfl rfl))) ?_
          refine h_two 6 7 _ _ rfl rfl (by kernel_rfl) (hop_of_list (fun Q6 hQ6 => ?_)) (hop_of_list (fun Q7 hQ7 => ?_))
          · skip
            refine o_call Try.func56 fn56 fb56 (ref_with (D.most : Int) (D.steps : Int) lf (decide (0 ≤ D.left)) D.done D.down D.l p n c _ (hl.ext hX) (by omega) k (f.1.take m.toNat) []) rfl ?_
            rintro v12 w12 ⟨⟨px, nx, cx, rfl, hlx⟩, hE12⟩
            have hX := hX.ext hE12
            have hB3 := hB3.ext hE12
            have hB6 := hB6.ext hE12
            have hSr10 := hSr10.ext hE12
            refine hop_end hQ6 ⟨hSr10, ?_⟩
            refine h_one 7 _ rfl (by kernel_rfl) (hop_of_list (fun Q7 hQ7 => ?_))
            have hXs12 := hX.size
            have hltc12 := hB6.lt
            have hltb12 := hB3.lt
            have h12 := hSr10.size
            refine o_alloc zr27 ?_
            intro w13 g12 hN12
            have hE13 := hN12.ext
            have hX := hX.ext hE13
            have hB3 := hB3.ext hE13
            have hB6 := hB6.ext hE13
            have hSr10 := hSr10.ext hE13
            have hlx := hlx.ext hE13
            have hB12 := hN12.blk
            refine hop_end hQ7 ⟨hSr10, ?_⟩
            refine h_one 8 _ rfl (by kernel_rfl) (hop_of_list (fun Q8 hQ8 => ?_))
            have hg12 := hN12.g_eq
            refine o_storeAll rfl (by conv => lhs; whnf) (by simp [Value.oneCell']) (by exact sz27) hB12 (by rfl) ?_
            intro w14 hP14
            have hX := hX.put hP14 (by rw [hN12.g_eq]; exact hXs12)
            have hB3 := hP14.keep hB3 (by omega)
            have hB6 := hP14.keep hB6 (by omega)
            have hSr10 := hSr10.put hP14 (by rw [hN12.g_eq]; exact h12)
            have hlx := hlx.mod (hP14.mod 0 (Nat.zero_le _)) (Nat.zero_le _) (by decide)
            have hB12 := hP14.blk
            refine hop_end hQ8 ⟨hSr10, ?_⟩
            refine h_done (by kernel_rfl) ?_
            refine t_n ?_
            refine c_seq ?_
            refine r_held (fun w1 w2 => ModS (fun j => j = g6) [27] w1 w2) mixed ?_
            intro w15 hE15
            have hX := hX.ext hE15
            have hB3 := hB3.ext hE15
            have hB6 := hB6.ext hE15
            have hlx := hlx.ext hE15
            have hB12 := hB12.ext hE15
            have hSr11 : (fun w1 w2 => ModS (fun j => j = g6) [27] w1 w2) w15 w15 := ModS.refl _ _ _
            refine h_take 0 rfl (by kernel_rfl) (by kernel_rfl) (by kernel_rfl) hSr11 (fun wS hSS => by (have hB3 := hB3.modS hSS (.inl (by omega)); have hB12 := hB12.modS hSS (.inl (by omega)); exact (x_loadB ua27 rfl hB3 (by exact sz27)))) ?_
            refine h_take 1 rfl (by kernel_rfl) (by kernel_rfl) (by kernel_rfl) hSr11 (fun wS hSS => by (have hB3 := hB3.modS hSS (.inl (by omega)); have hB12 := hB12.modS hSS (.inl (by omega)); exact (x_loadB ua27 rfl hB12 (by exact sz27)))) ?_
            refine h_take 2 rfl (by kernel_rfl) (by kernel_rfl) (by kernel_rfl) hSr11 (fun wS hSS => by (have hB3 := hB3.modS hSS (.inl (by omega)); have hB12 := hB12.modS hSS (.inl (by omega)); exact (x_loadB ua27 rfl hB3 (by exact sz27)))) ?_
            refine h_take 3 rfl (by kernel_rfl) (by kernel_rfl) (by kernel_rfl) hSr11 (fun wS hSS => by (have hB3 := hB3.modS hSS (.inl (by omega)); have hB12 := hB12.modS hSS (.inl (by omega)); exact (x_loadB ua27 rfl hB12 (by exact sz27)))) ?_
            refine h_one 4 _ rfl (by kernel_rfl) (hop_of_list (fun Q4 hQ4 => ?_))
            refine o_call Try.func58 fn58 fb58 (ref_either2 D (insA D.l k (some (f.1.take m.toNat ++ [], (f.1.take m.toNat).length))) p px n c nx cx lf _ (hl.ext hX) hlx) rfl ?_
            rintro v16 w16 ⟨⟨py, ny, cy, rfl, hly⟩, hE16⟩
            have hX := hX.ext hE16
            have hB3 := hB3.ext hE16
            have hB6 := hB6.ext hE16
            have hlx := hlx.ext hE16
            have hB12 := hB12.ext hE16
            have hSr11 := hSr11.ext hE16
            refine hop_end hQ4 ⟨hSr11, ?_⟩
            refine h_one 5 _ rfl (by kernel_rfl) (hop_of_list (fun Q5 hQ5 => ?_))
            refine o_call Try.func57 fn57 fb57 (ref_stepD D (insA D.l k (some (f.1.take m.toNat ++ [], (f.1.take m.toNat).length))) true false p px py n c nx cx ny cy lf _ hlx (hly) hlf hok.left hst (by have := hlf.lo; omega)) rfl ?_
            rintro v17 w17 ⟨⟨cs, rfl, p9, n9, c9, lf9, rfl, hl9, hlf9⟩, hE17⟩
            have hX := hX.ext hE17
            have hB3 := hB3.ext hE17
            have hB6 := hB6.ext hE17
            have hlx := hlx.ext hE17
            have hB12 := hB12.ext hE17
            have hSr11 := hSr11.ext hE17
            have hly := hly.ext hE17
            refine hop_end hQ5 ⟨hSr11, ?_⟩
            refine h_take 6 rfl (by kernel_rfl) (by kernel_rfl) (by kernel_rfl) hSr11 (fun wS hSS => by ( exact (x_extract rfl rfl))) ?_
            refine h_take 7 rfl (by kernel_rfl) (by kernel_rfl) (by kernel_rfl) hSr11 (fun wS hSS => by ( exact (x_extract rfl rfl))) ?_
            refine h_one 8 _ rfl (by kernel_rfl) (hop_of_list (fun Q8 hQ8 => ?_))
            refine o_storeAll rfl (by conv => lhs; whnf) (by simp [Value.oneCell']) (by exact sz27) hB6 (by rfl) ?_
            intro w18 hP18
            have hX := hX.put hP18 (by rw [hN6.g_eq]; exact hXs6)
            have hB3 := hP18.keep hB3 (by omega)
            have hB6 := hP18.blk
            have hlx := hlx.mod (hP18.mod 0 (Nat.zero_le _)) (Nat.zero_le _) (by decide)
            have hB12 := hP18.keep hB12 (by omega)
            have hSr11 := hSr11.put hP18 ⟨.inl rfl, by decide⟩
            have hly := hly.mod (hP18.mod 0 (Nat.zero_le _)) (Nat.zero_le _) (by decide)
            have hl9 := hl9.mod (hP18.mod 0 (Nat.zero_le _)) (Nat.zero_le _) (by decide)
            refine hop_end hQ8 ⟨hSr11, ?_⟩
            refine h_take 9 rfl (by kernel_rfl) (by kernel_rfl) (by kernel_rfl) hSr11 (fun wS hSS => by ( exact (x_assign (by conv => lhs; whnf)))) ?_
            refine h_done (by kernel_rfl) ?_
            refine t_n ?_
            refine c_ret ?_
            refine end2c rfl ua27 rfl (by conv => lhs; whnf) hB6 (by exact sz27) ?_
            first
              | exact ⟨⟨_, by rw [hp], by rw [hp]; exact ⟨p, n, c, lf, rfl, hl.ext hX, hlf⟩⟩, hX⟩
              | exact ⟨⟨_, by rw [hp], by rw [hp]; exact ⟨p9, n9, c9, lf9, rfl, hl9, hlf9⟩⟩, hX⟩
          · skip
            have hXs12 := hX.size
            have hltc12 := hB6.lt
            have hltb12 := hB3.lt
            have h12 := hSr10.size
            refine o_alloc zr27 ?_
            intro w19 g12 hN12
            have hE19 := hN12.ext
            have hX := hX.ext hE19
            have hB3 := hB3.ext hE19
            have hB6 := hB6.ext hE19
            have hSr10 := hSr10.ext hE19
            have hB12 := hN12.blk
            refine hop_end hQ7 ⟨hSr10, ?_⟩
            refine h_one 6 _ rfl (by kernel_rfl) (hop_of_list (fun Q6 hQ6 => ?_))
            refine o_call Try.func56 fn56 fb56 (ref_with (D.most : Int) (D.steps : Int) lf (decide (0 ≤ D.left)) D.done D.down D.l p n c _ (hl.ext hX) (by omega) k (f.1.take m.toNat) []) rfl ?_
            rintro v20 w20 ⟨⟨px, nx, cx, rfl, hlx⟩, hE20⟩
            have hX := hX.ext hE20
            have hB3 := hB3.ext hE20
            have hB6 := hB6.ext hE20
            have hSr10 := hSr10.ext hE20
            have hB12 := hB12.ext hE20
            refine hop_end hQ6 ⟨hSr10, ?_⟩
            refine h_one 8 _ rfl (by kernel_rfl) (hop_of_list (fun Q8 hQ8 => ?_))
            have hg12 := hN12.g_eq
            refine o_storeAll rfl (by conv => lhs; whnf) (by simp [Value.oneCell']) (by exact sz27) hB12 (by rfl) ?_
            intro w21 hP21
            have hX := hX.put hP21 (by rw [hN12.g_eq]; exact hXs12)
            have hB3 := hP21.keep hB3 (by omega)
            have hB6 := hP21.keep hB6 (by omega)
            have hSr10 := hSr10.put hP21 (by rw [hN12.g_eq]; exact h12)
            have hB12 := hP21.blk
            have hlx := hlx.mod (hP21.mod 0 (Nat.zero_le _)) (Nat.zero_le _) (by decide)
            refine hop_end hQ8 ⟨hSr10, ?_⟩
            refine h_done (by kernel_rfl) ?_
            refine t_n ?_
            refine c_seq ?_
            refine r_held (fun w1 w2 => ModS (fun j => j = g6) [27] w1 w2) mixed ?_
            intro w22 hE22
            have hX := hX.ext hE22
            have hB3 := hB3.ext hE22
            have hB6 := hB6.ext hE22
            have hB12 := hB12.ext hE22
            have hlx := hlx.ext hE22
            have hSr11 : (fun w1 w2 => ModS (fun j => j = g6) [27] w1 w2) w22 w22 := ModS.refl _ _ _
            refine h_take 0 rfl (by kernel_rfl) (by kernel_rfl) (by kernel_rfl) hSr11 (fun wS hSS => by (have hB3 := hB3.modS hSS (.inl (by omega)); have hB12 := hB12.modS hSS (.inl (by omega)); exact (x_loadB ua27 rfl hB3 (by exact sz27)))) ?_
            refine h_take 1 rfl (by kernel_rfl) (by kernel_rfl) (by kernel_rfl) hSr11 (fun wS hSS => by (have hB3 := hB3.modS hSS (.inl (by omega)); have hB12 := hB12.modS hSS (.inl (by omega)); exact (x_loadB ua27 rfl hB12 (by exact sz27)))) ?_
            refine h_take 2 rfl (by kernel_rfl) (by kernel_rfl) (by kernel_rfl) hSr11 (fun wS hSS => by (have hB3 := hB3.modS hSS (.inl (by omega)); have hB12 := hB12.modS hSS (.inl (by omega)); exact (x_loadB ua27 rfl hB3 (by exact sz27)))) ?_
            refine h_take 3 rfl (by kernel_rfl) (by kernel_rfl) (by kernel_rfl) hSr11 (fun wS hSS => by (have hB3 := hB3.modS hSS (.inl (by omega)); have hB12 := hB12.modS hSS (.inl (by omega)); exact (x_loadB ua27 rfl hB12 (by exact sz27)))) ?_
            refine h_one 4 _ rfl (by kernel_rfl) (hop_of_list (fun Q4 hQ4 => ?_))
            refine o_call Try.func58 fn58 fb58 (ref_either2 D (insA D.l k (some (f.1.take m.toNat ++ [], (f.1.take m.toNat).length))) p px n c nx cx lf _ (hl.ext hX) hlx) rfl ?_
            rintro v23 w23 ⟨⟨py, ny, cy, rfl, hly⟩, hE23⟩
            have hX := hX.ext hE23
            have hB3 := hB3.ext hE23
            have hB6 := hB6.ext hE23
            have hB12 := hB12.ext hE23
            have hlx := hlx.ext hE23
            have hSr11 := hSr11.ext hE23
            refine hop_end hQ4 ⟨hSr11, ?_⟩
            refine h_one 5 _ rfl (by kernel_rfl) (hop_of_list (fun Q5 hQ5 => ?_))
            refine o_call Try.func57 fn57 fb57 (ref_stepD D (insA D.l k (some (f.1.take m.toNat ++ [], (f.1.take m.toNat).length))) true false p px py n c nx cx ny cy lf _ hlx (hly) hlf hok.left hst (by have := hlf.lo; omega)) rfl ?_
            rintro v24 w24 ⟨⟨cs, rfl, p9, n9, c9, lf9, rfl, hl9, hlf9⟩, hE24⟩
            have hX := hX.ext hE24
            have hB3 := hB3.ext hE24
            have hB6 := hB6.ext hE24
            have hB12 := hB12.ext hE24
            have hlx := hlx.ext hE24
            have hSr11 := hSr11.ext hE24
            have hly := hly.ext hE24
            refine hop_end hQ5 ⟨hSr11, ?_⟩
            refine h_take 6 rfl (by kernel_rfl) (by kernel_rfl) (by kernel_rfl) hSr11 (fun wS hSS => by ( exact (x_extract rfl rfl))) ?_
            refine h_take 7 rfl (by kernel_rfl) (by kernel_rfl) (by kernel_rfl) hSr11 (fun wS hSS => by ( exact (x_extract rfl rfl))) ?_
            refine h_one 8 _ rfl (by kernel_rfl) (hop_of_list (fun Q8 hQ8 => ?_))
            refine o_storeAll rfl (by conv => lhs; whnf) (by simp [Value.oneCell']) (by exact sz27) hB6 (by rfl) ?_
            intro w25 hP25
            have hX := hX.put hP25 (by rw [hN6.g_eq]; exact hXs6)
            have hB3 := hP25.keep hB3 (by omega)
            have hB6 := hP25.blk
            have hB12 := hP25.keep hB12 (by omega)
            have hlx := hlx.mod (hP25.mod 0 (Nat.zero_le _)) (Nat.zero_le _) (by decide)
            have hSr11 := hSr11.put hP25 ⟨.inl rfl, by decide⟩
            have hly := hly.mod (hP25.mod 0 (Nat.zero_le _)) (Nat.zero_le _) (by decide)
            have hl9 := hl9.mod (hP25.mod 0 (Nat.zero_le _)) (Nat.zero_le _) (by decide)
            refine hop_end hQ8 ⟨hSr11, ?_⟩
            refine h_take 9 rfl (by kernel_rfl) (by kernel_rfl) (by kernel_rfl) hSr11 (fun wS hSS => by ( exact (x_assign (by conv => lhs; whnf)))) ?_
            refine h_done (by kernel_rfl) ?_
            refine t_n ?_
            refine c_ret ?_
            refine end2c rfl ua27 rfl (by conv => lhs; whnf) hB6 (by exact sz27) ?_
            first
              | exact ⟨⟨_, by rw [hp], by rw [hp]; exact ⟨p, n, c, lf, rfl, hl.ext hX, hlf⟩⟩, hX⟩
              | exact ⟨⟨_, by rw [hp], by rw [hp]; exact ⟨p9, n9, c9, lf9, rfl, hl9, hlf9⟩⟩, hX⟩
theorem ref_Fail (D : DS) (p : Option Addr) (n c : Nat) (lf : Int) (w : World) (hl : Sl kFl 81 0 w p n c D.l) (hlf : LfOk D lf) (hok : DOk D) (hst : D.steps < 4611686018427387904) (m : Int) (hm1 : -9223372036854775808 ≤ m) (hm2 : m ≤ 9223372036854775807) (dn : Bool) :
    Ret Try.prog 39 [.agg #[.int .i64 (D.most : Int), .slice p n c, .int .i64 (D.steps : Int), .bool (decide (0 ≤ D.left)), .int .i64 lf, .bool D.done, .bool D.down], .int .i64 m, .bool dn] w (fun v w' => (∃ cs, v = .tuple #[.agg cs, .int .i64 (failD D m dn).2] ∧ RefV w' cs (failD D m dn).1) ∧ Ext w w') := by
  have hX := Ext.refl w
  refine enter 20 _ Try.func39 rfl rfl (Nat.le_of_ble_eq_true rfl) rfl ?_
  refine c_seq ?_
  refine r_plain ?_
  have hXs3 := hX.size
  refine o_boxA (by conv => lhs; whnf) ?_
  intro w1 g3 hN3
  have hE1 := hN3.ext
  have hX := hX.ext hE1
  have hB3 := hN3.blk
  have hXs6 := hX.size
  have hlt3 := hB3.lt
  refine o_alloc zr27 ?_
  intro w2 g6 hN6
  have hE2 := hN6.ext
  have hX := hX.ext hE2
  have hB3 := hB3.ext hE2
  have hB6 := hN6.blk
  refine p1 (x_assign (by conv => lhs; whnf)) ?_
  refine r_nil ?_
  refine t_n ?_
  refine c_seq ?_
  refine c_seq ?_
  have hg6 := hN6.g_eq
  refine r_plain ?_
  refine p1 (x_fieldAddr fo27_6 sz4 rfl) ?_
  refine p1 (x_load1 un4 rfl (hB3.cell (rfl))) ?_
  refine r_nil ?_
  refine t_n ?_
  first | refine c_dec rfl (fun hc9 => ?_) (fun hc9 => ?_) | refine c_if rfl (fun hc9 => ?_) (fun hc9 => ?_)
  · try simp only [decide_eq_true_eq, decide_eq_false_iff_not, Bool.not_eq_true, Bool.not_eq_false, Bool.not_eq_eq_eq_not, Bool.not_true, Bool.not_false, Int.not_lt, Int.not_le] at hc9
    have hp : failD D m dn = (D, 20) := if_pos hc9
    refine c_seq ?_
    refine r_plain ?_
    refine p1 (x_loadB ua27 rfl hB3 (by exact sz27)) ?_
    refine o_storeAll rfl (by conv => lhs; whnf) (by simp [Value.oneCell']) (by exact sz27) hB6 (by rfl) ?_
    intro w3 hP3
    have hX := hX.put hP3 (by rw [hN6.g_eq]; exact hXs6)
    have hB3 := hP3.keep hB3 (by omega)
    have hB6 := hP3.blk
    refine p1 (x_assign (by conv => lhs; whnf)) ?_
    refine r_nil ?_
    refine t_n ?_
    refine c_ret ?_
    refine t_r ?_
    refine end2c rfl ua27 rfl (by conv => lhs; whnf) hB6 (by exact sz27) ?_
    first
      | exact ⟨⟨_, by rw [hp], by rw [hp]; exact ⟨p, n, c, lf, rfl, hl.ext hX, hlf⟩⟩, hX⟩
      | exact ⟨⟨_, by rw [hp], by rw [hp]; exact ⟨p, n, c, m, by rw [← harm], hl.ext hX, ⟨fun _ => rfl, by omega, hm2⟩⟩⟩, hX⟩
  · try simp only [decide_eq_true_eq, decide_eq_false_iff_not, Bool.not_eq_true, Bool.not_eq_false, Bool.not_eq_eq_eq_not, Bool.not_true, Bool.not_false, Int.not_lt, Int.not_le] at hc9
    have hnd : ¬ D.down = true := by simpa using hc9
    refine c_skip ?_
    refine t_n ?_
    refine c_seq ?_
    refine c_seq ?_
    refine r_plain ?_
    refine p1 (x_move (by conv => lhs; whnf)) ?_
    refine p1 (x_lss rfl rfl) ?_
    refine r_nil ?_
    refine t_n ?_
    first | refine c_dec rfl (fun hc12 => ?_) (fun hc12 => ?_) | refine c_if rfl (fun hc12 => ?_) (fun hc12 => ?_)
    · try simp only [decide_eq_true_eq, decide_eq_false_iff_not, Bool.not_eq_true, Bool.not_eq_false, Bool.not_eq_eq_eq_not, Bool.not_true, Bool.not_false, Int.not_lt, Int.not_le] at hc12
      have hp : failD D m dn = (D, 2) := by unfold failD; rw [if_neg hnd, if_pos hc12]
      refine c_seq ?_
      refine r_plain ?_
      refine p1 (x_loadB ua27 rfl hB3 (by exact sz27)) ?_
      refine o_storeAll rfl (by conv => lhs; whnf) (by simp [Value.oneCell']) (by exact sz27) hB6 (by rfl) ?_
      intro w4 hP4
      have hX := hX.put hP4 (by rw [hN6.g_eq]; exact hXs6)
      have hB3 := hP4.keep hB3 (by omega)
      have hB6 := hP4.blk
      refine p1 (x_assign (by conv => lhs; whnf)) ?_
      refine r_nil ?_
      refine t_n ?_
      refine c_ret ?_
      refine t_r ?_
      refine end2c rfl ua27 rfl (by conv => lhs; whnf) hB6 (by exact sz27) ?_
      first
        | exact ⟨⟨_, by rw [hp], by rw [hp]; exact ⟨p, n, c, lf, rfl, hl.ext hX, hlf⟩⟩, hX⟩
        | exact ⟨⟨_, by rw [hp], by rw [hp]; exact ⟨p, n, c, m, by rw [← harm], hl.ext hX, ⟨fun _ => rfl, by omega, hm2⟩⟩⟩, hX⟩
    · try simp only [decide_eq_true_eq, decide_eq_false_iff_not, Bool.not_eq_true, Bool.not_eq_false, Bool.not_eq_eq_eq_not, Bool.not_true, Bool.not_false, Int.not_lt, Int.not_le] at hc12
      have hp : failD D m dn = ({ D with left := m, done := dn }, 0) := by unfold failD; rw [if_neg hnd, if_neg (by omega)]
      have harm : decide (0 ≤ m) = true := decide_eq_true (by omega)
      refine c_skip ?_
      refine t_n ?_
      refine c_seq ?_
      refine r_plain ?_
      refine p1 (x_fieldAddr fo27_3 sz4 rfl) ?_
      refine o_store1 rfl (by conv => lhs; whnf) rfl rfl sz4 hB3 (by simp) ?_
      intro w5 hP5
      have hX := hX.put hP5 (by rw [hN3.g_eq]; exact hXs3)
      have hB3 := hP5.blk
      simp only [List.setIfInBounds_toArray, List.set_cons_zero, List.set_cons_succ] at hB3
      have hB6 := hP5.keep hB6 (by omega)
      refine r_nil ?_
      refine t_n ?_
      refine c_seq ?_
      refine r_plain ?_
      refine p1 (x_move (by conv => lhs; whnf)) ?_
      refine p1 (x_fieldAddr fo27_4 sz3 rfl) ?_
      refine o_store1 rfl (by conv => lhs; whnf) rfl rfl sz3 hB3 (by simp) ?_
      intro w6 hP6
      have hX := hX.put hP6 (by rw [hN3.g_eq]; exact hXs3)
      have hB3 := hP6.blk
      simp only [List.setIfInBounds_toArray, List.set_cons_zero, List.set_cons_succ] at hB3
      have hB6 := hP6.keep hB6 (by omega)
      refine r_nil ?_
      refine t_n ?_
      refine c_seq ?_
      refine r_plain ?_
      refine p1 (x_move (by conv => lhs; whnf)) ?_
      refine p1 (x_fieldAddr fo27_5 sz4 rfl) ?_
      refine o_store1 rfl (by conv => lhs; whnf) rfl rfl sz4 hB3 (by simp) ?_
      intro w7 hP7
      have hX := hX.put hP7 (by rw [hN3.g_eq]; exact hXs3)
      have hB3 := hP7.blk
      simp only [List.setIfInBounds_toArray, List.set_cons_zero, List.set_cons_succ] at hB3
      have hB6 := hP7.keep hB6 (by omega)
      refine r_nil ?_
      refine t_n ?_
      refine c_seq ?_
      refine r_plain ?_
      refine p1 (x_loadB ua27 rfl hB3 (by exact sz27)) ?_
      refine o_storeAll rfl (by conv => lhs; whnf) (by simp [Value.oneCell']) (by exact sz27) hB6 (by rfl) ?_
      intro w8 hP8
      have hX := hX.put hP8 (by rw [hN6.g_eq]; exact hXs6)
      have hB3 := hP8.keep hB3 (by omega)
      have hB6 := hP8.blk
      refine p1 (x_assign (by conv => lhs; whnf)) ?_
      refine r_nil ?_
      refine t_n ?_
      refine c_ret ?_
      refine end2c rfl ua27 rfl (by conv => lhs; whnf) hB6 (by exact sz27) ?_
      first
        | exact ⟨⟨_, by rw [hp], by rw [hp]; exact ⟨p, n, c, lf, rfl, hl.ext hX, hlf⟩⟩, hX⟩
        | exact ⟨⟨_, by rw [hp], by rw [hp]; exact ⟨p, n, c, m, by rw [← harm], hl.ext hX, ⟨fun _ => rfl, by omega, hm2⟩⟩⟩, hX⟩
theorem ref_Read (D : DS) (p : Option Addr) (n c : Nat) (lf : Int) (w : World) (hl : Sl kFl 81 0 w p n c D.l) (hlf : LfOk D lf) (hok : DOk D) (hst : D.steps < 4611686018427387904) (k : ByteArray) (hks : k.size ≤ 9223372036854775807) :
    Ret Try.prog 15 [.agg #[.int .i64 (D.most : Int), .slice p n c, .int .i64 (D.steps : Int), .bool (decide (0 ≤ D.left)), .int .i64 lf, .bool D.done, .bool D.down], .string k] w (fun v w' => v = .tuple #[.string (toStr (readD D k).1), .int .i64 (readD D k).2] ∧ Ext w w') := by
  have hX := Ext.refl w
  refine enter 39 _ Try.func15 rfl rfl (Nat.le_of_ble_eq_true rfl) rfl ?_
  refine c_seq ?_
  refine r_plain ?_
  refine o_boxA (by conv => lhs; whnf) ?_
  intro w1 g2 hN2
  have hE1 := hN2.ext
  have hX := hX.ext hE1
  have hB2 := hN2.blk
  refine p1 (x_assign (by conv => lhs; whnf)) ?_
  refine p1 (x_assign (by conv => lhs; whnf)) ?_
  refine r_nil ?_
  refine t_n ?_
  refine c_seq ?_
  have hlen := hl.len
  have hcap := hl.cap
  have hple := plc_leA D.l k
  have hfew := hok.few
  have hroom := hok.room
  have hmost := hok.most
  refine r_plain ?_
  refine p1 (x_loadB ua27 rfl hB2 (by exact sz27)) ?_
  refine p1 (x_move (by conv => lhs; whnf)) ?_
  refine o_buildSlice u51 inf9 rfl (by decide) (fun base hb => fill_one (by rfl) base hb) ?_
  intro w2 g11 hN11
  have hE2 := hN11.ext
  have hX := hX.ext hE2
  have hB2 := hB2.ext hE2
  have hS11 : Sl kStr 9 0 w2 (some ⟨g11, 0, none⟩) 1 1 [k] := (own_lit (B0 := 0) [k] hN11 (Nat.zero_le _) (by simp)).sl
  refine o_call Try.func44 fn44 fb44 (ref_first (D.most : Int) (D.steps : Int) lf (decide (0 ≤ D.left)) D.done D.down p n c D rfl [k] 0 _ _ _ _ hS11 (by intro s hs'; simp only [List.mem_singleton] at hs'; subst hs'; exact hks)) rfl ?_
  rintro v3 w3 ⟨rfl, hE3⟩
  have hX := hX.ext hE3
  have hB2 := hB2.ext hE3
  have hS11 := hS11.ext hE3
  refine p1 (x_assign (by conv => lhs; whnf)) ?_
  refine r_nil ?_
  refine t_n ?_
  refine c_seq ?_
  refine r_plain ?_
  refine p1 (x_loadB ua27 rfl hB2 (by exact sz27)) ?_
  refine p1 (x_move (by conv => lhs; whnf)) ?_
  refine o_call Try.func45 fn45 fb45 (ref_place (D.most : Int) (D.steps : Int) lf (decide (0 ≤ D.left)) D.done D.down D.l p n c _ (hl.ext hX) k (by omega)) rfl ?_
  rintro v4 w4 ⟨rfl, hE4⟩
  have hX := hX.ext hE4
  have hB2 := hB2.ext hE4
  refine p1 (x_move (by conv => lhs; whnf)) ?_
  refine p1 (x_extract rfl rfl) ?_
  refine p1 (x_extract rfl rfl) ?_
  refine p1 (x_assign (by conv => lhs; whnf)) ?_
  refine p1 (x_assign (by conv => lhs; whnf)) ?_
  refine r_nil ?_
  refine t_n ?_
  refine c_seq ?_
  refine c_block ?_
  refine c_seq ?_
  refine r_plain ?_
  refine p1 (x_move (by conv => lhs; whnf)) ?_
  refine p1 (x_neq rfl rfl) ?_
  refine p1 (x_assign (by conv => lhs; whnf)) ?_
  refine r_nil ?_
  refine t_n ?_
  first | refine c_dec rfl (fun hc19 => ?_) (fun hc19 => ?_) | refine c_if rfl (fun hc19 => ?_) (fun hc19 => ?_)
  · try simp only [decide_eq_true_eq, decide_eq_false_iff_not, Bool.not_eq_true, Bool.not_eq_false, Bool.not_eq_eq_eq_not, Bool.not_true, Bool.not_false, Int.not_lt, Int.not_le] at hc19
    have hp : readD D k = ([], lookD D [k]) := if_pos hc19
    refine c_seq ?_
    refine r_plain ?_
    refine p1 (x_move (by conv => lhs; whnf)) ?_
    refine p1 (x_assign (by conv => lhs; whnf)) ?_
    refine p1 (x_assign (by conv => lhs; whnf)) ?_
    refine r_nil ?_
    refine t_n ?_
    refine c_ret ?_
    refine b_r ?_
    refine t_r ?_
    refine end2 rfl (by conv => lhs; whnf) (by conv => lhs; whnf) ?_
    refine ⟨?_, hX⟩
    rw [hp]
    try rfl
  · try simp only [decide_eq_true_eq, decide_eq_false_iff_not, Bool.not_eq_true, Bool.not_eq_false, Bool.not_eq_eq_eq_not, Bool.not_true, Bool.not_false, Int.not_lt, Int.not_le] at hc19
    refine c_seq ?_
    refine r_plain ?_
    refine p1 (x_move (by conv => lhs; whnf)) ?_
    first | refine p1 (x_notd rfl) ?_ | refine p1 (x_not rfl) ?_
    refine p1 (x_assign (by conv => lhs; whnf)) ?_
    refine r_nil ?_
    refine t_n ?_
    first | refine c_dec rfl (fun hc23 => ?_) (fun hc23 => ?_) | refine c_if rfl (fun hc23 => ?_) (fun hc23 => ?_)
    · try simp only [decide_eq_true_eq, decide_eq_false_iff_not, Bool.not_eq_true, Bool.not_eq_false, Bool.not_eq_eq_eq_not, Bool.not_true, Bool.not_false, Int.not_lt, Int.not_le] at hc23
      have hnat : ¬ isAtA D.l (plcA D.l k) k := by simpa using hc23
      have hnf := file_not hok hnat
      have hp : readD D k = ([], 22) := by unfold readD; rw [if_neg hc19, if_pos hnf]
      refine c_seq ?_
      refine r_plain ?_
      refine p1 (x_assign (by conv => lhs; whnf)) ?_
      refine p1 (x_assign (by conv => lhs; whnf)) ?_
      refine r_nil ?_
      refine t_n ?_
      refine c_ret ?_
      refine b_r ?_
      refine t_r ?_
      refine end2 rfl (by conv => lhs; whnf) (by conv => lhs; whnf) ?_
      refine ⟨?_, hX⟩
      rw [hp]
      try rfl
    · try simp only [decide_eq_true_eq, decide_eq_false_iff_not, Bool.not_eq_true, Bool.not_eq_false, Bool.not_eq_eq_eq_not, Bool.not_true, Bool.not_false, Int.not_lt, Int.not_le] at hc23
      have hat : isAtA D.l (plcA D.l k) k := by simpa using hc23
      obtain ⟨f, hf, hfa, hfu, hfs, hgf⟩ := file_at hok hat
      have hfr : ∀ wz, Ext w wz → wz.rangeAt (ab p) (ao p + plcA D.l k * 3) [.string k, .string (toStr (f.1.take f.2)), .string (toStr (f.1.drop f.2))] := fun wz hz => by have := (hl.ext hz).flRange (plcA D.l k) (by have := (hat).1; omega); rw [hfa] at this; exact this
      have hplt : plcA D.l k < n := by have := (hat).1; omega
      have hne : ¬ ascF D.l k = none := by rw [hf]; simp
      have hp : readD D k = (f.1, 0) := by unfold readD; rw [if_neg hc19, if_neg hne, hgf]
      refine c_skip ?_
      refine b_n ?_
      refine t_n ?_
      refine c_seq ?_
      refine r_still mixed (by kernel_rfl) ?_
      intro w5 hE5
      have hX := hX.ext hE5
      have hB2 := hB2.ext hE5
      refine s1 (x_fieldAddr fo27_1 sz25 rfl) ?_
      refine s1 (x_load1 un25 rfl (hB2.cell (rfl))) ?_
      refine s1 (x_move (by conv => lhs; whnf)) ?_
      refine s1 (x_ixs u25 sz81 rfl rfl ((hl.ext hX).adr kFl_pos (by omega)) (by omega) (by omega)) ?_
      refine s1 (x_fieldAddr fo81_1 sz9 rfl) ?_
      refine s1 (x_load1 un9 rfl (hfr _ hX 1 _ rfl)) ?_
      refine s1 (x_fieldAddr fo27_1 sz25 rfl) ?_
      refine s1 (x_load1 un25 rfl (hB2.cell (rfl))) ?_
      refine s1 (x_move (by conv => lhs; whnf)) ?_
      refine s1 (x_ixs u25 sz81 rfl rfl ((hl.ext hX).adr kFl_pos (by omega)) (by omega) (by omega)) ?_
      refine s1 (x_fieldAddr fo81_2 sz9 rfl) ?_
      refine s1 (x_load1 un9 rfl (hfr _ hX 2 _ rfl)) ?_
      refine s1 ((x_add_str rfl rfl (by rw [toStr_size, toStr_size, List.length_take, List.length_drop]; omega)).cast (by rw [toStr_append, List.take_append_drop])) ?_
      refine s1 (x_assign (by conv => lhs; whnf)) ?_
      refine s1 (x_assign (by conv => lhs; whnf)) ?_
      refine s_nil ?_
      refine t_n ?_
      refine c_ret ?_
      refine end2 rfl (by conv => lhs; whnf) (by conv => lhs; whnf) ?_
      refine ⟨?_, hX⟩
      rw [hp]
      try rfl
theorem ref_New (most : Int) (w : World) :
    Ret Try.prog 12 [.int .i64 most] w (fun v w' => (∃ cs, v = .agg cs ∧ RefV w' cs (newD most)) ∧ Ext w w') := by
  have hX := Ext.refl w
  refine enter 7 _ Try.func12 rfl rfl (Nat.le_of_ble_eq_true rfl) rfl ?_
  refine c_seq ?_
  refine r_plain ?_
  have hXs2 := hX.size
  refine o_alloc zr27 ?_
  intro w1 g2 hN2
  have hE1 := hN2.ext
  have hX := hX.ext hE1
  have hB2 := hN2.blk
  refine r_nil ?_
  refine t_n ?_
  refine c_seq ?_
  refine r_plain ?_
  refine p1 (x_move (by conv => lhs; whnf)) ?_
  refine p1 ((x_min rfl rfl).cast (congrArg (Value.int .i64) (by split <;> omega : _ = min most 16777216))) ?_
  have hmx : (((newD most).most : Nat) : Int) = max 0 (min most 16777216) := by show (((max 0 (min most 16777216)).toNat : Nat) : Int) = _; omega
  refine p1 ((x_max rfl rfl).cast (congrArg (Value.int .i64) (by split <;> omega : _ = (((newD most).most : Nat) : Int)))) ?_
  refine p1 (x_buildR1 pl27 rfl) ?_
  refine o_storeAll rfl (by conv => lhs; whnf) (by simp [Value.oneCell']) (by exact sz27) hB2 (by rfl) ?_
  intro w2 hP2
  have hX := hX.put hP2 (by rw [hN2.g_eq]; exact hXs2)
  have hB2 := hP2.blk
  refine r_nil ?_
  refine t_n ?_
  refine c_ret ?_
  refine end1c rfl ua27 rfl hB2 (by exact sz27) ?_
  exact ⟨⟨_, rfl, none, 0, 0, 0, rfl, Sl.nil _ _ _ _ _ _ (by omega), ⟨fun h => by have h : (0 : Int) ≤ -1 := h; omega, by omega, by omega⟩⟩, hX⟩
end Go.Proofs.Eng
end
section
set_option linter.unusedVariables false
set_option linter.unusedSimpArgs false
namespace Go.Proofs.Eng
open Go.RowKit
open Extern.Stop (cell)
/-! ### rows that came of strings: marked behind their end -/
structure FBm (B : Nat) (w : World) (p : Option Addr) (n c : Nat) (xs : List UInt8) : Prop where
  len : xs.length = n
  ok : ∃ g cur m, p = some ⟨g, 0, none⟩ ∧ B ≤ g ∧ w.heap[g]? = some (.cells cur 5 m) ∧ (cur.size ≤ m.1 ∨ m = (0, 0)) ∧ n ≤ c ∧ c ≤ cur.size ∧ c ≤ 9223372036854775807 ∧ cur.toList.take n = xs.map cell
namespace FBm
variable {B : Nat} {w w' : World} {p : Option Addr} {n c : Nat} {xs : List UInt8}
theorem keep (h : FBm B w p n c xs) (hb : ∀ g, p = some ⟨g, 0, none⟩ → g < w.heap.size → w'.heap[g]? = w.heap[g]?) : FBm B w' p n c xs := by
  obtain ⟨g, cur, m, h1, h2, h3, h4⟩ := h.ok
  exact ⟨h.len, g, cur, m, h1, h2, (hb g h1 (Array.getElem?_eq_some_iff.1 h3).1).trans h3, h4⟩
theorem ext (h : FBm B w p n c xs) (x : Ext w w') : FBm B w' p n c xs := h.keep fun g _ hg => x.old g hg
theorem cap (h : FBm B w p n c xs) : n ≤ c ∧ c ≤ 9223372036854775807 := by
  obtain ⟨g, cur, m, _, _, _, _, h1, _, h2, _⟩ := h.ok
  exact ⟨h1, h2⟩
theorem row (h : FBm B w p n c xs) : Row w p (xs.map cell) := by
  obtain ⟨g, cur, m, h1, h2, h3, h4, h5, h6, h7, h8⟩ := h.ok
  subst h1
  refine ⟨fun _ => rfl, fun j v hv => ?_⟩
  rw [← h8, List.getElem?_take] at hv
  split at hv
  · show w.cell? ⟨g, 0 + j, none⟩ = _
    rw [Nat.zero_add]
    unfold World.cell?
    simp only [h3]
    simpa using hv
  · cases hv
theorem sl (h : FBm B w p n c xs) : Sl kByte fk w.heap.size w p n c xs :=
  Out.sl (S := fun _ => False) ⟨h.len, h.cap.1, h.cap.2, h.row, fun _ => id⟩
end FBm
theorem setCell_at {w : World} {g o : Nat} {v : Value} {cur : Array Value} {t : TypeId} {m : Nat × Nat} (h : w.heap[g]? = some (.cells cur t m)) : (w.setCell ⟨g, o, none⟩ v).heap[g]? = some (.cells (cur.setIfInBounds o v) t m) := by
  unfold World.setCell
  simp only [Array.getElem?_modify, h]
  simp
section
variable {P : Program} {ops : Array Oper} {Q : Exit → Act → World → Prop} {rest : List Oper} {N : Nat} {f : Nat → Value} {w : World}
variable {t0 ty0 : TypeId} {pos : String} {aft : Array Edge} {dst : Nat} {x y : Operand} {T T' tx : TypeId} {p : Option Addr} {n c B : Nat} {xs : List UInt8}
/-- '[]byte(s)' -/
theorem o_convSB {xs : List UInt8} (hs : P.underlying T = some .string) (hd : P.underlying T' = some (.slice 5)) (he : P.underlying 5 = some (.int .u8)) (hx : ev N f x = .string (toStr xs)) (hlen : xs.length ≤ 281474976710656)
    (k : ∀ p' c' w', Ext w w' → FBm w.heap.size w' p' xs.length c' xs → Lst P ops Q rest (fr N (upd f dst (.slice p' xs.length c'))) w') :
    Lst P ops Q (⟨some dst, .convert T T' x, ty0, pos, aft, none⟩ :: rest) (fr N f) w := by
  have hr := run_bytes_of_string (P := P) w T T' 5 (toStr xs) hs hd he
  have hz := toStr_size xs
  rw [hz] at hr
  have hge := grownCap_ge w xs.length 0 5
  have hcm : grownCap w xs.length 0 5 ≤ maxLen := grownCap_le_maxLen w xs.length 0 5 (by unfold maxLen; omega)
  have hsz : (bytesRow (toStr xs) (grownCap w xs.length 0 5)).size = grownCap w xs.length 0 5 := by
    unfold bytesRow
    have : (toStr xs).data.size = xs.length := by simp [toStr]
    rw [Array.size_append, Array.size_map, Array.size_replicate, this, hz]; omega
  have hX := (Ext.drew w).trans (Ext.alloc w.drew (.cells (bytesRow (toStr xs) (grownCap w xs.length 0 5)) 5 ((bytesRow (toStr xs) (grownCap w xs.length 0 5)).size, (bytesRow (toStr xs) (grownCap w xs.length 0 5)).size + 1)))
  refine l1 (w' := w.drew.alloc (.cells (bytesRow (toStr xs) (grownCap w xs.length 0 5)) 5 ((bytesRow (toStr xs) (grownCap w xs.length 0 5)).size, (bytesRow (toStr xs) (grownCap w xs.length 0 5)).size + 1))) (v := .slice (some ⟨w.heap.size, 0, none⟩) xs.length (grownCap w xs.length 0 5)) ?_ (k _ _ _ hX ⟨rfl, w.heap.size, _, _, rfl, Nat.le_refl _, heap_alloc_new w.drew _, .inl (Nat.le_refl _), hge, by rw [hsz]; exact Nat.le_refl _, by unfold maxLen at hcm; omega, ?_⟩)
  · simp only [execOp, hx, Sem.run_bind, hr, Result.andThen_ok]; rfl
  · unfold bytesRow
    rw [Array.toList_append, List.take_append_of_le_length (by simp [toStr]), List.take_of_length_le (by simp [toStr])]
    simp [toStr, cell]
theorem run_appendM {b : UInt8} {v : Value} (hT : P.underlying T = some (.slice 5)) (hi : (P.info? 5).map (fun i => (i.zero, i.size, i.bytes)) = some (some (.int .u8 0), 1, 1)) (hF : FBm B w p n c xs) (hs : Src P 1 tx v 1 [cell b] w) (hn : n ≤ 100000000) (hB : B ≤ w.heap.size) :
    ∃ p' c' w', (Builtin.append_ #[T, tx] t0 #[.slice p n c, v]).run P w = .ok (.slice p' (n + 1) c') w' ∧ FBm B w' p' (n + 1) c' (xs ++ [b]) ∧ Mod B 5 w w' := by
  obtain ⟨i, hi0, hi1⟩ := Option.map_eq_some_iff.1 hi
  simp only [Prod.mk.injEq] at hi1
  obtain ⟨hiz, his, hib⟩ := hi1
  have hl := hF.len
  have hrow := hF.row
  obtain ⟨g, cur, m, h1, h2, h3, h4, h5, h6, h7, h8⟩ := hF.ok
  subst h1
  have hlt : g < w.heap.size := (Array.getElem?_eq_some_iff.1 h3).1
  have hty : ty w g = some 5 := by unfold Eng.ty; rw [h3]
  have hcl : (xs.map cell).length = n := by rw [List.length_map, hl]
  by_cases hroom : n + 1 ≤ c
  · have hcell : (w.cell? ⟨g, n, none⟩).isSome = true := by
      unfold World.cell?
      simp only [h3]
      rw [show cur[n]? = some (cur[n]'(by omega)) from Array.getElem?_eq_getElem (by omega)]; rfl
    have hfz : w.frozen? ⟨g, n, none⟩ = false := by
      unfold World.frozen?
      simp only [h3]
      rcases h4 with h4 | h4
      · have : ¬ m.1 ≤ n := by omega
        simp [this]
      · rw [h4]; simp
    have hr := run_append_room_src (P := P) w T tx t0 5 i hT hi0 g 0 n c v 1 [cell b] (by rw [his]; exact hs) hroom
      (fun j hj => by
        have : j = 0 := by simpa using hj
        subst this
        rw [his, Nat.mul_one, Nat.zero_add, Nat.add_zero]; exact hcell)
      (fun j hj => by
        have : j = 0 := by simpa using hj
        subst this
        rw [his, Nat.mul_one, Nat.zero_add, Nat.add_zero]; exact hfz)
    rw [his, Nat.zero_add, Nat.mul_one] at hr
    have hw : w.setCells g n [cell b] = w.setCell ⟨g, n, none⟩ (cell b) := rfl
    rw [hw] at hr
    have hat := setCell_at (o := n) (v := cell b) h3
    have hne : ∀ k, k ≠ g → (w.setCell ⟨g, n, none⟩ (cell b)).heap[k]? = w.heap[k]? := fun k hk => Below.heap_setCell w ⟨g, n, none⟩ (cell b) k hk
    refine ⟨_, _, _, hr, ⟨by simp [hl], g, _, m, rfl, h2, hat, h4.imp (fun h => by simpa using h) id, hroom, by simpa using h6, h7, ?_⟩, ⟨by simp [World.setCell], fun k hk ho => hne k fun e => ?_, fun k hk => ?_, Nat.le_refl _, rfl, rfl, rfl⟩⟩
    · rw [Array.toList_setIfInBounds, List.map_append, ← h8]
      apply List.ext_getElem?
      intro j
      rw [List.getElem?_take, List.getElem?_set]
      by_cases hj : j < n
      · rw [if_pos (by omega), if_neg (by omega), List.getElem?_append_left (by rw [List.length_take]; simp; omega), List.getElem?_take, if_pos hj]
      · by_cases hj2 : j = n
        · subst hj2
          rw [if_pos (by omega), if_pos rfl, if_pos (by simp; omega), List.getElem?_append_right (by rw [List.length_take]; simp; omega), List.length_take]
          rw [show j - min j cur.toList.length = 0 from by simp; omega]; rfl
        · rw [if_neg (by omega), List.getElem?_eq_none (by rw [List.length_append, List.length_take]; simp; omega)]
    · subst e
      rcases ho with ho | ho
      · omega
      · exact ho hty
    · by_cases e : k = g
      · subst e; rw [hty]; unfold Eng.ty; rw [hat]
      · exact ty_of_heap (hne k e)
  · have hfc : (Builtin.firstCells 1 n (.slice (some ⟨g, 0, none⟩) n c)).run P w.drew = .ok (xs.map cell).toArray w.drew :=
      run_firstCells_some w.drew 1 n ⟨g, 0, none⟩ n c (xs.map cell) (by rw [hcl, Nat.mul_one]) (fun j u hu => by
        have := hrow.at_ j u hu
        rw [Addr.add_mid]
        exact this)
    have hr := run_append_grow_src (P := P) w T tx t0 5 i (.int .u8 0) hT hi0 hiz (some ⟨g, 0, none⟩) n c (xs.map cell) (by rw [his]; exact hfc) v 1 [cell b] (by rw [his]; exact hs) (by omega) (by omega) (growslice_fits_wide (by omega) (by rw [hib, Nat.mul_one]; omega))
    have hge := grownCap_ge w (n + 1) c 5
    have hcm : grownCap w (n + 1) c 5 ≤ maxLen := grownCap_le_maxLen w (n + 1) c 5 (by unfold maxLen; omega)
    refine ⟨_, _, _, hr, ⟨by simp [hl], w.heap.size, _, (0, 0), rfl, hB, heap_alloc_new w.drew _, .inr rfl, hge, ?_, by unfold maxLen at hcm; omega, ?_⟩, Mod.ofExt ((Ext.drew w).trans (Ext.alloc _ _))⟩
    · simp only [Array.size_append, List.size_toArray, size_zeroCells, List.length_append, List.length_map, Value.cells]
      simp; omega
    · rw [Array.toList_append, List.take_append_of_le_length (by simp; omega)]
      rw [List.take_of_length_le (by simp; omega)]; simp
theorem o_appendM {b : UInt8} {v : Value} (hT : P.underlying T = some (.slice 5)) (hi : (P.info? 5).map (fun i => (i.zero, i.size, i.bytes)) = some (some (.int .u8 0), 1, 1)) (hx : ev N f x = .slice p n c) (hy : ev N f y = v) (hF : FBm B w p n c xs) (hs : Src P 1 tx v 1 [cell b] w) (hn : n ≤ 100000000) (hB : B ≤ w.heap.size)
    (k : ∀ p' c' w', FBm B w' p' (n + 1) c' (xs ++ [b]) → Mod B 5 w w' → Lst P ops Q rest (fr N (upd f dst (.slice p' (n + 1) c'))) w') :
    Lst P ops Q (⟨some dst, .call ⟨.builtin .append, #[x, y], #[T, tx]⟩, t0, pos, aft, none⟩ :: rest) (fr N f) w := by
  obtain ⟨p', c', w', hr, h1, h2⟩ := run_appendM (t0 := t0) hT hi hF hs hn hB
  refine l1 (w' := w') (v := .slice p' (n + 1) c') ?_ (k p' c' w' h1 h2)
  simp only [execOp, resolve, invoke, builtin, Sem.run_bind, Sem.run_pure, Result.andThen_ok, List.map_toArray, List.map_cons, List.map_nil, hx, hy, hr]
end
theorem FBm.low {B : Nat} {w : World} {p : Option Addr} {n c : Nat} {xs : List UInt8} (h : FBm B w p n c xs) : B ≤ w.heap.size := by
  obtain ⟨g, cur, m, h1, h2, h3, _⟩ := h.ok
  have := (Array.getElem?_eq_some_iff.1 h3).1
  omega
theorem keptJ_lt {kept D : List UInt8} {j T : Nat} (hj : j < T) (hT : T ≤ D.length) : (kept ++ D.take (min j T) ++ List.replicate (j - T) 0) ++ [D.getD j 0] = kept ++ D.take (min (j + 1) T) ++ List.replicate (j + 1 - T) 0 := by
  rw [show min j T = j from by omega, show min (j + 1) T = j + 1 from by omega, show j - T = 0 from by omega, show j + 1 - T = 0 from by omega, List.replicate_zero, List.append_nil, List.append_nil, List.take_add_one, List.append_assoc, List.getD_eq_getElem?_getD, List.getElem?_eq_getElem (show j < D.length by omega)]; rfl
theorem keptJ_ge {kept D : List UInt8} {j T : Nat} (hj : T ≤ j) : (kept ++ D.take (min j T) ++ List.replicate (j - T) 0) ++ [(0 : UInt8)] = kept ++ D.take (min (j + 1) T) ++ List.replicate (j + 1 - T) 0 := by
  rw [show min j T = T from by omega, show min (j + 1) T = T from by omega, show j + 1 - T = (j - T) + 1 from by omega, List.append_assoc, List.replicate_succ']
theorem btAt_toStr (xs : List UInt8) (i : Nat) : btAt (toStr xs) i = xs.getD i 0 := by unfold btAt toStr; simp
theorem drop_getD {s d : List UInt8} {i j ln : Nat} (h : ln = s.length + i) : ((s ++ d).drop ln).getD j 0 = d.getD (i + j) 0 := by
  subst h
  simp only [List.getD_eq_getElem?_getD]
  rw [List.getElem?_drop, List.getElem?_append_right (by omega)]
  rw [show s.length + i + j - s.length = i + j from by omega]
theorem drop_head {st : List UInt8} {u : Nat} (h : u < st.length) : st.drop u = st.getD u 0 :: st.drop (u + 1) := by
  rw [List.drop_eq_getElem_cons h, List.getD_eq_getElem?_getD, List.getElem?_eq_getElem h]; rfl
end Go.Proofs.Eng
end
section
set_option linter.unusedVariables false
set_option linter.unusedSimpArgs false
set_option maxRecDepth 100000
set_option maxHeartbeats 4000000
namespace Go.Proofs.Eng
open Go.RowKit
open Extern.Stop (cell)
theorem ref_stays (k : ByteArray) (s d st : List UInt8) (e B : Nat) (p : Option Addr) (n c : Nat) (w : World) (hS : Sl kByte e B w p n c st) (hsd : s.length + d.length ≤ 16777216) :
    Ret Try.prog 55 [.agg #[.string k, .string (toStr s), .string (toStr d)], .slice p n c] w (fun v w' => (∃ u : Nat, v = .tuple #[.string (toStr (wakeF (s ++ d, s.length) st).1), .int .i64 (u : Int)] ∧ st.drop u = (wakeR (s ++ d, s.length) st).2.2) ∧ Ext w w') := by
  have hX := Ext.refl w
  refine enter 89 _ Try.func55 rfl rfl (Nat.le_of_ble_eq_true rfl) rfl ?_
  refine c_seq ?_
  refine r_plain ?_
  have hzs := toStr_size s
  have hzd := toStr_size d
  have hsl := hS.len
  have hsc := hS.cap
  have hsf := hS.fit
  have hbl : (s ++ d).length = s.length + d.length := List.length_append
  refine o_boxA (by conv => lhs; whnf) ?_
  intro w1 g2 hN2
  have hE1 := hN2.ext
  have hX := hX.ext hE1
  have hB2 := hN2.blk
  refine p1 (x_assign (by conv => lhs; whnf)) ?_
  refine p1 (x_assign (by conv => lhs; whnf)) ?_
  refine r_nil ?_
  refine t_n ?_
  refine c_seq ?_
  refine r_plain ?_
  refine p1 (x_fieldAddr fo81_1 sz9 rfl) ?_
  refine p1 (x_load1 un9 rfl (hB2.cell (rfl))) ?_
  obtain ⟨B0, hB0⟩ : ∃ B, B = w1.heap.size := ⟨_, rfl⟩
  have hwB := Nat.le_trans hX.size (Nat.le_of_eq hB0.symm)
  refine o_convSB u9 u31 u5 rfl (by omega) ?_
  intro q0 ck0 w2 hE2 hK
  rw [← hB0] at hK
  have hX := hX.ext hE2
  have hB2 := hB2.ext hE2
  refine p1 (x_assign (by conv => lhs; whnf)) ?_
  refine r_nil ?_
  refine t_n ?_
  refine c_seq ?_
  refine r_plain ?_
  refine p1 (x_move (by conv => lhs; whnf)) ?_
  refine p1 (x_len_slice u31 rfl) ?_
  refine p1 (x_assign (by conv => lhs; whnf)) ?_
  refine r_nil ?_
  refine t_n ?_
  refine c_seq ?_
  refine r_plain ?_
  refine p1 (x_assign (by conv => lhs; whnf)) ?_
  refine r_nil ?_
  refine t_n ?_
  refine c_seq ?_
  refine c_seq ?_
  refine r_plain ?_
  refine p1 (x_assign (by conv => lhs; whnf)) ?_
  refine r_nil ?_
  refine t_n ?_
  refine c_block ?_
  refine c_loop (ι := Nat × Nat × Nat × Nat × List UInt8 × Option Addr × Nat × Nat) [6, 7, 8, 9, 10, 11, 12, 13, 14, 20, 21, 22, 23, 24, 25, 26, 27, 28, 29, 30, 31, 32, 33, 34, 35, 36, 37, 38, 39, 40, 41, 42, 43, 44, 45, 46, 47, 48, 49, 50, 51, 52, 53, 54, 55, 56, 57, 58, 59, 60, 61, 62, 63, 64, 65, 66, 67, 68, 69, 70, 71, 72, 73, 74, 75, 76, 77, 78, 79, 80, 81, 82, 83] (fun (fu, i, ln, m, kept, q, ck, u) => [(6, .slice q ln ck), (7, .int .i64 (m : Int)), (8, .int .i64 (u : Int)), (9, .int .i64 (i : Int))]) (fun (fu, i, ln, m, kept, q, ck, u) w' => Ext w w' ∧ (FBm B0 w' q ln ck kept ∧ Blk w' g2 #[.string k, .string (toStr s), .string (toStr d)] 81 ∧ (ln = s.length + i ∧ i ≤ d.length ∧ m ≤ ln ∧ u ≤ i) ∧ d.length - i < fu ∧ pieces (s ++ d) fu ln m kept (st.drop u) = wakeR (s ++ d, s.length) st)) (fun (fu, i, ln, m, kept, q, ck, u) => d.length - i) (((s ++ d).length + 1, 0, s.length, s.length, s, q0, ck0, 0)) ⟨rfl, rfl, rfl, rfl, trivial⟩ ⟨hX, ⟨hK, hB2, ⟨rfl, Nat.zero_le _, Nat.le_refl _, Nat.le_refl _⟩, by omega, by show pieces _ _ _ _ s st = pieces (s ++ d) ((s ++ d).length + 1) s.length s.length ((s ++ d).take s.length) st; rw [List.take_left]⟩⟩ ?_
  rintro ⟨fu, i, ln, m, kept, q, ck, u⟩ GL0 w3 ⟨hE3, hK, hB2, ⟨hln, hi, hm, hu⟩, hfu, hpe⟩
  have hX := hE3
  refine c_seq ?_
  refine c_seq ?_
  refine r_plain ?_
  refine p1 (x_move (by conv => lhs; whnf)) ?_
  refine p1 (x_fieldAddr fo81_2 sz9 rfl) ?_
  refine p1 (x_load1 un9 rfl (hB2.cell (rfl))) ?_
  refine p1 (x_len_str u9 rfl) ?_
  refine p1 (x_lss rfl rfl) ?_
  refine r_nil ?_
  refine t_n ?_
  first | refine c_dec rfl (fun hc24 => ?_) (fun hc24 => ?_) | refine c_if rfl (fun hc24 => ?_) (fun hc24 => ?_)
  · try simp only [decide_eq_true_eq, decide_eq_false_iff_not, Bool.not_eq_true, Bool.not_eq_false, Bool.not_eq_eq_eq_not, Bool.not_true, Bool.not_false, Int.not_lt, Int.not_le] at hc24
    have hlt : ln < (s ++ d).length := by omega
    obtain ⟨e1, e2⟩ := pieceE_gt hlt
    obtain ⟨fu2, hfu2, hpe2⟩ := pieces_step (fu := fu) (n := m) (kept := kept) (st := st.drop u) hlt (by omega)
    have hEv : pieceE (s ++ d) ln = min (ln - ln % 16 + 16) (s ++ d).length := rfl
    obtain ⟨E, hE⟩ : ∃ E, E = pieceE (s ++ d) ln := ⟨_, rfl⟩
    obtain ⟨tt, htt⟩ : ∃ t, t = pieceT (s ++ d) ln (st.drop u) := ⟨_, rfl⟩
    have hTle := pieceT_le (s ++ d) ln (st.drop u)
    have hPT : ∀ z, pieceT (s ++ d) ln (st.drop u) = z → tt = z := fun z h => htt.trans h
    rw [← hE, ← htt] at hpe2
    rw [← hE] at hEv e1 e2 hTle hfu2
    rw [← htt] at hTle
    have htail : (st.drop u).tail = st.drop (u + 1) := by rw [List.tail_drop]
    rw [htail] at hpe2
    refine c_skip ?_
    refine t_n ?_
    refine c_block ?_
    refine c_seq ?_
    refine r_plain ?_
    refine p1 (x_fieldAddr fo81_1 sz9 rfl) ?_
    refine p1 (x_load1 un9 rfl (hB2.cell (rfl))) ?_
    refine p1 (x_len_str u9 rfl) ?_
    refine p1 (x_move (by conv => lhs; whnf)) ?_
    refine p1 ((x_add rfl rfl (fits_i64 (by omega) (by omega))).cast (congrArg (Value.int .i64) (by omega : _ = (ln : Int)))) ?_
    refine p1 (x_assign (by conv => lhs; whnf)) ?_
    refine r_nil ?_
    refine t_n ?_
    refine c_seq ?_
    refine r_plain ?_
    refine p1 (x_move (by conv => lhs; whnf)) ?_
    refine p1 (x_rem rfl rfl (by omega) (by omega)) ?_
    refine p1 (x_sub rfl rfl (fits_i64 (by omega) (by omega))) ?_
    refine p1 (x_fieldAddr fo81_2 sz9 rfl) ?_
    refine p1 (x_load1 un9 rfl (hB2.cell (rfl))) ?_
    refine p1 (x_len_str u9 rfl) ?_
    refine p1 (x_move (by conv => lhs; whnf)) ?_
    refine p1 (x_sub rfl rfl (fits_i64 (by omega) (by omega))) ?_
    refine p1 ((x_min rfl rfl).cast (congrArg (Value.int .i64) (by split <;> omega : _ = ((E - ln : Nat) : Int)))) ?_
    refine p1 (x_assign (by conv => lhs; whnf)) ?_
    refine r_nil ?_
    refine t_n ?_
    refine c_seq ?_
    refine r_plain ?_
    refine p1 (x_assign (by conv => lhs; whnf)) ?_
    refine r_nil ?_
    refine t_n ?_
    refine c_seq ?_
    refine c_seq ?_
    refine r_plain ?_
    refine p1 (x_move (by conv => lhs; whnf)) ?_
    refine p1 (x_move (by conv => lhs; whnf)) ?_
    refine p1 (x_len_slice u31 rfl) ?_
    refine p1 (x_lss rfl rfl) ?_
    refine r_nil ?_
    refine t_n ?_
    first | refine c_dec rfl (fun hc42 => ?_) (fun hc42 => ?_) | refine c_if rfl (fun hc42 => ?_) (fun hc42 => ?_)
    · try simp only [decide_eq_true_eq, decide_eq_false_iff_not, Bool.not_eq_true, Bool.not_eq_false, Bool.not_eq_eq_eq_not, Bool.not_true, Bool.not_false, Int.not_lt, Int.not_le] at hc42
      have hdr := drop_head (st := st) (u := u) (by omega)
      have hs8 := (st.getD u 0).toNat_lt
      refine c_seq ?_
      refine r_plain ?_
      refine p1 (x_move (by conv => lhs; whnf)) ?_
      refine p1 (x_move (by conv => lhs; whnf)) ?_
      refine p1 (x_ixs0 u31 sz5 rfl rfl ((hS.ext hX).adr kByte_pos (by omega)) (by omega)) ?_
      refine p1 (x_load1 un5 rfl ((hS.ext hX).byteAt _ (by omega))) ?_
      refine p1 (x_convf u3 us5 rfl (fits_i64 (by omega) (by omega))) ?_
      refine p1 (x_move (by conv => lhs; whnf)) ?_
      refine p1 (x_add rfl rfl (fits_i64 (by omega) (by omega))) ?_
      refine p1 ((x_rem rfl rfl (by omega) (by omega)).cast (congrArg (Value.int .i64) (by rw [show ((E - ln : Nat) : Int) + 1 = ((E - ln + 1 : Nat) : Int) from by omega, ← Int.natCast_emod] : _ = (((st.getD u 0).toNat % (E - ln + 1) : Nat) : Int)))) ?_
      refine p1 (x_assign (by conv => lhs; whnf)) ?_
      refine r_nil ?_
      refine t_n ?_
      refine c_seq ?_
      refine r_plain ?_
      refine p1 (x_move (by conv => lhs; whnf)) ?_
      refine p1 (x_move (by conv => lhs; whnf)) ?_
      refine p1 (x_ixs0 u31 sz5 rfl rfl ((hS.ext hX).adr kByte_pos (by omega)) (by omega)) ?_
      refine p1 (x_load1 un5 rfl ((hS.ext hX).byteAt _ (by omega))) ?_
      refine p1 (x_eql rfl rfl) ?_
      refine r_nil ?_
      refine t_n ?_
      first | refine c_dec rfl (fun hc55 => ?_) (fun hc55 => ?_) | refine c_if rfl (fun hc55 => ?_) (fun hc55 => ?_)
      · try simp only [decide_eq_true_eq, decide_eq_false_iff_not, Bool.not_eq_true, Bool.not_eq_false, Bool.not_eq_eq_eq_not, Bool.not_true, Bool.not_false, Int.not_lt, Int.not_le] at hc55
        have hpt : tt = E - ln := hPT _ (by rw [hdr, hE]; exact if_pos (UInt8.toNat_inj.1 (show (st.getD u 0).toNat = 255 by omega)))
        refine r_plain ?_
        refine p1 (x_move (by conv => lhs; whnf)) ?_
        refine p1 (x_assign (by conv => lhs; whnf)) ?_
        refine r_nil ?_
        refine t_n ?_
        refine c_seq ?_
        refine r_plain ?_
        refine p1 (x_move (by conv => lhs; whnf)) ?_
        refine p1 (x_add rfl rfl (fits_i64 (by omega) (by omega))) ?_
        refine p1 (x_assign (by conv => lhs; whnf)) ?_
        refine r_nil ?_
        refine t_n ?_
        refine c_seq ?_
        refine c_seq ?_
        refine r_plain ?_
        refine p1 (x_assign (by conv => lhs; whnf)) ?_
        refine r_nil ?_
        refine t_n ?_
        refine c_block ?_
        refine c_loop (ι := Nat × Nat × Nat × Option Addr × Nat) [6, 7, 13, 14, 59, 60, 61, 62, 63, 64, 65, 66, 67, 68, 69, 70, 71, 72, 73, 74, 75, 76, 77, 78, 79, 80] (fun (j, ln2, mj, q2, ck2) => [(6, .slice q2 ln2 ck2), (7, .int .i64 (mj : Int)), (13, .int .i64 (j : Int))]) (fun (j, ln2, mj, q2, ck2) w' => Ext w w' ∧ (FBm B0 w' q2 ln2 ck2 (kept ++ ((s ++ d).drop ln).take (min j tt) ++ List.replicate (j - tt) 0) ∧ Blk w' g2 #[.string k, .string (toStr s), .string (toStr d)] 81 ∧ (ln2 = ln + j ∧ j ≤ E - ln) ∧ mj = (if 0 < min j tt then ln + min j tt else m))) (fun (j, ln2, mj, q2, ck2) => E - ln - j) ((0, ln, m, q, ck)) ⟨rfl, rfl, rfl, trivial⟩ ⟨hX, ⟨by simpa using hK, hB2, ⟨rfl, Nat.zero_le _⟩, by rw [if_neg (by omega)]⟩⟩ ?_
        rintro ⟨j, ln2, mj, q2, ck2⟩ GL2 w4 ⟨hE4, hK, hB2, ⟨hln2, hj⟩, hmj⟩
        have hX := hE4
        refine c_seq ?_
        refine c_seq ?_
        refine r_plain ?_
        refine p1 (x_move (by conv => lhs; whnf)) ?_
        refine p1 (x_move (by conv => lhs; whnf)) ?_
        refine p1 (x_lss rfl rfl) ?_
        refine r_nil ?_
        refine t_n ?_
        first | refine c_dec rfl (fun hc61 => ?_) (fun hc61 => ?_) | refine c_if rfl (fun hc61 => ?_) (fun hc61 => ?_)
        · try simp only [decide_eq_true_eq, decide_eq_false_iff_not, Bool.not_eq_true, Bool.not_eq_false, Bool.not_eq_eq_eq_not, Bool.not_true, Bool.not_false, Int.not_lt, Int.not_le] at hc61
          refine c_skip ?_
          refine t_n ?_
          refine c_seq ?_
          refine c_block ?_
          refine c_seq ?_
          refine r_plain ?_
          refine p1 (x_assign (by conv => lhs; whnf)) ?_
          refine r_nil ?_
          refine t_n ?_
          refine c_seq ?_
          refine c_seq ?_
          refine r_plain ?_
          refine p1 (x_move (by conv => lhs; whnf)) ?_
          refine p1 (x_move (by conv => lhs; whnf)) ?_
          refine p1 (x_lss rfl rfl) ?_
          refine r_nil ?_
          refine t_n ?_
          first | refine c_dec rfl (fun hc66 => ?_) (fun hc66 => ?_) | refine c_if rfl (fun hc66 => ?_) (fun hc66 => ?_)
          · try simp only [decide_eq_true_eq, decide_eq_false_iff_not, Bool.not_eq_true, Bool.not_eq_false, Bool.not_eq_eq_eq_not, Bool.not_true, Bool.not_false, Int.not_lt, Int.not_le] at hc66
            obtain ⟨xb, hxb⟩ : ∃ x, x = btAt (toStr d) ((i : Int) + (j : Int)).toNat := ⟨_, rfl⟩
            have hxd : xb = ((s ++ d).drop ln).getD j 0 := by rw [hxb, btAt_toStr, drop_getD hln, show ((i : Int) + (j : Int)).toNat = i + j from by omega]
            have hjt : j < tt := by omega
            have hkj := keptJ_lt (kept := kept) (D := (s ++ d).drop ln) hjt (by rw [List.length_drop]; omega)
            rw [← hxd] at hkj
            refine c_seq ?_
            refine r_plain ?_
            refine p1 (x_fieldAddr fo81_2 sz9 rfl) ?_
            refine p1 (x_load1 un9 rfl (hB2.cell (rfl))) ?_
            refine p1 (x_move (by conv => lhs; whnf)) ?_
            refine p1 (x_move (by conv => lhs; whnf)) ?_
            refine p1 (x_add rfl rfl (fits_i64 (by omega) (by omega))) ?_
            refine p1 (x_ixstr u9 rfl rfl (by omega) (by omega)) ?_
            refine p1 (x_assign (by conv => lhs; whnf)) ?_
            refine r_nil ?_
            refine t_n ?_
            refine r_plain ?_
            refine p1 (x_move (by conv => lhs; whnf)) ?_
            refine p1 (x_move (by conv => lhs; whnf)) ?_
            refine p1 (x_add rfl rfl (fits_i64 (by omega) (by omega))) ?_
            refine p1 ((x_add rfl rfl (fits_i64 (by omega) (by omega))).cast (congrArg (Value.int .i64) (by omega : _ = ((ln + j + 1 : Nat) : Int)))) ?_
            refine p1 (x_assign (by conv => lhs; whnf)) ?_
            refine r_nil ?_
            refine t_n ?_
            refine r_plain ?_
            refine p1 (x_move (by conv => lhs; whnf)) ?_
            refine p1 (x_move (by conv => lhs; whnf)) ?_
            refine o_buildSlice u31 inf5 rfl (by decide) (fun base hb => fill_one (by rfl) base hb) ?_
            intro w5 g79 hN79
            have hE5 := hN79.ext
            have hX := hX.ext hE5
            have hK := hK.ext hE5
            have hB2 := hB2.ext hE5
            have hJ : Own kByte 5 0 0 w5 (some ⟨g79, 0, none⟩) 1 1 [xb] := own_lit [xb] (by rw [hxb]; exact hN79) (Nat.zero_le _) (by simp)
            have hlow := hK.low
            refine o_appendM (b := xb) u31 inf5 rfl rfl hK (src_pure u31 hJ.sl (by decide)) (by omega) hlow ?_
            intro pz cz w6 hK hMa
            have hX := hX.mod hMa hwB
            have hB2 := hB2.mod hMa (by decide)
            rw [hkj] at hK
            skip
            refine p1 (x_assign (by conv => lhs; whnf)) ?_
            refine r_nil ?_
            refine b_n ?_
            refine t_n ?_
            refine r_plain ?_
            refine p1 (x_move (by conv => lhs; whnf)) ?_
            refine p1 (x_add rfl rfl (fits_i64 (by omega) (by omega))) ?_
            refine p1 (x_assign (by conv => lhs; whnf)) ?_
            refine r_nil ?_
            first
              | exact t_n (At.mk ((j + 1, ln2 + 1, ln + j + 1, pz, cz)) (by repeat (first | exact Agr.refl _ _ | exact Agr.hav _ _ _ | refine Agr.upd rfl ?_ | refine Agr.updR rfl ?_ | refine Agr.updL ?_ _ rfl | refine Agr.hav' rfl ?_)) ⟨rfl, rfl, rfl, trivial⟩ ⟨⟨hX, ⟨hK, hB2, ⟨by omega, by omega⟩, by rw [if_pos (by omega)]; omega⟩⟩, by first | (dsimp only; omega) | ((show _ < _); omega)⟩)
              | exact t_n (At.mk ((j + 1, ln2 + 1, mj, pz, cz)) (by repeat (first | exact Agr.refl _ _ | exact Agr.hav _ _ _ | refine Agr.upd rfl ?_ | refine Agr.updR rfl ?_ | refine Agr.updL ?_ _ rfl | refine Agr.hav' rfl ?_)) ⟨rfl, rfl, rfl, trivial⟩ ⟨⟨hX, ⟨hK, hB2, ⟨by omega, by omega⟩, by rw [hmj, show min (j + 1) tt = min j tt from by omega]⟩⟩, by first | (dsimp only; omega) | ((show _ < _); omega)⟩)
          · try simp only [decide_eq_true_eq, decide_eq_false_iff_not, Bool.not_eq_true, Bool.not_eq_false, Bool.not_eq_eq_eq_not, Bool.not_true, Bool.not_false, Int.not_lt, Int.not_le] at hc66
            obtain ⟨xb, hxb⟩ : ∃ x, x = (0 : UInt8) := ⟨_, rfl⟩
            have hjt : tt ≤ j := by omega
            have hkj : (kept ++ ((s ++ d).drop ln).take (min j tt) ++ List.replicate (j - tt) 0) ++ [xb] = kept ++ ((s ++ d).drop ln).take (min (j + 1) tt) ++ List.replicate (j + 1 - tt) 0 := by rw [hxb]; exact keptJ_ge hjt
            refine c_skip ?_
            refine t_n ?_
            refine r_plain ?_
            refine p1 (x_move (by conv => lhs; whnf)) ?_
            refine p1 (x_move (by conv => lhs; whnf)) ?_
            refine o_buildSlice u31 inf5 rfl (by decide) (fun base hb => fill_one (by rfl) base hb) ?_
            intro w7 g79 hN79
            have hE7 := hN79.ext
            have hX := hX.ext hE7
            have hK := hK.ext hE7
            have hB2 := hB2.ext hE7
            have hJ : Own kByte 5 0 0 w7 (some ⟨g79, 0, none⟩) 1 1 [xb] := own_lit [xb] (by rw [hxb]; exact hN79) (Nat.zero_le _) (by simp)
            have hlow := hK.low
            refine o_appendM (b := xb) u31 inf5 rfl rfl hK (src_pure u31 hJ.sl (by decide)) (by omega) hlow ?_
            intro pz cz w8 hK hMa
            have hX := hX.mod hMa hwB
            have hB2 := hB2.mod hMa (by decide)
            rw [hkj] at hK
            skip
            refine p1 (x_assign (by conv => lhs; whnf)) ?_
            refine r_nil ?_
            refine b_n ?_
            refine t_n ?_
            refine r_plain ?_
            refine p1 (x_move (by conv => lhs; whnf)) ?_
            refine p1 (x_add rfl rfl (fits_i64 (by omega) (by omega))) ?_
            refine p1 (x_assign (by conv => lhs; whnf)) ?_
            refine r_nil ?_
            first
              | exact t_n (At.mk ((j + 1, ln2 + 1, ln + j + 1, pz, cz)) (by repeat (first | exact Agr.refl _ _ | exact Agr.hav _ _ _ | refine Agr.upd rfl ?_ | refine Agr.updR rfl ?_ | refine Agr.updL ?_ _ rfl | refine Agr.hav' rfl ?_)) ⟨rfl, rfl, rfl, trivial⟩ ⟨⟨hX, ⟨hK, hB2, ⟨by omega, by omega⟩, by rw [if_pos (by omega)]; omega⟩⟩, by first | (dsimp only; omega) | ((show _ < _); omega)⟩)
              | exact t_n (At.mk ((j + 1, ln2 + 1, mj, pz, cz)) (by repeat (first | exact Agr.refl _ _ | exact Agr.hav _ _ _ | refine Agr.upd rfl ?_ | refine Agr.updR rfl ?_ | refine Agr.updL ?_ _ rfl | refine Agr.hav' rfl ?_)) ⟨rfl, rfl, rfl, trivial⟩ ⟨⟨hX, ⟨hK, hB2, ⟨by omega, by omega⟩, by rw [hmj, show min (j + 1) tt = min j tt from by omega]⟩⟩, by first | (dsimp only; omega) | ((show _ < _); omega)⟩)
        · try simp only [decide_eq_true_eq, decide_eq_false_iff_not, Bool.not_eq_true, Bool.not_eq_false, Bool.not_eq_eq_eq_not, Bool.not_true, Bool.not_false, Int.not_lt, Int.not_le] at hc61
          have hje : j = E - ln := by omega
          have hkk : (kept ++ ((s ++ d).drop ln).take (min j tt) ++ List.replicate (j - tt) 0) = kept ++ ((s ++ d).drop ln).take tt ++ List.replicate (E - (ln + tt)) 0 := by rw [hje, show min (E - ln) tt = tt from by omega, show E - ln - tt = E - (ln + tt) from by omega]
          rw [hkk] at hK
          have hmj2 : mj = (if 0 < tt then ln + tt else m) := by rw [hmj, hje, show min (E - ln) tt = tt from by omega]
          have hlE : ln2 = E := by omega
          have hmE : mj ≤ ln2 := by rw [hmj2]; split <;> omega
          refine c_exit ?_
          refine t_e ?_
          refine t_e ?_
          refine b_hit ?_
          refine t_n ?_
          refine r_plain ?_
          refine p1 (x_move (by conv => lhs; whnf)) ?_
          refine p1 (x_move (by conv => lhs; whnf)) ?_
          refine p1 ((x_add rfl rfl (fits_i64 (by omega) (by omega))).cast (congrArg (Value.int .i64) (by omega : _ = ((i + (E - ln) : Nat) : Int)))) ?_
          refine p1 (x_assign (by conv => lhs; whnf)) ?_
          refine r_nil ?_
          refine b_n ?_
          refine t_n (At.mk ((fu2, i + (E - ln), ln2, mj, kept ++ ((s ++ d).drop ln).take tt ++ List.replicate (E - (ln + tt)) 0, q2, ck2, u + 1)) (by repeat (first | exact Agr.refl _ _ | exact Agr.hav _ _ _ | refine Agr.upd rfl ?_ | refine Agr.updR rfl ?_ | refine Agr.updL ?_ _ rfl | refine Agr.hav' rfl ?_)) ⟨rfl, rfl, rfl, rfl, trivial⟩ ?_)
          exact ⟨⟨hX, ⟨hK, hB2, ⟨by omega, by omega, hmE, by omega⟩, by omega, by rw [hlE, hmj2, ← hpe2]; exact hpe⟩⟩, by show d.length - (i + (E - ln)) < d.length - i; omega⟩
      · try simp only [decide_eq_true_eq, decide_eq_false_iff_not, Bool.not_eq_true, Bool.not_eq_false, Bool.not_eq_eq_eq_not, Bool.not_true, Bool.not_false, Int.not_lt, Int.not_le] at hc55
        have hpt : tt = (st.getD u 0).toNat % (E - ln + 1) := hPT _ (by rw [hdr, hE]; exact if_neg (fun e => hc55 (by rw [e]; rfl)))
        refine c_skip ?_
        refine t_n ?_
        refine c_seq ?_
        refine r_plain ?_
        refine p1 (x_move (by conv => lhs; whnf)) ?_
        refine p1 (x_add rfl rfl (fits_i64 (by omega) (by omega))) ?_
        refine p1 (x_assign (by conv => lhs; whnf)) ?_
        refine r_nil ?_
        refine t_n ?_
        refine c_seq ?_
        refine c_seq ?_
        refine r_plain ?_
        refine p1 (x_assign (by conv => lhs; whnf)) ?_
        refine r_nil ?_
        refine t_n ?_
        refine c_block ?_
        refine c_loop (ι := Nat × Nat × Nat × Option Addr × Nat) [6, 7, 13, 14, 59, 60, 61, 62, 63, 64, 65, 66, 67, 68, 69, 70, 71, 72, 73, 74, 75, 76, 77, 78, 79, 80] (fun (j, ln2, mj, q2, ck2) => [(6, .slice q2 ln2 ck2), (7, .int .i64 (mj : Int)), (13, .int .i64 (j : Int))]) (fun (j, ln2, mj, q2, ck2) w' => Ext w w' ∧ (FBm B0 w' q2 ln2 ck2 (kept ++ ((s ++ d).drop ln).take (min j tt) ++ List.replicate (j - tt) 0) ∧ Blk w' g2 #[.string k, .string (toStr s), .string (toStr d)] 81 ∧ (ln2 = ln + j ∧ j ≤ E - ln) ∧ mj = (if 0 < min j tt then ln + min j tt else m))) (fun (j, ln2, mj, q2, ck2) => E - ln - j) ((0, ln, m, q, ck)) ⟨rfl, rfl, rfl, trivial⟩ ⟨hX, ⟨by simpa using hK, hB2, ⟨rfl, Nat.zero_le _⟩, by rw [if_neg (by omega)]⟩⟩ ?_
        rintro ⟨j, ln2, mj, q2, ck2⟩ GL2 w9 ⟨hE9, hK, hB2, ⟨hln2, hj⟩, hmj⟩
        have hX := hE9
        refine c_seq ?_
        refine c_seq ?_
        refine r_plain ?_
        refine p1 (x_move (by conv => lhs; whnf)) ?_
        refine p1 (x_move (by conv => lhs; whnf)) ?_
        refine p1 (x_lss rfl rfl) ?_
        refine r_nil ?_
        refine t_n ?_
        first | refine c_dec rfl (fun hc61 => ?_) (fun hc61 => ?_) | refine c_if rfl (fun hc61 => ?_) (fun hc61 => ?_)
        · try simp only [decide_eq_true_eq, decide_eq_false_iff_not, Bool.not_eq_true, Bool.not_eq_false, Bool.not_eq_eq_eq_not, Bool.not_true, Bool.not_false, Int.not_lt, Int.not_le] at hc61
          refine c_skip ?_
          refine t_n ?_
          refine c_seq ?_
          refine c_block ?_
          refine c_seq ?_
          refine r_plain ?_
          refine p1 (x_assign (by conv => lhs; whnf)) ?_
          refine r_nil ?_
          refine t_n ?_
          refine c_seq ?_
          refine c_seq ?_
          refine r_plain ?_
          refine p1 (x_move (by conv => lhs; whnf)) ?_
          refine p1 (x_move (by conv => lhs; whnf)) ?_
          refine p1 (x_lss rfl rfl) ?_
          refine r_nil ?_
          refine t_n ?_
          first | refine c_dec rfl (fun hc66 => ?_) (fun hc66 => ?_) | refine c_if rfl (fun hc66 => ?_) (fun hc66 => ?_)
          · try simp only [decide_eq_true_eq, decide_eq_false_iff_not, Bool.not_eq_true, Bool.not_eq_false, Bool.not_eq_eq_eq_not, Bool.not_true, Bool.not_false, Int.not_lt, Int.not_le] at hc66
            obtain ⟨xb, hxb⟩ : ∃ x, x = btAt (toStr d) ((i : Int) + (j : Int)).toNat := ⟨_, rfl⟩
            have hxd : xb = ((s ++ d).drop ln).getD j 0 := by rw [hxb, btAt_toStr, drop_getD hln, show ((i : Int) + (j : Int)).toNat = i + j from by omega]
            have hjt : j < tt := by omega
            have hkj := keptJ_lt (kept := kept) (D := (s ++ d).drop ln) hjt (by rw [List.length_drop]; omega)
            rw [← hxd] at hkj
            refine c_seq ?_
            refine r_plain ?_
            refine p1 (x_fieldAddr fo81_2 sz9 rfl) ?_
            refine p1 (x_load1 un9 rfl (hB2.cell (rfl))) ?_
            refine p1 (x_move (by conv => lhs; whnf)) ?_
            refine p1 (x_move (by conv => lhs; whnf)) ?_
            refine p1 (x_add rfl rfl (fits_i64 (by omega) (by omega))) ?_
            refine p1 (x_ixstr u9 rfl rfl (by omega) (by omega)) ?_
            refine p1 (x_assign (by conv => lhs; whnf)) ?_
            refine r_nil ?_
            refine t_n ?_
            refine r_plain ?_
            refine p1 (x_move (by conv => lhs; whnf)) ?_
            refine p1 (x_move (by conv => lhs; whnf)) ?_
            refine p1 (x_add rfl rfl (fits_i64 (by omega) (by omega))) ?_
            refine p1 ((x_add rfl rfl (fits_i64 (by omega) (by omega))).cast (congrArg (Value.int .i64) (by omega : _ = ((ln + j + 1 : Nat) : Int)))) ?_
            refine p1 (x_assign (by conv => lhs; whnf)) ?_
            refine r_nil ?_
            refine t_n ?_
            refine r_plain ?_
            refine p1 (x_move (by conv => lhs; whnf)) ?_
            refine p1 (x_move (by conv => lhs; whnf)) ?_
            refine o_buildSlice u31 inf5 rfl (by decide) (fun base hb => fill_one (by rfl) base hb) ?_
            intro w10 g79 hN79
            have hE10 := hN79.ext
            have hX := hX.ext hE10
            have hK := hK.ext hE10
            have hB2 := hB2.ext hE10
            have hJ : Own kByte 5 0 0 w10 (some ⟨g79, 0, none⟩) 1 1 [xb] := own_lit [xb] (by rw [hxb]; exact hN79) (Nat.zero_le _) (by simp)
            have hlow := hK.low
            refine o_appendM (b := xb) u31 inf5 rfl rfl hK (src_pure u31 hJ.sl (by decide)) (by omega) hlow ?_
            intro pz cz w11 hK hMa
            have hX := hX.mod hMa hwB
            have hB2 := hB2.mod hMa (by decide)
            rw [hkj] at hK
            skip
            refine p1 (x_assign (by conv => lhs; whnf)) ?_
            refine r_nil ?_
            refine b_n ?_
            refine t_n ?_
            refine r_plain ?_
            refine p1 (x_move (by conv => lhs; whnf)) ?_
            refine p1 (x_add rfl rfl (fits_i64 (by omega) (by omega))) ?_
            refine p1 (x_assign (by conv => lhs; whnf)) ?_
            refine r_nil ?_
            first
              | exact t_n (At.mk ((j + 1, ln2 + 1, ln + j + 1, pz, cz)) (by repeat (first | exact Agr.refl _ _ | exact Agr.hav _ _ _ | refine Agr.upd rfl ?_ | refine Agr.updR rfl ?_ | refine Agr.updL ?_ _ rfl | refine Agr.hav' rfl ?_)) ⟨rfl, rfl, rfl, trivial⟩ ⟨⟨hX, ⟨hK, hB2, ⟨by omega, by omega⟩, by rw [if_pos (by omega)]; omega⟩⟩, by first | (dsimp only; omega) | ((show _ < _); omega)⟩)
              | exact t_n (At.mk ((j + 1, ln2 + 1, mj, pz, cz)) (by repeat (first | exact Agr.refl _ _ | exact Agr.hav _ _ _ | refine Agr.upd rfl ?_ | refine Agr.updR rfl ?_ | refine Agr.updL ?_ _ rfl | refine Agr.hav' rfl ?_)) ⟨rfl, rfl, rfl, trivial⟩ ⟨⟨hX, ⟨hK, hB2, ⟨by omega, by omega⟩, by rw [hmj, show min (j + 1) tt = min j tt from by omega]⟩⟩, by first | (dsimp only; omega) | ((show _ < _); omega)⟩)
          · try simp only [decide_eq_true_eq, decide_eq_false_iff_not, Bool.not_eq_true, Bool.not_eq_false, Bool.not_eq_eq_eq_not, Bool.not_true, Bool.not_false, Int.not_lt, Int.not_le] at hc66
            obtain ⟨xb, hxb⟩ : ∃ x, x = (0 : UInt8) := ⟨_, rfl⟩
            have hjt : tt ≤ j := by omega
            have hkj : (kept ++ ((s ++ d).drop ln).take (min j tt) ++ List.replicate (j - tt) 0) ++ [xb] = kept ++ ((s ++ d).drop ln).take (min (j + 1) tt) ++ List.replicate (j + 1 - tt) 0 := by rw [hxb]; exact keptJ_ge hjt
            refine c_skip ?_
            refine t_n ?_
            refine r_plain ?_
            refine p1 (x_move (by conv => lhs; whnf)) ?_
            refine p1 (x_move (by conv => lhs; whnf)) ?_
            refine o_buildSlice u31 inf5 rfl (by decide) (fun base hb => fill_one (by rfl) base hb) ?_
            intro w12 g79 hN79
            have hE12 := hN79.ext
            have hX := hX.ext hE12
            have hK := hK.ext hE12
            have hB2 := hB2.ext hE12
            have hJ : Own kByte 5 0 0 w12 (some ⟨g79, 0, none⟩) 1 1 [xb] := own_lit [xb] (by rw [hxb]; exact hN79) (Nat.zero_le _) (by simp)
            have hlow := hK.low
            refine o_appendM (b := xb) u31 inf5 rfl rfl hK (src_pure u31 hJ.sl (by decide)) (by omega) hlow ?_
            intro pz cz w13 hK hMa
            have hX := hX.mod hMa hwB
            have hB2 := hB2.mod hMa (by decide)
            rw [hkj] at hK
            skip
            refine p1 (x_assign (by conv => lhs; whnf)) ?_
            refine r_nil ?_
            refine b_n ?_
            refine t_n ?_
            refine r_plain ?_
            refine p1 (x_move (by conv => lhs; whnf)) ?_
            refine p1 (x_add rfl rfl (fits_i64 (by omega) (by omega))) ?_
            refine p1 (x_assign (by conv => lhs; whnf)) ?_
            refine r_nil ?_
            first
              | exact t_n (At.mk ((j + 1, ln2 + 1, ln + j + 1, pz, cz)) (by repeat (first | exact Agr.refl _ _ | exact Agr.hav _ _ _ | refine Agr.upd rfl ?_ | refine Agr.updR rfl ?_ | refine Agr.updL ?_ _ rfl | refine Agr.hav' rfl ?_)) ⟨rfl, rfl, rfl, trivial⟩ ⟨⟨hX, ⟨hK, hB2, ⟨by omega, by omega⟩, by rw [if_pos (by omega)]; omega⟩⟩, by first | (dsimp only; omega) | ((show _ < _); omega)⟩)
              | exact t_n (At.mk ((j + 1, ln2 + 1, mj, pz, cz)) (by repeat (first | exact Agr.refl _ _ | exact Agr.hav _ _ _ | refine Agr.upd rfl ?_ | refine Agr.updR rfl ?_ | refine Agr.updL ?_ _ rfl | refine Agr.hav' rfl ?_)) ⟨rfl, rfl, rfl, trivial⟩ ⟨⟨hX, ⟨hK, hB2, ⟨by omega, by omega⟩, by rw [hmj, show min (j + 1) tt = min j tt from by omega]⟩⟩, by first | (dsimp only; omega) | ((show _ < _); omega)⟩)
        · try simp only [decide_eq_true_eq, decide_eq_false_iff_not, Bool.not_eq_true, Bool.not_eq_false, Bool.not_eq_eq_eq_not, Bool.not_true, Bool.not_false, Int.not_lt, Int.not_le] at hc61
          have hje : j = E - ln := by omega
          have hkk : (kept ++ ((s ++ d).drop ln).take (min j tt) ++ List.replicate (j - tt) 0) = kept ++ ((s ++ d).drop ln).take tt ++ List.replicate (E - (ln + tt)) 0 := by rw [hje, show min (E - ln) tt = tt from by omega, show E - ln - tt = E - (ln + tt) from by omega]
          rw [hkk] at hK
          have hmj2 : mj = (if 0 < tt then ln + tt else m) := by rw [hmj, hje, show min (E - ln) tt = tt from by omega]
          have hlE : ln2 = E := by omega
          have hmE : mj ≤ ln2 := by rw [hmj2]; split <;> omega
          refine c_exit ?_
          refine t_e ?_
          refine t_e ?_
          refine b_hit ?_
          refine t_n ?_
          refine r_plain ?_
          refine p1 (x_move (by conv => lhs; whnf)) ?_
          refine p1 (x_move (by conv => lhs; whnf)) ?_
          refine p1 ((x_add rfl rfl (fits_i64 (by omega) (by omega))).cast (congrArg (Value.int .i64) (by omega : _ = ((i + (E - ln) : Nat) : Int)))) ?_
          refine p1 (x_assign (by conv => lhs; whnf)) ?_
          refine r_nil ?_
          refine b_n ?_
          refine t_n (At.mk ((fu2, i + (E - ln), ln2, mj, kept ++ ((s ++ d).drop ln).take tt ++ List.replicate (E - (ln + tt)) 0, q2, ck2, u + 1)) (by repeat (first | exact Agr.refl _ _ | exact Agr.hav _ _ _ | refine Agr.upd rfl ?_ | refine Agr.updR rfl ?_ | refine Agr.updL ?_ _ rfl | refine Agr.hav' rfl ?_)) ⟨rfl, rfl, rfl, rfl, trivial⟩ ?_)
          exact ⟨⟨hX, ⟨hK, hB2, ⟨by omega, by omega, hmE, by omega⟩, by omega, by rw [hlE, hmj2, ← hpe2]; exact hpe⟩⟩, by show d.length - (i + (E - ln)) < d.length - i; omega⟩
    · try simp only [decide_eq_true_eq, decide_eq_false_iff_not, Bool.not_eq_true, Bool.not_eq_false, Bool.not_eq_eq_eq_not, Bool.not_true, Bool.not_false, Int.not_lt, Int.not_le] at hc42
      have hd0 : st.drop u = [] := List.drop_eq_nil_of_le (by omega)
      have hpt : tt = 0 := hPT _ (by rw [hd0]; rfl)
      refine c_skip ?_
      refine t_n ?_
      refine c_seq ?_
      refine r_plain ?_
      refine p1 (x_move (by conv => lhs; whnf)) ?_
      refine p1 (x_add rfl rfl (fits_i64 (by omega) (by omega))) ?_
      refine p1 (x_assign (by conv => lhs; whnf)) ?_
      refine r_nil ?_
      refine t_n ?_
      refine c_seq ?_
      refine c_seq ?_
      refine r_plain ?_
      refine p1 (x_assign (by conv => lhs; whnf)) ?_
      refine r_nil ?_
      refine t_n ?_
      refine c_block ?_
      refine c_loop (ι := Nat × Nat × Nat × Option Addr × Nat) [6, 7, 13, 14, 59, 60, 61, 62, 63, 64, 65, 66, 67, 68, 69, 70, 71, 72, 73, 74, 75, 76, 77, 78, 79, 80] (fun (j, ln2, mj, q2, ck2) => [(6, .slice q2 ln2 ck2), (7, .int .i64 (mj : Int)), (13, .int .i64 (j : Int))]) (fun (j, ln2, mj, q2, ck2) w' => Ext w w' ∧ (FBm B0 w' q2 ln2 ck2 (kept ++ ((s ++ d).drop ln).take (min j tt) ++ List.replicate (j - tt) 0) ∧ Blk w' g2 #[.string k, .string (toStr s), .string (toStr d)] 81 ∧ (ln2 = ln + j ∧ j ≤ E - ln) ∧ mj = (if 0 < min j tt then ln + min j tt else m))) (fun (j, ln2, mj, q2, ck2) => E - ln - j) ((0, ln, m, q, ck)) ⟨rfl, rfl, rfl, trivial⟩ ⟨hX, ⟨by simpa using hK, hB2, ⟨rfl, Nat.zero_le _⟩, by rw [if_neg (by omega)]⟩⟩ ?_
      rintro ⟨j, ln2, mj, q2, ck2⟩ GL2 w14 ⟨hE14, hK, hB2, ⟨hln2, hj⟩, hmj⟩
      have hX := hE14
      refine c_seq ?_
      refine c_seq ?_
      refine r_plain ?_
      refine p1 (x_move (by conv => lhs; whnf)) ?_
      refine p1 (x_move (by conv => lhs; whnf)) ?_
      refine p1 (x_lss rfl rfl) ?_
      refine r_nil ?_
      refine t_n ?_
      first | refine c_dec rfl (fun hc61 => ?_) (fun hc61 => ?_) | refine c_if rfl (fun hc61 => ?_) (fun hc61 => ?_)
      · try simp only [decide_eq_true_eq, decide_eq_false_iff_not, Bool.not_eq_true, Bool.not_eq_false, Bool.not_eq_eq_eq_not, Bool.not_true, Bool.not_false, Int.not_lt, Int.not_le] at hc61
        refine c_skip ?_
        refine t_n ?_
        refine c_seq ?_
        refine c_block ?_
        refine c_seq ?_
        refine r_plain ?_
        refine p1 (x_assign (by conv => lhs; whnf)) ?_
        refine r_nil ?_
        refine t_n ?_
        refine c_seq ?_
        refine c_seq ?_
        refine r_plain ?_
        refine p1 (x_move (by conv => lhs; whnf)) ?_
        refine p1 (x_move (by conv => lhs; whnf)) ?_
        refine p1 (x_lss rfl rfl) ?_
        refine r_nil ?_
        refine t_n ?_
        first | refine c_dec rfl (fun hc66 => ?_) (fun hc66 => ?_) | refine c_if rfl (fun hc66 => ?_) (fun hc66 => ?_)
        · try simp only [decide_eq_true_eq, decide_eq_false_iff_not, Bool.not_eq_true, Bool.not_eq_false, Bool.not_eq_eq_eq_not, Bool.not_true, Bool.not_false, Int.not_lt, Int.not_le] at hc66
          obtain ⟨xb, hxb⟩ : ∃ x, x = btAt (toStr d) ((i : Int) + (j : Int)).toNat := ⟨_, rfl⟩
          have hxd : xb = ((s ++ d).drop ln).getD j 0 := by rw [hxb, btAt_toStr, drop_getD hln, show ((i : Int) + (j : Int)).toNat = i + j from by omega]
          have hjt : j < tt := by omega
          have hkj := keptJ_lt (kept := kept) (D := (s ++ d).drop ln) hjt (by rw [List.length_drop]; omega)
          rw [← hxd] at hkj
          refine c_seq ?_
          refine r_plain ?_
          refine p1 (x_fieldAddr fo81_2 sz9 rfl) ?_
          refine p1 (x_load1 un9 rfl (hB2.cell (rfl))) ?_
          refine p1 (x_move (by conv => lhs; whnf)) ?_
          refine p1 (x_move (by conv => lhs; whnf)) ?_
          refine p1 (x_add rfl rfl (fits_i64 (by omega) (by omega))) ?_
          refine p1 (x_ixstr u9 rfl rfl (by omega) (by omega)) ?_
          refine p1 (x_assign (by conv => lhs; whnf)) ?_
          refine r_nil ?_
          refine t_n ?_
          refine r_plain ?_
          refine p1 (x_move (by conv => lhs; whnf)) ?_
          refine p1 (x_move (by conv => lhs; whnf)) ?_
          refine p1 (x_add rfl rfl (fits_i64 (by omega) (by omega))) ?_
          refine p1 ((x_add rfl rfl (fits_i64 (by omega) (by omega))).cast (congrArg (Value.int .i64) (by omega : _ = ((ln + j + 1 : Nat) : Int)))) ?_
          refine p1 (x_assign (by conv => lhs; whnf)) ?_
          refine r_nil ?_
          refine t_n ?_
          refine r_plain ?_
          refine p1 (x_move (by conv => lhs; whnf)) ?_
          refine p1 (x_move (by conv => lhs; whnf)) ?_
          refine o_buildSlice u31 inf5 rfl (by decide) (fun base hb => fill_one (by rfl) base hb) ?_
          intro w15 g79 hN79
          have hE15 := hN79.ext
          have hX := hX.ext hE15
          have hK := hK.ext hE15
          have hB2 := hB2.ext hE15
          have hJ : Own kByte 5 0 0 w15 (some ⟨g79, 0, none⟩) 1 1 [xb] := own_lit [xb] (by rw [hxb]; exact hN79) (Nat.zero_le _) (by simp)
          have hlow := hK.low
          refine o_appendM (b := xb) u31 inf5 rfl rfl hK (src_pure u31 hJ.sl (by decide)) (by omega) hlow ?_
          intro pz cz w16 hK hMa
          have hX := hX.mod hMa hwB
          have hB2 := hB2.mod hMa (by decide)
          rw [hkj] at hK
          skip
          refine p1 (x_assign (by conv => lhs; whnf)) ?_
          refine r_nil ?_
          refine b_n ?_
          refine t_n ?_
          refine r_plain ?_
          refine p1 (x_move (by conv => lhs; whnf)) ?_
          refine p1 (x_add rfl rfl (fits_i64 (by omega) (by omega))) ?_
          refine p1 (x_assign (by conv => lhs; whnf)) ?_
          refine r_nil ?_
          first
            | exact t_n (At.mk ((j + 1, ln2 + 1, ln + j + 1, pz, cz)) (by repeat (first | exact Agr.refl _ _ | exact Agr.hav _ _ _ | refine Agr.upd rfl ?_ | refine Agr.updR rfl ?_ | refine Agr.updL ?_ _ rfl | refine Agr.hav' rfl ?_)) ⟨rfl, rfl, rfl, trivial⟩ ⟨⟨hX, ⟨hK, hB2, ⟨by omega, by omega⟩, by rw [if_pos (by omega)]; omega⟩⟩, by first | (dsimp only; omega) | ((show _ < _); omega)⟩)
            | exact t_n (At.mk ((j + 1, ln2 + 1, mj, pz, cz)) (by repeat (first | exact Agr.refl _ _ | exact Agr.hav _ _ _ | refine Agr.upd rfl ?_ | refine Agr.updR rfl ?_ | refine Agr.updL ?_ _ rfl | refine Agr.hav' rfl ?_)) ⟨rfl, rfl, rfl, trivial⟩ ⟨⟨hX, ⟨hK, hB2, ⟨by omega, by omega⟩, by rw [hmj, show min (j + 1) tt = min j tt from by omega]⟩⟩, by first | (dsimp only; omega) | ((show _ < _); omega)⟩)
        · try simp only [decide_eq_true_eq, decide_eq_false_iff_not, Bool.not_eq_true, Bool.not_eq_false, Bool.not_eq_eq_eq_not, Bool.not_true, Bool.not_false, Int.not_lt, Int.not_le] at hc66
          obtain ⟨xb, hxb⟩ : ∃ x, x = (0 : UInt8) := ⟨_, rfl⟩
          have hjt : tt ≤ j := by omega
          have hkj : (kept ++ ((s ++ d).drop ln).take (min j tt) ++ List.replicate (j - tt) 0) ++ [xb] = kept ++ ((s ++ d).drop ln).take (min (j + 1) tt) ++ List.replicate (j + 1 - tt) 0 := by rw [hxb]; exact keptJ_ge hjt
          refine c_skip ?_
          refine t_n ?_
          refine r_plain ?_
          refine p1 (x_move (by conv => lhs; whnf)) ?_
          refine p1 (x_move (by conv => lhs; whnf)) ?_
          refine o_buildSlice u31 inf5 rfl (by decide) (fun base hb => fill_one (by rfl) base hb) ?_
          intro w17 g79 hN79
          have hE17 := hN79.ext
          have hX := hX.ext hE17
          have hK := hK.ext hE17
          have hB2 := hB2.ext hE17
          have hJ : Own kByte 5 0 0 w17 (some ⟨g79, 0, none⟩) 1 1 [xb] := own_lit [xb] (by rw [hxb]; exact hN79) (Nat.zero_le _) (by simp)
          have hlow := hK.low
          refine o_appendM (b := xb) u31 inf5 rfl rfl hK (src_pure u31 hJ.sl (by decide)) (by omega) hlow ?_
          intro pz cz w18 hK hMa
          have hX := hX.mod hMa hwB
          have hB2 := hB2.mod hMa (by decide)
          rw [hkj] at hK
          skip
          refine p1 (x_assign (by conv => lhs; whnf)) ?_
          refine r_nil ?_
          refine b_n ?_
          refine t_n ?_
          refine r_plain ?_
          refine p1 (x_move (by conv => lhs; whnf)) ?_
          refine p1 (x_add rfl rfl (fits_i64 (by omega) (by omega))) ?_
          refine p1 (x_assign (by conv => lhs; whnf)) ?_
          refine r_nil ?_
          first
            | exact t_n (At.mk ((j + 1, ln2 + 1, ln + j + 1, pz, cz)) (by repeat (first | exact Agr.refl _ _ | exact Agr.hav _ _ _ | refine Agr.upd rfl ?_ | refine Agr.updR rfl ?_ | refine Agr.updL ?_ _ rfl | refine Agr.hav' rfl ?_)) ⟨rfl, rfl, rfl, trivial⟩ ⟨⟨hX, ⟨hK, hB2, ⟨by omega, by omega⟩, by rw [if_pos (by omega)]; omega⟩⟩, by first | (dsimp only; omega) | ((show _ < _); omega)⟩)
            | exact t_n (At.mk ((j + 1, ln2 + 1, mj, pz, cz)) (by repeat (first | exact Agr.refl _ _ | exact Agr.hav _ _ _ | refine Agr.upd rfl ?_ | refine Agr.updR rfl ?_ | refine Agr.updL ?_ _ rfl | refine Agr.hav' rfl ?_)) ⟨rfl, rfl, rfl, trivial⟩ ⟨⟨hX, ⟨hK, hB2, ⟨by omega, by omega⟩, by rw [hmj, show min (j + 1) tt = min j tt from by omega]⟩⟩, by first | (dsimp only; omega) | ((show _ < _); omega)⟩)
      · try simp only [decide_eq_true_eq, decide_eq_false_iff_not, Bool.not_eq_true, Bool.not_eq_false, Bool.not_eq_eq_eq_not, Bool.not_true, Bool.not_false, Int.not_lt, Int.not_le] at hc61
        have hje : j = E - ln := by omega
        have hkk : (kept ++ ((s ++ d).drop ln).take (min j tt) ++ List.replicate (j - tt) 0) = kept ++ ((s ++ d).drop ln).take tt ++ List.replicate (E - (ln + tt)) 0 := by rw [hje, show min (E - ln) tt = tt from by omega, show E - ln - tt = E - (ln + tt) from by omega]
        rw [hkk] at hK
        have hmj2 : mj = (if 0 < tt then ln + tt else m) := by rw [hmj, hje, show min (E - ln) tt = tt from by omega]
        have hlE : ln2 = E := by omega
        have hmE : mj ≤ ln2 := by rw [hmj2]; split <;> omega
        refine c_exit ?_
        refine t_e ?_
        refine t_e ?_
        refine b_hit ?_
        refine t_n ?_
        refine r_plain ?_
        refine p1 (x_move (by conv => lhs; whnf)) ?_
        refine p1 (x_move (by conv => lhs; whnf)) ?_
        refine p1 ((x_add rfl rfl (fits_i64 (by omega) (by omega))).cast (congrArg (Value.int .i64) (by omega : _ = ((i + (E - ln) : Nat) : Int)))) ?_
        refine p1 (x_assign (by conv => lhs; whnf)) ?_
        refine r_nil ?_
        refine b_n ?_
        refine t_n (At.mk ((fu2, i + (E - ln), ln2, mj, kept ++ ((s ++ d).drop ln).take tt ++ List.replicate (E - (ln + tt)) 0, q2, ck2, u + 1)) (by repeat (first | exact Agr.refl _ _ | exact Agr.hav _ _ _ | refine Agr.upd rfl ?_ | refine Agr.updR rfl ?_ | refine Agr.updL ?_ _ rfl | refine Agr.hav' rfl ?_)) ⟨rfl, rfl, rfl, rfl, trivial⟩ ?_)
        exact ⟨⟨hX, ⟨hK, hB2, ⟨by omega, by omega, hmE, by omega⟩, by omega, by rw [hlE, hmj2, ← hpe2]; exact hpe⟩⟩, by show d.length - (i + (E - ln)) < d.length - i; omega⟩
  · try simp only [decide_eq_true_eq, decide_eq_false_iff_not, Bool.not_eq_true, Bool.not_eq_false, Bool.not_eq_eq_eq_not, Bool.not_true, Bool.not_false, Int.not_lt, Int.not_le] at hc24
    have hnl : ¬ ln < (s ++ d).length := by omega
    rw [pieces_end hnl] at hpe
    have hkl := hK.len
    have hkc := hK.cap
    have hw1 : wakeF (s ++ d, s.length) st = (kept.take m, m) := by unfold wakeF; rw [← hpe]
    have hw2 : (wakeR (s ++ d, s.length) st).2.2 = st.drop u := by rw [← hpe]
    refine c_exit ?_
    refine t_e ?_
    refine t_e ?_
    refine b_hit ?_
    refine t_n ?_
    refine c_seq ?_
    refine r_plain ?_
    refine p1 (x_move (by conv => lhs; whnf)) ?_
    refine p1 (x_move (by conv => lhs; whnf)) ?_
    refine p1 (x_slice_hN u31 sz5 rfl rfl (by omega)) ?_
    refine p1 (x_bytes_str u31 u5 u9 rfl (hK.sl.take m (by omega))) ?_
    refine p1 (x_move (by conv => lhs; whnf)) ?_
    refine p1 (x_assign (by conv => lhs; whnf)) ?_
    refine p1 (x_assign (by conv => lhs; whnf)) ?_
    refine r_nil ?_
    refine t_n ?_
    refine c_ret ?_
    refine end2 rfl (by conv => lhs; whnf) (by conv => lhs; whnf) ?_
    exact ⟨⟨u, by rw [hw1], hw2.symm⟩, hX⟩
end Go.Proofs.Eng
end
section
set_option linter.unusedVariables false
set_option linter.unusedSimpArgs false
set_option maxRecDepth 100000
set_option maxHeartbeats 4000000
namespace Go.Proofs.Eng
open Go.RowKit
open Extern.Stop (cell)
theorem fb55 : Try.f55.body.isNone = false := by kernel_rfl
theorem fn55 : (Try.f55.name == "runtime.NumGoroutine") = false := by kernel_rfl
end Go.Proofs.Eng
end
section
set_option linter.unusedVariables false
set_option linter.unusedSimpArgs false
set_option maxRecDepth 100000
set_option maxHeartbeats 4000000
namespace Go.Proofs.Eng
open Go.RowKit
open Extern.Stop (cell)
theorem ref_stays2 (x : Fl) (hx : x.2.2 ≤ x.2.1.length) (hu : x.2.1.length ≤ 16777216) (st : List UInt8) (e B : Nat) (p : Option Addr) (n c : Nat) (w : World) (hS : Sl kByte e B w p n c st) :
    Ret Try.prog 55 [.agg #[.string x.1, .string (toStr (x.2.1.take x.2.2)), .string (toStr (x.2.1.drop x.2.2))], .slice p n c] w (fun v w' => (∃ u : Nat, v = .tuple #[.string (toStr (wakeF x.2 st).1), .int .i64 (u : Int)] ∧ st.drop u = (wakeR x.2 st).2.2) ∧ Ext w w') := by
  have h := ref_stays x.1 (x.2.1.take x.2.2) (x.2.1.drop x.2.2) st e B p n c w hS (by rw [List.length_take, List.length_drop]; omega)
  have hTK : (x.2.1.take x.2.2 ++ x.2.1.drop x.2.2, (x.2.1.take x.2.2).length) = x.2 := by rw [List.take_append_drop, List.length_take, Nat.min_eq_left hx]
  rw [hTK] at h
  exact h
theorem ref_Start (D : DS) (p : Option Addr) (n c : Nat) (lf : Int) (w : World) (hl : Sl kFl 81 0 w p n c D.l) (hlf : LfOk D lf) (hok : DOk D) (hst : D.steps < 4611686018427387904) (st : List UInt8) (e B : Nat) (ps : Option Addr) (ns cs : Nat) (hS : Sl kByte e B w ps ns cs st) :
    Ret Try.prog 33 [.agg #[.int .i64 (D.most : Int), .slice p n c, .int .i64 (D.steps : Int), .bool (decide (0 ≤ D.left)), .int .i64 lf, .bool D.done, .bool D.down], .slice ps ns cs] w (fun v w' => (∃ cs, v = .agg cs ∧ RefV w' cs (startD D st)) ∧ Ext w w') := by
  have hX := Ext.refl w
  refine enter 49 _ Try.func33 rfl rfl (Nat.le_of_ble_eq_true rfl) rfl ?_
  refine c_seq ?_
  refine r_plain ?_
  have hXs2 := hX.size
  refine o_boxA (by conv => lhs; whnf) ?_
  intro w1 g2 hN2
  have hE1 := hN2.ext
  have hX := hX.ext hE1
  have hB2 := hN2.blk
  have hXs4 := hX.size
  have hlt2 := hB2.lt
  have hlen := hl.len
  have hcap := hl.cap
  have hfew := hok.few
  have hroom := hok.room
  have hmost := hok.most
  have hW1 := Nat.le_refl w.heap.size
  refine o_alloc zr27 ?_
  intro w2 g4 hN4
  have hE2 := hN4.ext
  have hX := hX.ext hE2
  have hB2 := hB2.ext hE2
  have hB4 := hN4.blk
  refine r_nil ?_
  refine t_n ?_
  refine c_seq ?_
  refine r_plain ?_
  refine p1 (x_assign (by conv => lhs; whnf)) ?_
  refine r_nil ?_
  refine t_n ?_
  refine c_seq ?_
  refine c_seq ?_
  refine r_plain ?_
  refine p1 (x_assign (by conv => lhs; whnf)) ?_
  refine r_nil ?_
  refine t_n ?_
  refine c_block ?_
  have hg4 := hN4.g_eq
  have hO : ∀ wz, Own kFl 81 0 w.heap.size wz none 0 0 [] := fun wz => Own.nil _ _ _ _ _
  refine c_loop (ι := Nat × Option Addr × Nat × Option Addr × Nat × Nat) [1, 5, 6, 7, 8, 9, 10, 11, 12, 13, 14, 15, 16, 17, 18, 19, 20, 21, 22, 23, 24, 25, 26, 27, 28, 29, 30, 31, 32, 33, 34, 35, 36, 37, 38, 39, 40, 41, 42] (fun (i, q, ck, ps, ns, cs) => [(1, .slice ps ns cs), (5, .slice q i ck), (6, .int .i64 (i : Int))]) (fun (i, q, ck, ps, ns, cs) w' => Ext w w' ∧ (Own kFl 81 0 w.heap.size w' q i ck (wakeL (D.l.take i) st).1 ∧ Blk w' g2 #[.int .i64 (D.most : Int), .slice p n c, .int .i64 (D.steps : Int), .bool (decide (0 ≤ D.left)), .int .i64 lf, .bool D.done, .bool D.down] 27 ∧ Blk w' g4 #[.int .i64 0, .slice none 0 0, .int .i64 0, .bool false, .int .i64 0, .bool false, .bool false] 27 ∧ i ≤ n ∧ Sl kByte e B w ps ns cs (wakeL (D.l.take i) st).2)) (fun (i, q, ck, ps, ns, cs) => n - i) ((0, none, 0, ps, ns, cs)) ⟨rfl, rfl, rfl, trivial⟩ ⟨hX, ⟨hO _, hB2, hB4, Nat.zero_le _, hS⟩⟩ ?_
  rintro ⟨i, q, ck, ps, ns, cs⟩ GL0 w3 ⟨hE3, hO, hB2, hB4, hi, hS⟩
  have hX := hE3
  have hsl := hS.len
  have hsc := hS.cap
  have hsf := hS.fit
  obtain ⟨stc, hstc⟩ : ∃ z, z = (wakeL (D.l.take i) st).2 := ⟨_, rfl⟩
  rw [← hstc] at hS hsl
  refine c_seq ?_
  refine c_seq ?_
  refine r_plain ?_
  refine p1 (x_move (by conv => lhs; whnf)) ?_
  refine p1 (x_fieldAddr fo27_1 sz25 rfl) ?_
  refine p1 (x_load1 un25 rfl (hB2.cell (rfl))) ?_
  refine p1 (x_len_slice u25 rfl) ?_
  refine p1 (x_lss rfl rfl) ?_
  refine r_nil ?_
  refine t_n ?_
  first | refine c_dec rfl (fun hc13 => ?_) (fun hc13 => ?_) | refine c_if rfl (fun hc13 => ?_) (fun hc13 => ?_)
  · try simp only [decide_eq_true_eq, decide_eq_false_iff_not, Bool.not_eq_true, Bool.not_eq_false, Bool.not_eq_eq_eq_not, Bool.not_true, Bool.not_false, Int.not_lt, Int.not_le] at hc13
    refine c_skip ?_
    refine t_n ?_
    refine c_seq ?_
    refine c_block ?_
    refine c_seq ?_
    refine r_plain ?_
    refine p1 (x_fieldAddr fo27_1 sz25 rfl) ?_
    refine p1 (x_load1 un25 rfl (hB2.cell (rfl))) ?_
    refine p1 (x_move (by conv => lhs; whnf)) ?_
    obtain ⟨xf, hx⟩ : ∃ x, D.l.getD i default = x := ⟨_, rfl⟩
    have hil : i < D.l.length := by omega
    have hxm : xf ∈ D.l := by rw [← hx, List.getD_eq_getElem?_getD, List.getElem?_eq_getElem hil]; exact List.getElem_mem _
    have hsafe := hok.safe xf hxm
    have hxu : xf.2.1.length ≤ usedL D.l := by have := getF_le hok xf.1; have e := asc_of_memA hok.rise hxm; unfold getF ascF at this; rw [e] at this; exact this.1
    obtain ⟨hw1, hw2⟩ := wake_snoc hil st
    rw [hx, ← hstc] at hw1 hw2
    have hfr : ∀ wz, Ext w wz → wz.rangeAt (ab p) (ao p + i * 3) [.string xf.1, .string (toStr (xf.2.1.take xf.2.2)), .string (toStr (xf.2.1.drop xf.2.2))] := fun wz hz => by have := (hl.ext hz).flRange i (by omega); rw [hx] at this; exact this
    refine p1 (x_ixs u25 sz81 rfl rfl ((hl.ext hX).adr kFl_pos (by omega)) (by omega) (by omega)) ?_
    refine p1 (x_loadN ua81 rfl (by exact sz81) (hfr _ hX)) ?_
    refine p1 (x_move (by conv => lhs; whnf)) ?_
    refine o_call Try.func55 fn55 fb55 (ref_stays2 xf hsafe (by omega) stc e B ps ns cs _ (hS.ext hX)) rfl ?_
    rintro v4 w4 ⟨⟨u, rfl, hud⟩, hE4⟩
    have hX := hX.ext hE4
    have hO := hO.ext hE4
    have hB2 := hB2.ext hE4
    have hB4 := hB4.ext hE4
    refine p1 (x_move (by conv => lhs; whnf)) ?_
    refine p1 (x_extract rfl rfl) ?_
    refine p1 (x_extract rfl rfl) ?_
    refine p1 (x_assign (by conv => lhs; whnf)) ?_
    refine p1 (x_assign (by conv => lhs; whnf)) ?_
    refine r_nil ?_
    refine t_n ?_
    refine c_seq ?_
    refine r_plain ?_
    refine p1 (x_move (by conv => lhs; whnf)) ?_
    refine p1 (x_move (by conv => lhs; whnf)) ?_
    refine p1 (x_move (by conv => lhs; whnf)) ?_
    refine p1 (x_len_slice u31 rfl) ?_
    refine p1 ((x_min rfl rfl).cast (congrArg (Value.int .i64) (by split <;> omega : _ = ((min u ns : Nat) : Int)))) ?_
    have hdu : stc.drop (min u ns) = stc.drop u := by by_cases h : u ≤ ns; (· rw [Nat.min_eq_left h]); (· rw [Nat.min_eq_right (by omega), List.drop_eq_nil_of_le (by omega), List.drop_eq_nil_of_le (by omega)])
    have hS2 := hS.dropI (min u ns) (by omega)
    rw [hdu, hud, ← hw2] at hS2
    refine p1 (x_slice_lN u31 sz5 rfl rfl (by omega)) ?_
    refine p1 (x_assign (by conv => lhs; whnf)) ?_
    refine r_nil ?_
    refine t_n ?_
    refine r_plain ?_
    refine p1 (x_move (by conv => lhs; whnf)) ?_
    refine p1 (x_fieldAddr fo27_1 sz25 rfl) ?_
    refine p1 (x_load1 un25 rfl (hB2.cell (rfl))) ?_
    refine p1 (x_move (by conv => lhs; whnf)) ?_
    refine p1 (x_ixs u25 sz81 rfl rfl ((hl.ext hX).adr kFl_pos (by omega)) (by omega) (by omega)) ?_
    refine p1 (x_fieldAddr fo81_0 sz9 rfl) ?_
    refine p1 (x_load1 un9 rfl (hfr _ hX 0 _ rfl)) ?_
    refine p1 (x_move (by conv => lhs; whnf)) ?_
    refine p1 (x_buildF3 pl81 rfl rfl rfl) ?_
    refine o_buildSlice u25 inf81 rfl (by decide) (fun base hb => fill_kn [.agg #[.string xf.1, .string (toStr (wakeF xf.2 stc).1), .string (toStr [])]] (by intro v hv'; simp only [List.mem_singleton] at hv'; subst hv'; rfl) base hb) ?_
    intro w5 g41 hN41
    have hE5 := hN41.ext
    have hX := hX.ext hE5
    have hO := hO.ext hE5
    have hB2 := hB2.ext hE5
    have hB4 := hB4.ext hE5
    have hJ : Own kFl 81 0 0 w5 (some ⟨g41, 0, none⟩) 1 1 [(xf.1, wakeF xf.2 stc)] := own_lit [(xf.1, wakeF xf.2 stc)] (by have h41 : New _ _ g41 #[Value.string xf.1, Value.string (toStr (wakeF xf.2 stc).1), Value.string (toStr [])] 81 := hN41; simpa [enc_wake hsafe stc] using h41) (Nat.zero_le _) (by simp)
    have hq10 := hX.size
    refine o_append (d := kFl) ([(xf.1, wakeF xf.2 stc)]) u25 inf81 rfl kFl_pos rfl rfl hO (src_pure u25 hJ.sl (by decide)) rfl (pure_all _ _ _) (rfl) (by omega) (by omega) (by omega) (by omega) (by decide) ?_
    intro p42 c42 w6 hO hM6
    have hX := hX.mod hM6 (Nat.le_refl _)
    have hB2 := hB2.mod hM6 (by decide)
    have hB4 := hB4.mod hM6 (by decide)
    refine p1 (x_assign (by conv => lhs; whnf)) ?_
    refine r_nil ?_
    refine b_n ?_
    refine t_n ?_
    refine r_plain ?_
    refine p1 (x_move (by conv => lhs; whnf)) ?_
    refine p1 (x_add rfl rfl (fits_i64 (by omega) (by omega))) ?_
    refine p1 (x_assign (by conv => lhs; whnf)) ?_
    refine r_nil ?_
    refine t_n (At.mk ((i + 1, p42, c42, adw ps cs (min u ns) 1, ns - min u ns, cs - min u ns)) (by repeat (first | exact Agr.refl _ _ | exact Agr.hav _ _ _ | refine Agr.upd rfl ?_ | refine Agr.updR rfl ?_ | refine Agr.updL ?_ _ rfl | refine Agr.hav' rfl ?_)) ⟨rfl, rfl, rfl, trivial⟩ ?_)
    exact ⟨⟨hX, ⟨by rw [hw1]; exact hO, hB2, hB4, by omega, hS2⟩⟩, by show n - (i + 1) < n - i; omega⟩
  · try simp only [decide_eq_true_eq, decide_eq_false_iff_not, Bool.not_eq_true, Bool.not_eq_false, Bool.not_eq_eq_eq_not, Bool.not_true, Bool.not_false, Int.not_lt, Int.not_le] at hc13
    have hin : i = n := by omega
    have htt : D.l.take i = D.l := List.take_of_length_le (by omega)
    rw [htt] at hO
    refine c_exit ?_
    refine t_e ?_
    refine t_e ?_
    refine b_hit ?_
    refine t_n ?_
    refine c_seq ?_
    refine r_plain ?_
    refine p1 (x_fieldAddr fo27_0 sz3 rfl) ?_
    refine p1 (x_load1 un3 rfl (hB2.cell (rfl))) ?_
    refine p1 (x_move (by conv => lhs; whnf)) ?_
    refine p1 (x_fieldAddr fo27_2 sz3 rfl) ?_
    refine p1 (x_load1 un3 rfl (hB2.cell (rfl))) ?_
    refine p1 (x_buildR3 pl27 rfl rfl rfl) ?_
    refine o_storeAll rfl (by conv => lhs; whnf) (by simp [Value.oneCell']) (by exact sz27) hB4 (by rfl) ?_
    intro w7 hP7
    have hX := hX.put hP7 (by rw [hN4.g_eq]; exact hXs4)
    have hO := hO.mod (hP7.mod 0 (Nat.zero_le _)) (Nat.zero_le _) (by decide)
    have hB2 := hP7.keep hB2 (by omega)
    have hB4 := hP7.blk
    refine r_nil ?_
    refine t_n ?_
    refine c_ret ?_
    refine end1c rfl ua27 rfl hB4 (by exact sz27) ?_
    exact ⟨⟨_, rfl, q, i, ck, 0, rfl, hO.sl, ⟨fun h => by have h : (0 : Int) ≤ -1 := h; omega, by omega, by omega⟩⟩, hX⟩
end Go.Proofs.Eng
end
section
set_option linter.unusedVariables false
set_option linter.unusedSimpArgs false
namespace Go.Proofs.Eng
open Go.RowKit
open Extern.Stop (cell)
/-! ### rows of the call's own that are written behind a turn -/
theorem Lo.modS {S : Nat → Prop} {E : List TypeId} {B n c : Nat} {w w' : World} {p : Option Addr} {xs : List UInt8} (h : Lo B w p n c xs) (m : ModS S E w w') (hS : ∀ j, S j → B ≤ j) : Lo B w' p n c xs :=
  ⟨h.len, h.cap, h.fit, h.row.of_block fun hne => m.old _ (h.row.lt hne) (.inl fun hs => by
    have h1 := hS _ hs
    have h2 := h.low (by intro e; rw [e] at hne; exact hne rfl)
    omega), h.low⟩
theorem Dsk.modT {S : Nat → Prop} {w w' : World} {g B : Nat} {t : TypeId} {D : DS} (h : Dsk S w g D) (m : Mod B t w w') (ht : t ∉ [tDisk, tMap, 5]) : Dsk S w' g D := by
  simp only [List.mem_cons, List.not_mem_nil, or_false, not_or] at ht
  obtain ⟨r, μ, h1, h2, h3, h4, h5⟩ := h.ex
  exact ⟨r, μ, h1.mod m (fun e => ht.1 e.symm), h2.mod m (Nat.zero_le _) (by simp [vFile]; exact ht.2.1), h3, h4, h5.modT m ht.2.2⟩
theorem Dsk.oneF {F : Nat → Prop} {w w' : World} {g r : Nat} {t : TypeId} {D : DS} (h : Dsk F w g D) (m : One t r w w') (hr : ¬ F r) (ht : t ∈ ED) : Dsk F w' g D :=
  h.modS (S' := fun j => j = r) (E := ED) ((ModS.refl (fun j => j = r) ED w).one m ⟨.inl rfl, ht⟩) fun j hj e => hr (by rw [← e]; exact hj)
/-- A row of bytes, its head outside F, in a block made since w0. -/
def OwnR (F : Nat → Prop) (B0 : Nat) (w : World) (q : Option Addr) (n : Nat) : Prop := n = 0 ∨ ∃ gq cur, q = some ⟨gq, 0, none⟩ ∧ ¬ F gq ∧ B0 ≤ gq ∧ Blk w gq cur 5 ∧ n ≤ cur.size ∧ ∀ j, j < n → ∃ b : UInt8, cur[j]? = some (cell b)
theorem OwnR.of {F : Nat → Prop} {B B0 n c : Nat} {w : World} {q : Option Addr} {xs : List UInt8} (h : Own kByte 5 B B0 w q n c xs) (hF : ∀ gq, q = some ⟨gq, 0, none⟩ → ¬ F gq) : OwnR F B0 w q n := by
  rcases Nat.eq_zero_or_pos n with h0 | h0
  · exact .inl h0
  · obtain ⟨gq, cur, css, e1, h2, h3, h4, h5, h6, ha, hlf, ht⟩ := h.block h0
    have hc := all_pure ha
    subst hc
    have hz : kByte.sz = 1 := rfl
    rw [hz, Nat.mul_one] at h6 ht
    have hl := h.len
    refine .inr ⟨gq, cur, e1, hF gq e1, h2, h3, by omega, fun j hj => ⟨xs.getD j 0, ?_⟩⟩
    have e2 : (xs.map cell)[j]? = cur[j]? := by
      rw [← flat_single xs]
      have := congrArg (fun l => l[j]?) ht
      simp only [List.getElem?_take, if_pos hj, Array.getElem?_toList] at this
      exact this.symm
    rw [← e2, List.getElem?_map, List.getElem?_eq_getElem (by omega), List.getD_eq_getElem?_getD, List.getElem?_eq_getElem (by omega)]; rfl
theorem OwnR.modS {F S : Nat → Prop} {E : List TypeId} {B0 n : Nat} {w w' : World} {q : Option Addr} (h : OwnR F B0 w q n) (m : ModS S E w w') (hS : ∀ gq, q = some ⟨gq, 0, none⟩ → ¬ S gq) : OwnR F B0 w' q n := h.imp id fun ⟨gq, cur, h1, h2, h3, h4, h5⟩ => ⟨gq, cur, h1, h2, h3, h4.modS m (.inl (hS gq h1)), h5⟩
theorem wrap_inc (b : UInt8) : IntKind.u8.wrap ((b.toNat : Int) + 1) = ((b + 1).toNat : Int) := by
  have h1 : (b + 1).toNat = (b.toNat + 1) % 256 := by simp [UInt8.toNat_add]
  rw [h1]
  unfold IntKind.wrap
  simp [IntKind.bits, IntKind.signed]
section
variable {P : Program} {ops : Array Oper} {Q : Exit → Act → World → Prop} {rest : List Oper} {N : Nat} {f : Nat → Value} {w : World}
variable {ty0 : TypeId} {pos : String} {aft : Array Edge} {x y : Operand} {T : TypeId}
end
theorem OwnR.ext {F : Nat → Prop} {B0 n : Nat} {w w' : World} {q : Option Addr} (h : OwnR F B0 w q n) (x : Ext w w') : OwnR F B0 w' q n := h.imp id fun ⟨gq, cur, h1, h2, h3, h4, h5⟩ => ⟨gq, cur, h1, h2, h3, h4.ext x, h5⟩
theorem OwnR.one {F : Nat → Prop} {B0 n r : Nat} {t : TypeId} {w w' : World} {q : Option Addr} (h : OwnR F B0 w q n) (m : One t r w w') (ht : 5 ≠ t) : OwnR F B0 w' q n := h.imp id fun ⟨gq, cur, h1, h2, h3, h4, h5⟩ => ⟨gq, cur, h1, h2, h3, h4.one m ht, h5⟩
theorem own_at {B B0 n c : Nat} {w : World} {q : Option Addr} {xs : List UInt8} (h : Own kByte 5 B B0 w q n c xs) : ∀ gq, q = some ⟨gq, 0, none⟩ → B0 ≤ gq ∧ gq < w.heap.size := fun gq e => by
  rcases h.form with ⟨h1, _⟩ | ⟨g, cur, h1, h2, h3, _⟩
  · rw [h1] at e; cases e
  · rw [h1] at e; injection e with e; injection e with e; subst e; exact ⟨h2, h3.lt⟩
theorem out_own {S : Nat → Prop} {B B0 n c : Nat} {w : World} {q : Option Addr} {xs : List UInt8} (h : Own kByte 5 B B0 w q n c xs) (hS : ∀ j, S j → j < B0) : Out S w q n c xs :=
  Out.ofSl h.sl fun hne hs => by
    have hpos : 0 < n := by rw [← h.len]; exact List.length_pos_iff.2 hne
    obtain ⟨gq, cur, css, e1, h2, _⟩ := h.block hpos
    subst e1
    have h1 : gq < B0 := hS gq hs
    omega
theorem set_bytes {cur : Array Value} {n o : Nat} {b : UInt8} (hn : n ≤ cur.size) (h : ∀ j, j < n → ∃ b : UInt8, cur[j]? = some (cell b)) : ∀ j, j < n → ∃ b' : UInt8, (cur.setIfInBounds o (cell b))[j]? = some (cell b') := fun j hj => by
  rw [Array.getElem?_setIfInBounds]
  split
  · rename_i e
    subst e
    rw [if_pos (by omega)]
    exact ⟨b, rfl⟩
  · exact h j hj
end Go.Proofs.Eng
end
section
set_option linter.unusedVariables false
set_option linter.unusedSimpArgs false
set_option maxRecDepth 100000
set_option maxHeartbeats 4000000
namespace Go.Proofs.Eng
open Go.RowKit
open Extern.Stop (cell)
theorem fb33 : Try.f33.body.isNone = false := by kernel_rfl
theorem fb34 : Try.f34.body.isNone = false := by kernel_rfl
theorem fb35 : Try.f35.body.isNone = false := by kernel_rfl
theorem fb36 : Try.f36.body.isNone = false := by kernel_rfl
theorem fb37 : Try.f37.body.isNone = false := by kernel_rfl
theorem fb38 : Try.f38.body.isNone = false := by kernel_rfl
theorem fb39 : Try.f39.body.isNone = false := by kernel_rfl
theorem fb40 : Try.f40.body.isNone = false := by kernel_rfl
theorem fn33 : (Try.f33.name == "runtime.NumGoroutine") = false := by kernel_rfl
theorem fn34 : (Try.f34.name == "runtime.NumGoroutine") = false := by kernel_rfl
theorem fn35 : (Try.f35.name == "runtime.NumGoroutine") = false := by kernel_rfl
theorem fn36 : (Try.f36.name == "runtime.NumGoroutine") = false := by kernel_rfl
theorem fn37 : (Try.f37.name == "runtime.NumGoroutine") = false := by kernel_rfl
theorem fn38 : (Try.f38.name == "runtime.NumGoroutine") = false := by kernel_rfl
theorem fn39 : (Try.f39.name == "runtime.NumGoroutine") = false := by kernel_rfl
theorem fn40 : (Try.f40.name == "runtime.NumGoroutine") = false := by kernel_rfl
end Go.Proofs.Eng
end
